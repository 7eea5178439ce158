/- Xn: Go functions as plain functions, and that they are so (written by xt.py). -/
import Derived.Test.YtoimllmmlbehgaaXk
import Derived.Test.YtoimllmmlbehgaaXr
set_option linter.unusedVariables false
set_option linter.unusedSimpArgs false
namespace Go.Proofs.Ytoimllmmlbehgaa
open Go.RowKit
def xts_Sector_Tweak_nil0 (Fu : Nat) (a1 : Int) (a2 : Int) : Option ((List UInt8) × Int) :=
  (xts_Sector_is_nil0 Fu).bind fun x2 => some ((List.replicate 16 ((0 : UInt8) : UInt8)), 1)
set_option maxRecDepth 100000 in
set_option maxHeartbeats 2000000 in
theorem xts_Sector_Tweak_nil0_ok (Fu : Nat) {S0 : Snap} (a1 : Int) (hra1 : r64 a1) (a2 : Int) (hra2 : r64 a2) (r : (List UInt8) × Int) (hf : xts_Sector_Tweak_nil0 Fu a1 a2 = some r) (w0 : World) (hm : Mem w0 (ownL ([] ++ [.sn S0])) ([] ++ [.sn S0]) w0) :
    Calls Try.prog 33 #[.pointer none, .int .i64 a1, .int .i64 a2] w0 (Ret w0 S0 [] (fun v L1 S1 => ∃ (k5 : List Value), v = .tuple #[.agg k5.toArray, .int .i64 r.2] ∧ L1 = [] ∧ (tyA 16 ty8).rep S1 k5 r.1 ∧ r64 r.2 ∧ True)) := by
  unfold xts_Sector_Tweak_nil0 at hf
  refine c_enterM Try.func33 rfl 31 rfl (by simp) _ hm _ rfl (fun a h => ?_)
  refine c_rs ?_ -- region 0
  refine s_alloc h rfl rfl rfl (by decide) zi_A16_uint8 rfl (fun a w g1 h => ?_)
  have h := h.parts (L' := [.box g1 23 (List.replicate 16 (.int .u8 0)), .sn S0]) rfl
  refine s_assign h rfl _ rfl rfl (by decide) rfl (fun a h => ?_)
  refine l_end ?_
  refine wp_seq ?_
  refine wp_block ?_
  refine c_rs ?_ -- region 1
  refine s_move h rfl _ rfl rfl (by decide) rfl (fun a h => ?_)
  obtain ⟨x2, h3, hf⟩ := bsome hf
  have hX := xts_Sector_is_nil0_ok Fu (S0 := snapAll _)  _ h3 _ h.startAll
  refine q_callX hX h rfl rfl rfl (by decide) Try.func63 rfl rfl rfl (fun a w v L1 S1 hR hb1 h => ?_)
  obtain ⟨rfl, rfl, _⟩ := hR
  obtain rfl : x2 = false := by unfold xts_Sector_is_nil0 at h3; exact (Option.some.inj h3).symm
  refine s_x h rfl rfl (by decide) (x_not h.k rfl rfl) (fun a h => ?_)
  refine s_assign h rfl _ rfl rfl (by decide) rfl (fun a h => ?_)
  refine l_end ?_
  refine c_cond h rfl (fun hb => ?_) (fun hb => ?_)
  · refine c_rs ?_ -- region 2
    refine s_x h rfl rfl (by decide) (x_build h.k rfl [] rfl (List.replicate 16 (.int .u8 0)) (by kernel_rfl)) (fun a h => ?_)
    refine s_stW h rfl rfl rfl ag_A16_uint8 rfl (es := (List.replicate 16 (.int .u8 0))) rfl (by first | rfl | simp_all) ((show reps ty8 S0 (List.replicate 16 (.int .u8 0)) (List.replicate 16 ((0 : UInt8) : UInt8)) from repsRep1 (x := ((0 : UInt8) : UInt8)) rfl)).one 0 rfl (by first | rfl | simp_all) (fun a w h => ?_)
    refine s_assign h rfl _ rfl rfl (by decide) rfl (fun a h => ?_)
    refine l_end ?_
    refine wp_ret ?_
    refine e_blkR ?_
    refine e_thenR ?_
    obtain rfl := Option.some.inj hf
    exact r_ret2 h rfl (rv_cellA h rfl 0 rfl ag_A16_uint8 (by first | rfl | simp_all)) (rv_tmp h rfl) ⟨_, [], _, rfl, ⟨(List.replicate 16 (.int .u8 0)), rfl, rfl, ⟨(show reps ty8 S0 (List.replicate 16 (.int .u8 0)) (List.replicate 16 ((0 : UInt8) : UInt8)) from repsRep1 (x := ((0 : UInt8) : UInt8)) rfl), (show (List.replicate 16 ((0 : UInt8) : UInt8)).length = 16 from List.length_replicate)⟩, (show r64 1 from ⟨by decide, by decide⟩), trivial⟩, rfl, (Up.refl _ _ _), (h.m.pick [1] _ (by decide) rfl)⟩
  · exact absurd hb (by decide)
def chatelainelaw10_XtsTweaks (Fu : Nat) (a0 : List UInt8) (a1 : Int) (a2 : Int) : Option Bool :=
  (chatelainelaw10_awake Fu).bind fun x1 => if (!x1) = true then (some false) else ((chatelainelaw10_right Fu a0).bind fun x4 => if (!x4) = true then (some true) else ((xts_New Fu a0).bind fun x7 => (match x7 with | .inl x13 => (if x13 ≠ 0 then (some false) else ((xts_Sector_Tweak_nil0 Fu a1 a2).bind fun x15 => if ((((decide (a1 < 0)) || (decide (4611686018427387904 < a1))) || (decide (a2 < 0))) || (decide (255 < a2))) = true then (some ((decide (x15.2 = 2)) && (decide (x15.1 = (List.replicate 16 ((0 : UInt8) : UInt8)))))) else ((if x15.2 = 0 then (chatelaineref10_Tweak Fu a0 a1 a2).bind fun x35 => some (decide (x15.1 = x35)) else some false).bind fun z33 => some z33))) | .inr x43 => (if x43.2 ≠ 0 then (some false) else ((xts_Sector_Tweak Fu x43.1 a1 a2).bind fun x47 => if ((((decide (a1 < 0)) || (decide (4611686018427387904 < a1))) || (decide (a2 < 0))) || (decide (255 < a2))) = true then (some ((decide (x47.2 = 2)) && (decide (x47.1 = (List.replicate 16 ((0 : UInt8) : UInt8)))))) else ((if x47.2 = 0 then (chatelaineref10_Tweak Fu a0 a1 a2).bind fun x67 => some (decide (x47.1 = x67)) else some false).bind fun z65 => some z65))))))
set_option maxRecDepth 100000 in
set_option maxHeartbeats 2000000 in
theorem chatelainelaw10_XtsTweaks_ok (Fu : Nat) {S0 : Snap} (Aa0 : Option Addr) (ca0 : Nat) (a0 : List UInt8) (hsa0 : slS ty8 S0 Aa0 ca0 a0) (a1 : Int) (hra1 : r64 a1) (a2 : Int) (hra2 : r64 a2) (r : Bool) (hf : chatelainelaw10_XtsTweaks Fu a0 a1 a2 = some r) (w0 : World) (hm : Mem w0 (ownL ([] ++ [.sn S0])) ([] ++ [.sn S0]) w0) :
    Calls Try.prog 10 #[.slice Aa0 a0.length ca0, .int .i64 a1, .int .i64 a2] w0 (Ret w0 S0 [] (fun v L1 S1 => v = .bool r ∧ L1 = [] ∧ True)) := by
  unfold chatelainelaw10_XtsTweaks at hf
  refine c_enterM Try.func10 rfl 61 rfl (by simp) _ hm _ rfl (fun a h => ?_)
  refine c_rs ?_ -- region 0
  refine s_assign h rfl _ rfl rfl (by decide) rfl (fun a h => ?_)
  refine l_end ?_
  refine wp_seq ?_
  refine c_rs ?_ -- region 1
  obtain ⟨x1, h2, hf⟩ := bsome hf
  have hX := chatelainelaw10_awake_ok Fu (S0 := snapAll _)  _ h2 _ h.startAll
  refine q_callX hX h rfl rfl rfl (by decide) Try.func28 rfl rfl rfl (fun a w v L1 S1 hR hb1 h => ?_)
  obtain ⟨rfl, rfl, _⟩ := hR
  refine s_x h rfl rfl (by decide) (x_not h.k rfl rfl) (fun a h => ?_)
  refine l_end ?_
  refine c_cond h rfl (fun hb => ?_) (fun hb => ?_)
  · rw [if_pos hb] at hf
    refine c_rs ?_ -- region 2
    refine s_assign h rfl _ rfl rfl (by decide) rfl (fun a h => ?_)
    refine l_end ?_
    refine wp_ret ?_
    refine e_thenR ?_
    rw [← Option.some.inj hf]
    exact r_ret1 h rfl (rv_tmp h rfl) ⟨_, [], _, rfl, ⟨rfl, rfl, trivial⟩, rfl, (Up.refl _ _ _), h.m⟩
  · rw [if_neg (by rw [hb]; decide)] at hf
    refine wp_skip ?_
    refine e_thenN ?_
    refine wp_seq ?_
    refine c_rs ?_ -- region 3
    refine s_move h rfl _ rfl rfl (by decide) rfl (fun a h => ?_)
    obtain ⟨x4, h5, hf⟩ := bsome hf
    have hX := chatelainelaw10_right_ok Fu (S0 := snapAll _) Aa0 ca0 a0 (hsa0.mono (h.m.leAll (i := 0) rfl)) _ h5 _ h.startAll
    refine q_callX hX h rfl rfl rfl (by decide) Try.func32 rfl rfl rfl (fun a w v L1 S1 hR hb1 h => ?_)
    obtain ⟨rfl, rfl, _⟩ := hR
    refine s_x h rfl rfl (by decide) (x_not h.k rfl rfl) (fun a h => ?_)
    refine l_end ?_
    refine c_cond h rfl (fun hb => ?_) (fun hb => ?_)
    · rw [if_pos hb] at hf
      refine c_rs ?_ -- region 4
      refine s_assign h rfl _ rfl rfl (by decide) rfl (fun a h => ?_)
      refine l_end ?_
      refine wp_ret ?_
      refine e_thenR ?_
      rw [← Option.some.inj hf]
      exact r_ret1 h rfl (rv_tmp h rfl) ⟨_, [], _, rfl, ⟨rfl, rfl, trivial⟩, rfl, (Up.refl _ _ _), h.m⟩
    · rw [if_neg (by rw [hb]; decide)] at hf
      refine wp_skip ?_
      refine e_thenN ?_
      refine c_rs ?_ -- region 5
      refine s_move h rfl _ rfl rfl (by decide) rfl (fun a h => ?_)
      obtain ⟨x7, h8, hf⟩ := bsome hf
      have hX := xts_New_ok Fu (S0 := S0) Aa0 ca0 a0 hsa0 _ h8 _ (h.sub (Ls := []))
      refine q_callY (Ls := []) hX h (Up.refl _ _ _) rfl rfl rfl (by decide) Try.func29 rfl rfl rfl (fun a w v L1 S10 hR le12 up11 h => ?_)
      rcases hR with hR | hR
      · obtain ⟨x13, rfl, hR⟩ := hR
        dsimp only at hf
        obtain ⟨rfl, rfl, hr14, _⟩ := hR
        refine s_move h rfl _ rfl rfl (by decide) rfl (fun a h => ?_)
        refine s_x h rfl rfl (by decide) (x_ext h.k rfl rfl rfl) (fun a h => ?_)
        refine s_x h rfl rfl (by decide) (x_ext h.k rfl rfl rfl) (fun a h => ?_)
        refine s_assign h rfl _ rfl rfl (by decide) rfl (fun a h => ?_)
        refine s_assign h rfl _ rfl rfl (by decide) rfl (fun a h => ?_)
        refine l_end ?_
        refine wp_seq ?_
        refine c_rs ?_ -- region 6
        refine s_move h rfl _ rfl rfl (by decide) rfl (fun a h => ?_)
        refine s_x h rfl rfl (by decide) (x_bin h.k rfl rfl rfl ib_neq) (fun a h => ?_)
        refine l_end ?_
        refine c_cond h rfl (fun hb => ?_) (fun hb => ?_)
        · rw [if_pos (of_decide_eq_true hb)] at hf
          refine c_rs ?_ -- region 7
          refine s_assign h rfl _ rfl rfl (by decide) rfl (fun a h => ?_)
          refine l_end ?_
          refine wp_ret ?_
          refine e_thenR ?_
          rw [← Option.some.inj hf]
          exact r_ret1 h rfl (rv_tmp h rfl) ⟨_, [], _, rfl, ⟨rfl, rfl, trivial⟩, rfl, up11, h.m⟩
        · rw [if_neg (of_decide_eq_false hb)] at hf
          refine wp_skip ?_
          refine e_thenN ?_
          refine c_rs ?_ -- region 8
          refine s_move h rfl _ rfl rfl (by decide) rfl (fun a h => ?_)
          refine s_move h rfl _ rfl rfl (by decide) rfl (fun a h => ?_)
          refine s_move h rfl _ rfl rfl (by decide) rfl (fun a h => ?_)
          obtain ⟨x15, h16, hf⟩ := bsome hf
          have hX := xts_Sector_Tweak_nil0_ok Fu (S0 := snapAll _) a1 hra1 a2 hra2 _ h16 _ h.startAll
          refine q_callX hX h rfl rfl rfl (by decide) Try.func33 rfl rfl rfl (fun a w v L1 S1 hR hb1 h => ?_)
          obtain ⟨k18, rfl, rfl, hv19, hr22, _⟩ := hR
          obtain ⟨hs20, hl21⟩ := hv19
          have hq23 := hs20.fl (S' := S10) fl_8
          refine s_move h rfl _ rfl rfl (by decide) rfl (fun a h => ?_)
          refine s_x h rfl rfl (by decide) (x_ext h.k rfl rfl rfl) (fun a h => ?_)
          refine s_x h rfl rfl (by decide) (x_ext h.k rfl rfl rfl) (fun a h => ?_)
          refine s_alloc h rfl rfl rfl (by decide) zi_A16_uint8 rfl (fun a w g24 h => ?_)
          have h := h.parts (L' := [.box g24 23 (List.replicate 16 (.int .u8 0)), .sn S10]) rfl
          refine s_stW h rfl rfl rfl ag_A16_uint8 rfl (es := k18) rfl ((hq23).len.trans (by rw [hl21]; rfl)) (hq23).one 0 rfl (by first | rfl | simp_all) (fun a w h => ?_)
          refine s_assign h rfl _ rfl rfl (by decide) rfl (fun a h => ?_)
          refine l_end ?_
          refine wp_seq ?_
          refine c_rs ?_ -- region 9
          refine s_move h rfl _ rfl rfl (by decide) rfl (fun a h => ?_)
          refine s_x h rfl rfl (by decide) (x_bin h.k rfl rfl rfl ib_lss) (fun a h => ?_)
          refine s_move h rfl _ rfl rfl (by decide) rfl (fun a h => ?_)
          refine q_grp h 3 (t := 32) 35 ((decide (a1 < 0)) || (decide (4611686018427387904 < a1))) rfl (fun hB2 => ?_) (fun hB2 => ?_) (fun a w h => ?_)
          · refine g_no h rfl rfl rfl rfl hB2 rfl (by decide) (fun a h => ?_)
            refine g_no h rfl rfl rfl rfl hB2 rfl (by decide) (fun a h => ?_)
            refine s_x h rfl rfl (by decide) (x_pick (u' := undef) h.k rfl rfl (fun _ => rfl) (fun hh => absurd (hB2.symm.trans hh) (by decide))) (fun a h => ?_)
            exact (h.mid 2 rfl).val (by first | rfl | (rw [hB2]; first | rfl | simp))
          · refine g_yes h rfl rfl rfl rfl hB2 ?_
            refine s_move h rfl _ rfl rfl (by decide) rfl (fun a h => ?_)
            refine g_yes h rfl rfl rfl rfl hB2 ?_
            refine s_x h rfl rfl (by decide) (x_bin h.k rfl rfl rfl ib_gtr) (fun a h => ?_)
            refine s_x h rfl rfl (by decide) (x_pick (u' := undef) h.k rfl rfl (fun hh => absurd (hB2.symm.trans hh) (by decide)) (fun _ => rfl)) (fun a h => ?_)
            exact (h.mid 2 rfl).val (by first | rfl | (rw [hB2]; first | rfl | simp))
          refine s_move h rfl _ rfl rfl (by decide) rfl (fun a h => ?_)
          refine q_grp h 3 (t := 36) 39 (((decide (a1 < 0)) || (decide (4611686018427387904 < a1))) || (decide (a2 < 0))) rfl (fun hB6 => ?_) (fun hB6 => ?_) (fun a w h => ?_)
          · refine g_no h rfl rfl rfl rfl hB6 rfl (by decide) (fun a h => ?_)
            refine g_no h rfl rfl rfl rfl hB6 rfl (by decide) (fun a h => ?_)
            refine s_x h rfl rfl (by decide) (x_pick (u' := undef) h.k rfl rfl (fun _ => rfl) (fun hh => absurd (hB6.symm.trans hh) (by decide))) (fun a h => ?_)
            exact (h.mid 2 rfl).val (by first | rfl | (rw [hB6]; first | rfl | simp))
          · refine g_yes h rfl rfl rfl rfl hB6 ?_
            refine s_move h rfl _ rfl rfl (by decide) rfl (fun a h => ?_)
            refine g_yes h rfl rfl rfl rfl hB6 ?_
            refine s_x h rfl rfl (by decide) (x_bin h.k rfl rfl rfl ib_lss) (fun a h => ?_)
            refine s_x h rfl rfl (by decide) (x_pick (u' := undef) h.k rfl rfl (fun hh => absurd (hB6.symm.trans hh) (by decide)) (fun _ => rfl)) (fun a h => ?_)
            exact (h.mid 2 rfl).val (by first | rfl | (rw [hB6]; first | rfl | simp))
          refine s_move h rfl _ rfl rfl (by decide) rfl (fun a h => ?_)
          refine q_grp h 3 (t := 40) 43 ((((decide (a1 < 0)) || (decide (4611686018427387904 < a1))) || (decide (a2 < 0))) || (decide (255 < a2))) rfl (fun hB10 => ?_) (fun hB10 => ?_) (fun a w h => ?_)
          · refine g_no h rfl rfl rfl rfl hB10 rfl (by decide) (fun a h => ?_)
            refine g_no h rfl rfl rfl rfl hB10 rfl (by decide) (fun a h => ?_)
            refine s_x h rfl rfl (by decide) (x_pick (u' := undef) h.k rfl rfl (fun _ => rfl) (fun hh => absurd (hB10.symm.trans hh) (by decide))) (fun a h => ?_)
            exact (h.mid 2 rfl).val (by first | rfl | (rw [hB10]; first | rfl | simp))
          · refine g_yes h rfl rfl rfl rfl hB10 ?_
            refine s_move h rfl _ rfl rfl (by decide) rfl (fun a h => ?_)
            refine g_yes h rfl rfl rfl rfl hB10 ?_
            refine s_x h rfl rfl (by decide) (x_bin h.k rfl rfl rfl ib_gtr) (fun a h => ?_)
            refine s_x h rfl rfl (by decide) (x_pick (u' := undef) h.k rfl rfl (fun hh => absurd (hB10.symm.trans hh) (by decide)) (fun _ => rfl)) (fun a h => ?_)
            exact (h.mid 2 rfl).val (by first | rfl | (rw [hB10]; first | rfl | simp))
          refine l_end ?_
          refine c_cond h rfl (fun hb => ?_) (fun hb => ?_)
          · rw [if_pos hb] at hf
            refine c_rs ?_ -- region 10
            refine s_move h rfl _ rfl rfl (by decide) rfl (fun a h => ?_)
            refine s_x h rfl rfl (by decide) (x_bin h.k rfl rfl rfl ib_eql) (fun a h => ?_)
            refine s_move h rfl _ rfl rfl (by decide) rfl (fun a h => ?_)
            refine q_grp h 4 (t := 46) 50 ((decide (x15.2 = 2)) && (decide (x15.1 = (List.replicate 16 ((0 : UInt8) : UInt8))))) rfl (fun hB2 => ?_) (fun hB2 => ?_) (fun a w h => ?_)
            · refine g_yes h rfl rfl rfl rfl hB2 ?_
              refine s_x h rfl rfl (by decide) (x_ldR h.k rfl ag_A16_uint8 rfl k18 ((hq23).len.trans (by rw [hl21]; rfl)) (h.m.range0 (i := 0) rfl)) (fun a h => ?_)
              refine g_yes h rfl rfl rfl rfl hB2 ?_
              refine s_x h rfl rfl (by decide) (x_build h.k rfl [] rfl (List.replicate 16 (.int .u8 0)) (by kernel_rfl)) (fun a h => ?_)
              refine g_yes h rfl rfl rfl rfl hB2 ?_
              refine s_x h rfl rfl (by decide) (x_eqlA8 (X := k18) (Y := (List.replicate 16 (.int .u8 0))) h.k rfl Try.underlying23 Try.underlying5 sz_uint8 gda_A16_uint8 rfl rfl hq23 (show reps ty8 S10 (List.replicate 16 (.int .u8 0)) (List.replicate 16 ((0 : UInt8) : UInt8)) from repsRep1 (x := ((0 : UInt8) : UInt8)) rfl) hl21 (show (List.replicate 16 ((0 : UInt8) : UInt8)).length = 16 from List.length_replicate)) (fun a h => ?_)
              refine s_x h rfl rfl (by decide) (x_pick (u' := undef) h.k rfl rfl (fun _ => rfl) (fun hh => absurd (hB2.symm.trans hh) (by decide))) (fun a h => ?_)
              exact (h.mid 3 rfl).val (by first | rfl | (rw [hB2]; first | rfl | simp))
            · refine g_no h rfl rfl rfl rfl hB2 rfl (by decide) (fun a h => ?_)
              refine g_no h rfl rfl rfl rfl hB2 rfl (by decide) (fun a h => ?_)
              refine g_no h rfl rfl rfl rfl hB2 rfl (by decide) (fun a h => ?_)
              refine s_x h rfl rfl (by decide) (x_pick (u' := undef) h.k rfl rfl (fun hh => absurd (hB2.symm.trans hh) (by decide)) (fun _ => rfl)) (fun a h => ?_)
              exact (h.mid 3 rfl).val (by first | rfl | (rw [hB2]; first | rfl | simp))
            refine s_assign h rfl _ rfl rfl (by decide) rfl (fun a h => ?_)
            refine l_end ?_
            refine wp_ret ?_
            refine e_thenR ?_
            obtain rfl := Option.some.inj hf
            exact r_ret1 h rfl (rv_tmp h rfl) ⟨_, [], _, rfl, ⟨rfl, rfl, trivial⟩, rfl, up11, (h.m.pick [1] _ (by decide) rfl)⟩
          · rw [if_neg (by rw [hb]; decide)] at hf
            refine wp_skip ?_
            refine e_thenN ?_
            refine wp_seq ?_
            -- region 11 draws
            obtain ⟨z33, hz34, hf⟩ := bsome hf
            refine c_fin (fun a w => St 61 w0 (ownL ([] ++ [.sn S0])) [(6, .bool z33)] [.sn S10] a w) ?_ (fun a w h => ?_)
            · refine d_start h (Mem _ _ _) 11 11 rfl (by kernel_rfl) (fun _ _ _ _ _ h => h) (fun _ h => h) (fun Q a w HE HN h HS => ?_)
              refine d_takeP h (fun _ => HS) HN 0 rfl (by kernel_rfl) (by kernel_rfl) (by kernel_rfl) (by decide) rfl rfl (by decide) (fun w' => x_move h.k _ rfl rfl) (fun a h => ?_)
              refine d_takeP h (fun _ => HS) HN 1 rfl (by kernel_rfl) (by kernel_rfl) (by kernel_rfl) (by decide) rfl rfl (by decide) (fun w' => x_bin h.k rfl rfl rfl ib_eql) (fun a h => ?_)
              refine d_takeP h (fun _ => HS) HN 2 rfl (by kernel_rfl) (by kernel_rfl) (by kernel_rfl) (by decide) rfl rfl (by decide) (fun w' => x_move h.k _ rfl rfl) (fun a h => ?_)
              refine d_split (t := 53) h rfl (fun hB2 => ?_) (fun hB2 => ?_)
              · rw [if_pos (of_decide_eq_true hB2)] at hz34
                obtain ⟨x35, h36, hz34⟩ := bsome hz34
                refine d_takeY h HS HN 3 rfl (by kernel_rfl) (by kernel_rfl) (by kernel_rfl) (by kernel_rfl) (by kernel_rfl) (by rw [g_want h rfl rfl rfl rfl hB2]; rfl) rfl (by decide) (fun w' hw => x_ldR h.k rfl ag_A16_uint8 rfl k18 ((hq23).len.trans (by rw [hl21]; rfl)) (hw.range0 (i := 0) rfl)) (fun a h => ?_)
                refine d_takeP h (fun _ => HS) HN 4 rfl (by kernel_rfl) (by kernel_rfl) (by kernel_rfl) (by decide) (by rw [g_want h rfl rfl rfl rfl hB2]; rfl) rfl (by decide) (fun w' => x_move h.k _ rfl rfl) (fun a h => ?_)
                refine d_takeP h (fun _ => HS) HN 5 rfl (by kernel_rfl) (by kernel_rfl) (by kernel_rfl) (by decide) (by rw [g_want h rfl rfl rfl rfl hB2]; rfl) rfl (by decide) (fun w' => x_move h.k _ rfl rfl) (fun a h => ?_)
                refine d_takeP h (fun _ => HS) HN 6 rfl (by kernel_rfl) (by kernel_rfl) (by kernel_rfl) (by decide) (by rw [g_want h rfl rfl rfl rfl hB2]; rfl) rfl (by decide) (fun w' => x_move h.k _ rfl rfl) (fun a h => ?_)
                refine d_alone 7 rfl (by kernel_rfl) (fun K hK => ?_)
                refine g_yes (j := 2) (t := 53) h rfl rfl rfl rfl hB2 ?_
                have hX := chatelaineref10_Tweak_ok Fu (S0 := snapAll _) Aa0 ca0 a0 ((hsa0.mono le12).mono (h.m.leAll (i := 1) rfl)) a1 hra1 a2 hra2 _ h36 _ h.startAll
                refine q_callX hX h rfl rfl rfl (by decide) Try.func34 rfl rfl rfl (fun a w v L1 S1 hR hb1 h => ?_)
                obtain ⟨k38, rfl, rfl, hv39, _⟩ := hR
                obtain ⟨hs40, hl41⟩ := hv39
                have hq42 := hs40.fl (S' := S10) fl_8
                refine hK _ _ (fun _ _ => HS.ext hb1) ?_
                replace HS := HS.ext hb1
                clear hK
                refine d_takeP h (fun _ => HS) HN 8 rfl (by kernel_rfl) (by kernel_rfl) (by kernel_rfl) (by decide) (by rw [g_want h rfl rfl rfl rfl hB2]; rfl) rfl (by decide) (fun w' => x_eqlA8 (X := k18) (Y := k38) h.k rfl Try.underlying23 Try.underlying5 sz_uint8 gda_A16_uint8 rfl rfl hq23 hq42 hl21 hl41) (fun a h => ?_)
                refine d_takeP h (fun _ => HS) HN 9 rfl (by kernel_rfl) (by kernel_rfl) (by kernel_rfl) (by decide) rfl rfl (by decide) (fun w' => x_pick (v := .bool z33) (u' := undef) h.k rfl rfl (fun _ => by rw [← Option.some.inj hz34]; rfl) (fun hh => absurd (hB2.symm.trans hh) (by decide))) (fun a h => ?_)
                refine d_takeP h (fun _ => HS) HN 10 rfl (by kernel_rfl) (by kernel_rfl) (by kernel_rfl) (by decide) rfl rfl (by decide) (fun w' => x_assign h.k _ rfl rfl) (fun a h => ?_)
                refine d_done (by kernel_rfl) (HE _ _ ?_) _
                refine e_thenN ?_
                have h := h.pick [1] (by decide) rfl
                exact h.has (by exact ⟨rfl, trivial⟩)
              · rw [if_neg (of_decide_eq_false hB2)] at hz34
                refine d_takeNP h (fun _ => HS) HN 3 rfl (by kernel_rfl) (by kernel_rfl) (by kernel_rfl) (by decide) (by rw [g_want h rfl rfl rfl rfl hB2]; rfl) rfl (by decide) (fun a h => ?_)
                refine d_takeNP h (fun _ => HS) HN 4 rfl (by kernel_rfl) (by kernel_rfl) (by kernel_rfl) (by decide) (by rw [g_want h rfl rfl rfl rfl hB2]; rfl) rfl (by decide) (fun a h => ?_)
                refine d_takeNP h (fun _ => HS) HN 5 rfl (by kernel_rfl) (by kernel_rfl) (by kernel_rfl) (by decide) (by rw [g_want h rfl rfl rfl rfl hB2]; rfl) rfl (by decide) (fun a h => ?_)
                refine d_takeNP h (fun _ => HS) HN 6 rfl (by kernel_rfl) (by kernel_rfl) (by kernel_rfl) (by decide) (by rw [g_want h rfl rfl rfl rfl hB2]; rfl) rfl (by decide) (fun a h => ?_)
                refine d_takeNP h (fun _ => HS) HN 7 rfl (by kernel_rfl) (by kernel_rfl) (by kernel_rfl) (by decide) (by rw [g_want h rfl rfl rfl rfl hB2]; rfl) rfl (by decide) (fun a h => ?_)
                refine d_takeNP h (fun _ => HS) HN 8 rfl (by kernel_rfl) (by kernel_rfl) (by kernel_rfl) (by decide) (by rw [g_want h rfl rfl rfl rfl hB2]; rfl) rfl (by decide) (fun a h => ?_)
                refine d_takeP h (fun _ => HS) HN 9 rfl (by kernel_rfl) (by kernel_rfl) (by kernel_rfl) (by decide) rfl rfl (by decide) (fun w' => x_pick (v := .bool z33) (u' := undef) h.k rfl rfl (fun hh => absurd (hB2.symm.trans hh) (by decide)) (fun _ => by rw [← Option.some.inj hz34]; rfl)) (fun a h => ?_)
                refine d_takeP h (fun _ => HS) HN 10 rfl (by kernel_rfl) (by kernel_rfl) (by kernel_rfl) (by decide) rfl rfl (by decide) (fun w' => x_assign h.k _ rfl rfl) (fun a h => ?_)
                refine d_done (by kernel_rfl) (HE _ _ ?_) _
                refine e_thenN ?_
                have h := h.pick [1] (by decide) rfl
                exact h.has (by exact ⟨rfl, trivial⟩)
            refine e_thenN ?_
            refine wp_ret ?_
            rw [← Option.some.inj hf]
            exact r_ret1 h rfl (rv_tmp h rfl) ⟨_, [], _, rfl, ⟨rfl, rfl, trivial⟩, rfl, up11, h.m⟩
      · obtain ⟨x43, rfl, hR⟩ := hR
        dsimp only at hf
        obtain ⟨g44, rfl, rfl, hp45, hr46, _⟩ := hR
        refine s_move h rfl _ rfl rfl (by decide) rfl (fun a h => ?_)
        refine s_x h rfl rfl (by decide) (x_ext h.k rfl rfl rfl) (fun a h => ?_)
        refine s_x h rfl rfl (by decide) (x_ext h.k rfl rfl rfl) (fun a h => ?_)
        refine s_assign h rfl _ rfl rfl (by decide) rfl (fun a h => ?_)
        refine s_assign h rfl _ rfl rfl (by decide) rfl (fun a h => ?_)
        refine l_end ?_
        refine wp_seq ?_
        refine c_rs ?_ -- region 6
        refine s_move h rfl _ rfl rfl (by decide) rfl (fun a h => ?_)
        refine s_x h rfl rfl (by decide) (x_bin h.k rfl rfl rfl ib_neq) (fun a h => ?_)
        refine l_end ?_
        refine c_cond h rfl (fun hb => ?_) (fun hb => ?_)
        · rw [if_pos (of_decide_eq_true hb)] at hf
          refine c_rs ?_ -- region 7
          refine s_assign h rfl _ rfl rfl (by decide) rfl (fun a h => ?_)
          refine l_end ?_
          refine wp_ret ?_
          refine e_thenR ?_
          rw [← Option.some.inj hf]
          exact r_ret1 h rfl (rv_tmp h rfl) ⟨_, [], _, rfl, ⟨rfl, rfl, trivial⟩, rfl, up11, h.m⟩
        · rw [if_neg (of_decide_eq_false hb)] at hf
          refine wp_skip ?_
          refine e_thenN ?_
          refine c_rs ?_ -- region 8
          refine s_move h rfl _ rfl rfl (by decide) rfl (fun a h => ?_)
          refine s_move h rfl _ rfl rfl (by decide) rfl (fun a h => ?_)
          refine s_move h rfl _ rfl rfl (by decide) rfl (fun a h => ?_)
          obtain ⟨x47, h48, hf⟩ := bsome hf
          have hX := xts_Sector_Tweak_ok Fu (S0 := snapAll _) g44 x43.1 (hp45.mono (h.m.leAll (i := 0) rfl)) a1 hra1 a2 hra2 _ h48 _ h.startAll
          refine q_callX hX h rfl rfl rfl (by decide) Try.func33 rfl rfl rfl (fun a w v L1 S1 hR hb1 h => ?_)
          obtain ⟨k50, rfl, rfl, hv51, hr54, _⟩ := hR
          obtain ⟨hs52, hl53⟩ := hv51
          have hq55 := hs52.fl (S' := S10) fl_8
          refine s_move h rfl _ rfl rfl (by decide) rfl (fun a h => ?_)
          refine s_x h rfl rfl (by decide) (x_ext h.k rfl rfl rfl) (fun a h => ?_)
          refine s_x h rfl rfl (by decide) (x_ext h.k rfl rfl rfl) (fun a h => ?_)
          refine s_alloc h rfl rfl rfl (by decide) zi_A16_uint8 rfl (fun a w g56 h => ?_)
          have h := h.parts (L' := [.box g56 23 (List.replicate 16 (.int .u8 0)), .sn S10]) rfl
          refine s_stW h rfl rfl rfl ag_A16_uint8 rfl (es := k50) rfl ((hq55).len.trans (by rw [hl53]; rfl)) (hq55).one 0 rfl (by first | rfl | simp_all) (fun a w h => ?_)
          refine s_assign h rfl _ rfl rfl (by decide) rfl (fun a h => ?_)
          refine l_end ?_
          refine wp_seq ?_
          refine c_rs ?_ -- region 9
          refine s_move h rfl _ rfl rfl (by decide) rfl (fun a h => ?_)
          refine s_x h rfl rfl (by decide) (x_bin h.k rfl rfl rfl ib_lss) (fun a h => ?_)
          refine s_move h rfl _ rfl rfl (by decide) rfl (fun a h => ?_)
          refine q_grp h 3 (t := 32) 35 ((decide (a1 < 0)) || (decide (4611686018427387904 < a1))) rfl (fun hB2 => ?_) (fun hB2 => ?_) (fun a w h => ?_)
          · refine g_no h rfl rfl rfl rfl hB2 rfl (by decide) (fun a h => ?_)
            refine g_no h rfl rfl rfl rfl hB2 rfl (by decide) (fun a h => ?_)
            refine s_x h rfl rfl (by decide) (x_pick (u' := undef) h.k rfl rfl (fun _ => rfl) (fun hh => absurd (hB2.symm.trans hh) (by decide))) (fun a h => ?_)
            exact (h.mid 2 rfl).val (by first | rfl | (rw [hB2]; first | rfl | simp))
          · refine g_yes h rfl rfl rfl rfl hB2 ?_
            refine s_move h rfl _ rfl rfl (by decide) rfl (fun a h => ?_)
            refine g_yes h rfl rfl rfl rfl hB2 ?_
            refine s_x h rfl rfl (by decide) (x_bin h.k rfl rfl rfl ib_gtr) (fun a h => ?_)
            refine s_x h rfl rfl (by decide) (x_pick (u' := undef) h.k rfl rfl (fun hh => absurd (hB2.symm.trans hh) (by decide)) (fun _ => rfl)) (fun a h => ?_)
            exact (h.mid 2 rfl).val (by first | rfl | (rw [hB2]; first | rfl | simp))
          refine s_move h rfl _ rfl rfl (by decide) rfl (fun a h => ?_)
          refine q_grp h 3 (t := 36) 39 (((decide (a1 < 0)) || (decide (4611686018427387904 < a1))) || (decide (a2 < 0))) rfl (fun hB6 => ?_) (fun hB6 => ?_) (fun a w h => ?_)
          · refine g_no h rfl rfl rfl rfl hB6 rfl (by decide) (fun a h => ?_)
            refine g_no h rfl rfl rfl rfl hB6 rfl (by decide) (fun a h => ?_)
            refine s_x h rfl rfl (by decide) (x_pick (u' := undef) h.k rfl rfl (fun _ => rfl) (fun hh => absurd (hB6.symm.trans hh) (by decide))) (fun a h => ?_)
            exact (h.mid 2 rfl).val (by first | rfl | (rw [hB6]; first | rfl | simp))
          · refine g_yes h rfl rfl rfl rfl hB6 ?_
            refine s_move h rfl _ rfl rfl (by decide) rfl (fun a h => ?_)
            refine g_yes h rfl rfl rfl rfl hB6 ?_
            refine s_x h rfl rfl (by decide) (x_bin h.k rfl rfl rfl ib_lss) (fun a h => ?_)
            refine s_x h rfl rfl (by decide) (x_pick (u' := undef) h.k rfl rfl (fun hh => absurd (hB6.symm.trans hh) (by decide)) (fun _ => rfl)) (fun a h => ?_)
            exact (h.mid 2 rfl).val (by first | rfl | (rw [hB6]; first | rfl | simp))
          refine s_move h rfl _ rfl rfl (by decide) rfl (fun a h => ?_)
          refine q_grp h 3 (t := 40) 43 ((((decide (a1 < 0)) || (decide (4611686018427387904 < a1))) || (decide (a2 < 0))) || (decide (255 < a2))) rfl (fun hB10 => ?_) (fun hB10 => ?_) (fun a w h => ?_)
          · refine g_no h rfl rfl rfl rfl hB10 rfl (by decide) (fun a h => ?_)
            refine g_no h rfl rfl rfl rfl hB10 rfl (by decide) (fun a h => ?_)
            refine s_x h rfl rfl (by decide) (x_pick (u' := undef) h.k rfl rfl (fun _ => rfl) (fun hh => absurd (hB10.symm.trans hh) (by decide))) (fun a h => ?_)
            exact (h.mid 2 rfl).val (by first | rfl | (rw [hB10]; first | rfl | simp))
          · refine g_yes h rfl rfl rfl rfl hB10 ?_
            refine s_move h rfl _ rfl rfl (by decide) rfl (fun a h => ?_)
            refine g_yes h rfl rfl rfl rfl hB10 ?_
            refine s_x h rfl rfl (by decide) (x_bin h.k rfl rfl rfl ib_gtr) (fun a h => ?_)
            refine s_x h rfl rfl (by decide) (x_pick (u' := undef) h.k rfl rfl (fun hh => absurd (hB10.symm.trans hh) (by decide)) (fun _ => rfl)) (fun a h => ?_)
            exact (h.mid 2 rfl).val (by first | rfl | (rw [hB10]; first | rfl | simp))
          refine l_end ?_
          refine c_cond h rfl (fun hb => ?_) (fun hb => ?_)
          · rw [if_pos hb] at hf
            refine c_rs ?_ -- region 10
            refine s_move h rfl _ rfl rfl (by decide) rfl (fun a h => ?_)
            refine s_x h rfl rfl (by decide) (x_bin h.k rfl rfl rfl ib_eql) (fun a h => ?_)
            refine s_move h rfl _ rfl rfl (by decide) rfl (fun a h => ?_)
            refine q_grp h 4 (t := 46) 50 ((decide (x47.2 = 2)) && (decide (x47.1 = (List.replicate 16 ((0 : UInt8) : UInt8))))) rfl (fun hB2 => ?_) (fun hB2 => ?_) (fun a w h => ?_)
            · refine g_yes h rfl rfl rfl rfl hB2 ?_
              refine s_x h rfl rfl (by decide) (x_ldR h.k rfl ag_A16_uint8 rfl k50 ((hq55).len.trans (by rw [hl53]; rfl)) (h.m.range0 (i := 0) rfl)) (fun a h => ?_)
              refine g_yes h rfl rfl rfl rfl hB2 ?_
              refine s_x h rfl rfl (by decide) (x_build h.k rfl [] rfl (List.replicate 16 (.int .u8 0)) (by kernel_rfl)) (fun a h => ?_)
              refine g_yes h rfl rfl rfl rfl hB2 ?_
              refine s_x h rfl rfl (by decide) (x_eqlA8 (X := k50) (Y := (List.replicate 16 (.int .u8 0))) h.k rfl Try.underlying23 Try.underlying5 sz_uint8 gda_A16_uint8 rfl rfl hq55 (show reps ty8 S10 (List.replicate 16 (.int .u8 0)) (List.replicate 16 ((0 : UInt8) : UInt8)) from repsRep1 (x := ((0 : UInt8) : UInt8)) rfl) hl53 (show (List.replicate 16 ((0 : UInt8) : UInt8)).length = 16 from List.length_replicate)) (fun a h => ?_)
              refine s_x h rfl rfl (by decide) (x_pick (u' := undef) h.k rfl rfl (fun _ => rfl) (fun hh => absurd (hB2.symm.trans hh) (by decide))) (fun a h => ?_)
              exact (h.mid 3 rfl).val (by first | rfl | (rw [hB2]; first | rfl | simp))
            · refine g_no h rfl rfl rfl rfl hB2 rfl (by decide) (fun a h => ?_)
              refine g_no h rfl rfl rfl rfl hB2 rfl (by decide) (fun a h => ?_)
              refine g_no h rfl rfl rfl rfl hB2 rfl (by decide) (fun a h => ?_)
              refine s_x h rfl rfl (by decide) (x_pick (u' := undef) h.k rfl rfl (fun hh => absurd (hB2.symm.trans hh) (by decide)) (fun _ => rfl)) (fun a h => ?_)
              exact (h.mid 3 rfl).val (by first | rfl | (rw [hB2]; first | rfl | simp))
            refine s_assign h rfl _ rfl rfl (by decide) rfl (fun a h => ?_)
            refine l_end ?_
            refine wp_ret ?_
            refine e_thenR ?_
            obtain rfl := Option.some.inj hf
            exact r_ret1 h rfl (rv_tmp h rfl) ⟨_, [], _, rfl, ⟨rfl, rfl, trivial⟩, rfl, up11, (h.m.pick [1] _ (by decide) rfl)⟩
          · rw [if_neg (by rw [hb]; decide)] at hf
            refine wp_skip ?_
            refine e_thenN ?_
            refine wp_seq ?_
            -- region 11 draws
            obtain ⟨z65, hz66, hf⟩ := bsome hf
            refine c_fin (fun a w => St 61 w0 (ownL ([] ++ [.sn S0])) [(6, .bool z65)] [.sn S10] a w) ?_ (fun a w h => ?_)
            · refine d_start h (Mem _ _ _) 11 11 rfl (by kernel_rfl) (fun _ _ _ _ _ h => h) (fun _ h => h) (fun Q a w HE HN h HS => ?_)
              refine d_takeP h (fun _ => HS) HN 0 rfl (by kernel_rfl) (by kernel_rfl) (by kernel_rfl) (by decide) rfl rfl (by decide) (fun w' => x_move h.k _ rfl rfl) (fun a h => ?_)
              refine d_takeP h (fun _ => HS) HN 1 rfl (by kernel_rfl) (by kernel_rfl) (by kernel_rfl) (by decide) rfl rfl (by decide) (fun w' => x_bin h.k rfl rfl rfl ib_eql) (fun a h => ?_)
              refine d_takeP h (fun _ => HS) HN 2 rfl (by kernel_rfl) (by kernel_rfl) (by kernel_rfl) (by decide) rfl rfl (by decide) (fun w' => x_move h.k _ rfl rfl) (fun a h => ?_)
              refine d_split (t := 53) h rfl (fun hB2 => ?_) (fun hB2 => ?_)
              · rw [if_pos (of_decide_eq_true hB2)] at hz66
                obtain ⟨x67, h68, hz66⟩ := bsome hz66
                refine d_takeY h HS HN 3 rfl (by kernel_rfl) (by kernel_rfl) (by kernel_rfl) (by kernel_rfl) (by kernel_rfl) (by rw [g_want h rfl rfl rfl rfl hB2]; rfl) rfl (by decide) (fun w' hw => x_ldR h.k rfl ag_A16_uint8 rfl k50 ((hq55).len.trans (by rw [hl53]; rfl)) (hw.range0 (i := 0) rfl)) (fun a h => ?_)
                refine d_takeP h (fun _ => HS) HN 4 rfl (by kernel_rfl) (by kernel_rfl) (by kernel_rfl) (by decide) (by rw [g_want h rfl rfl rfl rfl hB2]; rfl) rfl (by decide) (fun w' => x_move h.k _ rfl rfl) (fun a h => ?_)
                refine d_takeP h (fun _ => HS) HN 5 rfl (by kernel_rfl) (by kernel_rfl) (by kernel_rfl) (by decide) (by rw [g_want h rfl rfl rfl rfl hB2]; rfl) rfl (by decide) (fun w' => x_move h.k _ rfl rfl) (fun a h => ?_)
                refine d_takeP h (fun _ => HS) HN 6 rfl (by kernel_rfl) (by kernel_rfl) (by kernel_rfl) (by decide) (by rw [g_want h rfl rfl rfl rfl hB2]; rfl) rfl (by decide) (fun w' => x_move h.k _ rfl rfl) (fun a h => ?_)
                refine d_alone 7 rfl (by kernel_rfl) (fun K hK => ?_)
                refine g_yes (j := 2) (t := 53) h rfl rfl rfl rfl hB2 ?_
                have hX := chatelaineref10_Tweak_ok Fu (S0 := snapAll _) Aa0 ca0 a0 ((hsa0.mono le12).mono (h.m.leAll (i := 1) rfl)) a1 hra1 a2 hra2 _ h68 _ h.startAll
                refine q_callX hX h rfl rfl rfl (by decide) Try.func34 rfl rfl rfl (fun a w v L1 S1 hR hb1 h => ?_)
                obtain ⟨k70, rfl, rfl, hv71, _⟩ := hR
                obtain ⟨hs72, hl73⟩ := hv71
                have hq74 := hs72.fl (S' := S10) fl_8
                refine hK _ _ (fun _ _ => HS.ext hb1) ?_
                replace HS := HS.ext hb1
                clear hK
                refine d_takeP h (fun _ => HS) HN 8 rfl (by kernel_rfl) (by kernel_rfl) (by kernel_rfl) (by decide) (by rw [g_want h rfl rfl rfl rfl hB2]; rfl) rfl (by decide) (fun w' => x_eqlA8 (X := k50) (Y := k70) h.k rfl Try.underlying23 Try.underlying5 sz_uint8 gda_A16_uint8 rfl rfl hq55 hq74 hl53 hl73) (fun a h => ?_)
                refine d_takeP h (fun _ => HS) HN 9 rfl (by kernel_rfl) (by kernel_rfl) (by kernel_rfl) (by decide) rfl rfl (by decide) (fun w' => x_pick (v := .bool z65) (u' := undef) h.k rfl rfl (fun _ => by rw [← Option.some.inj hz66]; rfl) (fun hh => absurd (hB2.symm.trans hh) (by decide))) (fun a h => ?_)
                refine d_takeP h (fun _ => HS) HN 10 rfl (by kernel_rfl) (by kernel_rfl) (by kernel_rfl) (by decide) rfl rfl (by decide) (fun w' => x_assign h.k _ rfl rfl) (fun a h => ?_)
                refine d_done (by kernel_rfl) (HE _ _ ?_) _
                refine e_thenN ?_
                have h := h.pick [1] (by decide) rfl
                exact h.has (by exact ⟨rfl, trivial⟩)
              · rw [if_neg (of_decide_eq_false hB2)] at hz66
                refine d_takeNP h (fun _ => HS) HN 3 rfl (by kernel_rfl) (by kernel_rfl) (by kernel_rfl) (by decide) (by rw [g_want h rfl rfl rfl rfl hB2]; rfl) rfl (by decide) (fun a h => ?_)
                refine d_takeNP h (fun _ => HS) HN 4 rfl (by kernel_rfl) (by kernel_rfl) (by kernel_rfl) (by decide) (by rw [g_want h rfl rfl rfl rfl hB2]; rfl) rfl (by decide) (fun a h => ?_)
                refine d_takeNP h (fun _ => HS) HN 5 rfl (by kernel_rfl) (by kernel_rfl) (by kernel_rfl) (by decide) (by rw [g_want h rfl rfl rfl rfl hB2]; rfl) rfl (by decide) (fun a h => ?_)
                refine d_takeNP h (fun _ => HS) HN 6 rfl (by kernel_rfl) (by kernel_rfl) (by kernel_rfl) (by decide) (by rw [g_want h rfl rfl rfl rfl hB2]; rfl) rfl (by decide) (fun a h => ?_)
                refine d_takeNP h (fun _ => HS) HN 7 rfl (by kernel_rfl) (by kernel_rfl) (by kernel_rfl) (by decide) (by rw [g_want h rfl rfl rfl rfl hB2]; rfl) rfl (by decide) (fun a h => ?_)
                refine d_takeNP h (fun _ => HS) HN 8 rfl (by kernel_rfl) (by kernel_rfl) (by kernel_rfl) (by decide) (by rw [g_want h rfl rfl rfl rfl hB2]; rfl) rfl (by decide) (fun a h => ?_)
                refine d_takeP h (fun _ => HS) HN 9 rfl (by kernel_rfl) (by kernel_rfl) (by kernel_rfl) (by decide) rfl rfl (by decide) (fun w' => x_pick (v := .bool z65) (u' := undef) h.k rfl rfl (fun hh => absurd (hB2.symm.trans hh) (by decide)) (fun _ => by rw [← Option.some.inj hz66]; rfl)) (fun a h => ?_)
                refine d_takeP h (fun _ => HS) HN 10 rfl (by kernel_rfl) (by kernel_rfl) (by kernel_rfl) (by decide) rfl rfl (by decide) (fun w' => x_assign h.k _ rfl rfl) (fun a h => ?_)
                refine d_done (by kernel_rfl) (HE _ _ ?_) _
                refine e_thenN ?_
                have h := h.pick [1] (by decide) rfl
                exact h.has (by exact ⟨rfl, trivial⟩)
            refine e_thenN ?_
            refine wp_ret ?_
            rw [← Option.some.inj hf]
            exact r_ret1 h rfl (rv_tmp h rfl) ⟨_, [], _, rfl, ⟨rfl, rfl, trivial⟩, rfl, up11, h.m⟩
end Go.Proofs.Ytoimllmmlbehgaa
