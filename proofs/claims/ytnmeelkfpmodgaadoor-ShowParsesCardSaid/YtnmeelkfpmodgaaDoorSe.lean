/- Se: Go functions as plain functions, and that they are so (written by xt.py). -/
import Derived.Test.YtnmeelkfpmodgaaDoorSd
import Derived.Test.YtnmeelkfpmodgaaDoorRg
import Derived.Test.YtnmeelkfpmodgaaDoorPo
import Derived.Test.YtnmeelkfpmodgaaDoorTerm2
set_option linter.unusedVariables false
set_option linter.unusedSimpArgs false
namespace Go.Proofs.YtnmeelkfpmodgaaDoor
open Go.RowKit
def show_number_l0 (Fu : Nat) (a0 : List UInt8) : Nat → Int → Nat → Option (Sum (Int × Bool) Int)
  | 0, _, _ => none
  | k + 1, x18, x20 => (match rnx a0 x20 with | .inl _ => (some (.inr x18)) | .inr y26 => (if ((decide (y26.1 < 48)) || (decide (57 < y26.1))) = true then (some (.inl (0, false))) else (show_number_l0 Fu a0 k (w64 ((w64 (10 * x18)) + (w32I (y26.1 - 48)))) y26.2)))
def show_number (Fu : Nat) (a0 : List UInt8) : Option (Int × Bool) :=
  (if ((decide (a0 = ([] : List UInt8))) || (decide (7 < (a0.length : Int)))) = true then some true else (if 1 < (a0.length : Int) then (idx a0 0).bind fun x10 => some (decide ((x10.toNat : Int) = 48)) else some false).bind fun z7 => some z7).bind fun z4 => if z4 = true then (some (0, false)) else ((show_number_l0 Fu a0 Fu 0 0).bind fun o => match o with | .inl r29 => some r29 | .inr x21 => some (x21, (decide (x21 < 1048576))))
set_option maxRecDepth 100000 in
set_option maxHeartbeats 2000000 in
theorem show_number_ok (Fu : Nat) {S0 : Snap} (a0 : List UInt8) (hra0 : a0.length ≤ maxLen) (r : Int × Bool) (hf : show_number Fu a0 = some r) (w0 : World) (hm : Mem w0 (ownL ([] ++ [.sn S0])) ([] ++ [.sn S0]) w0) :
    Calls Tryd.prog 44 #[.string (sb a0)] w0 (Ret w0 S0 [] (fun v L1 S1 => v = .tuple #[.int .i64 r.1, .bool r.2] ∧ L1 = [] ∧ r64 r.1 ∧ True)) := by
  unfold show_number at hf
  refine c_enterM Tryd.func44 rfl 44 rfl (by simp) _ hm _ rfl (fun a h => ?_)
  refine c_rs ?_ -- region 0
  refine s_assign h rfl _ rfl rfl (by decide) rfl (fun a h => ?_)
  refine s_assign h rfl _ rfl rfl (by decide) rfl (fun a h => ?_)
  refine l_end ?_
  refine wp_seq ?_
  refine c_rs ?_ -- region 1
  refine s_move h rfl _ rfl rfl (by decide) rfl (fun a h => ?_)
  refine s_x h rfl rfl (by decide) (x_eqlStr h.k rfl rfl rfl) (fun a h => ?_)
  refine s_move h rfl _ rfl rfl (by decide) rfl (fun a h => ?_)
  refine q_grp h 4 (t := 9) 13 ((decide (a0 = ([] : List UInt8))) || (decide (7 < (a0.length : Int)))) rfl (fun hB2 => ?_) (fun hB2 => ?_) (fun a w h => ?_)
  · refine g_no h rfl rfl rfl rfl hB2 rfl (by decide) (fun a h => ?_)
    refine g_no h rfl rfl rfl rfl hB2 rfl (by decide) (fun a h => ?_)
    refine g_no h rfl rfl rfl rfl hB2 rfl (by decide) (fun a h => ?_)
    refine s_x h rfl rfl (by decide) (x_pick (u' := undef) h.k rfl rfl (fun _ => rfl) (fun hh => absurd (hB2.symm.trans hh) (by decide))) (fun a h => ?_)
    exact (h.mid 3 rfl).val (by first | rfl | (rw [hB2]; first | rfl | simp))
  · refine g_yes h rfl rfl rfl rfl hB2 ?_
    refine s_move h rfl _ rfl rfl (by decide) rfl (fun a h => ?_)
    refine g_yes h rfl rfl rfl rfl hB2 ?_
    refine s_x h rfl rfl (by decide) (x_lenStr h.k rfl Tryd.underlying9 rfl) (fun a h => ?_)
    refine g_yes h rfl rfl rfl rfl hB2 ?_
    refine s_x h rfl rfl (by decide) (x_bin h.k rfl rfl rfl ib_gtr) (fun a h => ?_)
    refine s_x h rfl rfl (by decide) (x_pick (u' := undef) h.k rfl rfl (fun hh => absurd (hB2.symm.trans hh) (by decide)) (fun _ => rfl)) (fun a h => ?_)
    exact (h.mid 3 rfl).val (by first | rfl | (rw [hB2]; first | rfl | simp))
  refine s_move h rfl _ rfl rfl (by decide) rfl (fun a h => ?_)
  obtain ⟨z4, hz3, hf⟩ := bsome hf
  refine q_grp h 9 (t := 14) 23 z4 rfl (fun hB7 => ?_) (fun hB7 => ?_) (fun a w h => ?_)
  · refine g_no h rfl rfl rfl rfl hB7 rfl (by decide) (fun a h => ?_)
    refine g_no h rfl rfl rfl rfl hB7 rfl (by decide) (fun a h => ?_)
    refine g_no h rfl rfl rfl rfl hB7 rfl (by decide) (fun a h => ?_)
    refine g_no h rfl rfl rfl rfl hB7 rfl (by decide) (fun a h => ?_)
    refine g_off h rfl rfl rfl rfl rfl (by decide) (fun a h => ?_)
    refine g_off h rfl rfl rfl rfl rfl (by decide) (fun a h => ?_)
    refine g_off h rfl rfl rfl rfl rfl (by decide) (fun a h => ?_)
    refine g_no h rfl rfl rfl rfl hB7 rfl (by decide) (fun a h => ?_)
    rw [if_pos hB7] at hz3
    refine s_x h rfl rfl (by decide) (x_pick (u' := undef) h.k rfl rfl (fun _ => rfl) (fun hh => absurd (hB7.symm.trans hh) (by decide))) (fun a h => ?_)
    exact (h.mid 8 rfl).val (by rw [Option.some.inj hz3])
  · rw [if_neg (by rw [hB7]; decide)] at hz3
    refine g_yes h rfl rfl rfl rfl hB7 ?_
    refine s_move h rfl _ rfl rfl (by decide) rfl (fun a h => ?_)
    refine g_yes h rfl rfl rfl rfl hB7 ?_
    refine s_x h rfl rfl (by decide) (x_lenStr h.k rfl Tryd.underlying9 rfl) (fun a h => ?_)
    refine g_yes h rfl rfl rfl rfl hB7 ?_
    refine s_x h rfl rfl (by decide) (x_bin h.k rfl rfl rfl ib_gtr) (fun a h => ?_)
    refine g_yes h rfl rfl rfl rfl hB7 ?_
    refine s_move h rfl _ rfl rfl (by decide) rfl (fun a h => ?_)
    obtain ⟨z7, hz6, hz3⟩ := bsome hz3
    refine q_grp h 4 (t := 18) 22 z7 rfl (fun hB11 => ?_) (fun hB11 => ?_) (fun a w h => ?_)
    · rw [if_pos (of_decide_eq_true hB11)] at hz6
      refine g_yes h rfl rfl rfl rfl hB11 ?_
      refine s_move h rfl _ rfl rfl (by decide) rfl (fun a h => ?_)
      refine g_yes h rfl rfl rfl rfl hB11 ?_
      obtain ⟨x10, h11, hz6⟩ := bsome hz6
      obtain ⟨m9, hi12, hm13, hx14⟩ := idx_some h11
      refine s_x h rfl rfl (by decide) (x_indexStr h.k rfl Tryd.underlying9 rfl rfl hi12 hx14) (fun a h => ?_)
      refine g_yes h rfl rfl rfl rfl hB11 ?_
      refine s_x h rfl rfl (by decide) (x_bin h.k rfl rfl rfl ib_eql) (fun a h => ?_)
      refine g_yes h rfl rfl rfl rfl hB7 ?_
      refine s_x h rfl rfl (by decide) (x_pick (u' := undef) h.k rfl rfl (fun _ => rfl) (fun hh => absurd (hB11.symm.trans hh) (by decide))) (fun a h => ?_)
      exact (h.mid 3 rfl).val (by rw [Option.some.inj hz6])
    · refine g_no h rfl rfl rfl rfl hB11 rfl (by decide) (fun a h => ?_)
      refine g_no h rfl rfl rfl rfl hB11 rfl (by decide) (fun a h => ?_)
      refine g_no h rfl rfl rfl rfl hB11 rfl (by decide) (fun a h => ?_)
      rw [if_neg (of_decide_eq_false hB11)] at hz6
      refine g_yes h rfl rfl rfl rfl hB7 ?_
      refine s_x h rfl rfl (by decide) (x_pick (u' := undef) h.k rfl rfl (fun hh => absurd (hB11.symm.trans hh) (by decide)) (fun _ => rfl)) (fun a h => ?_)
      exact (h.mid 3 rfl).val (by rw [Option.some.inj hz6])
    refine s_x h rfl rfl (by decide) (x_pick (u' := undef) h.k rfl rfl (fun hh => absurd (hB7.symm.trans hh) (by decide)) (fun _ => rfl)) (fun a h => ?_)
    exact (h.mid 5 rfl).val (by rw [Option.some.inj hz3])
  refine l_end ?_
  refine c_cond h rfl (fun hb => ?_) (fun hb => ?_)
  · rw [if_pos hb] at hf
    refine c_rs ?_ -- region 2
    refine s_assign h rfl _ rfl rfl (by decide) rfl (fun a h => ?_)
    refine s_assign h rfl _ rfl rfl (by decide) rfl (fun a h => ?_)
    refine l_end ?_
    refine wp_ret ?_
    refine e_thenR ?_
    obtain rfl := Option.some.inj hf
    exact r_ret2 h rfl (rv_tmp h rfl) (rv_tmp h rfl) ⟨_, [], _, rfl, ⟨rfl, rfl, (show r64 0 from ⟨by decide, by decide⟩), trivial⟩, rfl, (Up.refl _ _ _), h.m⟩
  · rw [if_neg (by rw [hb]; decide)] at hf
    refine wp_skip ?_
    refine e_thenN ?_
    refine c_rs ?_ -- region 3
    refine s_assign h rfl _ rfl rfl (by decide) rfl (fun a h => ?_)
    refine l_end ?_
    refine wp_seq ?_
    refine c_rs ?_ -- region 4
    refine s_move h rfl _ rfl rfl (by decide) rfl (fun a h => ?_)
    refine s_range h rfl rfl rfl (by decide) Tryd.underlying9 rfl (fun a w g15 h => ?_)
    refine l_end ?_
    obtain ⟨o16, hl17, hf⟩ := bsome hf
    refine c_fin (fun a w => ∃ (x21 : Int), (.inr x21) = o16 ∧ r64 x21 ∧ St 44 w0 (ownL ([] ++ [.sn S0])) [(4, .int .i64 x21)] [.sn S0] a w) ?_ ?_
    · refine wp_block ?_
      refine c_loop (fun m24 a w => ∃ (x18 : Int), ∃ (x20 : Nat), show_number_l0 Fu a0 m24 x18 x20 = some o16 ∧ r64 x18 ∧ St 44 w0 (ownL ([] ++ [.sn S0])) [(4, .int .i64 x18), (25, .pointer (some ⟨g15, 0, none⟩))] [.obj g15 (.stringIter (sb a0) x20), .sn S0] a w) Fu ⟨0, 0, hl17, (show r64 0 from ⟨by decide, by decide⟩), h.has (by exact ⟨rfl, rfl, trivial⟩)⟩ (fun m24 a w hI => ?_)
      obtain ⟨x18, x20, hl23, hr19, h⟩ := hI
      obtain _ | m24 := m24
      · rw [show_number_l0] at hl23; cases hl23
      rw [show_number_l0] at hl23
      refine c_rs ?_ -- region 5
      refine s_next h rfl rfl rfl (by decide) rfl 0 rfl (fun hn25 a h => ?_) (fun y26 hn25 a w h => ?_)
      · rw [hn25] at hl23
        dsimp only at hl23
        refine s_x h rfl rfl (by decide) (x_ext h.k rfl rfl rfl) (fun a h => ?_)
        refine l_end ?_
        refine c_cs h rfl (fun hb => ?_) (fun hb => ?_)
        · exact absurd hb (by decide)
        · refine wp_exit ?_
          refine e_thenX ?_
          refine e_thenX ?_
          refine e_blkX ?_
          refine e_thenN ?_
          have h := h.pick [1] (by decide) rfl
          exact ⟨x18, (Option.some.inj hl23), hr19, h.has (by exact ⟨rfl, trivial⟩)⟩
      · rw [hn25] at hl23
        dsimp only at hl23
        refine s_x h rfl rfl (by decide) (x_ext h.k rfl rfl rfl) (fun a h => ?_)
        refine l_end ?_
        refine c_cs h rfl (fun hb => ?_) (fun hb => ?_)
        · refine wp_skip ?_
          refine e_thenN ?_
          refine wp_block ?_
          refine c_rs ?_ -- region 6
          refine s_x h rfl rfl (by decide) (x_ext h.k rfl rfl rfl) (fun a h => ?_)
          refine s_assign h rfl _ rfl rfl (by decide) rfl (fun a h => ?_)
          refine l_end ?_
          refine wp_seq ?_
          refine c_rs ?_ -- region 7
          refine s_move h rfl _ rfl rfl (by decide) rfl (fun a h => ?_)
          refine s_x h rfl rfl (by decide) (x_bin h.k rfl rfl rfl ib_lss) (fun a h => ?_)
          refine s_move h rfl _ rfl rfl (by decide) rfl (fun a h => ?_)
          refine q_grp h 3 (t := 31) 34 ((decide (y26.1 < 48)) || (decide (57 < y26.1))) rfl (fun hB2 => ?_) (fun hB2 => ?_) (fun a w h => ?_)
          · refine g_no h rfl rfl rfl rfl hB2 rfl (by decide) (fun a h => ?_)
            refine g_no h rfl rfl rfl rfl hB2 rfl (by decide) (fun a h => ?_)
            refine s_x h rfl rfl (by decide) (x_pick (u' := undef) h.k rfl rfl (fun _ => rfl) (fun hh => absurd (hB2.symm.trans hh) (by decide))) (fun a h => ?_)
            exact (h.mid 2 rfl).val (by first | rfl | (rw [hB2]; first | rfl | simp))
          · refine g_yes h rfl rfl rfl rfl hB2 ?_
            refine s_move h rfl _ rfl rfl (by decide) rfl (fun a h => ?_)
            refine g_yes h rfl rfl rfl rfl hB2 ?_
            refine s_x h rfl rfl (by decide) (x_bin h.k rfl rfl rfl ib_gtr) (fun a h => ?_)
            refine s_x h rfl rfl (by decide) (x_pick (u' := undef) h.k rfl rfl (fun hh => absurd (hB2.symm.trans hh) (by decide)) (fun _ => rfl)) (fun a h => ?_)
            exact (h.mid 2 rfl).val (by first | rfl | (rw [hB2]; first | rfl | simp))
          refine l_end ?_
          refine c_cond h rfl (fun hb => ?_) (fun hb => ?_)
          · rw [if_pos hb] at hl23
            refine c_rs ?_ -- region 8
            refine s_assign h rfl _ rfl rfl (by decide) rfl (fun a h => ?_)
            refine s_assign h rfl _ rfl rfl (by decide) rfl (fun a h => ?_)
            refine l_end ?_
            refine wp_ret ?_
            refine e_thenR ?_
            refine e_blkR ?_
            refine e_thenR ?_
            refine e_blkR ?_
            refine e_thenR ?_
            cases hl23
            try dsimp only at hf
            refine e_thenR ?_
            obtain rfl := Option.some.inj hf
            exact r_ret2 h rfl (rv_tmp h rfl) (rv_tmp h rfl) ⟨_, [], _, rfl, ⟨rfl, rfl, (show r64 0 from ⟨by decide, by decide⟩), trivial⟩, rfl, (Up.refl _ _ _), (h.m.pick [1] _ (by decide) rfl)⟩
          · rw [if_neg (by rw [hb]; decide)] at hl23
            refine wp_skip ?_
            refine e_thenN ?_
            refine c_r ?_ -- region 9
            refine s_move h rfl _ rfl rfl (by decide) rfl (fun a h => ?_)
            refine s_x h rfl rfl (by decide) (x_bin h.k rfl rfl rfl (ib_mul rfl)) (fun a h => ?_)
            refine s_move h rfl _ rfl rfl (by decide) rfl (fun a h => ?_)
            refine s_x h rfl rfl (by decide) (x_bin h.k rfl rfl rfl (ib_sub rfl)) (fun a h => ?_)
            refine s_x h rfl rfl (by decide) (x_convE h.k rfl Tryd.underlying21 Tryd.underlying3 rfl (nw64 (r32_64 (w32I_r _)))) (fun a h => ?_)
            refine s_x h rfl rfl (by decide) (x_bin h.k rfl rfl rfl (ib_add rfl)) (fun a h => ?_)
            refine s_assign h rfl _ rfl rfl (by decide) rfl (fun a h => ?_)
            refine l_nil ?_
            refine e_blkN ?_
            exact e_thenN ⟨m24, Nat.lt_succ_self _, w64 ((w64 (10 * x18)) + (w32I (y26.1 - 48))), y26.2, hl23, (w64_r _), h.has (by exact ⟨rfl, rfl, trivial⟩)⟩
        · exact absurd hb (by decide)
    · rintro a w ⟨x21, rfl, hr22, h⟩
      try dsimp only at hf
      refine e_thenN ?_
      refine c_rs ?_ -- region 10
      refine s_move h rfl _ rfl rfl (by decide) rfl (fun a h => ?_)
      refine s_move h rfl _ rfl rfl (by decide) rfl (fun a h => ?_)
      refine s_x h rfl rfl (by decide) (x_bin h.k rfl rfl rfl ib_lss) (fun a h => ?_)
      refine s_assign h rfl _ rfl rfl (by decide) rfl (fun a h => ?_)
      refine s_assign h rfl _ rfl rfl (by decide) rfl (fun a h => ?_)
      refine l_end ?_
      refine wp_ret ?_
      obtain rfl := Option.some.inj hf
      exact r_ret2 h rfl (rv_tmp h rfl) (rv_tmp h rfl) ⟨_, [], _, rfl, ⟨rfl, rfl, hr22, trivial⟩, rfl, (Up.refl _ _ _), h.m⟩
def show_one (Fu : Nat) (a0 : List UInt8) : Option ((Int × Int) × Bool) :=
  (strings_Cut Fu a0 ([45] : List UInt8)).bind fun x2 => (show_number Fu x2.1).bind fun x7 => if ((!x7.2) || (!x2.2.2)) = true then (some ((x7.1, 1), x7.2)) else ((show_number Fu x2.2.1).bind fun x13 => some ((x7.1, w64 ((w64 (x13.1 - x7.1)) + 1)), (x13.2 && (decide (x7.1 < x13.1)))))
set_option maxRecDepth 100000 in
set_option maxHeartbeats 2000000 in
theorem show_one_ok (Fu : Nat) {S0 : Snap} (hGL : GL S0) (a0 : List UInt8) (hra0 : a0.length ≤ maxLen) (r : (Int × Int) × Bool) (hf : show_one Fu a0 = some r) (w0 : World) (hm : Mem w0 (ownL ([] ++ [.sn S0])) ([] ++ [.sn S0]) w0) :
    Calls Tryd.prog 32 #[.string (sb a0)] w0 (Ret w0 S0 [] (fun v L1 S1 => ∃ (k19 : List Value), v = .tuple #[.agg k19.toArray, .bool r.2] ∧ L1 = [] ∧ (tyP tyI tyI).rep S1 k19 r.1 ∧ True)) := by
  unfold show_one at hf
  refine c_enterM Tryd.func32 rfl 47 rfl (by simp) _ hm _ rfl (fun a h => ?_)
  refine c_rs ?_ -- region 0
  refine s_alloc h rfl rfl rfl (by decide) zi_api_Extent rfl (fun a w g1 h => ?_)
  refine s_assign h rfl _ rfl rfl (by decide) rfl (fun a h => ?_)
  refine l_end ?_
  refine c_rs ?_ -- region 1
  refine s_move h rfl _ rfl rfl (by decide) rfl (fun a h => ?_)
  obtain ⟨x2, h3, hf⟩ := bsome hf
  have hX := strings_Cut_ok Fu (S0 := snapAll _) (hGL.mono (h.m.leAll (i := 1) rfl)) a0 hra0 ([45] : List UInt8) (by decide) _ h3 _ h.startAll
  refine q_callX hX h rfl rfl rfl (by decide) Tryd.func43 rfl rfl rfl (fun a w v L1 S1 hR hb1 h => ?_)
  obtain ⟨rfl, rfl, hr5, hr6, _⟩ := hR
  refine s_move h rfl _ rfl rfl (by decide) rfl (fun a h => ?_)
  refine s_x h rfl rfl (by decide) (x_ext h.k rfl rfl rfl) (fun a h => ?_)
  refine s_x h rfl rfl (by decide) (x_ext h.k rfl rfl rfl) (fun a h => ?_)
  refine s_x h rfl rfl (by decide) (x_ext h.k rfl rfl rfl) (fun a h => ?_)
  refine s_assign h rfl _ rfl rfl (by decide) rfl (fun a h => ?_)
  refine s_assign h rfl _ rfl rfl (by decide) rfl (fun a h => ?_)
  refine s_assign h rfl _ rfl rfl (by decide) rfl (fun a h => ?_)
  refine l_end ?_
  refine c_rs ?_ -- region 2
  refine s_move h rfl _ rfl rfl (by decide) rfl (fun a h => ?_)
  obtain ⟨x7, h8, hf⟩ := bsome hf
  have hX := show_number_ok Fu (S0 := snapAll _) x2.1 hr5 _ h8 _ h.startAll
  refine q_callX hX h rfl rfl rfl (by decide) Tryd.func44 rfl rfl rfl (fun a w v L1 S1 hR hb1 h => ?_)
  obtain ⟨rfl, rfl, hr10, _⟩ := hR
  refine s_move h rfl _ rfl rfl (by decide) rfl (fun a h => ?_)
  refine s_x h rfl rfl (by decide) (x_ext h.k rfl rfl rfl) (fun a h => ?_)
  refine s_x h rfl rfl (by decide) (x_ext h.k rfl rfl rfl) (fun a h => ?_)
  refine s_assign h rfl _ rfl rfl (by decide) rfl (fun a h => ?_)
  refine s_assign h rfl _ rfl rfl (by decide) rfl (fun a h => ?_)
  refine l_end ?_
  refine wp_seq ?_
  refine c_rs ?_ -- region 3
  refine s_move h rfl _ rfl rfl (by decide) rfl (fun a h => ?_)
  refine s_x h rfl rfl (by decide) (x_not h.k rfl rfl) (fun a h => ?_)
  refine s_move h rfl _ rfl rfl (by decide) rfl (fun a h => ?_)
  refine q_grp h 3 (t := 23) 26 ((!x7.2) || (!x2.2.2)) rfl (fun hB2 => ?_) (fun hB2 => ?_) (fun a w h => ?_)
  · refine g_no h rfl rfl rfl rfl hB2 rfl (by decide) (fun a h => ?_)
    refine g_no h rfl rfl rfl rfl hB2 rfl (by decide) (fun a h => ?_)
    refine s_x h rfl rfl (by decide) (x_pick (u' := undef) h.k rfl rfl (fun _ => rfl) (fun hh => absurd (hB2.symm.trans hh) (by decide))) (fun a h => ?_)
    exact (h.mid 2 rfl).val (by first | rfl | (rw [hB2]; first | rfl | simp))
  · refine g_yes h rfl rfl rfl rfl hB2 ?_
    refine s_move h rfl _ rfl rfl (by decide) rfl (fun a h => ?_)
    refine g_yes h rfl rfl rfl rfl hB2 ?_
    refine s_x h rfl rfl (by decide) (x_not h.k rfl rfl) (fun a h => ?_)
    refine s_x h rfl rfl (by decide) (x_pick (u' := undef) h.k rfl rfl (fun hh => absurd (hB2.symm.trans hh) (by decide)) (fun _ => rfl)) (fun a h => ?_)
    exact (h.mid 2 rfl).val (by first | rfl | (rw [hB2]; first | rfl | simp))
  refine l_end ?_
  refine c_cond h rfl (fun hb => ?_) (fun hb => ?_)
  · rw [if_pos hb] at hf
    refine c_rs ?_ -- region 4
    refine s_move h rfl _ rfl rfl (by decide) rfl (fun a h => ?_)
    refine s_x h rfl rfl (by decide) (x_build h.k rfl [(0, .int .i64 x7.1), (1, .int .i64 1)] rfl ([.int .i64 x7.1, .int .i64 1]) (by kernel_rfl)) (fun a h => ?_)
    refine s_move h rfl _ rfl rfl (by decide) rfl (fun a h => ?_)
    refine s_stW h rfl rfl rfl ag_api_Extent rfl (es := [.int .i64 x7.1, .int .i64 1]) rfl rfl (by simp [Value.oneCell']) 0 rfl rfl (fun a w h => ?_)
    refine s_assign h rfl _ rfl rfl (by decide) rfl (fun a h => ?_)
    refine l_end ?_
    refine wp_ret ?_
    refine e_thenR ?_
    obtain rfl := Option.some.inj hf
    exact r_ret2 h rfl (rv_cellA h rfl 0 rfl ag_api_Extent rfl) (rv_tmp h rfl) ⟨_, [], _, rfl, ⟨[.int .i64 x7.1, .int .i64 1], rfl, rfl, ⟨[.int .i64 x7.1], [.int .i64 1], rfl, ⟨rfl, hr10⟩, ⟨rfl, (show r64 1 from ⟨by decide, by decide⟩)⟩⟩, trivial⟩, rfl, (Up.refl _ _ _), (h.m.pick [1] _ (by decide) rfl)⟩
  · rw [if_neg (by rw [hb]; decide)] at hf
    refine wp_skip ?_
    refine e_thenN ?_
    refine c_rs ?_ -- region 5
    refine s_move h rfl _ rfl rfl (by decide) rfl (fun a h => ?_)
    obtain ⟨x13, h14, hf⟩ := bsome hf
    have hX := show_number_ok Fu (S0 := snapAll _) x2.2.1 hr6 _ h14 _ h.startAll
    refine q_callX hX h rfl rfl rfl (by decide) Tryd.func44 rfl rfl rfl (fun a w v L1 S1 hR hb1 h => ?_)
    obtain ⟨rfl, rfl, hr16, _⟩ := hR
    refine s_move h rfl _ rfl rfl (by decide) rfl (fun a h => ?_)
    refine s_x h rfl rfl (by decide) (x_ext h.k rfl rfl rfl) (fun a h => ?_)
    refine s_x h rfl rfl (by decide) (x_ext h.k rfl rfl rfl) (fun a h => ?_)
    refine s_assign h rfl _ rfl rfl (by decide) rfl (fun a h => ?_)
    refine s_assign h rfl _ rfl rfl (by decide) rfl (fun a h => ?_)
    refine l_end ?_
    refine c_rs ?_ -- region 6
    refine s_move h rfl _ rfl rfl (by decide) rfl (fun a h => ?_)
    refine s_move h rfl _ rfl rfl (by decide) rfl (fun a h => ?_)
    refine s_move h rfl _ rfl rfl (by decide) rfl (fun a h => ?_)
    refine s_x h rfl rfl (by decide) (x_bin h.k rfl rfl rfl (ib_sub rfl)) (fun a h => ?_)
    refine s_x h rfl rfl (by decide) (x_bin h.k rfl rfl rfl (ib_add rfl)) (fun a h => ?_)
    refine s_x h rfl rfl (by decide) (x_build h.k rfl [(0, .int .i64 x7.1), (1, .int .i64 (w64 ((w64 (x13.1 - x7.1)) + 1)))] rfl ([.int .i64 x7.1, .int .i64 (w64 ((w64 (x13.1 - x7.1)) + 1))]) (by kernel_rfl)) (fun a h => ?_)
    refine s_move h rfl _ rfl rfl (by decide) rfl (fun a h => ?_)
    refine s_move h rfl _ rfl rfl (by decide) rfl (fun a h => ?_)
    refine q_grp h 4 (t := 42) 46 (x13.2 && (decide (x7.1 < x13.1))) rfl (fun hB7 => ?_) (fun hB7 => ?_) (fun a w h => ?_)
    · refine g_yes h rfl rfl rfl rfl hB7 ?_
      refine s_move h rfl _ rfl rfl (by decide) rfl (fun a h => ?_)
      refine g_yes h rfl rfl rfl rfl hB7 ?_
      refine s_move h rfl _ rfl rfl (by decide) rfl (fun a h => ?_)
      refine g_yes h rfl rfl rfl rfl hB7 ?_
      refine s_x h rfl rfl (by decide) (x_bin h.k rfl rfl rfl ib_gtr) (fun a h => ?_)
      refine s_x h rfl rfl (by decide) (x_pick (u' := undef) h.k rfl rfl (fun _ => rfl) (fun hh => absurd (hB7.symm.trans hh) (by decide))) (fun a h => ?_)
      exact (h.mid 3 rfl).val (by first | rfl | (rw [hB7]; first | rfl | simp))
    · refine g_no h rfl rfl rfl rfl hB7 rfl (by decide) (fun a h => ?_)
      refine g_no h rfl rfl rfl rfl hB7 rfl (by decide) (fun a h => ?_)
      refine g_no h rfl rfl rfl rfl hB7 rfl (by decide) (fun a h => ?_)
      refine s_x h rfl rfl (by decide) (x_pick (u' := undef) h.k rfl rfl (fun hh => absurd (hB7.symm.trans hh) (by decide)) (fun _ => rfl)) (fun a h => ?_)
      exact (h.mid 3 rfl).val (by first | rfl | (rw [hB7]; first | rfl | simp))
    refine s_stW h rfl rfl rfl ag_api_Extent rfl (es := [.int .i64 x7.1, .int .i64 (w64 ((w64 (x13.1 - x7.1)) + 1))]) rfl rfl (by simp [Value.oneCell']) 0 rfl rfl (fun a w h => ?_)
    refine s_assign h rfl _ rfl rfl (by decide) rfl (fun a h => ?_)
    refine l_end ?_
    refine wp_ret ?_
    obtain rfl := Option.some.inj hf
    exact r_ret2 h rfl (rv_cellA h rfl 0 rfl ag_api_Extent rfl) (rv_tmp h rfl) ⟨_, [], _, rfl, ⟨[.int .i64 x7.1, .int .i64 (w64 ((w64 (x13.1 - x7.1)) + 1))], rfl, rfl, ⟨[.int .i64 x7.1], [.int .i64 (w64 ((w64 (x13.1 - x7.1)) + 1))], rfl, ⟨rfl, hr10⟩, ⟨rfl, (w64_r _)⟩⟩, trivial⟩, rfl, (Up.refl _ _ _), (h.m.pick [1] _ (by decide) rfl)⟩
def show_Parse_l0 (Fu : Nat) (x2 : (List (List UInt8))) : Nat → (List (Int × Int)) → Int → Option (Sum ((List (Int × Int)) × Bool) ((List (Int × Int))))
  | 0, _, _ => none
  | k + 1, x15, x20 => if x20 < (x2.length : Int) then ((ix x2.length x20).bind fun m30 => (x2[m30]?).bind fun x36 => (show_one Fu x36).bind fun x43 => if (!x43.2) = true then (some (.inl ([], false))) else ((app 16 x15 ([x43.1])).bind fun x56 => show_Parse_l0 Fu x2 k x56 (w64 (x20 + 1)))) else (some (.inr x15))
def show_Parse (Fu : Nat) (a0 : List UInt8) : Option ((List (Int × Int)) × Bool) :=
  if a0 = ([] : List UInt8) then (some ([], true)) else ((strings_Split Fu a0 ([32] : List UInt8)).bind fun x2 => if 4096 < (x2.length : Int) then (some ([], false)) else ((show_Parse_l0 Fu x2 Fu ([]) 0).bind fun o => match o with | .inl r62 => some r62 | .inr x22 => some (x22, true)))
set_option maxRecDepth 100000 in
set_option maxHeartbeats 2000000 in
theorem show_Parse_ok (Fu : Nat) {S0 : Snap} (hGL : GL S0) (a0 : List UInt8) (hra0 : a0.length ≤ maxLen) (r : (List (Int × Int)) × Bool) (hf : show_Parse Fu a0 = some r) (w0 : World) (hm : Mem w0 (ownL ([] ++ [.sn S0])) ([] ++ [.sn S0]) w0) :
    Calls Tryd.prog 15 #[.string (sb a0)] w0 (Ret w0 S0 [] (fun v L1 S1 => ∃ (A63 : Option Addr), ∃ (c64 : Nat), ∃ (cs65 : List Value), v = .tuple #[.slice A63 r.1.length c64, .bool r.2] ∧ L1 = [.row (.slice A63 r.1.length c64) 46 2 r.1.length cs65] ∧ reps (tyP tyI tyI) S1 cs65 r.1 ∧ True)) := by
  unfold show_Parse at hf
  refine c_enterM Tryd.func15 rfl 36 rfl (by simp) _ hm _ rfl (fun a h => ?_)
  refine c_rs ?_ -- region 0
  refine s_assign h rfl _ rfl rfl (by decide) rfl (fun a h => ?_)
  refine s_assign h rfl _ rfl rfl (by decide) rfl (fun a h => ?_)
  refine l_end ?_
  refine wp_seq ?_
  refine c_rs ?_ -- region 1
  refine s_move h rfl _ rfl rfl (by decide) rfl (fun a h => ?_)
  refine s_x h rfl rfl (by decide) (x_eqlStr h.k rfl rfl rfl) (fun a h => ?_)
  refine l_end ?_
  refine c_cond h rfl (fun hb => ?_) (fun hb => ?_)
  · rw [if_pos (of_decide_eq_true hb)] at hf
    refine c_rs ?_ -- region 2
    refine s_assign h rfl _ rfl rfl (by decide) rfl (fun a h => ?_)
    refine s_assign h rfl _ rfl rfl (by decide) rfl (fun a h => ?_)
    refine l_end ?_
    refine wp_ret ?_
    refine e_thenR ?_
    obtain rfl := Option.some.inj hf
    have h := h.mem (h.m.nilrow 46 2)
    exact r_ret2 h rfl (rv_tmp h rfl) (rv_tmp h rfl) ⟨_, [.row (.slice none ([]).length 0) 46 2 ([]).length []], _, rfl, ⟨none, 0, [], rfl, rfl, (show reps (tyP tyI tyI) S0 [] [] from rfl), trivial⟩, rfl, (Up.refl _ _ _), h.m⟩
  · rw [if_neg (of_decide_eq_false hb)] at hf
    refine wp_skip ?_
    refine e_thenN ?_
    refine c_rs ?_ -- region 3
    refine s_move h rfl _ rfl rfl (by decide) rfl (fun a h => ?_)
    obtain ⟨x2, h3, hf⟩ := bsome hf
    have hX := strings_Split_ok Fu (S0 := snapAll _) (hGL.mono (h.m.leAll (i := 0) rfl)) a0 hra0 ([32] : List UInt8) (by decide) _ h3 _ h.startAll
    refine q_callX hX h rfl rfl rfl (by decide) Tryd.func31 rfl rfl rfl (fun a w v L1 S1 hR hb1 h => ?_)
    obtain ⟨A5, c6, cs7, rfl, rfl, hq8, _⟩ := hR
    have hq9 := hq8.fl (S' := S0) fl_S
    refine s_assign h rfl _ rfl rfl (by decide) rfl (fun a h => ?_)
    refine l_end ?_
    refine wp_seq ?_
    refine c_rs ?_ -- region 4
    refine s_move h rfl _ rfl rfl (by decide) rfl (fun a h => ?_)
    have hr10 : r64 (x2.length : Int) := len_r (h.m.rowLen (i := 0) rfl)
    refine s_x h rfl rfl (by decide) (x_len h.k rfl Tryd.underlying39 rfl) (fun a h => ?_)
    refine s_x h rfl rfl (by decide) (x_bin h.k rfl rfl rfl ib_gtr) (fun a h => ?_)
    refine l_end ?_
    refine c_cond h rfl (fun hb => ?_) (fun hb => ?_)
    · rw [if_pos (of_decide_eq_true hb)] at hf
      refine c_rs ?_ -- region 5
      refine s_assign h rfl _ rfl rfl (by decide) rfl (fun a h => ?_)
      refine s_assign h rfl _ rfl rfl (by decide) rfl (fun a h => ?_)
      refine l_end ?_
      refine wp_ret ?_
      refine e_thenR ?_
      obtain rfl := Option.some.inj hf
      have h := h.mem (h.m.nilrow 46 2)
      exact r_ret2 h rfl (rv_tmp h rfl) (rv_tmp h rfl) ⟨_, [.row (.slice none ([]).length 0) 46 2 ([]).length []], _, rfl, ⟨none, 0, [], rfl, rfl, (show reps (tyP tyI tyI) S0 [] [] from rfl), trivial⟩, rfl, (Up.refl _ _ _), (h.m.pick [0, 2] _ (by decide) rfl)⟩
    · rw [if_neg (of_decide_eq_false hb)] at hf
      refine wp_skip ?_
      refine e_thenN ?_
      refine c_rs ?_ -- region 6
      refine s_assign h rfl _ rfl rfl (by decide) rfl (fun a h => ?_)
      refine l_end ?_
      refine wp_seq ?_
      refine c_rs ?_ -- region 7
      refine s_move h rfl _ rfl rfl (by decide) rfl (fun a h => ?_)
      have hr12 : r64 (x2.length : Int) := len_r (h.m.rowLen (i := 0) rfl)
      refine s_x h rfl rfl (by decide) (x_len h.k rfl Tryd.underlying39 rfl) (fun a h => ?_)
      refine s_move h rfl _ rfl rfl (by decide) rfl (fun a h => ?_)
      refine l_end ?_
      obtain ⟨o13, hl14, hf⟩ := bsome hf
      refine c_fin (fun a w => ∃ (x22 : List (Int × Int)), ∃ (A23 : Option Addr), ∃ (c24 : Nat), ∃ (cs25 : List Value), (.inr x22) = o13 ∧ reps (tyP tyI tyI) S0 cs25 x22 ∧ St 36 w0 (ownL ([] ++ [.sn S0])) [(5, .slice A23 x22.length c24)] [.row (.slice A23 x22.length c24) 46 2 x22.length cs25, .sn S0] a w) ?_ ?_
      · refine wp_block ?_
        have h := h.mem (h.m.nilrow 46 2)
        refine c_loop (fun m28 a w => ∃ (x15 : List (Int × Int)), ∃ (A16 : Option Addr), ∃ (c17 : Nat), ∃ (cs18 : List Value), ∃ (x20 : Int), show_Parse_l0 Fu x2 m28 x15 x20 = some o13 ∧ reps (tyP tyI tyI) S0 cs18 x15 ∧ r64 x20 ∧ St 36 w0 (ownL ([] ++ [.sn S0])) [(5, .slice A16 x15.length c17), (17, .slice A5 x2.length c6), (18, .int .i64 (x2.length : Int)), (19, .int .i64 x20)] [.row (.slice A16 x15.length c17) 46 2 x15.length cs18, .row (.slice A5 x2.length c6) 9 1 x2.length cs7, .sn S0] a w) Fu ⟨[], none, 0, [], 0, hl14, (show reps (tyP tyI tyI) S0 [] [] from rfl), (show r64 0 from ⟨by decide, by decide⟩), h.has (by exact ⟨rfl, rfl, rfl, rfl, trivial⟩)⟩ (fun m28 a w hI => ?_)
        obtain ⟨x15, A16, c17, cs18, x20, hl27, hq19, hr21, h⟩ := hI
        obtain _ | m28 := m28
        · rw [show_Parse_l0] at hl27; cases hl27
        rw [show_Parse_l0] at hl27
        refine c_rs ?_ -- region 8
        refine s_x h rfl rfl (by decide) (x_bin h.k rfl rfl rfl ib_lss) (fun a h => ?_)
        refine l_end ?_
        refine c_cs h rfl (fun hb => ?_) (fun hb => ?_)
        · rw [if_pos (of_decide_eq_true hb)] at hl27
          refine wp_skip ?_
          refine e_thenN ?_
          refine wp_seq ?_
          refine wp_block ?_
          refine c_rs ?_ -- region 9
          obtain ⟨m30, h31, hl27⟩ := bsome hl27
          obtain ⟨hi32, hm33⟩ := ix_some h31
          obtain ⟨g35, hA34⟩ := h.m.rowHead (i := 1) rfl (Nat.lt_of_le_of_lt (Nat.zero_le _) hm33)
          refine s_x h rfl rfl (by decide) (x_iaddrE h.k rfl Tryd.underlying39 sz_string hA34 rfl rfl hi32 hm33) (fun a h => ?_)
          obtain ⟨x36, h37, hl27⟩ := bsome hl27
          obtain ⟨u38, hv39, hu40⟩ := (hq9).cell rfl h37
          obtain ⟨e42, hr41⟩ := hu40
          cases e42
          refine s_x h rfl rfl (by decide) (x_ld h.k rfl Tryd.underlying9 rfl rfl (h.m.cellRowE (i := 1) rfl hA34 _ (by rw [Nat.mul_one]; exact hv39))) (fun a h => ?_)
          refine s_assign h rfl _ rfl rfl (by decide) rfl (fun a h => ?_)
          refine l_end ?_
          refine c_rs ?_ -- region 10
          refine s_move h rfl _ rfl rfl (by decide) rfl (fun a h => ?_)
          obtain ⟨x43, h44, hl27⟩ := bsome hl27
          have hX := show_one_ok Fu (S0 := snapAll _) (hGL.mono (h.m.leAll (i := 2) rfl)) x36 hr41 _ h44 _ h.startAll
          refine q_callX hX h rfl rfl rfl (by decide) Tryd.func32 rfl rfl rfl (fun a w v L1 S1 hR hb1 h => ?_)
          obtain ⟨k46, rfl, rfl, hv47, _⟩ := hR
          obtain ⟨k48, k49, rfl, ⟨rfl, hr50⟩, ⟨rfl, hr51⟩⟩ := hv47
          refine s_move h rfl _ rfl rfl (by decide) rfl (fun a h => ?_)
          refine s_x h rfl rfl (by decide) (x_ext h.k rfl rfl rfl) (fun a h => ?_)
          refine s_x h rfl rfl (by decide) (x_ext h.k rfl rfl rfl) (fun a h => ?_)
          refine s_alloc h rfl rfl rfl (by decide) zi_api_Extent rfl (fun a w g52 h => ?_)
          refine s_stW h rfl rfl rfl ag_api_Extent rfl (es := [.int .i64 x43.1.1, .int .i64 x43.1.2]) rfl rfl (by simp [Value.oneCell']) 0 rfl rfl (fun a w h => ?_)
          refine s_assign h rfl _ rfl rfl (by decide) rfl (fun a h => ?_)
          refine l_end ?_
          refine wp_seq ?_
          refine c_rs ?_ -- region 11
          refine s_move h rfl _ rfl rfl (by decide) rfl (fun a h => ?_)
          refine s_x h rfl rfl (by decide) (x_not h.k rfl rfl) (fun a h => ?_)
          refine l_end ?_
          refine c_cond h rfl (fun hb => ?_) (fun hb => ?_)
          · rw [if_pos hb] at hl27
            refine c_rs ?_ -- region 12
            refine s_assign h rfl _ rfl rfl (by decide) rfl (fun a h => ?_)
            refine s_assign h rfl _ rfl rfl (by decide) rfl (fun a h => ?_)
            refine l_end ?_
            refine wp_ret ?_
            refine e_thenR ?_
            refine e_blkR ?_
            refine e_thenR ?_
            refine e_thenR ?_
            refine e_blkR ?_
            refine e_thenR ?_
            cases hl27
            try dsimp only at hf
            refine e_thenR ?_
            obtain rfl := Option.some.inj hf
            have h := h.mem (h.m.nilrow 46 2)
            exact r_ret2 h rfl (rv_tmp h rfl) (rv_tmp h rfl) ⟨_, [.row (.slice none ([]).length 0) 46 2 ([]).length []], _, rfl, ⟨none, 0, [], rfl, rfl, (show reps (tyP tyI tyI) S0 [] [] from rfl), trivial⟩, rfl, (Up.refl _ _ _), (h.m.pick [0, 4] _ (by decide) rfl)⟩
          · rw [if_neg (by rw [hb]; decide)] at hl27
            refine wp_skip ?_
            refine e_thenN ?_
            refine c_r ?_ -- region 13
            refine s_move h rfl _ rfl rfl (by decide) rfl (fun a h => ?_)
            refine s_x h rfl rfl (by decide) (x_ldR h.k rfl ag_api_Extent rfl ([.int .i64 x43.1.1, .int .i64 x43.1.2]) rfl (h.m.range0 (i := 0) rfl)) (fun a h => ?_)
            refine q_bslice (T := tyP tyI tyI) (S := S0) h rfl rfl rfl (by decide) Tryd.underlying29 zi_api_Extent (by decide) (by decide) (by decide) (by decide) [.agg ([.int .i64 x43.1.1, .int .i64 x43.1.2]).toArray] rfl rfl (C := [[.int .i64 x43.1.1, .int .i64 x43.1.2]]) rfl (xs := [x43.1]) ⟨[.int .i64 x43.1.1, .int .i64 x43.1.2], _, rfl, ⟨[.int .i64 x43.1.1], [.int .i64 x43.1.2], rfl, ⟨rfl, hr50⟩, ⟨rfl, hr51⟩⟩, rfl⟩ (by intro c hc; simp only [List.mem_cons, List.not_mem_nil, or_false] at hc; subst hc; rfl) (fun a w A54 h => ?_)
            have hb55 : reps (tyP tyI tyI) S0 ([[.int .i64 x43.1.1, .int .i64 x43.1.2]] : List (List Value)).flatten [x43.1] := ⟨[.int .i64 x43.1.1, .int .i64 x43.1.2], _, rfl, ⟨[.int .i64 x43.1.1], [.int .i64 x43.1.2], rfl, ⟨rfl, hr50⟩, ⟨rfl, hr51⟩⟩, rfl⟩
            obtain ⟨x56, h57, hl27⟩ := bsome hl27
            refine q_append (T := tyP tyI tyI) (S := S0) h rfl rfl rfl (by decide) Tryd.underlying29 zb_api_Extent rfl (by decide) rfl 2 rfl hq19 rfl hb55 (h.m.rdRowA (i := 0) rfl) h57 (fun a w A58 c59 cs60 hq61 h => ?_)
            refine s_assign h rfl _ rfl rfl (by decide) rfl (fun a h => ?_)
            refine l_nil ?_
            refine e_blkN ?_
            refine e_thenN ?_
            refine c_r ?_ -- region 14
            refine s_x h rfl rfl (by decide) (x_bin h.k rfl rfl rfl (ib_add rfl)) (fun a h => ?_)
            refine s_move h rfl _ rfl rfl (by decide) rfl (fun a h => ?_)
            refine l_nil ?_
            have h := h.pick [2, 3, 4] (by decide) rfl
            exact e_thenN ⟨m28, Nat.lt_succ_self _, x56, A58, c59, cs60, w64 (x20 + 1), hl27, hq61, (w64_r _), h.has (by exact ⟨rfl, rfl, rfl, rfl, trivial⟩)⟩
        · rw [if_neg (of_decide_eq_false hb)] at hl27
          refine wp_exit ?_
          refine e_thenX ?_
          refine e_thenX ?_
          refine e_blkX ?_
          refine e_thenN ?_
          have h := h.pick [0, 2] (by decide) rfl
          exact ⟨x15, A16, c17, cs18, (Option.some.inj hl27), hq19, h.has (by exact ⟨rfl, trivial⟩)⟩
      · rintro a w ⟨x22, A23, c24, cs25, rfl, hq26, h⟩
        try dsimp only at hf
        refine e_thenN ?_
        refine c_rs ?_ -- region 15
        refine s_move h rfl _ rfl rfl (by decide) rfl (fun a h => ?_)
        refine s_assign h rfl _ rfl rfl (by decide) rfl (fun a h => ?_)
        refine s_assign h rfl _ rfl rfl (by decide) rfl (fun a h => ?_)
        refine l_end ?_
        refine wp_ret ?_
        obtain rfl := Option.some.inj hf
        exact r_ret2 h rfl (rv_tmp h rfl) (rv_tmp h rfl) ⟨_, [.row (.slice A23 x22.length c24) 46 2 x22.length cs25], _, rfl, ⟨A23, c24, cs25, rfl, rfl, hq26, trivial⟩, rfl, (Up.refl _ _ _), h.m⟩
def en_api_Extent (x : Int × Int) : List Value := [.int .i64 x.1, .int .i64 x.2]
theorem gd_api_Extent : Tryd.prog.eqGuardType Tryd.prog.depth 46 = false := by kernel_rfl
theorem eqs_api_Extent (w : World) (x y : Int × Int) : (Op.equalIn 10000 46 (.agg (en_api_Extent x).toArray) (.agg (en_api_Extent y).toArray)).run Tryd.prog w = .ok (decide (x = y)) w := by
  have hq : Tryd.prog.stoodInHeld 46 = false := by kernel_rfl
  rw [run_equalIn_struct w 9999 _ _ _ (by simp only [Program.fieldsOf, Tryd.underlying46]) hq]
  simp only [Program.fieldsOf, Tryd.underlying46]
  refine Eq.trans (b := .ok ((x.1 == y.1) && ((x.2 == y.2) && true)) w) ?_ ?_
  · refine eqf_cons' (by decide) (part_one w Tryd.underlying3 rfl _ _ _ rfl) (part_one w Tryd.underlying3 rfl _ _ _ rfl) (run_equalIn_int w 9998 _ .i64 .i64 _ _ Tryd.underlying3) ?_
    refine eqf_cons' (by decide) (part_one w Tryd.underlying3 rfl _ _ _ rfl) (part_one w Tryd.underlying3 rfl _ _ _ rfl) (run_equalIn_int w 9998 _ .i64 .i64 _ _ Tryd.underlying3) ?_
    exact eqf_nil'
  · refine congrArg (fun b => Result.ok b w) ?_
    obtain ⟨x0, x1⟩ := x
    obtain ⟨y0, y1⟩ := y
    rw [Bool.eq_iff_iff]
    simp
def chatelaineref14_Same_l0 (Fu : Nat) (a0 : List (Int × Int)) (a1 : List (Int × Int)) : Nat → Int → Option (Sum Bool Unit)
  | 0, _ => none
  | k + 1, x3 => if x3 < (a0.length : Int) then ((idx a0 x3).bind fun x7 => (idx a1 x3).bind fun x23 => if (!(decide (x7 = x23))) = true then (some (.inl false)) else (chatelaineref14_Same_l0 Fu a0 a1 k (w64 (x3 + 1)))) else (some (.inr ()))
def chatelaineref14_Same (Fu : Nat) (a0 : List (Int × Int)) (a1 : List (Int × Int)) : Option Bool :=
  if (a0.length : Int) ≠ (a1.length : Int) then (some false) else ((chatelaineref14_Same_l0 Fu a0 a1 Fu 0).bind fun o => match o with | .inl r39 => some r39 | .inr _ => some true)
set_option maxRecDepth 100000 in
set_option maxHeartbeats 2000000 in
theorem chatelaineref14_Same_ok (Fu : Nat) {S0 : Snap} (Aa0 : Option Addr) (ca0 : Nat) (a0 : List (Int × Int)) (hsa0 : slS (tyP tyI tyI) S0 Aa0 ca0 a0) (Aa1 : Option Addr) (ca1 : Nat) (a1 : List (Int × Int)) (hsa1 : slS (tyP tyI tyI) S0 Aa1 ca1 a1) (r : Bool) (hf : chatelaineref14_Same Fu a0 a1 = some r) (w0 : World) (hm : Mem w0 (ownL ([] ++ [.sn S0])) ([] ++ [.sn S0]) w0) :
    Calls Tryd.prog 17 #[.slice Aa0 a0.length ca0, .slice Aa1 a1.length ca1] w0 (Ret w0 S0 [] (fun v L1 S1 => v = .bool r ∧ L1 = [] ∧ True)) := by
  unfold chatelaineref14_Same at hf
  refine c_enterM Tryd.func17 rfl 26 rfl (by simp) _ hm _ rfl (fun a h => ?_)
  refine c_rs ?_ -- region 0
  refine s_assign h rfl _ rfl rfl (by decide) rfl (fun a h => ?_)
  refine l_end ?_
  refine wp_seq ?_
  refine c_rs ?_ -- region 1
  refine s_move h rfl _ rfl rfl (by decide) rfl (fun a h => ?_)
  refine s_x h rfl rfl (by decide) (x_len h.k rfl Tryd.underlying29 rfl) (fun a h => ?_)
  refine s_move h rfl _ rfl rfl (by decide) rfl (fun a h => ?_)
  refine s_x h rfl rfl (by decide) (x_len h.k rfl Tryd.underlying29 rfl) (fun a h => ?_)
  refine s_x h rfl rfl (by decide) (x_bin h.k rfl rfl rfl ib_neq) (fun a h => ?_)
  refine l_end ?_
  refine c_cond h rfl (fun hb => ?_) (fun hb => ?_)
  · rw [if_pos (of_decide_eq_true hb)] at hf
    refine c_rs ?_ -- region 2
    refine s_assign h rfl _ rfl rfl (by decide) rfl (fun a h => ?_)
    refine l_end ?_
    refine wp_ret ?_
    refine e_thenR ?_
    rw [← Option.some.inj hf]
    exact r_ret1 h rfl (rv_tmp h rfl) ⟨_, [], _, rfl, ⟨rfl, rfl, trivial⟩, rfl, (Up.refl _ _ _), h.m⟩
  · rw [if_neg (of_decide_eq_false hb)] at hf
    refine wp_skip ?_
    refine e_thenN ?_
    refine wp_seq ?_
    refine c_rs ?_ -- region 3
    refine s_assign h rfl _ rfl rfl (by decide) rfl (fun a h => ?_)
    refine l_end ?_
    obtain ⟨o1, hl2, hf⟩ := bsome hf
    refine c_fin (fun a w => (.inr ()) = o1 ∧ St 26 w0 (ownL ([] ++ [.sn S0])) [] [.sn S0] a w) ?_ ?_
    · refine wp_block ?_
      refine c_loop (fun m6 a w => ∃ (x3 : Int), chatelaineref14_Same_l0 Fu a0 a1 m6 x3 = some o1 ∧ r64 x3 ∧ St 26 w0 (ownL ([] ++ [.sn S0])) [(0, .slice Aa0 a0.length ca0), (1, .slice Aa1 a1.length ca1), (5, .int .i64 x3)] [.sn S0] a w) Fu ⟨0, hl2, (show r64 0 from ⟨by decide, by decide⟩), h.has (by exact ⟨rfl, rfl, rfl, trivial⟩)⟩ (fun m6 a w hI => ?_)
      obtain ⟨x3, hl5, hr4, h⟩ := hI
      obtain _ | m6 := m6
      · rw [chatelaineref14_Same_l0] at hl5; cases hl5
      rw [chatelaineref14_Same_l0] at hl5
      refine wp_seq ?_
      refine c_rs ?_ -- region 4
      refine s_move h rfl _ rfl rfl (by decide) rfl (fun a h => ?_)
      refine s_move h rfl _ rfl rfl (by decide) rfl (fun a h => ?_)
      refine s_x h rfl rfl (by decide) (x_len h.k rfl Tryd.underlying29 rfl) (fun a h => ?_)
      refine s_x h rfl rfl (by decide) (x_bin h.k rfl rfl rfl ib_lss) (fun a h => ?_)
      refine l_end ?_
      refine c_cond h rfl (fun hb => ?_) (fun hb => ?_)
      · rw [if_pos (of_decide_eq_true hb)] at hl5
        refine wp_skip ?_
        refine e_thenN ?_
        refine wp_seq ?_
        refine wp_block ?_
        refine wp_seq ?_
        -- region 6 draws
        obtain ⟨x7, h11, hl5⟩ := bsome hl5
        obtain ⟨x23, h27, hl5⟩ := bsome hl5
        refine d_start h (Mem _ _ _) 9 9 rfl (by kernel_rfl) (fun _ _ _ _ _ h => h) (fun _ h => h) (fun Q a w HE HN h HS => ?_)
        refine d_takeP h (fun _ => HS) HN 0 rfl (by kernel_rfl) (by kernel_rfl) (by kernel_rfl) (by decide) rfl rfl (by decide) (fun w' => x_move h.k _ rfl rfl) (fun a h => ?_)
        refine d_takeP h (fun _ => HS) HN 1 rfl (by kernel_rfl) (by kernel_rfl) (by kernel_rfl) (by decide) rfl rfl (by decide) (fun w' => x_move h.k _ rfl rfl) (fun a h => ?_)
        obtain ⟨m8, hi12, hm13, hx14⟩ := idx_some h11
        obtain ⟨b9, off10, k15, hA16, hu17, hc18⟩ := (hsa0).at (by decide) hx14 (h.m.snOK (i := 0) rfl)
        obtain ⟨k19, k20, rfl, ⟨rfl, hr21⟩, ⟨rfl, hr22⟩⟩ := hu17
        refine d_takeP h (fun _ => HS) HN 2 rfl (by kernel_rfl) (by kernel_rfl) (by kernel_rfl) (by decide) rfl rfl (by decide) (fun w' => x_iaddrE h.k rfl Tryd.underlying29 sz_api_Extent hA16 rfl rfl hi12 hm13) (fun a h => ?_)
        refine d_take h HS HN 3 rfl (by kernel_rfl) (by kernel_rfl) (by kernel_rfl) (by kernel_rfl) (by kernel_rfl) rfl rfl (by decide) (fun w' hw => x_ldR h.k rfl ag_api_Extent rfl ([.int .i64 x7.1, .int .i64 x7.2]) rfl (hc18 _ (hw.snOK (i := 0) rfl))) (fun a h => ?_)
        refine d_takeP h (fun _ => HS) HN 4 rfl (by kernel_rfl) (by kernel_rfl) (by kernel_rfl) (by decide) rfl rfl (by decide) (fun w' => x_move h.k _ rfl rfl) (fun a h => ?_)
        refine d_takeP h (fun _ => HS) HN 5 rfl (by kernel_rfl) (by kernel_rfl) (by kernel_rfl) (by decide) rfl rfl (by decide) (fun w' => x_move h.k _ rfl rfl) (fun a h => ?_)
        obtain ⟨m24, hi28, hm29, hx30⟩ := idx_some h27
        obtain ⟨b25, off26, k31, hA32, hu33, hc34⟩ := (hsa1).at (by decide) hx30 (h.m.snOK (i := 0) rfl)
        obtain ⟨k35, k36, rfl, ⟨rfl, hr37⟩, ⟨rfl, hr38⟩⟩ := hu33
        refine d_takeP h (fun _ => HS) HN 6 rfl (by kernel_rfl) (by kernel_rfl) (by kernel_rfl) (by decide) rfl rfl (by decide) (fun w' => x_iaddrE h.k rfl Tryd.underlying29 sz_api_Extent hA32 rfl rfl hi28 hm29) (fun a h => ?_)
        refine d_take h HS HN 7 rfl (by kernel_rfl) (by kernel_rfl) (by kernel_rfl) (by kernel_rfl) (by kernel_rfl) rfl rfl (by decide) (fun w' hw => x_ldR h.k rfl ag_api_Extent rfl ([.int .i64 x23.1, .int .i64 x23.2]) rfl (hc34 _ (hw.snOK (i := 0) rfl))) (fun a h => ?_)
        refine d_takeP h (fun _ => HS) HN 8 rfl (by kernel_rfl) (by kernel_rfl) (by kernel_rfl) (by decide) rfl rfl (by decide) (fun w' => x_neqS h.k rfl rfl rfl gd_api_Extent (eqs_api_Extent _ x7 x23)) (fun a h => ?_)
        refine d_done (by kernel_rfl) (HE _ _ ?_) _
        refine e_thenN ?_
        refine c_cond h rfl (fun hb => ?_) (fun hb => ?_)
        · rw [if_pos hb] at hl5
          refine c_rs ?_ -- region 7
          refine s_assign h rfl _ rfl rfl (by decide) rfl (fun a h => ?_)
          refine l_end ?_
          refine wp_ret ?_
          refine e_blkR ?_
          refine e_thenR ?_
          refine e_thenR ?_
          refine e_blkR ?_
          refine e_thenR ?_
          cases hl5
          try dsimp only at hf
          refine e_thenR ?_
          rw [← Option.some.inj hf]
          exact r_ret1 h rfl (rv_tmp h rfl) ⟨_, [], _, rfl, ⟨rfl, rfl, trivial⟩, rfl, (Up.refl _ _ _), h.m⟩
        · rw [if_neg (by rw [hb]; decide)] at hl5
          refine wp_skip ?_
          refine e_blkN ?_
          refine e_thenN ?_
          refine c_r ?_ -- region 5
          refine s_move h rfl _ rfl rfl (by decide) rfl (fun a h => ?_)
          refine s_x h rfl rfl (by decide) (x_bin h.k rfl rfl rfl (ib_add rfl)) (fun a h => ?_)
          refine s_assign h rfl _ rfl rfl (by decide) rfl (fun a h => ?_)
          refine l_nil ?_
          exact e_thenN ⟨m6, Nat.lt_succ_self _, w64 (x3 + 1), hl5, (w64_r _), h.has (by exact ⟨rfl, rfl, rfl, trivial⟩)⟩
      · rw [if_neg (of_decide_eq_false hb)] at hl5
        refine wp_exit ?_
        refine e_thenX ?_
        refine e_thenX ?_
        refine e_blkX ?_
        refine e_thenN ?_
        exact ⟨(Option.some.inj hl5), h.has trivial⟩
    · rintro a w ⟨rfl, h⟩
      try dsimp only at hf
      refine e_thenN ?_
      refine c_rs ?_ -- region 8
      refine s_assign h rfl _ rfl rfl (by decide) rfl (fun a h => ?_)
      refine l_end ?_
      refine wp_ret ?_
      rw [← Option.some.inj hf]
      exact r_ret1 h rfl (rv_tmp h rfl) ⟨_, [], _, rfl, ⟨rfl, rfl, trivial⟩, rfl, (Up.refl _ _ _), h.m⟩
end Go.Proofs.YtnmeelkfpmodgaaDoor
