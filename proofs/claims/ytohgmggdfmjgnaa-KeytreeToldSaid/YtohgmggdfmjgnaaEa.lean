/- Ea: Go functions as plain functions, and that they are so (written by xt.py). -/
import Derived.Test.YtohgmggdfmjgnaaPm
import Derived.Test.YtohgmggdfmjgnaaTy
import Derived.Test.YtohgmggdfmjgnaaTerm2
set_option linter.unusedVariables false
set_option linter.unusedSimpArgs false
namespace Go.Proofs.Ytohgmggdfmjgnaa
open Go.RowKit
def path_may (Fu : Nat) (a0 : Int) : Option Bool :=
  some ((decide (1 ≤ a0)) && (decide (a0 ≤ 4096)))
set_option maxRecDepth 100000 in
set_option maxHeartbeats 2000000 in
theorem path_may_ok (Fu : Nat) {S0 : Snap} (a0 : Int) (hra0 : r64 a0) (r : Bool) (hf : path_may Fu a0 = some r) (w0 : World) (hm : Mem w0 (ownL ([] ++ [.sn S0])) ([] ++ [.sn S0]) w0) :
    Calls Try.prog 42 #[.int .i64 a0] w0 (Ret w0 S0 [] (fun v L1 S1 => v = .bool r ∧ L1 = [] ∧ True)) := by
  unfold path_may at hf
  refine c_enterM Try.func42 rfl 9 rfl (by simp) _ hm _ rfl (fun a h => ?_)
  refine c_rs ?_
  refine sAV h (fun a h => ?_)
  refine l_end ?_
  refine c_rs ?_
  refine sMV h (fun a h => ?_)
  refine sX h (x_bin h.k rfl rfl rfl ib_geq) (fun a h => ?_)
  refine sMV h (fun a h => ?_)
  refine q_grp h 3 (t := 5) 8 ((decide (1 ≤ a0)) && (decide (a0 ≤ 4096))) rfl (fun hB2 => ?_) (fun hB2 => ?_) (fun a w h => ?_)
  · refine g_yes h rfl rfl rfl rfl hB2 ?_
    refine sMV h (fun a h => ?_)
    refine g_yes h rfl rfl rfl rfl hB2 ?_
    refine sX h (x_bin h.k rfl rfl rfl ib_leq) (fun a h => ?_)
    refine sX h (x_pick (u' := undef) h.k rfl rfl (fun _ => rfl) (fun hh => absurd (hB2.symm.trans hh) (by decide))) (fun a h => ?_)
    exact (h.mid 2 rfl).val (by first | rfl | (rw [hB2]; first | rfl | simp))
  · refine g_no h rfl rfl rfl rfl hB2 rfl (by decide) (fun a h => ?_)
    refine g_no h rfl rfl rfl rfl hB2 rfl (by decide) (fun a h => ?_)
    refine sX h (x_pick (u' := undef) h.k rfl rfl (fun hh => absurd (hB2.symm.trans hh) (by decide)) (fun _ => rfl)) (fun a h => ?_)
    exact (h.mid 2 rfl).val (by first | rfl | (rw [hB2]; first | rfl | simp))
  refine sAV h (fun a h => ?_)
  refine l_end ?_
  refine wp_ret ?_
  obtain rfl := Option.some.inj hf
  exact r_ret1 h rfl (rv_tmp h rfl) ⟨_, [], _, rfl, ⟨rfl, rfl, trivial⟩, rfl, (Up.refl _ _ _), h.m⟩
def path_Depth_l0 (Fu : Nat) (a0 : Int) : Nat → Int → Int → Option Int
  | 0, _, _ => none
  | k + 1, x6, x8 => if x8 < a0 then (path_Depth_l0 Fu a0 k (w64 (x6 + 1)) (w64 (x8 * 4))) else (some x6)
def path_Depth (Fu : Nat) (a0 : Int) : Option Int :=
  (path_may Fu a0).bind fun x1 => if (!x1) = true then (some 0) else ((path_Depth_l0 Fu a0 Fu 1 4).bind fun x10 => some x10)
set_option maxRecDepth 100000 in
set_option maxHeartbeats 2000000 in
theorem path_Depth_ok (Fu : Nat) {S0 : Snap} (a0 : Int) (hra0 : r64 a0) (r : Int) (hf : path_Depth Fu a0 = some r) (w0 : World) (hm : Mem w0 (ownL ([] ++ [.sn S0])) ([] ++ [.sn S0]) w0) :
    Calls Try.prog 21 #[.int .i64 a0] w0 (Ret w0 S0 [] (fun v L1 S1 => v = .int .i64 r ∧ L1 = [] ∧ r64 r ∧ True)) := by
  unfold path_Depth at hf
  refine c_enterM Try.func21 rfl 16 rfl (by simp) _ hm _ rfl (fun a h => ?_)
  refine c_rs ?_
  refine sAV h (fun a h => ?_)
  refine l_end ?_
  refine wp_seq ?_
  refine c_rs ?_
  refine sMV h (fun a h => ?_)
  obtain ⟨x1, h2, hf⟩ := bsome hf
  have hX := path_may_ok Fu (S0 := snapAll _) a0 hra0 _ h2 _ h.startAll
  refine q_callX hX h rfl rfl rfl (by decide) Try.func42 rfl rfl rfl (fun a w v L1 S1 hR hb1 h => ?_)
  obtain ⟨rfl, rfl, _⟩ := hR
  refine sX h (x_not h.k rfl rfl) (fun a h => ?_)
  refine l_end ?_
  refine c_cond h rfl (fun hb => ?_) (fun hb => ?_)
  · rw [if_pos hb] at hf
    refine c_rs ?_
    refine sAV h (fun a h => ?_)
    refine l_end ?_
    refine wp_ret ?_
    refine e_thenR ?_
    rw [← Option.some.inj hf]
    exact r_ret1 h rfl (rv_tmp h rfl) ⟨_, [], _, rfl, ⟨rfl, rfl, (show r64 0 from ⟨by decide, by decide⟩), trivial⟩, rfl, (Up.refl _ _ _), h.m⟩
  · rw [if_neg (by rw [hb]; decide)] at hf
    refine wp_skip ?_
    refine e_thenN ?_
    refine c_rs ?_
    refine sAV h (fun a h => ?_)
    refine sAV h (fun a h => ?_)
    refine l_end ?_
    obtain ⟨o4, hl5, hf⟩ := bsome hf
    refine c_cut (fun a w => ∃ (x10 : Int), x10 = o4 ∧ r64 x10 ∧ St 16 w0 (ownL ([] ++ [.sn S0])) [(3, .int .i64 x10)] [.sn S0] a w) ?_ ?_
    · refine wp_block ?_
      refine c_loop (fun m13 a w => ∃ (x6 : Int), ∃ (x8 : Int), path_Depth_l0 Fu a0 m13 x6 x8 = some o4 ∧ r64 x6 ∧ r64 x8 ∧ St 16 w0 (ownL ([] ++ [.sn S0])) [(0, .int .i64 a0), (3, .int .i64 x6), (4, .int .i64 x8)] [.sn S0] a w) Fu ⟨1, 4, hl5, (show r64 1 from ⟨by decide, by decide⟩), (show r64 4 from ⟨by decide, by decide⟩), h.has (by exact ⟨rfl, rfl, rfl, trivial⟩)⟩ (fun m13 a w hI => ?_)
      obtain ⟨x6, x8, hl12, hr7, hr9, h⟩ := hI
      obtain _ | m13 := m13
      · rw [path_Depth_l0] at hl12; cases hl12
      rw [path_Depth_l0] at hl12
      refine wp_seq ?_
      refine c_rs ?_
      refine sMV h (fun a h => ?_)
      refine sMV h (fun a h => ?_)
      refine sX h (x_bin h.k rfl rfl rfl ib_lss) (fun a h => ?_)
      refine l_end ?_
      refine c_cond h rfl (fun hb => ?_) (fun hb => ?_)
      · rw [if_pos (of_decide_eq_true hb)] at hl12
        refine wp_skip ?_
        refine e_thenN ?_
        refine wp_block ?_
        refine c_r ?_
        refine sMV h (fun a h => ?_)
        refine sX h (x_bin h.k rfl rfl rfl (ib_add rfl)) (fun a h => ?_)
        refine sMV h (fun a h => ?_)
        refine sX h (x_bin h.k rfl rfl rfl (ib_mul rfl)) (fun a h => ?_)
        refine sAV h (fun a h => ?_)
        refine sAV h (fun a h => ?_)
        refine l_nil ?_
        refine e_blkN ?_
        exact e_thenN ⟨m13, Nat.lt_succ_self _, w64 (x6 + 1), w64 (x8 * 4), hl12, (w64_r _), (w64_r _), h.has (by exact ⟨rfl, rfl, rfl, trivial⟩)⟩
      · rw [if_neg (of_decide_eq_false hb)] at hl12
        refine wp_exit ?_
        refine e_thenX ?_
        refine e_thenX ?_
        refine e_blkX ?_
        refine e_thenN ?_
        exact ⟨x6, (Option.some.inj hl12), hr7, h.has (by exact ⟨rfl, trivial⟩)⟩
    · rintro a w ⟨x10, rfl, hr11, h⟩
      refine c_rs ?_
      refine sMV h (fun a h => ?_)
      refine sAV h (fun a h => ?_)
      refine l_end ?_
      refine wp_ret ?_
      rw [← Option.some.inj hf]
      exact r_ret1 h rfl (rv_tmp h rfl) ⟨_, [], _, rfl, ⟨rfl, rfl, hr11, trivial⟩, rfl, (Up.refl _ _ _), h.m⟩
def path_width_l0 (Fu : Nat) (a1 : Int) (x1 : Int) : Nat → Int → Int → Option Int
  | 0, _, _ => none
  | k + 1, x7, x9 => if x9 < w64 (x1 - a1) then (path_width_l0 Fu a1 x1 k (w64 (x7 * 4)) (w64 (x9 + 1))) else (some x7)
def path_width (Fu : Nat) (a0 : Int) (a1 : Int) : Option Int :=
  (path_Depth Fu a0).bind fun x1 => (path_width_l0 Fu a1 x1 Fu 1 0).bind fun x11 => some x11
set_option maxRecDepth 100000 in
set_option maxHeartbeats 2000000 in
theorem path_width_ok (Fu : Nat) {S0 : Snap} (a0 : Int) (hra0 : r64 a0) (a1 : Int) (hra1 : r64 a1) (r : Int) (hf : path_width Fu a0 a1 = some r) (w0 : World) (hm : Mem w0 (ownL ([] ++ [.sn S0])) ([] ++ [.sn S0]) w0) :
    Calls Try.prog 50 #[.int .i64 a0, .int .i64 a1] w0 (Ret w0 S0 [] (fun v L1 S1 => v = .int .i64 r ∧ L1 = [] ∧ r64 r ∧ True)) := by
  unfold path_width at hf
  refine c_enterM Try.func50 rfl 16 rfl (by simp) _ hm _ rfl (fun a h => ?_)
  refine c_rs ?_
  refine sAV h (fun a h => ?_)
  refine l_end ?_
  refine c_rs ?_
  refine sAV h (fun a h => ?_)
  refine l_end ?_
  refine wp_seq ?_
  refine c_rs ?_
  refine sMV h (fun a h => ?_)
  obtain ⟨x1, h2, hf⟩ := bsome hf
  have hX := path_Depth_ok Fu (S0 := snapAll _) a0 hra0 _ h2 _ h.startAll
  refine q_callX hX h rfl rfl rfl (by decide) Try.func21 rfl rfl rfl (fun a w v L1 S1 hR hb1 h => ?_)
  obtain ⟨rfl, rfl, hr4, _⟩ := hR
  refine sMV h (fun a h => ?_)
  refine sX h (x_bin h.k rfl rfl rfl (ib_sub rfl)) (fun a h => ?_)
  refine sMV h (fun a h => ?_)
  refine l_end ?_
  obtain ⟨o5, hl6, hf⟩ := bsome hf
  refine c_fin (fun a w => ∃ (x11 : Int), x11 = o5 ∧ r64 x11 ∧ St 16 w0 (ownL ([] ++ [.sn S0])) [(5, .int .i64 x11)] [.sn S0] a w) ?_ ?_
  · refine wp_block ?_
    refine c_loop (fun m14 a w => ∃ (x7 : Int), ∃ (x9 : Int), path_width_l0 Fu a1 x1 m14 x7 x9 = some o5 ∧ r64 x7 ∧ r64 x9 ∧ St 16 w0 (ownL ([] ++ [.sn S0])) [(5, .int .i64 x7), (9, .int .i64 (w64 (x1 - a1))), (10, .int .i64 x9)] [.sn S0] a w) Fu ⟨1, 0, hl6, (show r64 1 from ⟨by decide, by decide⟩), (show r64 0 from ⟨by decide, by decide⟩), h.has (by exact ⟨rfl, rfl, rfl, trivial⟩)⟩ (fun m14 a w hI => ?_)
    obtain ⟨x7, x9, hl13, hr8, hr10, h⟩ := hI
    obtain _ | m14 := m14
    · rw [path_width_l0] at hl13; cases hl13
    rw [path_width_l0] at hl13
    refine c_rs ?_
    refine sX h (x_bin h.k rfl rfl rfl ib_lss) (fun a h => ?_)
    refine l_end ?_
    refine c_cs h rfl (fun hb => ?_) (fun hb => ?_)
    · rw [if_pos (of_decide_eq_true hb)] at hl13
      refine wp_skip ?_
      refine e_thenN ?_
      refine wp_seq ?_
      refine wp_block ?_
      refine c_r ?_
      refine sMV h (fun a h => ?_)
      refine sX h (x_bin h.k rfl rfl rfl (ib_mul rfl)) (fun a h => ?_)
      refine sAV h (fun a h => ?_)
      refine l_nil ?_
      refine e_blkN ?_
      refine e_thenN ?_
      refine c_r ?_
      refine sX h (x_bin h.k rfl rfl rfl (ib_add rfl)) (fun a h => ?_)
      refine sMV h (fun a h => ?_)
      refine l_nil ?_
      exact e_thenN ⟨m14, Nat.lt_succ_self _, w64 (x7 * 4), w64 (x9 + 1), hl13, (w64_r _), (w64_r _), h.has (by exact ⟨rfl, rfl, rfl, trivial⟩)⟩
    · rw [if_neg (of_decide_eq_false hb)] at hl13
      refine wp_exit ?_
      refine e_thenX ?_
      refine e_thenX ?_
      refine e_blkX ?_
      refine e_thenN ?_
      exact ⟨x7, (Option.some.inj hl13), hr8, h.has (by exact ⟨rfl, trivial⟩)⟩
  · rintro a w ⟨x11, rfl, hr12, h⟩
    refine e_thenN ?_
    refine c_rs ?_
    refine sMV h (fun a h => ?_)
    refine sAV h (fun a h => ?_)
    refine l_end ?_
    refine wp_ret ?_
    rw [← Option.some.inj hf]
    exact r_ret1 h rfl (rv_tmp h rfl) ⟨_, [], _, rfl, ⟨rfl, rfl, hr12, trivial⟩, rfl, (Up.refl _ _ _), h.m⟩
def path_Count (Fu : Nat) (a0 : Int) (a1 : Int) : Option Int :=
  (path_may Fu a0).bind fun x1 => (if ((!x1) || (decide (a1 < 0))) = true then some true else (path_Depth Fu a0).bind fun x9 => some (decide (x9 < a1))).bind fun z7 => if z7 = true then (some 0) else ((path_width Fu a0 a1).bind fun x13 => (quoI (w64 ((w64 (a0 + x13)) - 1)) x13).bind fun x17 => some x17)
set_option maxRecDepth 100000 in
set_option maxHeartbeats 2000000 in
theorem path_Count_ok (Fu : Nat) {S0 : Snap} (a0 : Int) (hra0 : r64 a0) (a1 : Int) (hra1 : r64 a1) (r : Int) (hf : path_Count Fu a0 a1 = some r) (w0 : World) (hm : Mem w0 (ownL ([] ++ [.sn S0])) ([] ++ [.sn S0]) w0) :
    Calls Try.prog 48 #[.int .i64 a0, .int .i64 a1] w0 (Ret w0 S0 [] (fun v L1 S1 => v = .int .i64 r ∧ L1 = [] ∧ r64 r ∧ True)) := by
  unfold path_Count at hf
  refine c_enterM Try.func48 rfl 28 rfl (by simp) _ hm _ rfl (fun a h => ?_)
  refine c_rs ?_
  refine sAV h (fun a h => ?_)
  refine l_end ?_
  refine wp_seq ?_
  refine c_rs ?_
  refine sMV h (fun a h => ?_)
  obtain ⟨x1, h2, hf⟩ := bsome hf
  have hX := path_may_ok Fu (S0 := snapAll _) a0 hra0 _ h2 _ h.startAll
  refine q_callX hX h rfl rfl rfl (by decide) Try.func42 rfl rfl rfl (fun a w v L1 S1 hR hb1 h => ?_)
  obtain ⟨rfl, rfl, _⟩ := hR
  refine sX h (x_not h.k rfl rfl) (fun a h => ?_)
  refine sMV h (fun a h => ?_)
  refine q_grp h 3 (t := 9) 12 ((!x1) || (decide (a1 < 0))) rfl (fun hB3 => ?_) (fun hB3 => ?_) (fun a w h => ?_)
  · refine g_no h rfl rfl rfl rfl hB3 rfl (by decide) (fun a h => ?_)
    refine g_no h rfl rfl rfl rfl hB3 rfl (by decide) (fun a h => ?_)
    refine sX h (x_pick (u' := undef) h.k rfl rfl (fun _ => rfl) (fun hh => absurd (hB3.symm.trans hh) (by decide))) (fun a h => ?_)
    exact (h.mid 2 rfl).val (by first | rfl | (rw [hB3]; first | rfl | simp))
  · refine g_yes h rfl rfl rfl rfl hB3 ?_
    refine sMV h (fun a h => ?_)
    refine g_yes h rfl rfl rfl rfl hB3 ?_
    refine sX h (x_bin h.k rfl rfl rfl ib_lss) (fun a h => ?_)
    refine sX h (x_pick (u' := undef) h.k rfl rfl (fun hh => absurd (hB3.symm.trans hh) (by decide)) (fun _ => rfl)) (fun a h => ?_)
    exact (h.mid 2 rfl).val (by first | rfl | (rw [hB3]; first | rfl | simp))
  refine sMV h (fun a h => ?_)
  obtain ⟨z7, hz6, hf⟩ := bsome hf
  refine q_grp h 5 (t := 13) 18 z7 rfl (fun hB7 => ?_) (fun hB7 => ?_) (fun a w h => ?_)
  · refine g_no h rfl rfl rfl rfl hB7 rfl (by decide) (fun a h => ?_)
    refine g_no h rfl rfl rfl rfl hB7 rfl (by decide) (fun a h => ?_)
    refine g_no h rfl rfl rfl rfl hB7 rfl (by decide) (fun a h => ?_)
    refine g_no h rfl rfl rfl rfl hB7 rfl (by decide) (fun a h => ?_)
    rw [if_pos hB7] at hz6
    refine sX h (x_pick (u' := undef) h.k rfl rfl (fun _ => rfl) (fun hh => absurd (hB7.symm.trans hh) (by decide))) (fun a h => ?_)
    exact (h.mid 4 rfl).val (by rw [Option.some.inj hz6])
  · rw [if_neg (by rw [hB7]; decide)] at hz6
    refine g_yes h rfl rfl rfl rfl hB7 ?_
    refine sMV h (fun a h => ?_)
    refine g_yes h rfl rfl rfl rfl hB7 ?_
    refine sMV h (fun a h => ?_)
    refine g_yes h rfl rfl rfl rfl hB7 ?_
    obtain ⟨x9, h10, hz6⟩ := bsome hz6
    have hX := path_Depth_ok Fu (S0 := snapAll _) a0 hra0 _ h10 _ h.startAll
    refine q_callX hX h rfl rfl rfl (by decide) Try.func21 rfl rfl rfl (fun a w v L1 S1 hR hb1 h => ?_)
    obtain ⟨rfl, rfl, hr12, _⟩ := hR
    refine g_yes h rfl rfl rfl rfl hB7 ?_
    refine sX h (x_bin h.k rfl rfl rfl ib_gtr) (fun a h => ?_)
    refine sX h (x_pick (u' := undef) h.k rfl rfl (fun hh => absurd (hB7.symm.trans hh) (by decide)) (fun _ => rfl)) (fun a h => ?_)
    exact (h.mid 4 rfl).val (by rw [Option.some.inj hz6])
  refine l_end ?_
  refine c_cond h rfl (fun hb => ?_) (fun hb => ?_)
  · rw [if_pos hb] at hf
    refine c_rs ?_
    refine sAV h (fun a h => ?_)
    refine l_end ?_
    refine wp_ret ?_
    refine e_thenR ?_
    rw [← Option.some.inj hf]
    exact r_ret1 h rfl (rv_tmp h rfl) ⟨_, [], _, rfl, ⟨rfl, rfl, (show r64 0 from ⟨by decide, by decide⟩), trivial⟩, rfl, (Up.refl _ _ _), h.m⟩
  · rw [if_neg (by rw [hb]; decide)] at hf
    refine wp_skip ?_
    refine e_thenN ?_
    refine c_rs ?_
    refine sMV h (fun a h => ?_)
    refine sMV h (fun a h => ?_)
    obtain ⟨x13, h14, hf⟩ := bsome hf
    have hX := path_width_ok Fu (S0 := snapAll _) a0 hra0 a1 hra1 _ h14 _ h.startAll
    refine q_callX hX h rfl rfl rfl (by decide) Try.func50 rfl rfl rfl (fun a w v L1 S1 hR hb1 h => ?_)
    obtain ⟨rfl, rfl, hr16, _⟩ := hR
    refine sAV h (fun a h => ?_)
    refine l_end ?_
    refine c_rs ?_
    refine sMV h (fun a h => ?_)
    refine sMV h (fun a h => ?_)
    refine sX h (x_bin h.k rfl rfl rfl (ib_add rfl)) (fun a h => ?_)
    refine sX h (x_bin h.k rfl rfl rfl (ib_sub rfl)) (fun a h => ?_)
    refine sMV h (fun a h => ?_)
    obtain ⟨x17, h18, hf⟩ := bsome hf
    refine sX h (x_bin h.k rfl rfl rfl (ib_quo_ h18)) (fun a h => ?_)
    refine sAV h (fun a h => ?_)
    refine l_end ?_
    refine wp_ret ?_
    rw [← Option.some.inj hf]
    exact r_ret1 h rfl (rv_tmp h rfl) ⟨_, [], _, rfl, ⟨rfl, rfl, (quoI_r h18 (w64_r _)), trivial⟩, rfl, (Up.refl _ _ _), h.m⟩
def path_Below (Fu : Nat) (a0 : Int) (a1 : Int) (a2 : Int) : Option (Int × Int) :=
  (if a2 < 0 then some true else (path_Count Fu a0 a1).bind fun x4 => some (decide (x4 ≤ a2))).bind fun z2 => if z2 = true then (some (0, 0)) else ((path_width Fu a0 a1).bind fun x8 => some (w64 (a2 * x8), mn (w64 ((w64 (a2 * x8)) + x8)) a0))
def chatelaineref20_May (Fu : Nat) (a0 : Int) : Option Bool :=
  some ((decide (1 ≤ a0)) && (decide (a0 ≤ 4096)))
set_option maxRecDepth 100000 in
set_option maxHeartbeats 2000000 in
theorem chatelaineref20_May_ok (Fu : Nat) {S0 : Snap} (a0 : Int) (hra0 : r64 a0) (r : Bool) (hf : chatelaineref20_May Fu a0 = some r) (w0 : World) (hm : Mem w0 (ownL ([] ++ [.sn S0])) ([] ++ [.sn S0]) w0) :
    Calls Try.prog 9 #[.int .i64 a0] w0 (Ret w0 S0 [] (fun v L1 S1 => v = .bool r ∧ L1 = [] ∧ True)) := by
  unfold chatelaineref20_May at hf
  refine c_enterM Try.func9 rfl 9 rfl (by simp) _ hm _ rfl (fun a h => ?_)
  refine c_rs ?_
  refine sAV h (fun a h => ?_)
  refine l_end ?_
  refine c_rs ?_
  refine sMV h (fun a h => ?_)
  refine sX h (x_bin h.k rfl rfl rfl ib_geq) (fun a h => ?_)
  refine sMV h (fun a h => ?_)
  refine q_grp h 3 (t := 5) 8 ((decide (1 ≤ a0)) && (decide (a0 ≤ 4096))) rfl (fun hB2 => ?_) (fun hB2 => ?_) (fun a w h => ?_)
  · refine g_yes h rfl rfl rfl rfl hB2 ?_
    refine sMV h (fun a h => ?_)
    refine g_yes h rfl rfl rfl rfl hB2 ?_
    refine sX h (x_bin h.k rfl rfl rfl ib_leq) (fun a h => ?_)
    refine sX h (x_pick (u' := undef) h.k rfl rfl (fun _ => rfl) (fun hh => absurd (hB2.symm.trans hh) (by decide))) (fun a h => ?_)
    exact (h.mid 2 rfl).val (by first | rfl | (rw [hB2]; first | rfl | simp))
  · refine g_no h rfl rfl rfl rfl hB2 rfl (by decide) (fun a h => ?_)
    refine g_no h rfl rfl rfl rfl hB2 rfl (by decide) (fun a h => ?_)
    refine sX h (x_pick (u' := undef) h.k rfl rfl (fun hh => absurd (hB2.symm.trans hh) (by decide)) (fun _ => rfl)) (fun a h => ?_)
    exact (h.mid 2 rfl).val (by first | rfl | (rw [hB2]; first | rfl | simp))
  refine sAV h (fun a h => ?_)
  refine l_end ?_
  refine wp_ret ?_
  obtain rfl := Option.some.inj hf
  exact r_ret1 h rfl (rv_tmp h rfl) ⟨_, [], _, rfl, ⟨rfl, rfl, trivial⟩, rfl, (Up.refl _ _ _), h.m⟩
def chatelaineref20_Counts_l0 (Fu : Nat) : Nat → (List Int) → Int → Option ((List Int))
  | 0, _, _ => none
  | k + 1, x3, x8 => (app 8 x3 ([x8])).bind fun x20 => if ((decide (x8 = 1)) && (decide (1 < (x20.length : Int)))) = true then (some x20) else (chatelaineref20_Counts_l0 Fu k x20 (w64 (Int.tdiv (w64 (x8 + 3)) 4)))
def chatelaineref20_Counts_l1 (Fu : Nat) (x10 : List Int) : Nat → (List Int) → Int → Option ((List Int))
  | 0, _, _ => none
  | k + 1, x32, x37 => if 0 ≤ x37 then ((ix x10.length x37).bind fun m47 => (x10[m47]?).bind fun x53 => (app 8 x32 ([x53])).bind fun x62 => chatelaineref20_Counts_l1 Fu x10 k x62 (w64 (x37 - 1))) else (some x32)
def chatelaineref20_Counts (Fu : Nat) (a0 : Int) : Option ((List Int)) :=
  (chatelaineref20_Counts_l0 Fu Fu ([]) a0).bind fun x10 => (chatelaineref20_Counts_l1 Fu x10 Fu ([]) (w64 ((x10.length : Int) - 1))).bind fun x39 => some x39
set_option maxRecDepth 100000 in
set_option maxHeartbeats 2000000 in
theorem chatelaineref20_Counts_ok (Fu : Nat) {S0 : Snap} (a0 : Int) (hra0 : r64 a0) (r : (List Int)) (hf : chatelaineref20_Counts Fu a0 = some r) (w0 : World) (hm : Mem w0 (ownL ([] ++ [.sn S0])) ([] ++ [.sn S0]) w0) :
    Calls Try.prog 29 #[.int .i64 a0] w0 (Ret w0 S0 [] (fun v L1 S1 => ∃ (A70 : Option Addr), ∃ (c71 : Nat), ∃ (cs72 : List Value), v = .slice A70 r.length c71 ∧ L1 = [.row (.slice A70 r.length c71) 3 1 r.length cs72] ∧ reps tyI S1 cs72 r ∧ True)) := by
  unfold chatelaineref20_Counts at hf
  refine c_enterM Try.func29 rfl 37 rfl (by simp) _ hm _ rfl (fun a h => ?_)
  refine c_rs ?_
  refine sAV h (fun a h => ?_)
  refine l_end ?_
  refine c_rs ?_
  refine sAV h (fun a h => ?_)
  refine l_end ?_
  refine c_rs ?_
  refine sMV h (fun a h => ?_)
  refine sAV h (fun a h => ?_)
  refine l_end ?_
  obtain ⟨o1, hl2, hf⟩ := bsome hf
  refine c_cut (fun a w => ∃ (x10 : List Int), ∃ (A11 : Option Addr), ∃ (c12 : Nat), ∃ (cs13 : List Value), x10 = o1 ∧ reps tyI S0 cs13 x10 ∧ St 37 w0 (ownL ([] ++ [.sn S0])) [(3, .slice A11 x10.length c12)] [.row (.slice A11 x10.length c12) 3 1 x10.length cs13, .sn S0] a w) ?_ ?_
  · refine wp_block ?_
    have h := h.mem (h.m.nilrow 3 1)
    refine c_loop (fun m16 a w => ∃ (x3 : List Int), ∃ (A4 : Option Addr), ∃ (c5 : Nat), ∃ (cs6 : List Value), ∃ (x8 : Int), chatelaineref20_Counts_l0 Fu m16 x3 x8 = some o1 ∧ reps tyI S0 cs6 x3 ∧ r64 x8 ∧ St 37 w0 (ownL ([] ++ [.sn S0])) [(3, .slice A4 x3.length c5), (4, .int .i64 x8)] [.row (.slice A4 x3.length c5) 3 1 x3.length cs6, .sn S0] a w) Fu ⟨[], none, 0, [], a0, hl2, (show reps tyI S0 [] [] from rfl), hra0, h.has (by exact ⟨rfl, rfl, trivial⟩)⟩ (fun m16 a w hI => ?_)
    obtain ⟨x3, A4, c5, cs6, x8, hl15, hq7, hr9, h⟩ := hI
    obtain _ | m16 := m16
    · rw [chatelaineref20_Counts_l0] at hl15; cases hl15
    rw [chatelaineref20_Counts_l0] at hl15
    refine wp_block ?_
    refine c_rs ?_
    refine sMV h (fun a h => ?_)
    refine sMV h (fun a h => ?_)
    refine q_bslice (T := tyI) (S := S0) h rfl rfl rfl (by decide) Try.underlying51 zi_int (by decide) (by decide) (by decide) (by decide) [.int .i64 x8] rfl rfl (C := [[.int .i64 x8]]) rfl (xs := [x8]) ⟨[.int .i64 x8], _, rfl, ⟨rfl, hr9⟩, rfl⟩ (by intro c hc; simp only [List.mem_cons, List.not_mem_nil, or_false] at hc; subst hc; rfl) (fun a w A18 h => ?_)
    have hb19 : reps tyI S0 ([[.int .i64 x8]] : List (List Value)).flatten [x8] := ⟨[.int .i64 x8], _, rfl, ⟨rfl, hr9⟩, rfl⟩
    obtain ⟨x20, h21, hl15⟩ := bsome hl15
    refine q_append (T := tyI) (S := S0) h rfl rfl rfl (by decide) Try.underlying51 zb_int rfl (by decide) rfl 1 rfl hq7 rfl hb19 (h.m.rdRowA (i := 0) rfl) h21 (fun a w A22 c23 cs24 hq25 h => ?_)
    refine sAV h (fun a h => ?_)
    refine l_end ?_
    refine wp_seq ?_
    refine c_rs ?_
    refine sMV h (fun a h => ?_)
    refine sX h (x_bin h.k rfl rfl rfl ib_eql) (fun a h => ?_)
    refine sMV h (fun a h => ?_)
    refine q_grp h 4 (t := 14) 18 ((decide (x8 = 1)) && (decide (1 < (x20.length : Int)))) rfl (fun hB2 => ?_) (fun hB2 => ?_) (fun a w h => ?_)
    · refine g_yes h rfl rfl rfl rfl hB2 ?_
      refine sMV h (fun a h => ?_)
      refine g_yes h rfl rfl rfl rfl hB2 ?_
      have hr28 : r64 (x20.length : Int) := len_r (h.m.rowLen (i := 1) rfl)
      refine sX h (x_len h.k rfl Try.underlying51 rfl) (fun a h => ?_)
      refine g_yes h rfl rfl rfl rfl hB2 ?_
      refine sX h (x_bin h.k rfl rfl rfl ib_gtr) (fun a h => ?_)
      refine sX h (x_pick (u' := undef) h.k rfl rfl (fun _ => rfl) (fun hh => absurd (hB2.symm.trans hh) (by decide))) (fun a h => ?_)
      exact (h.mid 3 rfl).val (by first | rfl | (rw [hB2]; first | rfl | simp))
    · refine g_no h rfl rfl rfl rfl hB2 rfl (by decide) (fun a h => ?_)
      refine g_no h rfl rfl rfl rfl hB2 rfl (by decide) (fun a h => ?_)
      refine g_no h rfl rfl rfl rfl hB2 rfl (by decide) (fun a h => ?_)
      refine sX h (x_pick (u' := undef) h.k rfl rfl (fun hh => absurd (hB2.symm.trans hh) (by decide)) (fun _ => rfl)) (fun a h => ?_)
      exact (h.mid 3 rfl).val (by first | rfl | (rw [hB2]; first | rfl | simp))
    refine l_end ?_
    refine c_cond h rfl (fun hb => ?_) (fun hb => ?_)
    · rw [if_pos hb] at hl15
      refine wp_exit ?_
      refine e_thenX ?_
      refine e_blkY (by decide) ?_
      refine e_thenX ?_
      refine e_blkX ?_
      refine e_thenN ?_
      have h := h.pick [1, 2] (by decide) rfl
      exact ⟨x20, A22, c23, cs24, (Option.some.inj hl15), hq25, h.has (by exact ⟨rfl, trivial⟩)⟩
    · rw [if_neg (by rw [hb]; decide)] at hl15
      refine wp_skip ?_
      refine e_thenN ?_
      refine c_r ?_
      refine sMV h (fun a h => ?_)
      refine sX h (x_bin h.k rfl rfl rfl (ib_add rfl)) (fun a h => ?_)
      refine sX h (x_bin h.k rfl rfl rfl (ib_quow (by decide))) (fun a h => ?_)
      refine sAV h (fun a h => ?_)
      refine l_nil ?_
      refine e_blkN ?_
      have h := h.pick [1, 2] (by decide) rfl
      exact e_thenN ⟨m16, Nat.lt_succ_self _, x20, A22, c23, cs24, w64 (Int.tdiv (w64 (x8 + 3)) 4), hl15, hq25, (w64_r _), h.has (by exact ⟨rfl, rfl, trivial⟩)⟩
  · rintro a w ⟨x10, A11, c12, cs13, rfl, hq14, h⟩
    refine c_rs ?_
    refine sAV h (fun a h => ?_)
    refine l_end ?_
    refine wp_seq ?_
    refine c_rs ?_
    refine sMV h (fun a h => ?_)
    have hr29 : r64 (x10.length : Int) := len_r (h.m.rowLen (i := 0) rfl)
    refine sX h (x_len h.k rfl Try.underlying51 rfl) (fun a h => ?_)
    refine sX h (x_bin h.k rfl rfl rfl (ib_sub rfl)) (fun a h => ?_)
    refine sAV h (fun a h => ?_)
    refine l_end ?_
    obtain ⟨o30, hl31, hf⟩ := bsome hf
    refine c_fin (fun a w => ∃ (x39 : List Int), ∃ (A40 : Option Addr), ∃ (c41 : Nat), ∃ (cs42 : List Value), x39 = o30 ∧ reps tyI S0 cs42 x39 ∧ St 37 w0 (ownL ([] ++ [.sn S0])) [(5, .slice A40 x39.length c41)] [.row (.slice A40 x39.length c41) 3 1 x39.length cs42, .sn S0] a w) ?_ ?_
    · refine wp_block ?_
      have h := h.mem (h.m.nilrow 3 1)
      have h := h.pick [1, 0, 2] (by decide) rfl
      refine c_loop (fun m45 a w => ∃ (x32 : List Int), ∃ (A33 : Option Addr), ∃ (c34 : Nat), ∃ (cs35 : List Value), ∃ (x37 : Int), chatelaineref20_Counts_l1 Fu x10 m45 x32 x37 = some o30 ∧ reps tyI S0 cs35 x32 ∧ r64 x37 ∧ St 37 w0 (ownL ([] ++ [.sn S0])) [(3, .slice A11 x10.length c12), (5, .slice A33 x32.length c34), (6, .int .i64 x37)] [.row (.slice A11 x10.length c12) 3 1 x10.length cs13, .row (.slice A33 x32.length c34) 3 1 x32.length cs35, .sn S0] a w) Fu ⟨[], none, 0, [], w64 ((x10.length : Int) - 1), hl31, (show reps tyI S0 [] [] from rfl), (w64_r _), h.has (by exact ⟨rfl, rfl, rfl, trivial⟩)⟩ (fun m45 a w hI => ?_)
      obtain ⟨x32, A33, c34, cs35, x37, hl44, hq36, hr38, h⟩ := hI
      obtain _ | m45 := m45
      · rw [chatelaineref20_Counts_l1] at hl44; cases hl44
      rw [chatelaineref20_Counts_l1] at hl44
      refine wp_seq ?_
      refine c_rs ?_
      refine sMV h (fun a h => ?_)
      refine sX h (x_bin h.k rfl rfl rfl ib_geq) (fun a h => ?_)
      refine l_end ?_
      refine c_cond h rfl (fun hb => ?_) (fun hb => ?_)
      · rw [if_pos (of_decide_eq_true hb)] at hl44
        refine wp_skip ?_
        refine e_thenN ?_
        refine wp_seq ?_
        refine wp_block ?_
        refine c_r ?_
        refine sMV h (fun a h => ?_)
        refine sMV h (fun a h => ?_)
        refine sMV h (fun a h => ?_)
        obtain ⟨m47, h48, hl44⟩ := bsome hl44
        obtain ⟨hi49, hm50⟩ := ix_some h48
        obtain ⟨g52, hA51⟩ := h.m.rowHead (i := 0) rfl (Nat.lt_of_le_of_lt (Nat.zero_le _) hm50)
        refine sX h (x_iaddrE h.k rfl Try.underlying51 sz_int hA51 rfl rfl hi49 hm50) (fun a h => ?_)
        obtain ⟨x53, h54, hl44⟩ := bsome hl44
        obtain ⟨u55, hv56, hu57⟩ := (hq14).cell rfl h54
        obtain ⟨e59, hr58⟩ := hu57
        cases e59
        refine sX h (x_ld h.k rfl Try.underlying3 rfl rfl (h.m.cellRowE (i := 0) rfl hA51 _ (by rw [Nat.mul_one]; exact hv56))) (fun a h => ?_)
        refine q_bslice (T := tyI) (S := S0) h rfl rfl rfl (by decide) Try.underlying51 zi_int (by decide) (by decide) (by decide) (by decide) [.int .i64 x53] rfl rfl (C := [[.int .i64 x53]]) rfl (xs := [x53]) ⟨[.int .i64 x53], _, rfl, ⟨rfl, hr58⟩, rfl⟩ (by intro c hc; simp only [List.mem_cons, List.not_mem_nil, or_false] at hc; subst hc; rfl) (fun a w A60 h => ?_)
        have hb61 : reps tyI S0 ([[.int .i64 x53]] : List (List Value)).flatten [x53] := ⟨[.int .i64 x53], _, rfl, ⟨rfl, hr58⟩, rfl⟩
        obtain ⟨x62, h63, hl44⟩ := bsome hl44
        refine q_append (T := tyI) (S := S0) h rfl rfl rfl (by decide) Try.underlying51 zb_int rfl (by decide) rfl 2 rfl hq36 rfl hb61 (h.m.rdRowA (i := 0) rfl) h63 (fun a w A64 c65 cs66 hq67 h => ?_)
        refine sAV h (fun a h => ?_)
        refine l_nil ?_
        refine e_blkN ?_
        refine e_thenN ?_
        refine c_r ?_
        refine sMV h (fun a h => ?_)
        refine sX h (x_bin h.k rfl rfl rfl (ib_sub rfl)) (fun a h => ?_)
        refine sAV h (fun a h => ?_)
        refine l_nil ?_
        have h := h.pick [1, 2, 3] (by decide) rfl
        exact e_thenN ⟨m45, Nat.lt_succ_self _, x62, A64, c65, cs66, w64 (x37 - 1), hl44, hq67, (w64_r _), h.has (by exact ⟨rfl, rfl, rfl, trivial⟩)⟩
      · rw [if_neg (of_decide_eq_false hb)] at hl44
        refine wp_exit ?_
        refine e_thenX ?_
        refine e_thenX ?_
        refine e_blkX ?_
        refine e_thenN ?_
        have h := h.pick [1, 2] (by decide) rfl
        exact ⟨x32, A33, c34, cs35, (Option.some.inj hl44), hq36, h.has (by exact ⟨rfl, trivial⟩)⟩
    · rintro a w ⟨x39, A40, c41, cs42, rfl, hq43, h⟩
      refine e_thenN ?_
      refine c_rs ?_
      refine sMV h (fun a h => ?_)
      refine sAV h (fun a h => ?_)
      refine l_end ?_
      refine wp_ret ?_
      rw [← Option.some.inj hf]
      exact r_ret1 h rfl (rv_tmp h rfl) ⟨_, [.row (.slice A40 x39.length c41) 3 1 x39.length cs42], _, rfl, ⟨A40, c41, cs42, rfl, rfl, hq43, trivial⟩, rfl, (Up.refl _ _ _), h.m⟩
def chatelaineref20_Place_l0 (Fu : Nat) (a1 : Int) (x6 : (List Int)) : Nat → Int → Int → Option Int
  | 0, _, _ => none
  | k + 1, x35, x37 => if x37 < a1 then ((ix x6.length x37).bind fun m43 => (x6[m43]?).bind fun x49 => chatelaineref20_Place_l0 Fu a1 x6 k (w64 (x35 + x49)) (w64 (x37 + 1))) else (some x35)
def chatelaineref20_Place (Fu : Nat) (a0 : Int) (a1 : Int) (a2 : Int) : Option Int :=
  (chatelaineref20_May Fu a0).bind fun x1 => if ((!x1) || (decide (a1 < 1))) = true then (some (-1)) else ((chatelaineref20_Counts Fu a0).bind fun x6 => (if ((decide ((x6.length : Int) ≤ a1)) || (decide (a2 < 0))) = true then some true else (ix x6.length a1).bind fun m20 => (x6[m20]?).bind fun x26 => some (decide (x26 ≤ a2))).bind fun z18 => if z18 = true then (some (-1)) else ((chatelaineref20_Place_l0 Fu a1 x6 Fu 0 1).bind fun x39 => some (w64 (x39 + a2))))
set_option maxRecDepth 100000 in
set_option maxHeartbeats 2000000 in
theorem chatelaineref20_Place_ok (Fu : Nat) {S0 : Snap} (a0 : Int) (hra0 : r64 a0) (a1 : Int) (hra1 : r64 a1) (a2 : Int) (hra2 : r64 a2) (r : Int) (hf : chatelaineref20_Place Fu a0 a1 a2 = some r) (w0 : World) (hm : Mem w0 (ownL ([] ++ [.sn S0])) ([] ++ [.sn S0]) w0) :
    Calls Try.prog 17 #[.int .i64 a0, .int .i64 a1, .int .i64 a2] w0 (Ret w0 S0 [] (fun v L1 S1 => v = .int .i64 r ∧ L1 = [] ∧ r64 r ∧ True)) := by
  unfold chatelaineref20_Place at hf
  refine c_enterM Try.func17 rfl 49 rfl (by simp) _ hm _ rfl (fun a h => ?_)
  refine c_rs ?_
  refine sAV h (fun a h => ?_)
  refine l_end ?_
  refine wp_seq ?_
  refine c_rs ?_
  refine sMV h (fun a h => ?_)
  obtain ⟨x1, h2, hf⟩ := bsome hf
  have hX := chatelaineref20_May_ok Fu (S0 := snapAll _) a0 hra0 _ h2 _ h.startAll
  refine q_callX hX h rfl rfl rfl (by decide) Try.func9 rfl rfl rfl (fun a w v L1 S1 hR hb1 h => ?_)
  obtain ⟨rfl, rfl, _⟩ := hR
  refine sX h (x_not h.k rfl rfl) (fun a h => ?_)
  refine sMV h (fun a h => ?_)
  refine q_grp h 3 (t := 13) 16 ((!x1) || (decide (a1 < 1))) rfl (fun hB3 => ?_) (fun hB3 => ?_) (fun a w h => ?_)
  · refine g_no h rfl rfl rfl rfl hB3 rfl (by decide) (fun a h => ?_)
    refine g_no h rfl rfl rfl rfl hB3 rfl (by decide) (fun a h => ?_)
    refine sX h (x_pick (u' := undef) h.k rfl rfl (fun _ => rfl) (fun hh => absurd (hB3.symm.trans hh) (by decide))) (fun a h => ?_)
    exact (h.mid 2 rfl).val (by first | rfl | (rw [hB3]; first | rfl | simp))
  · refine g_yes h rfl rfl rfl rfl hB3 ?_
    refine sMV h (fun a h => ?_)
    refine g_yes h rfl rfl rfl rfl hB3 ?_
    refine sX h (x_bin h.k rfl rfl rfl ib_lss) (fun a h => ?_)
    refine sX h (x_pick (u' := undef) h.k rfl rfl (fun hh => absurd (hB3.symm.trans hh) (by decide)) (fun _ => rfl)) (fun a h => ?_)
    exact (h.mid 2 rfl).val (by first | rfl | (rw [hB3]; first | rfl | simp))
  refine l_end ?_
  refine c_cond h rfl (fun hb => ?_) (fun hb => ?_)
  · rw [if_pos hb] at hf
    refine c_rs ?_
    refine sAV h (fun a h => ?_)
    refine l_end ?_
    refine wp_ret ?_
    refine e_thenR ?_
    obtain rfl := Option.some.inj hf
    exact r_ret1 h rfl (rv_tmp h rfl) ⟨_, [], _, rfl, ⟨rfl, rfl, (show r64 (-1) from ⟨by decide, by decide⟩), trivial⟩, rfl, (Up.refl _ _ _), h.m⟩
  · rw [if_neg (by rw [hb]; decide)] at hf
    refine wp_skip ?_
    refine e_thenN ?_
    refine c_rs ?_
    refine sMV h (fun a h => ?_)
    obtain ⟨x6, h7, hf⟩ := bsome hf
    have hX := chatelaineref20_Counts_ok Fu (S0 := snapAll _) a0 hra0 _ h7 _ h.startAll
    refine q_callX hX h rfl rfl rfl (by decide) Try.func29 rfl rfl rfl (fun a w v L1 S1 hR hb1 h => ?_)
    obtain ⟨A9, c10, cs11, rfl, rfl, hq12, _⟩ := hR
    have hq13 := hq12.fl (S' := S0) fl_I
    refine sAV h (fun a h => ?_)
    refine l_end ?_
    refine wp_seq ?_
    refine c_rs ?_
    refine sMV h (fun a h => ?_)
    refine sMV h (fun a h => ?_)
    have hr14 : r64 (x6.length : Int) := len_r (h.m.rowLen (i := 0) rfl)
    refine sX h (x_len h.k rfl Try.underlying51 rfl) (fun a h => ?_)
    refine sX h (x_bin h.k rfl rfl rfl ib_geq) (fun a h => ?_)
    refine sMV h (fun a h => ?_)
    refine q_grp h 3 (t := 23) 26 ((decide ((x6.length : Int) ≤ a1)) || (decide (a2 < 0))) rfl (fun hB4 => ?_) (fun hB4 => ?_) (fun a w h => ?_)
    · refine g_no h rfl rfl rfl rfl hB4 rfl (by decide) (fun a h => ?_)
      refine g_no h rfl rfl rfl rfl hB4 rfl (by decide) (fun a h => ?_)
      refine sX h (x_pick (u' := undef) h.k rfl rfl (fun _ => rfl) (fun hh => absurd (hB4.symm.trans hh) (by decide))) (fun a h => ?_)
      exact (h.mid 2 rfl).val (by first | rfl | (rw [hB4]; first | rfl | simp))
    · refine g_yes h rfl rfl rfl rfl hB4 ?_
      refine sMV h (fun a h => ?_)
      refine g_yes h rfl rfl rfl rfl hB4 ?_
      refine sX h (x_bin h.k rfl rfl rfl ib_lss) (fun a h => ?_)
      refine sX h (x_pick (u' := undef) h.k rfl rfl (fun hh => absurd (hB4.symm.trans hh) (by decide)) (fun _ => rfl)) (fun a h => ?_)
      exact (h.mid 2 rfl).val (by first | rfl | (rw [hB4]; first | rfl | simp))
    refine sMV h (fun a h => ?_)
    obtain ⟨z18, hz17, hf⟩ := bsome hf
    refine q_grp h 7 (t := 27) 34 z18 rfl (fun hB8 => ?_) (fun hB8 => ?_) (fun a w h => ?_)
    · refine g_no h rfl rfl rfl rfl hB8 rfl (by decide) (fun a h => ?_)
      refine g_no h rfl rfl rfl rfl hB8 rfl (by decide) (fun a h => ?_)
      refine g_no h rfl rfl rfl rfl hB8 rfl (by decide) (fun a h => ?_)
      refine g_no h rfl rfl rfl rfl hB8 rfl (by decide) (fun a h => ?_)
      refine g_no h rfl rfl rfl rfl hB8 rfl (by decide) (fun a h => ?_)
      refine g_no h rfl rfl rfl rfl hB8 rfl (by decide) (fun a h => ?_)
      rw [if_pos hB8] at hz17
      refine sX h (x_pick (u' := undef) h.k rfl rfl (fun _ => rfl) (fun hh => absurd (hB8.symm.trans hh) (by decide))) (fun a h => ?_)
      exact (h.mid 6 rfl).val (by rw [Option.some.inj hz17])
    · rw [if_neg (by rw [hB8]; decide)] at hz17
      refine g_yes h rfl rfl rfl rfl hB8 ?_
      refine sMV h (fun a h => ?_)
      refine g_yes h rfl rfl rfl rfl hB8 ?_
      refine sMV h (fun a h => ?_)
      refine g_yes h rfl rfl rfl rfl hB8 ?_
      refine sMV h (fun a h => ?_)
      refine g_yes h rfl rfl rfl rfl hB8 ?_
      obtain ⟨m20, h21, hz17⟩ := bsome hz17
      obtain ⟨hi22, hm23⟩ := ix_some h21
      obtain ⟨g25, hA24⟩ := h.m.rowHead (i := 0) rfl (Nat.lt_of_le_of_lt (Nat.zero_le _) hm23)
      refine sX h (x_iaddrE h.k rfl Try.underlying51 sz_int hA24 rfl rfl hi22 hm23) (fun a h => ?_)
      refine g_yes h rfl rfl rfl rfl hB8 ?_
      obtain ⟨x26, h27, hz17⟩ := bsome hz17
      obtain ⟨u28, hv29, hu30⟩ := (hq13).cell rfl h27
      obtain ⟨e32, hr31⟩ := hu30
      cases e32
      refine sX h (x_ld h.k rfl Try.underlying3 rfl rfl (h.m.cellRowE (i := 0) rfl hA24 _ (by rw [Nat.mul_one]; exact hv29))) (fun a h => ?_)
      refine g_yes h rfl rfl rfl rfl hB8 ?_
      refine sX h (x_bin h.k rfl rfl rfl ib_geq) (fun a h => ?_)
      refine sX h (x_pick (u' := undef) h.k rfl rfl (fun hh => absurd (hB8.symm.trans hh) (by decide)) (fun _ => rfl)) (fun a h => ?_)
      exact (h.mid 6 rfl).val (by rw [Option.some.inj hz17])
    refine l_end ?_
    refine c_cond h rfl (fun hb => ?_) (fun hb => ?_)
    · rw [if_pos hb] at hf
      refine c_rs ?_
      refine sAV h (fun a h => ?_)
      refine l_end ?_
      refine wp_ret ?_
      refine e_thenR ?_
      obtain rfl := Option.some.inj hf
      exact r_ret1 h rfl (rv_tmp h rfl) ⟨_, [], _, rfl, ⟨rfl, rfl, (show r64 (-1) from ⟨by decide, by decide⟩), trivial⟩, rfl, (Up.refl _ _ _), (h.m.pick [1] _ (by decide) rfl)⟩
    · rw [if_neg (by rw [hb]; decide)] at hf
      refine wp_skip ?_
      refine e_thenN ?_
      refine c_rs ?_
      refine sAV h (fun a h => ?_)
      refine l_end ?_
      refine wp_seq ?_
      refine c_rs ?_
      refine sAV h (fun a h => ?_)
      refine l_end ?_
      obtain ⟨o33, hl34, hf⟩ := bsome hf
      refine c_fin (fun a w => ∃ (x39 : Int), x39 = o33 ∧ r64 x39 ∧ St 49 w0 (ownL ([] ++ [.sn S0])) [(2, .int .i64 a2), (8, .int .i64 x39)] [.sn S0] a w) ?_ ?_
      · refine wp_block ?_
        refine c_loop (fun m42 a w => ∃ (x35 : Int), ∃ (x37 : Int), chatelaineref20_Place_l0 Fu a1 x6 m42 x35 x37 = some o33 ∧ r64 x35 ∧ r64 x37 ∧ St 49 w0 (ownL ([] ++ [.sn S0])) [(1, .int .i64 a1), (2, .int .i64 a2), (7, .slice A9 x6.length c10), (8, .int .i64 x35), (9, .int .i64 x37)] [.row (.slice A9 x6.length c10) 3 1 x6.length cs11, .sn S0] a w) Fu ⟨0, 1, hl34, (show r64 0 from ⟨by decide, by decide⟩), (show r64 1 from ⟨by decide, by decide⟩), h.has (by exact ⟨rfl, rfl, rfl, rfl, rfl, trivial⟩)⟩ (fun m42 a w hI => ?_)
        obtain ⟨x35, x37, hl41, hr36, hr38, h⟩ := hI
        obtain _ | m42 := m42
        · rw [chatelaineref20_Place_l0] at hl41; cases hl41
        rw [chatelaineref20_Place_l0] at hl41
        refine wp_seq ?_
        refine c_rs ?_
        refine sMV h (fun a h => ?_)
        refine sMV h (fun a h => ?_)
        refine sX h (x_bin h.k rfl rfl rfl ib_lss) (fun a h => ?_)
        refine l_end ?_
        refine c_cond h rfl (fun hb => ?_) (fun hb => ?_)
        · rw [if_pos (of_decide_eq_true hb)] at hl41
          refine wp_skip ?_
          refine e_thenN ?_
          refine wp_seq ?_
          refine wp_block ?_
          refine c_r ?_
          refine sMV h (fun a h => ?_)
          refine sMV h (fun a h => ?_)
          refine sMV h (fun a h => ?_)
          obtain ⟨m43, h44, hl41⟩ := bsome hl41
          obtain ⟨hi45, hm46⟩ := ix_some h44
          obtain ⟨g48, hA47⟩ := h.m.rowHead (i := 0) rfl (Nat.lt_of_le_of_lt (Nat.zero_le _) hm46)
          refine sX h (x_iaddrE h.k rfl Try.underlying51 sz_int hA47 rfl rfl hi45 hm46) (fun a h => ?_)
          obtain ⟨x49, h50, hl41⟩ := bsome hl41
          obtain ⟨u51, hv52, hu53⟩ := (hq13).cell rfl h50
          obtain ⟨e55, hr54⟩ := hu53
          cases e55
          refine sX h (x_ld h.k rfl Try.underlying3 rfl rfl (h.m.cellRowE (i := 0) rfl hA47 _ (by rw [Nat.mul_one]; exact hv52))) (fun a h => ?_)
          refine sX h (x_bin h.k rfl rfl rfl (ib_add rfl)) (fun a h => ?_)
          refine sAV h (fun a h => ?_)
          refine l_nil ?_
          refine e_blkN ?_
          refine e_thenN ?_
          refine c_r ?_
          refine sMV h (fun a h => ?_)
          refine sX h (x_bin h.k rfl rfl rfl (ib_add rfl)) (fun a h => ?_)
          refine sAV h (fun a h => ?_)
          refine l_nil ?_
          exact e_thenN ⟨m42, Nat.lt_succ_self _, w64 (x35 + x49), w64 (x37 + 1), hl41, (w64_r _), (w64_r _), h.has (by exact ⟨rfl, rfl, rfl, rfl, rfl, trivial⟩)⟩
        · rw [if_neg (of_decide_eq_false hb)] at hl41
          refine wp_exit ?_
          refine e_thenX ?_
          refine e_thenX ?_
          refine e_blkX ?_
          refine e_thenN ?_
          have h := h.pick [1] (by decide) rfl
          exact ⟨x35, (Option.some.inj hl41), hr36, h.has (by exact ⟨rfl, rfl, trivial⟩)⟩
      · rintro a w ⟨x39, rfl, hr40, h⟩
        refine e_thenN ?_
        refine c_rs ?_
        refine sMV h (fun a h => ?_)
        refine sMV h (fun a h => ?_)
        refine sX h (x_bin h.k rfl rfl rfl (ib_add rfl)) (fun a h => ?_)
        refine sAV h (fun a h => ?_)
        refine l_end ?_
        refine wp_ret ?_
        obtain rfl := Option.some.inj hf
        exact r_ret1 h rfl (rv_tmp h rfl) ⟨_, [], _, rfl, ⟨rfl, rfl, (w64_r _), trivial⟩, rfl, (Up.refl _ _ _), h.m⟩
end Go.Proofs.Ytohgmggdfmjgnaa
