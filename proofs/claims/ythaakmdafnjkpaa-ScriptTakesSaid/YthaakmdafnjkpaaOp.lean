/- Op: Go functions as plain functions, and that they are so (written by xt.py). -/
import Derived.Test.YthaakmdafnjkpaaFi
set_option linter.unusedVariables false
set_option linter.unusedSimpArgs false
namespace Go.Proofs.Ythaakmdafnjkpaa
open Go.RowKit
def cred_Right (Fu : Nat) (a0 : List UInt8) : Option Bool :=
  some ((decide (8 ≤ (a0.length : Int))) && (decide ((a0.length : Int) ≤ 64)))
set_option maxRecDepth 100000 in
set_option maxHeartbeats 2000000 in
theorem cred_Right_ok (Fu : Nat) {S0 : Snap} (Aa0 : Option Addr) (ca0 : Nat) (a0 : List UInt8) (hsa0 : slS ty8 S0 Aa0 ca0 a0) (r : Bool) (hf : cred_Right Fu a0 = some r) (w0 : World) (hm : Mem w0 (ownL ([] ++ [.sn S0])) ([] ++ [.sn S0]) w0) :
    Calls Try.prog 89 #[.slice Aa0 a0.length ca0] w0 (Ret w0 S0 [] (fun v L1 S1 => v = .bool r ∧ L1 = [] ∧ True)) := by
  unfold cred_Right at hf
  refine c_enterM Try.func89 rfl 11 rfl (by simp) _ hm _ rfl (fun a h => ?_)
  refine c_rs ?_ -- region 0
  refine s_assign h rfl _ rfl rfl (by decide) rfl (fun a h => ?_)
  refine l_end ?_
  refine c_rs ?_ -- region 1
  refine s_move h rfl _ rfl rfl (by decide) rfl (fun a h => ?_)
  refine s_x h rfl rfl (by decide) (x_len h.k rfl Try.underlying22 rfl) (fun a h => ?_)
  refine s_x h rfl rfl (by decide) (x_bin h.k rfl rfl rfl ib_geq) (fun a h => ?_)
  refine s_move h rfl _ rfl rfl (by decide) rfl (fun a h => ?_)
  refine q_grp h 4 (t := 6) 10 ((decide (8 ≤ (a0.length : Int))) && (decide ((a0.length : Int) ≤ 64))) rfl (fun hB3 => ?_) (fun hB3 => ?_) (fun a w h => ?_)
  · refine g_yes h rfl rfl rfl rfl hB3 ?_
    refine s_move h rfl _ rfl rfl (by decide) rfl (fun a h => ?_)
    refine g_yes h rfl rfl rfl rfl hB3 ?_
    refine s_x h rfl rfl (by decide) (x_len h.k rfl Try.underlying22 rfl) (fun a h => ?_)
    refine g_yes h rfl rfl rfl rfl hB3 ?_
    refine s_x h rfl rfl (by decide) (x_bin h.k rfl rfl rfl ib_leq) (fun a h => ?_)
    refine s_x h rfl rfl (by decide) (x_pick (u' := undef) h.k rfl rfl (fun _ => rfl) (fun hh => absurd (hB3.symm.trans hh) (by decide))) (fun a h => ?_)
    exact (h.mid 3 rfl).val (by first | rfl | (rw [hB3]; first | rfl | simp))
  · refine g_no h rfl rfl rfl rfl hB3 rfl (by decide) (fun a h => ?_)
    refine g_no h rfl rfl rfl rfl hB3 rfl (by decide) (fun a h => ?_)
    refine g_no h rfl rfl rfl rfl hB3 rfl (by decide) (fun a h => ?_)
    refine s_x h rfl rfl (by decide) (x_pick (u' := undef) h.k rfl rfl (fun hh => absurd (hB3.symm.trans hh) (by decide)) (fun _ => rfl)) (fun a h => ?_)
    exact (h.mid 3 rfl).val (by first | rfl | (rw [hB3]; first | rfl | simp))
  refine s_assign h rfl _ rfl rfl (by decide) rfl (fun a h => ?_)
  refine l_end ?_
  refine wp_ret ?_
  obtain rfl := Option.some.inj hf
  exact r_ret1 h rfl (rv_tmp h rfl) ⟨_, [], _, rfl, ⟨rfl, rfl, trivial⟩, rfl, (Up.refl _ _ _), h.m⟩
def op_within (Fu : Nat) (a0 : Int) (a1 : Int) (a2 : Int) : Option Bool :=
  some ((decide (a1 ≤ a0)) && (decide (a0 ≤ a2)))
set_option maxRecDepth 100000 in
set_option maxHeartbeats 2000000 in
theorem op_within_ok (Fu : Nat) {S0 : Snap} (a0 : Int) (hra0 : r64 a0) (a1 : Int) (hra1 : r64 a1) (a2 : Int) (hra2 : r64 a2) (r : Bool) (hf : op_within Fu a0 a1 a2 = some r) (w0 : World) (hm : Mem w0 (ownL ([] ++ [.sn S0])) ([] ++ [.sn S0]) w0) :
    Calls Try.prog 65 #[.int .i64 a0, .int .i64 a1, .int .i64 a2] w0 (Ret w0 S0 [] (fun v L1 S1 => v = .bool r ∧ L1 = [] ∧ True)) := by
  unfold op_within at hf
  refine c_enterM Try.func65 rfl 15 rfl (by simp) _ hm _ rfl (fun a h => ?_)
  refine c_rs ?_ -- region 0
  refine s_assign h rfl _ rfl rfl (by decide) rfl (fun a h => ?_)
  refine l_end ?_
  refine c_rs ?_ -- region 1
  refine s_move h rfl _ rfl rfl (by decide) rfl (fun a h => ?_)
  refine s_move h rfl _ rfl rfl (by decide) rfl (fun a h => ?_)
  refine s_x h rfl rfl (by decide) (x_bin h.k rfl rfl rfl ib_geq) (fun a h => ?_)
  refine s_move h rfl _ rfl rfl (by decide) rfl (fun a h => ?_)
  refine q_grp h 4 (t := 10) 14 ((decide (a1 ≤ a0)) && (decide (a0 ≤ a2))) rfl (fun hB3 => ?_) (fun hB3 => ?_) (fun a w h => ?_)
  · refine g_yes h rfl rfl rfl rfl hB3 ?_
    refine s_move h rfl _ rfl rfl (by decide) rfl (fun a h => ?_)
    refine g_yes h rfl rfl rfl rfl hB3 ?_
    refine s_move h rfl _ rfl rfl (by decide) rfl (fun a h => ?_)
    refine g_yes h rfl rfl rfl rfl hB3 ?_
    refine s_x h rfl rfl (by decide) (x_bin h.k rfl rfl rfl ib_leq) (fun a h => ?_)
    refine s_x h rfl rfl (by decide) (x_pick (u' := undef) h.k rfl rfl (fun _ => rfl) (fun hh => absurd (hB3.symm.trans hh) (by decide))) (fun a h => ?_)
    exact (h.mid 3 rfl).val (by first | rfl | (rw [hB3]; first | rfl | simp))
  · refine g_no h rfl rfl rfl rfl hB3 rfl (by decide) (fun a h => ?_)
    refine g_no h rfl rfl rfl rfl hB3 rfl (by decide) (fun a h => ?_)
    refine g_no h rfl rfl rfl rfl hB3 rfl (by decide) (fun a h => ?_)
    refine s_x h rfl rfl (by decide) (x_pick (u' := undef) h.k rfl rfl (fun hh => absurd (hB3.symm.trans hh) (by decide)) (fun _ => rfl)) (fun a h => ?_)
    exact (h.mid 3 rfl).val (by first | rfl | (rw [hB3]; first | rfl | simp))
  refine s_assign h rfl _ rfl rfl (by decide) rfl (fun a h => ?_)
  refine l_end ?_
  refine wp_ret ?_
  obtain rfl := Option.some.inj hf
  exact r_ret1 h rfl (rv_tmp h rfl) ⟨_, [], _, rfl, ⟨rfl, rfl, trivial⟩, rfl, (Up.refl _ _ _), h.m⟩
def op_Changes (Fu : Nat) (a0 : Int) : Option Bool :=
  (op_within Fu a0 1 10).bind fun x1 => some ((x1 && (decide (a0 ≠ 6))) && (decide (a0 ≠ 7)))
set_option maxRecDepth 100000 in
set_option maxHeartbeats 2000000 in
theorem op_Changes_ok (Fu : Nat) {S0 : Snap} (a0 : Int) (hra0 : r64 a0) (r : Bool) (hf : op_Changes Fu a0 = some r) (w0 : World) (hm : Mem w0 (ownL ([] ++ [.sn S0])) ([] ++ [.sn S0]) w0) :
    Calls Try.prog 19 #[.int .i64 a0] w0 (Ret w0 S0 [] (fun v L1 S1 => v = .bool r ∧ L1 = [] ∧ True)) := by
  unfold op_Changes at hf
  refine c_enterM Try.func19 rfl 13 rfl (by simp) _ hm _ rfl (fun a h => ?_)
  refine c_rs ?_ -- region 0
  refine s_assign h rfl _ rfl rfl (by decide) rfl (fun a h => ?_)
  refine l_end ?_
  refine c_rs ?_ -- region 1
  refine s_move h rfl _ rfl rfl (by decide) rfl (fun a h => ?_)
  obtain ⟨x1, h2, hf⟩ := bsome hf
  have hX := op_within_ok Fu (S0 := snapAll _) a0 hra0 1 (show r64 1 from ⟨by decide, by decide⟩) 10 (show r64 10 from ⟨by decide, by decide⟩) _ h2 _ h.startAll
  refine q_callX hX h rfl rfl rfl (by decide) Try.func65 rfl rfl rfl (fun a w v L1 S1 hR hb1 h => ?_)
  obtain ⟨rfl, rfl, _⟩ := hR
  refine s_move h rfl _ rfl rfl (by decide) rfl (fun a h => ?_)
  refine q_grp h 3 (t := 5) 8 (x1 && (decide (a0 ≠ 6))) rfl (fun hB2 => ?_) (fun hB2 => ?_) (fun a w h => ?_)
  · refine g_yes h rfl rfl rfl rfl hB2 ?_
    refine s_move h rfl _ rfl rfl (by decide) rfl (fun a h => ?_)
    refine g_yes h rfl rfl rfl rfl hB2 ?_
    refine s_x h rfl rfl (by decide) (x_bin h.k rfl rfl rfl ib_neq) (fun a h => ?_)
    refine s_x h rfl rfl (by decide) (x_pick (u' := undef) h.k rfl rfl (fun _ => rfl) (fun hh => absurd (hB2.symm.trans hh) (by decide))) (fun a h => ?_)
    exact (h.mid 2 rfl).val (by first | rfl | (rw [hB2]; first | rfl | simp))
  · refine g_no h rfl rfl rfl rfl hB2 rfl (by decide) (fun a h => ?_)
    refine g_no h rfl rfl rfl rfl hB2 rfl (by decide) (fun a h => ?_)
    refine s_x h rfl rfl (by decide) (x_pick (u' := undef) h.k rfl rfl (fun hh => absurd (hB2.symm.trans hh) (by decide)) (fun _ => rfl)) (fun a h => ?_)
    exact (h.mid 2 rfl).val (by first | rfl | (rw [hB2]; first | rfl | simp))
  refine s_move h rfl _ rfl rfl (by decide) rfl (fun a h => ?_)
  refine q_grp h 3 (t := 9) 12 ((x1 && (decide (a0 ≠ 6))) && (decide (a0 ≠ 7))) rfl (fun hB6 => ?_) (fun hB6 => ?_) (fun a w h => ?_)
  · refine g_yes h rfl rfl rfl rfl hB6 ?_
    refine s_move h rfl _ rfl rfl (by decide) rfl (fun a h => ?_)
    refine g_yes h rfl rfl rfl rfl hB6 ?_
    refine s_x h rfl rfl (by decide) (x_bin h.k rfl rfl rfl ib_neq) (fun a h => ?_)
    refine s_x h rfl rfl (by decide) (x_pick (u' := undef) h.k rfl rfl (fun _ => rfl) (fun hh => absurd (hB6.symm.trans hh) (by decide))) (fun a h => ?_)
    exact (h.mid 2 rfl).val (by first | rfl | (rw [hB6]; first | rfl | simp))
  · refine g_no h rfl rfl rfl rfl hB6 rfl (by decide) (fun a h => ?_)
    refine g_no h rfl rfl rfl rfl hB6 rfl (by decide) (fun a h => ?_)
    refine s_x h rfl rfl (by decide) (x_pick (u' := undef) h.k rfl rfl (fun hh => absurd (hB6.symm.trans hh) (by decide)) (fun _ => rfl)) (fun a h => ?_)
    exact (h.mid 2 rfl).val (by first | rfl | (rw [hB6]; first | rfl | simp))
  refine s_assign h rfl _ rfl rfl (by decide) rfl (fun a h => ?_)
  refine l_end ?_
  refine wp_ret ?_
  obtain rfl := Option.some.inj hf
  exact r_ret1 h rfl (rv_tmp h rfl) ⟨_, [], _, rfl, ⟨rfl, rfl, trivial⟩, rfl, (Up.refl _ _ _), h.m⟩
def op_Draws (Fu : Nat) (a0 : Int) : Option Bool :=
  (if a0 = 2 then (some (decide (a0 = 2))) else (if a0 = 3 then (some (decide (a0 = 3))) else (if a0 = 4 then (some (decide (a0 = 4))) else (if a0 = 5 then (some (decide (a0 = 5))) else (some (decide (a0 = 10))))))).bind fun x3 => if x3 = true then (some true) else (some false)
set_option maxRecDepth 100000 in
set_option maxHeartbeats 2000000 in
theorem op_Draws_ok (Fu : Nat) {S0 : Snap} (a0 : Int) (hra0 : r64 a0) (r : Bool) (hf : op_Draws Fu a0 = some r) (w0 : World) (hm : Mem w0 (ownL ([] ++ [.sn S0])) ([] ++ [.sn S0]) w0) :
    Calls Try.prog 20 #[.int .i64 a0] w0 (Ret w0 S0 [] (fun v L1 S1 => v = .bool r ∧ L1 = [] ∧ True)) := by
  unfold op_Draws at hf
  refine c_enterM Try.func20 rfl 10 rfl (by simp) _ hm _ rfl (fun a h => ?_)
  refine c_rs ?_ -- region 0
  refine s_assign h rfl _ rfl rfl (by decide) rfl (fun a h => ?_)
  refine l_end ?_
  refine wp_seq ?_
  refine c_rs ?_ -- region 1
  refine s_move h rfl _ rfl rfl (by decide) rfl (fun a h => ?_)
  refine l_end ?_
  refine wp_block ?_
  obtain ⟨o1, hc2, hf⟩ := bsome hf
  refine c_cut (fun a w => ∃ (x3 : Bool), x3 = o1 ∧ St 10 w0 (ownL ([] ++ [.sn S0])) [(4, .bool x3)] [.sn S0] a w) ?_ ?_
  · refine c_rs ?_ -- region 2
    refine s_x h rfl rfl (by decide) (x_bin h.k rfl rfl rfl ib_eql) (fun a h => ?_)
    refine s_assign h rfl _ rfl rfl (by decide) rfl (fun a h => ?_)
    refine l_end ?_
    refine c_cond h rfl (fun hb => ?_) (fun hb => ?_)
    · rw [if_pos (of_decide_eq_true hb)] at hc2
      refine wp_skip ?_
      refine e_thenN ?_
      exact ⟨(decide (a0 = 2)), (Option.some.inj hc2), h.has (by exact ⟨rfl, trivial⟩)⟩
    · rw [if_neg (of_decide_eq_false hb)] at hc2
      refine c_rs ?_ -- region 3
      refine s_x h rfl rfl (by decide) (x_bin h.k rfl rfl rfl ib_eql) (fun a h => ?_)
      refine s_assign h rfl _ rfl rfl (by decide) rfl (fun a h => ?_)
      refine l_end ?_
      refine c_cond h rfl (fun hb => ?_) (fun hb => ?_)
      · rw [if_pos (of_decide_eq_true hb)] at hc2
        refine wp_skip ?_
        refine e_thenN ?_
        exact ⟨(decide (a0 = 3)), (Option.some.inj hc2), h.has (by exact ⟨rfl, trivial⟩)⟩
      · rw [if_neg (of_decide_eq_false hb)] at hc2
        refine c_rs ?_ -- region 4
        refine s_x h rfl rfl (by decide) (x_bin h.k rfl rfl rfl ib_eql) (fun a h => ?_)
        refine s_assign h rfl _ rfl rfl (by decide) rfl (fun a h => ?_)
        refine l_end ?_
        refine c_cond h rfl (fun hb => ?_) (fun hb => ?_)
        · rw [if_pos (of_decide_eq_true hb)] at hc2
          refine wp_skip ?_
          refine e_thenN ?_
          exact ⟨(decide (a0 = 4)), (Option.some.inj hc2), h.has (by exact ⟨rfl, trivial⟩)⟩
        · rw [if_neg (of_decide_eq_false hb)] at hc2
          refine c_rs ?_ -- region 5
          refine s_x h rfl rfl (by decide) (x_bin h.k rfl rfl rfl ib_eql) (fun a h => ?_)
          refine s_assign h rfl _ rfl rfl (by decide) rfl (fun a h => ?_)
          refine l_end ?_
          refine c_cond h rfl (fun hb => ?_) (fun hb => ?_)
          · rw [if_pos (of_decide_eq_true hb)] at hc2
            refine wp_skip ?_
            refine e_thenN ?_
            exact ⟨(decide (a0 = 5)), (Option.some.inj hc2), h.has (by exact ⟨rfl, trivial⟩)⟩
          · rw [if_neg (of_decide_eq_false hb)] at hc2
            refine c_r ?_ -- region 6
            refine s_x h rfl rfl (by decide) (x_bin h.k rfl rfl rfl ib_eql) (fun a h => ?_)
            refine s_assign h rfl _ rfl rfl (by decide) rfl (fun a h => ?_)
            refine l_nil ?_
            refine e_thenN ?_
            exact ⟨(decide (a0 = 10)), (Option.some.inj hc2), h.has (by exact ⟨rfl, trivial⟩)⟩
  · rintro a w ⟨x3, rfl, h⟩
    refine c_cond h rfl (fun hb => ?_) (fun hb => ?_)
    · rw [if_pos hb] at hf
      refine c_rs ?_ -- region 7
      refine s_assign h rfl _ rfl rfl (by decide) rfl (fun a h => ?_)
      refine l_end ?_
      refine wp_ret ?_
      refine e_blkR ?_
      refine e_thenR ?_
      rw [← Option.some.inj hf]
      exact r_ret1 h rfl (rv_tmp h rfl) ⟨_, [], _, rfl, ⟨rfl, rfl, trivial⟩, rfl, (Up.refl _ _ _), h.m⟩
    · rw [if_neg (by rw [hb]; decide)] at hf
      refine wp_skip ?_
      refine e_blkN ?_
      refine e_thenN ?_
      refine c_rs ?_ -- region 8
      refine s_assign h rfl _ rfl rfl (by decide) rfl (fun a h => ?_)
      refine l_end ?_
      refine wp_ret ?_
      rw [← Option.some.inj hf]
      exact r_ret1 h rfl (rv_tmp h rfl) ⟨_, [], _, rfl, ⟨rfl, rfl, trivial⟩, rfl, (Up.refl _ _ _), h.m⟩
def op_spaceless (Fu : Nat) (a0 : Int) : Option Bool :=
  some (((decide (a0 = 1)) || (decide (a0 = 5))) || (decide (a0 = 6)))
set_option maxRecDepth 100000 in
set_option maxHeartbeats 2000000 in
theorem op_spaceless_ok (Fu : Nat) {S0 : Snap} (a0 : Int) (hra0 : r64 a0) (r : Bool) (hf : op_spaceless Fu a0 = some r) (w0 : World) (hm : Mem w0 (ownL ([] ++ [.sn S0])) ([] ++ [.sn S0]) w0) :
    Calls Try.prog 66 #[.int .i64 a0] w0 (Ret w0 S0 [] (fun v L1 S1 => v = .bool r ∧ L1 = [] ∧ True)) := by
  unfold op_spaceless at hf
  refine c_enterM Try.func66 rfl 13 rfl (by simp) _ hm _ rfl (fun a h => ?_)
  refine c_rs ?_ -- region 0
  refine s_assign h rfl _ rfl rfl (by decide) rfl (fun a h => ?_)
  refine l_end ?_
  refine c_rs ?_ -- region 1
  refine s_move h rfl _ rfl rfl (by decide) rfl (fun a h => ?_)
  refine s_x h rfl rfl (by decide) (x_bin h.k rfl rfl rfl ib_eql) (fun a h => ?_)
  refine s_move h rfl _ rfl rfl (by decide) rfl (fun a h => ?_)
  refine q_grp h 3 (t := 5) 8 ((decide (a0 = 1)) || (decide (a0 = 5))) rfl (fun hB2 => ?_) (fun hB2 => ?_) (fun a w h => ?_)
  · refine g_no h rfl rfl rfl rfl hB2 rfl (by decide) (fun a h => ?_)
    refine g_no h rfl rfl rfl rfl hB2 rfl (by decide) (fun a h => ?_)
    refine s_x h rfl rfl (by decide) (x_pick (u' := undef) h.k rfl rfl (fun _ => rfl) (fun hh => absurd (hB2.symm.trans hh) (by decide))) (fun a h => ?_)
    exact (h.mid 2 rfl).val (by first | rfl | (rw [hB2]; first | rfl | simp))
  · refine g_yes h rfl rfl rfl rfl hB2 ?_
    refine s_move h rfl _ rfl rfl (by decide) rfl (fun a h => ?_)
    refine g_yes h rfl rfl rfl rfl hB2 ?_
    refine s_x h rfl rfl (by decide) (x_bin h.k rfl rfl rfl ib_eql) (fun a h => ?_)
    refine s_x h rfl rfl (by decide) (x_pick (u' := undef) h.k rfl rfl (fun hh => absurd (hB2.symm.trans hh) (by decide)) (fun _ => rfl)) (fun a h => ?_)
    exact (h.mid 2 rfl).val (by first | rfl | (rw [hB2]; first | rfl | simp))
  refine s_move h rfl _ rfl rfl (by decide) rfl (fun a h => ?_)
  refine q_grp h 3 (t := 9) 12 (((decide (a0 = 1)) || (decide (a0 = 5))) || (decide (a0 = 6))) rfl (fun hB6 => ?_) (fun hB6 => ?_) (fun a w h => ?_)
  · refine g_no h rfl rfl rfl rfl hB6 rfl (by decide) (fun a h => ?_)
    refine g_no h rfl rfl rfl rfl hB6 rfl (by decide) (fun a h => ?_)
    refine s_x h rfl rfl (by decide) (x_pick (u' := undef) h.k rfl rfl (fun _ => rfl) (fun hh => absurd (hB6.symm.trans hh) (by decide))) (fun a h => ?_)
    exact (h.mid 2 rfl).val (by first | rfl | (rw [hB6]; first | rfl | simp))
  · refine g_yes h rfl rfl rfl rfl hB6 ?_
    refine s_move h rfl _ rfl rfl (by decide) rfl (fun a h => ?_)
    refine g_yes h rfl rfl rfl rfl hB6 ?_
    refine s_x h rfl rfl (by decide) (x_bin h.k rfl rfl rfl ib_eql) (fun a h => ?_)
    refine s_x h rfl rfl (by decide) (x_pick (u' := undef) h.k rfl rfl (fun hh => absurd (hB6.symm.trans hh) (by decide)) (fun _ => rfl)) (fun a h => ?_)
    exact (h.mid 2 rfl).val (by first | rfl | (rw [hB6]; first | rfl | simp))
  refine s_assign h rfl _ rfl rfl (by decide) rfl (fun a h => ?_)
  refine l_end ?_
  refine wp_ret ?_
  obtain rfl := Option.some.inj hf
  exact r_ret1 h rfl (rv_tmp h rfl) ⟨_, [], _, rfl, ⟨rfl, rfl, trivial⟩, rfl, (Up.refl _ _ _), h.m⟩
def op_numbers (Fu : Nat) (a0 : Int × Int × Int × Int × Int × (List UInt8) × (List UInt8)) : Option Bool :=
  ((if a0.1 = 2 then (some (decide (a0.1 = 2))) else (some (decide (a0.1 = 3)))).bind fun x37 => if x37 = true then (some (1, 4096, 0, 0)) else ((if a0.1 = 9 then (some (decide (a0.1 = 9))) else (some (decide (a0.1 = 10)))).bind fun x40 => if x40 = true then (some (0, 4096, 1, 4096)) else ((if a0.1 = 4 then (some (decide (a0.1 = 4))) else (if a0.1 = 5 then (some (decide (a0.1 = 5))) else (some (decide (a0.1 = 6))))).bind fun x43 => if x43 = true then (some (0, 0, 0, 0)) else (some (0, 4096, 0, 0))))).bind fun (x27, x29, x31, x33) => (op_within Fu a0.2.2.2.1 x27 x29).bind fun x47 => (if x47 = true then (op_within Fu a0.2.2.2.2.1 x31 x33).bind fun x53 => some x53 else some false).bind fun z51 => some z51
set_option maxRecDepth 100000 in
set_option maxHeartbeats 2000000 in
theorem op_numbers_ok (Fu : Nat) {S0 : Snap} (csa0 : List Value) (a0 : Int × Int × Int × Int × Int × (List UInt8) × (List UInt8)) (hsa0 : (tyP tyI (tyP tyI (tyP tyI (tyP tyI (tyP tyI (tyP (tyL ty8) (tyL ty8))))))).rep S0 csa0 a0) (r : Bool) (hf : op_numbers Fu a0 = some r) (w0 : World) (hm : Mem w0 (ownL ([] ++ [.sn S0])) ([] ++ [.sn S0]) w0) :
    Calls Try.prog 67 #[.agg csa0.toArray] w0 (Ret w0 S0 [] (fun v L1 S1 => v = .bool r ∧ L1 = [] ∧ True)) := by
  unfold op_numbers at hf
  obtain ⟨k1, k2, rfl, ⟨rfl, hr3⟩, ⟨k4, k5, rfl, ⟨rfl, hr6⟩, ⟨k7, k8, rfl, ⟨rfl, hr9⟩, ⟨k10, k11, rfl, ⟨rfl, hr12⟩, ⟨k13, k14, rfl, ⟨rfl, hr15⟩, ⟨k16, k17, rfl, ⟨A18, c19, rfl, hs20⟩, ⟨A21, c22, rfl, hs23⟩⟩⟩⟩⟩⟩⟩ := hsa0
  refine c_enterM Try.func67 rfl 31 rfl (by simp) _ hm _ rfl (fun a h => ?_)
  refine c_rs ?_ -- region 0
  refine s_box h rfl rfl rfl (by decide) rfl (cs := [.int .i64 a0.1, .int .i64 a0.2.1, .int .i64 a0.2.2.1, .int .i64 a0.2.2.2.1, .int .i64 a0.2.2.2.2.1, .slice A18 a0.2.2.2.2.2.1.length c19, .slice A21 a0.2.2.2.2.2.2.length c22]) (by rfl) (fun a w g24 h => ?_)
  refine s_assign h rfl _ rfl rfl (by decide) rfl (fun a h => ?_)
  refine l_end ?_
  refine c_rs ?_ -- region 1
  refine s_assign h rfl _ rfl rfl (by decide) rfl (fun a h => ?_)
  refine s_assign h rfl _ rfl rfl (by decide) rfl (fun a h => ?_)
  refine s_assign h rfl _ rfl rfl (by decide) rfl (fun a h => ?_)
  refine s_assign h rfl _ rfl rfl (by decide) rfl (fun a h => ?_)
  refine l_end ?_
  obtain ⟨o25, hc26, hf⟩ := bsome hf
  refine c_cut (fun a w => ∃ (x27 : Int), ∃ (x29 : Int), ∃ (x31 : Int), ∃ (x33 : Int), (x27, x29, x31, x33) = o25 ∧ r64 x27 ∧ r64 x29 ∧ r64 x31 ∧ r64 x33 ∧ St 31 w0 (ownL ([] ++ [.sn S0])) [(1, .pointer (some ⟨g24, 0, none⟩)), (3, .int .i64 x27), (4, .int .i64 x29), (5, .int .i64 x31), (6, .int .i64 x33)] [.box g24 24 ([.int .i64 a0.1, .int .i64 a0.2.1, .int .i64 a0.2.2.1, .int .i64 a0.2.2.2.1, .int .i64 a0.2.2.2.2.1, .slice A18 a0.2.2.2.2.2.1.length c19, .slice A21 a0.2.2.2.2.2.2.length c22]), .sn S0] a w) ?_ ?_
  · refine c_rs ?_ -- region 2
    refine s_x h rfl rfl (by decide) (x_faddr h.k rfl Try.underlying24 rfl sz_int rfl) (fun a h => ?_)
    refine s_x h rfl rfl (by decide) (x_ld h.k rfl Try.underlying3 rfl rfl ((h.m.cell (i := 0) rfl 0).trans rfl)) (fun a h => ?_)
    refine l_end ?_
    refine wp_block ?_
    obtain ⟨o35, hc36, hc26⟩ := bsome hc26
    refine c_cut (fun a w => ∃ (x37 : Bool), x37 = o35 ∧ St 31 w0 (ownL ([] ++ [.sn S0])) [(1, .pointer (some ⟨g24, 0, none⟩)), (3, .int .i64 0), (4, .int .i64 4096), (5, .int .i64 0), (6, .int .i64 0), (8, .int .i64 a0.1), (9, .bool x37)] [.box g24 24 ([.int .i64 a0.1, .int .i64 a0.2.1, .int .i64 a0.2.2.1, .int .i64 a0.2.2.2.1, .int .i64 a0.2.2.2.2.1, .slice A18 a0.2.2.2.2.2.1.length c19, .slice A21 a0.2.2.2.2.2.2.length c22]), .sn S0] a w) ?_ ?_
    · refine c_rs ?_ -- region 3
      refine s_x h rfl rfl (by decide) (x_bin h.k rfl rfl rfl ib_eql) (fun a h => ?_)
      refine s_assign h rfl _ rfl rfl (by decide) rfl (fun a h => ?_)
      refine l_end ?_
      refine c_cond h rfl (fun hb => ?_) (fun hb => ?_)
      · rw [if_pos (of_decide_eq_true hb)] at hc36
        refine wp_skip ?_
        refine e_thenN ?_
        exact ⟨(decide (a0.1 = 2)), (Option.some.inj hc36), h.has (by exact ⟨rfl, rfl, rfl, rfl, rfl, rfl, rfl, trivial⟩)⟩
      · rw [if_neg (of_decide_eq_false hb)] at hc36
        refine c_r ?_ -- region 4
        refine s_x h rfl rfl (by decide) (x_bin h.k rfl rfl rfl ib_eql) (fun a h => ?_)
        refine s_assign h rfl _ rfl rfl (by decide) rfl (fun a h => ?_)
        refine l_nil ?_
        refine e_thenN ?_
        exact ⟨(decide (a0.1 = 3)), (Option.some.inj hc36), h.has (by exact ⟨rfl, rfl, rfl, rfl, rfl, rfl, rfl, trivial⟩)⟩
    · rintro a w ⟨x37, rfl, h⟩
      refine c_cond h rfl (fun hb => ?_) (fun hb => ?_)
      · rw [if_pos hb] at hc26
        refine c_r ?_ -- region 5
        refine s_assign h rfl _ rfl rfl (by decide) rfl (fun a h => ?_)
        refine l_nil ?_
        refine e_blkN ?_
        refine e_thenN ?_
        exact ⟨1, 4096, 0, 0, (Option.some.inj hc26), (show r64 1 from ⟨by decide, by decide⟩), (show r64 4096 from ⟨by decide, by decide⟩), (show r64 0 from ⟨by decide, by decide⟩), (show r64 0 from ⟨by decide, by decide⟩), h.has (by exact ⟨rfl, rfl, rfl, rfl, rfl, trivial⟩)⟩
      · rw [if_neg (by rw [hb]; decide)] at hc26
        obtain ⟨o38, hc39, hc26⟩ := bsome hc26
        refine c_cut (fun a w => ∃ (x40 : Bool), x40 = o38 ∧ St 31 w0 (ownL ([] ++ [.sn S0])) [(1, .pointer (some ⟨g24, 0, none⟩)), (3, .int .i64 0), (4, .int .i64 4096), (5, .int .i64 0), (6, .int .i64 0), (8, .int .i64 a0.1), (12, .bool x40)] [.box g24 24 ([.int .i64 a0.1, .int .i64 a0.2.1, .int .i64 a0.2.2.1, .int .i64 a0.2.2.2.1, .int .i64 a0.2.2.2.2.1, .slice A18 a0.2.2.2.2.2.1.length c19, .slice A21 a0.2.2.2.2.2.2.length c22]), .sn S0] a w) ?_ ?_
        · refine c_rs ?_ -- region 6
          refine s_x h rfl rfl (by decide) (x_bin h.k rfl rfl rfl ib_eql) (fun a h => ?_)
          refine s_assign h rfl _ rfl rfl (by decide) rfl (fun a h => ?_)
          refine l_end ?_
          refine c_cond h rfl (fun hb => ?_) (fun hb => ?_)
          · rw [if_pos (of_decide_eq_true hb)] at hc39
            refine wp_skip ?_
            refine e_thenN ?_
            exact ⟨(decide (a0.1 = 9)), (Option.some.inj hc39), h.has (by exact ⟨rfl, rfl, rfl, rfl, rfl, rfl, rfl, trivial⟩)⟩
          · rw [if_neg (of_decide_eq_false hb)] at hc39
            refine c_r ?_ -- region 7
            refine s_x h rfl rfl (by decide) (x_bin h.k rfl rfl rfl ib_eql) (fun a h => ?_)
            refine s_assign h rfl _ rfl rfl (by decide) rfl (fun a h => ?_)
            refine l_nil ?_
            refine e_thenN ?_
            exact ⟨(decide (a0.1 = 10)), (Option.some.inj hc39), h.has (by exact ⟨rfl, rfl, rfl, rfl, rfl, rfl, rfl, trivial⟩)⟩
        · rintro a w ⟨x40, rfl, h⟩
          refine c_cond h rfl (fun hb => ?_) (fun hb => ?_)
          · rw [if_pos hb] at hc26
            refine c_r ?_ -- region 8
            refine s_assign h rfl _ rfl rfl (by decide) rfl (fun a h => ?_)
            refine s_assign h rfl _ rfl rfl (by decide) rfl (fun a h => ?_)
            refine l_nil ?_
            refine e_blkN ?_
            refine e_thenN ?_
            exact ⟨0, 4096, 1, 4096, (Option.some.inj hc26), (show r64 0 from ⟨by decide, by decide⟩), (show r64 4096 from ⟨by decide, by decide⟩), (show r64 1 from ⟨by decide, by decide⟩), (show r64 4096 from ⟨by decide, by decide⟩), h.has (by exact ⟨rfl, rfl, rfl, rfl, rfl, trivial⟩)⟩
          · rw [if_neg (by rw [hb]; decide)] at hc26
            obtain ⟨o41, hc42, hc26⟩ := bsome hc26
            refine c_cut (fun a w => ∃ (x43 : Bool), x43 = o41 ∧ St 31 w0 (ownL ([] ++ [.sn S0])) [(1, .pointer (some ⟨g24, 0, none⟩)), (3, .int .i64 0), (4, .int .i64 4096), (5, .int .i64 0), (6, .int .i64 0), (15, .bool x43)] [.box g24 24 ([.int .i64 a0.1, .int .i64 a0.2.1, .int .i64 a0.2.2.1, .int .i64 a0.2.2.2.1, .int .i64 a0.2.2.2.2.1, .slice A18 a0.2.2.2.2.2.1.length c19, .slice A21 a0.2.2.2.2.2.2.length c22]), .sn S0] a w) ?_ ?_
            · refine c_rs ?_ -- region 9
              refine s_x h rfl rfl (by decide) (x_bin h.k rfl rfl rfl ib_eql) (fun a h => ?_)
              refine s_assign h rfl _ rfl rfl (by decide) rfl (fun a h => ?_)
              refine l_end ?_
              refine c_cond h rfl (fun hb => ?_) (fun hb => ?_)
              · rw [if_pos (of_decide_eq_true hb)] at hc42
                refine wp_skip ?_
                refine e_thenN ?_
                exact ⟨(decide (a0.1 = 4)), (Option.some.inj hc42), h.has (by exact ⟨rfl, rfl, rfl, rfl, rfl, rfl, trivial⟩)⟩
              · rw [if_neg (of_decide_eq_false hb)] at hc42
                refine c_rs ?_ -- region 10
                refine s_x h rfl rfl (by decide) (x_bin h.k rfl rfl rfl ib_eql) (fun a h => ?_)
                refine s_assign h rfl _ rfl rfl (by decide) rfl (fun a h => ?_)
                refine l_end ?_
                refine c_cond h rfl (fun hb => ?_) (fun hb => ?_)
                · rw [if_pos (of_decide_eq_true hb)] at hc42
                  refine wp_skip ?_
                  refine e_thenN ?_
                  exact ⟨(decide (a0.1 = 5)), (Option.some.inj hc42), h.has (by exact ⟨rfl, rfl, rfl, rfl, rfl, rfl, trivial⟩)⟩
                · rw [if_neg (of_decide_eq_false hb)] at hc42
                  refine c_r ?_ -- region 11
                  refine s_x h rfl rfl (by decide) (x_bin h.k rfl rfl rfl ib_eql) (fun a h => ?_)
                  refine s_assign h rfl _ rfl rfl (by decide) rfl (fun a h => ?_)
                  refine l_nil ?_
                  refine e_thenN ?_
                  exact ⟨(decide (a0.1 = 6)), (Option.some.inj hc42), h.has (by exact ⟨rfl, rfl, rfl, rfl, rfl, rfl, trivial⟩)⟩
            · rintro a w ⟨x43, rfl, h⟩
              refine c_cond h rfl (fun hb => ?_) (fun hb => ?_)
              · rw [if_pos hb] at hc26
                refine c_r ?_ -- region 12
                refine s_assign h rfl _ rfl rfl (by decide) rfl (fun a h => ?_)
                refine l_nil ?_
                refine e_blkN ?_
                refine e_thenN ?_
                exact ⟨0, 0, 0, 0, (Option.some.inj hc26), (show r64 0 from ⟨by decide, by decide⟩), (show r64 0 from ⟨by decide, by decide⟩), (show r64 0 from ⟨by decide, by decide⟩), (show r64 0 from ⟨by decide, by decide⟩), h.has (by exact ⟨rfl, rfl, rfl, rfl, rfl, trivial⟩)⟩
              · rw [if_neg (by rw [hb]; decide)] at hc26
                refine wp_skip ?_
                refine e_blkN ?_
                refine e_thenN ?_
                exact ⟨0, 4096, 0, 0, (Option.some.inj hc26), (show r64 0 from ⟨by decide, by decide⟩), (show r64 4096 from ⟨by decide, by decide⟩), (show r64 0 from ⟨by decide, by decide⟩), (show r64 0 from ⟨by decide, by decide⟩), h.has (by exact ⟨rfl, rfl, rfl, rfl, rfl, trivial⟩)⟩
  · rintro a w ⟨x27, x29, x31, x33, rfl, hr28, hr30, hr32, hr34, h⟩
    try dsimp only at hf
    refine c_rs ?_ -- region 13
    refine s_x h rfl rfl (by decide) (x_faddr h.k rfl Try.underlying24 rfl sz_int rfl) (fun a h => ?_)
    refine s_x h rfl rfl (by decide) (x_ld h.k rfl Try.underlying3 rfl rfl ((h.m.cell (i := 0) rfl 3).trans rfl)) (fun a h => ?_)
    refine s_move h rfl _ rfl rfl (by decide) rfl (fun a h => ?_)
    refine s_move h rfl _ rfl rfl (by decide) rfl (fun a h => ?_)
    obtain ⟨x47, h48, hf⟩ := bsome hf
    have hX := op_within_ok Fu (S0 := snapAll _) a0.2.2.2.1 hr12 x27 hr28 x29 hr30 _ h48 _ h.startAll
    refine q_callX hX h rfl rfl rfl (by decide) Try.func65 rfl rfl rfl (fun a w v L1 S1 hR hb1 h => ?_)
    obtain ⟨rfl, rfl, _⟩ := hR
    refine s_move h rfl _ rfl rfl (by decide) rfl (fun a h => ?_)
    obtain ⟨z51, hz50, hf⟩ := bsome hf
    refine q_grp h 6 (t := 24) 30 z51 rfl (fun hB5 => ?_) (fun hB5 => ?_) (fun a w h => ?_)
    · rw [if_pos hB5] at hz50
      refine g_yes h rfl rfl rfl rfl hB5 ?_
      refine s_x h rfl rfl (by decide) (x_faddr h.k rfl Try.underlying24 rfl sz_int rfl) (fun a h => ?_)
      refine g_yes h rfl rfl rfl rfl hB5 ?_
      refine s_x h rfl rfl (by decide) (x_ld h.k rfl Try.underlying3 rfl rfl ((h.m.cell (i := 0) rfl 4).trans rfl)) (fun a h => ?_)
      refine g_yes h rfl rfl rfl rfl hB5 ?_
      refine s_move h rfl _ rfl rfl (by decide) rfl (fun a h => ?_)
      refine g_yes h rfl rfl rfl rfl hB5 ?_
      refine s_move h rfl _ rfl rfl (by decide) rfl (fun a h => ?_)
      refine g_yes h rfl rfl rfl rfl hB5 ?_
      obtain ⟨x53, h54, hz50⟩ := bsome hz50
      have hX := op_within_ok Fu (S0 := snapAll _) a0.2.2.2.2.1 hr15 x31 hr32 x33 hr34 _ h54 _ h.startAll
      refine q_callX hX h rfl rfl rfl (by decide) Try.func65 rfl rfl rfl (fun a w v L1 S1 hR hb1 h => ?_)
      obtain ⟨rfl, rfl, _⟩ := hR
      refine s_x h rfl rfl (by decide) (x_pick (u' := undef) h.k rfl rfl (fun _ => rfl) (fun hh => absurd (hB5.symm.trans hh) (by decide))) (fun a h => ?_)
      exact (h.mid 5 rfl).val (by rw [Option.some.inj hz50])
    · refine g_no h rfl rfl rfl rfl hB5 rfl (by decide) (fun a h => ?_)
      refine g_no h rfl rfl rfl rfl hB5 rfl (by decide) (fun a h => ?_)
      refine g_no h rfl rfl rfl rfl hB5 rfl (by decide) (fun a h => ?_)
      refine g_no h rfl rfl rfl rfl hB5 rfl (by decide) (fun a h => ?_)
      refine g_no h rfl rfl rfl rfl hB5 rfl (by decide) (fun a h => ?_)
      rw [if_neg (by rw [hB5]; decide)] at hz50
      refine s_x h rfl rfl (by decide) (x_pick (u' := undef) h.k rfl rfl (fun hh => absurd (hB5.symm.trans hh) (by decide)) (fun _ => rfl)) (fun a h => ?_)
      exact (h.mid 5 rfl).val (by rw [Option.some.inj hz50])
    refine s_assign h rfl _ rfl rfl (by decide) rfl (fun a h => ?_)
    refine l_end ?_
    refine wp_ret ?_
    rw [← Option.some.inj hf]
    exact r_ret1 h rfl (rv_tmp h rfl) ⟨_, [], _, rfl, ⟨rfl, rfl, trivial⟩, rfl, (Up.refl _ _ _), (h.m.pick [1] _ (by decide) rfl)⟩
def op_data (Fu : Nat) (a0 : Int × Int × Int × Int × Int × (List UInt8) × (List UInt8)) (a1 : Int) : Option Bool :=
  if a0.1 = 1 then ((cred_Right Fu a0.2.2.2.2.2.2).bind fun x25 => some x25) else (if a0.1 = 5 then ((cred_Right Fu a0.2.2.2.2.2.2).bind fun x28 => some x28) else (if a0.1 = 8 then (some (decide ((a0.2.2.2.2.2.2.length : Int) = a1))) else (some (decide ((a0.2.2.2.2.2.2.length : Int) = 0)))))
set_option maxRecDepth 100000 in
set_option maxHeartbeats 2000000 in
theorem op_data_ok (Fu : Nat) {S0 : Snap} (csa0 : List Value) (a0 : Int × Int × Int × Int × Int × (List UInt8) × (List UInt8)) (hsa0 : (tyP tyI (tyP tyI (tyP tyI (tyP tyI (tyP tyI (tyP (tyL ty8) (tyL ty8))))))).rep S0 csa0 a0) (a1 : Int) (hra1 : r64 a1) (r : Bool) (hf : op_data Fu a0 a1 = some r) (w0 : World) (hm : Mem w0 (ownL ([] ++ [.sn S0])) ([] ++ [.sn S0]) w0) :
    Calls Try.prog 68 #[.agg csa0.toArray, .int .i64 a1] w0 (Ret w0 S0 [] (fun v L1 S1 => v = .bool r ∧ L1 = [] ∧ True)) := by
  unfold op_data at hf
  obtain ⟨k1, k2, rfl, ⟨rfl, hr3⟩, ⟨k4, k5, rfl, ⟨rfl, hr6⟩, ⟨k7, k8, rfl, ⟨rfl, hr9⟩, ⟨k10, k11, rfl, ⟨rfl, hr12⟩, ⟨k13, k14, rfl, ⟨rfl, hr15⟩, ⟨k16, k17, rfl, ⟨A18, c19, rfl, hs20⟩, ⟨A21, c22, rfl, hs23⟩⟩⟩⟩⟩⟩⟩ := hsa0
  refine c_enterM Try.func68 rfl 25 rfl (by simp) _ hm _ rfl (fun a h => ?_)
  refine c_rs ?_ -- region 0
  refine s_box h rfl rfl rfl (by decide) rfl (cs := [.int .i64 a0.1, .int .i64 a0.2.1, .int .i64 a0.2.2.1, .int .i64 a0.2.2.2.1, .int .i64 a0.2.2.2.2.1, .slice A18 a0.2.2.2.2.2.1.length c19, .slice A21 a0.2.2.2.2.2.2.length c22]) (by rfl) (fun a w g24 h => ?_)
  refine s_assign h rfl _ rfl rfl (by decide) rfl (fun a h => ?_)
  refine l_end ?_
  refine wp_seq ?_
  refine c_rs ?_ -- region 1
  refine s_x h rfl rfl (by decide) (x_faddr h.k rfl Try.underlying24 rfl sz_int rfl) (fun a h => ?_)
  refine s_x h rfl rfl (by decide) (x_ld h.k rfl Try.underlying3 rfl rfl ((h.m.cell (i := 0) rfl 0).trans rfl)) (fun a h => ?_)
  refine l_end ?_
  refine wp_block ?_
  refine wp_seq ?_
  refine wp_block ?_
  refine wp_seq ?_
  refine wp_block ?_
  refine wp_block ?_
  refine wp_seq ?_
  refine wp_seq ?_
  refine c_rs ?_ -- region 2
  refine s_x h rfl rfl (by decide) (x_bin h.k rfl rfl rfl ib_eql) (fun a h => ?_)
  refine s_assign h rfl _ rfl rfl (by decide) rfl (fun a h => ?_)
  refine l_end ?_
  refine c_cond h rfl (fun hb => ?_) (fun hb => ?_)
  · rw [if_pos (of_decide_eq_true hb)] at hf
    refine wp_exit ?_
    refine e_thenX ?_
    refine e_thenX ?_
    refine e_blkX ?_
    refine e_blkN ?_
    refine e_thenN ?_
    refine wp_seq ?_
    refine c_rs ?_ -- region 5
    refine s_x h rfl rfl (by decide) (x_faddr h.k rfl Try.underlying24 rfl sz_Suint8 rfl) (fun a h => ?_)
    refine s_x h rfl rfl (by decide) (x_ld h.k rfl Try.underlying22 rfl rfl ((h.m.cell (i := 0) rfl 6).trans rfl)) (fun a h => ?_)
    obtain ⟨x25, h26, hf⟩ := bsome hf
    have hX := cred_Right_ok Fu (S0 := snapAll _) A21 c22 a0.2.2.2.2.2.2 (hs23.mono (h.m.leAll (i := 1) rfl)) _ h26 _ h.startAll
    refine q_callX hX h rfl rfl rfl (by decide) Try.func89 rfl rfl rfl (fun a w v L1 S1 hR hb1 h => ?_)
    obtain ⟨rfl, rfl, _⟩ := hR
    refine s_assign h rfl _ rfl rfl (by decide) rfl (fun a h => ?_)
    refine l_end ?_
    refine wp_ret ?_
    refine e_thenR ?_
    refine e_blkR ?_
    refine e_thenR ?_
    refine e_blkR ?_
    refine e_thenR ?_
    rw [← Option.some.inj hf]
    exact r_ret1 h rfl (rv_tmp h rfl) ⟨_, [], _, rfl, ⟨rfl, rfl, trivial⟩, rfl, (Up.refl _ _ _), (h.m.pick [1] _ (by decide) rfl)⟩
  · rw [if_neg (of_decide_eq_false hb)] at hf
    refine wp_skip ?_
    refine e_thenN ?_
    refine wp_seq ?_
    refine c_rs ?_ -- region 3
    refine s_x h rfl rfl (by decide) (x_bin h.k rfl rfl rfl ib_eql) (fun a h => ?_)
    refine s_assign h rfl _ rfl rfl (by decide) rfl (fun a h => ?_)
    refine l_end ?_
    refine c_cond h rfl (fun hb => ?_) (fun hb => ?_)
    · rw [if_pos (of_decide_eq_true hb)] at hf
      refine wp_exit ?_
      refine e_thenX ?_
      refine e_thenX ?_
      refine e_blkY (by decide) ?_
      refine e_blkX ?_
      refine e_thenN ?_
      refine wp_seq ?_
      refine c_rs ?_ -- region 5
      refine s_x h rfl rfl (by decide) (x_faddr h.k rfl Try.underlying24 rfl sz_Suint8 rfl) (fun a h => ?_)
      refine s_x h rfl rfl (by decide) (x_ld h.k rfl Try.underlying22 rfl rfl ((h.m.cell (i := 0) rfl 6).trans rfl)) (fun a h => ?_)
      obtain ⟨x28, h29, hf⟩ := bsome hf
      have hX := cred_Right_ok Fu (S0 := snapAll _) A21 c22 a0.2.2.2.2.2.2 (hs23.mono (h.m.leAll (i := 1) rfl)) _ h29 _ h.startAll
      refine q_callX hX h rfl rfl rfl (by decide) Try.func89 rfl rfl rfl (fun a w v L1 S1 hR hb1 h => ?_)
      obtain ⟨rfl, rfl, _⟩ := hR
      refine s_assign h rfl _ rfl rfl (by decide) rfl (fun a h => ?_)
      refine l_end ?_
      refine wp_ret ?_
      refine e_thenR ?_
      refine e_blkR ?_
      refine e_thenR ?_
      refine e_blkR ?_
      refine e_thenR ?_
      rw [← Option.some.inj hf]
      exact r_ret1 h rfl (rv_tmp h rfl) ⟨_, [], _, rfl, ⟨rfl, rfl, trivial⟩, rfl, (Up.refl _ _ _), (h.m.pick [1] _ (by decide) rfl)⟩
    · rw [if_neg (of_decide_eq_false hb)] at hf
      refine wp_skip ?_
      refine e_thenN ?_
      refine c_rs ?_ -- region 4
      refine s_x h rfl rfl (by decide) (x_bin h.k rfl rfl rfl ib_eql) (fun a h => ?_)
      refine s_assign h rfl _ rfl rfl (by decide) rfl (fun a h => ?_)
      refine l_end ?_
      refine c_cond h rfl (fun hb => ?_) (fun hb => ?_)
      · rw [if_pos (of_decide_eq_true hb)] at hf
        refine wp_exit ?_
        refine e_thenX ?_
        refine e_blkY (by decide) ?_
        refine e_blkY (by decide) ?_
        refine e_thenX ?_
        refine e_blkX ?_
        refine e_thenN ?_
        refine wp_seq ?_
        refine c_rs ?_ -- region 6
        refine s_x h rfl rfl (by decide) (x_faddr h.k rfl Try.underlying24 rfl sz_Suint8 rfl) (fun a h => ?_)
        refine s_x h rfl rfl (by decide) (x_ld h.k rfl Try.underlying22 rfl rfl ((h.m.cell (i := 0) rfl 6).trans rfl)) (fun a h => ?_)
        refine s_x h rfl rfl (by decide) (x_len h.k rfl Try.underlying22 rfl) (fun a h => ?_)
        refine s_move h rfl _ rfl rfl (by decide) rfl (fun a h => ?_)
        refine s_x h rfl rfl (by decide) (x_bin h.k rfl rfl rfl ib_eql) (fun a h => ?_)
        refine s_assign h rfl _ rfl rfl (by decide) rfl (fun a h => ?_)
        refine l_end ?_
        refine wp_ret ?_
        refine e_thenR ?_
        refine e_blkR ?_
        refine e_thenR ?_
        obtain rfl := Option.some.inj hf
        exact r_ret1 h rfl (rv_tmp h rfl) ⟨_, [], _, rfl, ⟨rfl, rfl, trivial⟩, rfl, (Up.refl _ _ _), (h.m.pick [1] _ (by decide) rfl)⟩
      · rw [if_neg (of_decide_eq_false hb)] at hf
        refine wp_skip ?_
        refine e_thenN ?_
        refine wp_exit ?_
        refine e_blkY (by decide) ?_
        refine e_blkY (by decide) ?_
        refine e_thenX ?_
        refine e_blkY (by decide) ?_
        refine e_thenX ?_
        refine e_blkX ?_
        refine e_thenN ?_
        refine c_rs ?_ -- region 7
        refine s_x h rfl rfl (by decide) (x_faddr h.k rfl Try.underlying24 rfl sz_Suint8 rfl) (fun a h => ?_)
        refine s_x h rfl rfl (by decide) (x_ld h.k rfl Try.underlying22 rfl rfl ((h.m.cell (i := 0) rfl 6).trans rfl)) (fun a h => ?_)
        refine s_x h rfl rfl (by decide) (x_len h.k rfl Try.underlying22 rfl) (fun a h => ?_)
        refine s_x h rfl rfl (by decide) (x_bin h.k rfl rfl rfl ib_eql) (fun a h => ?_)
        refine s_assign h rfl _ rfl rfl (by decide) rfl (fun a h => ?_)
        refine l_end ?_
        refine wp_ret ?_
        obtain rfl := Option.some.inj hf
        exact r_ret1 h rfl (rv_tmp h rfl) ⟨_, [], _, rfl, ⟨rfl, rfl, trivial⟩, rfl, (Up.refl _ _ _), (h.m.pick [1] _ (by decide) rfl)⟩
def op_Right (Fu : Nat) (a0 : Int × Int × Int × Int × Int × (List UInt8) × (List UInt8)) (a1 : Int) : Option Bool :=
  (op_within Fu a0.1 1 10).bind fun x25 => (if (!x25) = true then some true else (op_within Fu a0.2.1 1 16).bind fun x31 => some (!x31)).bind fun z29 => if (z29 || (decide (64 < (a0.2.2.2.2.2.1.length : Int)))) = true then (some false) else (((op_spaceless Fu a0.1).bind fun x42 => if x42 = true then (some (0, 0)) else (some (1, 64))).bind fun (x38, x40) => (op_within Fu a0.2.2.1 x38 x40).bind fun x45 => (if x45 = true then (op_numbers Fu a0).bind fun x51 => some x51 else some false).bind fun z49 => (if z49 = true then (op_data Fu a0 a1).bind fun x57 => some x57 else some false).bind fun z55 => some z55)
set_option maxRecDepth 100000 in
set_option maxHeartbeats 2000000 in
theorem op_Right_ok (Fu : Nat) {S0 : Snap} (csa0 : List Value) (a0 : Int × Int × Int × Int × Int × (List UInt8) × (List UInt8)) (hsa0 : (tyP tyI (tyP tyI (tyP tyI (tyP tyI (tyP tyI (tyP (tyL ty8) (tyL ty8))))))).rep S0 csa0 a0) (a1 : Int) (hra1 : r64 a1) (r : Bool) (hf : op_Right Fu a0 a1 = some r) (w0 : World) (hm : Mem w0 (ownL ([] ++ [.sn S0])) ([] ++ [.sn S0]) w0) :
    Calls Try.prog 15 #[.agg csa0.toArray, .int .i64 a1] w0 (Ret w0 S0 [] (fun v L1 S1 => v = .bool r ∧ L1 = [] ∧ True)) := by
  unfold op_Right at hf
  obtain ⟨k1, k2, rfl, ⟨rfl, hr3⟩, ⟨k4, k5, rfl, ⟨rfl, hr6⟩, ⟨k7, k8, rfl, ⟨rfl, hr9⟩, ⟨k10, k11, rfl, ⟨rfl, hr12⟩, ⟨k13, k14, rfl, ⟨rfl, hr15⟩, ⟨k16, k17, rfl, ⟨A18, c19, rfl, hs20⟩, ⟨A21, c22, rfl, hs23⟩⟩⟩⟩⟩⟩⟩ := hsa0
  refine c_enterM Try.func15 rfl 40 rfl (by simp) _ hm _ rfl (fun a h => ?_)
  refine c_rs ?_ -- region 0
  refine s_box h rfl rfl rfl (by decide) rfl (cs := [.int .i64 a0.1, .int .i64 a0.2.1, .int .i64 a0.2.2.1, .int .i64 a0.2.2.2.1, .int .i64 a0.2.2.2.2.1, .slice A18 a0.2.2.2.2.2.1.length c19, .slice A21 a0.2.2.2.2.2.2.length c22]) (by rfl) (fun a w g24 h => ?_)
  refine s_assign h rfl _ rfl rfl (by decide) rfl (fun a h => ?_)
  refine l_end ?_
  refine wp_seq ?_
  refine c_rs ?_ -- region 1
  refine s_x h rfl rfl (by decide) (x_faddr h.k rfl Try.underlying24 rfl sz_int rfl) (fun a h => ?_)
  refine s_x h rfl rfl (by decide) (x_ld h.k rfl Try.underlying3 rfl rfl ((h.m.cell (i := 0) rfl 0).trans rfl)) (fun a h => ?_)
  obtain ⟨x25, h26, hf⟩ := bsome hf
  have hX := op_within_ok Fu (S0 := snapAll _) a0.1 hr3 1 (show r64 1 from ⟨by decide, by decide⟩) 10 (show r64 10 from ⟨by decide, by decide⟩) _ h26 _ h.startAll
  refine q_callX hX h rfl rfl rfl (by decide) Try.func65 rfl rfl rfl (fun a w v L1 S1 hR hb1 h => ?_)
  obtain ⟨rfl, rfl, _⟩ := hR
  refine s_x h rfl rfl (by decide) (x_not h.k rfl rfl) (fun a h => ?_)
  refine s_move h rfl _ rfl rfl (by decide) rfl (fun a h => ?_)
  obtain ⟨z29, hz28, hf⟩ := bsome hf
  refine q_grp h 5 (t := 11) 16 z29 rfl (fun hB4 => ?_) (fun hB4 => ?_) (fun a w h => ?_)
  · refine g_no h rfl rfl rfl rfl hB4 rfl (by decide) (fun a h => ?_)
    refine g_no h rfl rfl rfl rfl hB4 rfl (by decide) (fun a h => ?_)
    refine g_no h rfl rfl rfl rfl hB4 rfl (by decide) (fun a h => ?_)
    refine g_no h rfl rfl rfl rfl hB4 rfl (by decide) (fun a h => ?_)
    rw [if_pos hB4] at hz28
    refine s_x h rfl rfl (by decide) (x_pick (u' := undef) h.k rfl rfl (fun _ => rfl) (fun hh => absurd (hB4.symm.trans hh) (by decide))) (fun a h => ?_)
    exact (h.mid 4 rfl).val (by rw [Option.some.inj hz28])
  · rw [if_neg (by rw [hB4]; decide)] at hz28
    refine g_yes h rfl rfl rfl rfl hB4 ?_
    refine s_x h rfl rfl (by decide) (x_faddr h.k rfl Try.underlying24 rfl sz_int rfl) (fun a h => ?_)
    refine g_yes h rfl rfl rfl rfl hB4 ?_
    refine s_x h rfl rfl (by decide) (x_ld h.k rfl Try.underlying3 rfl rfl ((h.m.cell (i := 0) rfl 1).trans rfl)) (fun a h => ?_)
    refine g_yes h rfl rfl rfl rfl hB4 ?_
    obtain ⟨x31, h32, hz28⟩ := bsome hz28
    have hX := op_within_ok Fu (S0 := snapAll _) a0.2.1 hr6 1 (show r64 1 from ⟨by decide, by decide⟩) 16 (show r64 16 from ⟨by decide, by decide⟩) _ h32 _ h.startAll
    refine q_callX hX h rfl rfl rfl (by decide) Try.func65 rfl rfl rfl (fun a w v L1 S1 hR hb1 h => ?_)
    obtain ⟨rfl, rfl, _⟩ := hR
    refine g_yes h rfl rfl rfl rfl hB4 ?_
    refine s_x h rfl rfl (by decide) (x_not h.k rfl rfl) (fun a h => ?_)
    refine s_x h rfl rfl (by decide) (x_pick (u' := undef) h.k rfl rfl (fun hh => absurd (hB4.symm.trans hh) (by decide)) (fun _ => rfl)) (fun a h => ?_)
    exact (h.mid 4 rfl).val (by rw [Option.some.inj hz28])
  refine s_move h rfl _ rfl rfl (by decide) rfl (fun a h => ?_)
  refine q_grp h 5 (t := 17) 22 (z29 || (decide (64 < (a0.2.2.2.2.2.1.length : Int)))) rfl (fun hB10 => ?_) (fun hB10 => ?_) (fun a w h => ?_)
  · refine g_no h rfl rfl rfl rfl hB10 rfl (by decide) (fun a h => ?_)
    refine g_no h rfl rfl rfl rfl hB10 rfl (by decide) (fun a h => ?_)
    refine g_no h rfl rfl rfl rfl hB10 rfl (by decide) (fun a h => ?_)
    refine g_no h rfl rfl rfl rfl hB10 rfl (by decide) (fun a h => ?_)
    refine s_x h rfl rfl (by decide) (x_pick (u' := undef) h.k rfl rfl (fun _ => rfl) (fun hh => absurd (hB10.symm.trans hh) (by decide))) (fun a h => ?_)
    exact (h.mid 4 rfl).val (by first | rfl | (rw [hB10]; first | rfl | simp))
  · refine g_yes h rfl rfl rfl rfl hB10 ?_
    refine s_x h rfl rfl (by decide) (x_faddr h.k rfl Try.underlying24 rfl sz_Suint8 rfl) (fun a h => ?_)
    refine g_yes h rfl rfl rfl rfl hB10 ?_
    refine s_x h rfl rfl (by decide) (x_ld h.k rfl Try.underlying22 rfl rfl ((h.m.cell (i := 0) rfl 5).trans rfl)) (fun a h => ?_)
    refine g_yes h rfl rfl rfl rfl hB10 ?_
    refine s_x h rfl rfl (by decide) (x_len h.k rfl Try.underlying22 rfl) (fun a h => ?_)
    refine g_yes h rfl rfl rfl rfl hB10 ?_
    refine s_x h rfl rfl (by decide) (x_bin h.k rfl rfl rfl ib_gtr) (fun a h => ?_)
    refine s_x h rfl rfl (by decide) (x_pick (u' := undef) h.k rfl rfl (fun hh => absurd (hB10.symm.trans hh) (by decide)) (fun _ => rfl)) (fun a h => ?_)
    exact (h.mid 4 rfl).val (by first | rfl | (rw [hB10]; first | rfl | simp))
  refine l_end ?_
  refine c_cond h rfl (fun hb => ?_) (fun hb => ?_)
  · rw [if_pos hb] at hf
    refine c_rs ?_ -- region 2
    refine s_assign h rfl _ rfl rfl (by decide) rfl (fun a h => ?_)
    refine l_end ?_
    refine wp_ret ?_
    refine e_thenR ?_
    rw [← Option.some.inj hf]
    exact r_ret1 h rfl (rv_tmp h rfl) ⟨_, [], _, rfl, ⟨rfl, rfl, trivial⟩, rfl, (Up.refl _ _ _), (h.m.pick [1] _ (by decide) rfl)⟩
  · rw [if_neg (by rw [hb]; decide)] at hf
    refine wp_skip ?_
    refine e_thenN ?_
    refine c_rs ?_ -- region 3
    refine s_assign h rfl _ rfl rfl (by decide) rfl (fun a h => ?_)
    refine s_assign h rfl _ rfl rfl (by decide) rfl (fun a h => ?_)
    refine l_end ?_
    obtain ⟨o36, hc37, hf⟩ := bsome hf
    refine c_cut (fun a w => ∃ (x38 : Int), ∃ (x40 : Int), (x38, x40) = o36 ∧ r64 x38 ∧ r64 x40 ∧ St 40 w0 (ownL ([] ++ [.sn S0])) [(1, .int .i64 a1), (2, .pointer (some ⟨g24, 0, none⟩)), (5, .int .i64 x38), (6, .int .i64 x40)] [.box g24 24 ([.int .i64 a0.1, .int .i64 a0.2.1, .int .i64 a0.2.2.1, .int .i64 a0.2.2.2.1, .int .i64 a0.2.2.2.2.1, .slice A18 a0.2.2.2.2.2.1.length c19, .slice A21 a0.2.2.2.2.2.2.length c22]), .sn S0] a w) ?_ ?_
    · refine c_rs ?_ -- region 4
      refine s_x h rfl rfl (by decide) (x_faddr h.k rfl Try.underlying24 rfl sz_int rfl) (fun a h => ?_)
      refine s_x h rfl rfl (by decide) (x_ld h.k rfl Try.underlying3 rfl rfl ((h.m.cell (i := 0) rfl 0).trans rfl)) (fun a h => ?_)
      obtain ⟨x42, h43, hc37⟩ := bsome hc37
      have hX := op_spaceless_ok Fu (S0 := snapAll _) a0.1 hr3 _ h43 _ h.startAll
      refine q_callX hX h rfl rfl rfl (by decide) Try.func66 rfl rfl rfl (fun a w v L1 S1 hR hb1 h => ?_)
      obtain ⟨rfl, rfl, _⟩ := hR
      refine l_end ?_
      refine c_cond h rfl (fun hb => ?_) (fun hb => ?_)
      · rw [if_pos hb] at hc37
        refine c_r ?_ -- region 5
        refine s_assign h rfl _ rfl rfl (by decide) rfl (fun a h => ?_)
        refine s_assign h rfl _ rfl rfl (by decide) rfl (fun a h => ?_)
        refine l_nil ?_
        refine e_thenN ?_
        exact ⟨0, 0, (Option.some.inj hc37), (show r64 0 from ⟨by decide, by decide⟩), (show r64 0 from ⟨by decide, by decide⟩), h.has (by exact ⟨rfl, rfl, rfl, rfl, trivial⟩)⟩
      · rw [if_neg (by rw [hb]; decide)] at hc37
        refine wp_skip ?_
        refine e_thenN ?_
        exact ⟨1, 64, (Option.some.inj hc37), (show r64 1 from ⟨by decide, by decide⟩), (show r64 64 from ⟨by decide, by decide⟩), h.has (by exact ⟨rfl, rfl, rfl, rfl, trivial⟩)⟩
    · rintro a w ⟨x38, x40, rfl, hr39, hr41, h⟩
      try dsimp only at hf
      refine c_rs ?_ -- region 6
      refine s_x h rfl rfl (by decide) (x_faddr h.k rfl Try.underlying24 rfl sz_int rfl) (fun a h => ?_)
      refine s_x h rfl rfl (by decide) (x_ld h.k rfl Try.underlying3 rfl rfl ((h.m.cell (i := 0) rfl 2).trans rfl)) (fun a h => ?_)
      refine s_move h rfl _ rfl rfl (by decide) rfl (fun a h => ?_)
      refine s_move h rfl _ rfl rfl (by decide) rfl (fun a h => ?_)
      obtain ⟨x45, h46, hf⟩ := bsome hf
      have hX := op_within_ok Fu (S0 := snapAll _) a0.2.2.1 hr9 x38 hr39 x40 hr41 _ h46 _ h.startAll
      refine q_callX hX h rfl rfl rfl (by decide) Try.func65 rfl rfl rfl (fun a w v L1 S1 hR hb1 h => ?_)
      obtain ⟨rfl, rfl, _⟩ := hR
      refine s_move h rfl _ rfl rfl (by decide) rfl (fun a h => ?_)
      obtain ⟨z49, hz48, hf⟩ := bsome hf
      refine q_grp h 3 (t := 31) 34 z49 rfl (fun hB5 => ?_) (fun hB5 => ?_) (fun a w h => ?_)
      · rw [if_pos hB5] at hz48
        refine g_yes h rfl rfl rfl rfl hB5 ?_
        refine s_x h rfl rfl (by decide) (x_ldR h.k rfl ag_api_Op rfl ([.int .i64 a0.1, .int .i64 a0.2.1, .int .i64 a0.2.2.1, .int .i64 a0.2.2.2.1, .int .i64 a0.2.2.2.2.1, .slice A18 a0.2.2.2.2.2.1.length c19, .slice A21 a0.2.2.2.2.2.2.length c22]) rfl (h.m.range0 (i := 0) rfl)) (fun a h => ?_)
        refine g_yes h rfl rfl rfl rfl hB5 ?_
        obtain ⟨x51, h52, hz48⟩ := bsome hz48
        have hX := op_numbers_ok Fu (S0 := snapAll _) ([.int .i64 a0.1, .int .i64 a0.2.1, .int .i64 a0.2.2.1, .int .i64 a0.2.2.2.1, .int .i64 a0.2.2.2.2.1, .slice A18 a0.2.2.2.2.2.1.length c19, .slice A21 a0.2.2.2.2.2.2.length c22]) a0 ((tyP tyI (tyP tyI (tyP tyI (tyP tyI (tyP tyI (tyP (tyL ty8) (tyL ty8))))))).mono (h.m.leAll (i := 1) rfl) (show (tyP tyI (tyP tyI (tyP tyI (tyP tyI (tyP tyI (tyP (tyL ty8) (tyL ty8))))))).rep S0 ([.int .i64 a0.1, .int .i64 a0.2.1, .int .i64 a0.2.2.1, .int .i64 a0.2.2.2.1, .int .i64 a0.2.2.2.2.1, .slice A18 a0.2.2.2.2.2.1.length c19, .slice A21 a0.2.2.2.2.2.2.length c22]) a0 from ⟨[.int .i64 a0.1], [.int .i64 a0.2.1, .int .i64 a0.2.2.1, .int .i64 a0.2.2.2.1, .int .i64 a0.2.2.2.2.1, .slice A18 a0.2.2.2.2.2.1.length c19, .slice A21 a0.2.2.2.2.2.2.length c22], rfl, ⟨rfl, hr3⟩, ⟨[.int .i64 a0.2.1], [.int .i64 a0.2.2.1, .int .i64 a0.2.2.2.1, .int .i64 a0.2.2.2.2.1, .slice A18 a0.2.2.2.2.2.1.length c19, .slice A21 a0.2.2.2.2.2.2.length c22], rfl, ⟨rfl, hr6⟩, ⟨[.int .i64 a0.2.2.1], [.int .i64 a0.2.2.2.1, .int .i64 a0.2.2.2.2.1, .slice A18 a0.2.2.2.2.2.1.length c19, .slice A21 a0.2.2.2.2.2.2.length c22], rfl, ⟨rfl, hr9⟩, ⟨[.int .i64 a0.2.2.2.1], [.int .i64 a0.2.2.2.2.1, .slice A18 a0.2.2.2.2.2.1.length c19, .slice A21 a0.2.2.2.2.2.2.length c22], rfl, ⟨rfl, hr12⟩, ⟨[.int .i64 a0.2.2.2.2.1], [.slice A18 a0.2.2.2.2.2.1.length c19, .slice A21 a0.2.2.2.2.2.2.length c22], rfl, ⟨rfl, hr15⟩, ⟨[.slice A18 a0.2.2.2.2.2.1.length c19], [.slice A21 a0.2.2.2.2.2.2.length c22], rfl, ⟨_, _, rfl, hs20⟩, ⟨_, _, rfl, hs23⟩⟩⟩⟩⟩⟩⟩)) _ h52 _ h.startAll
        refine q_callX hX h rfl rfl rfl (by decide) Try.func67 rfl rfl rfl (fun a w v L1 S1 hR hb1 h => ?_)
        obtain ⟨rfl, rfl, _⟩ := hR
        refine s_x h rfl rfl (by decide) (x_pick (u' := undef) h.k rfl rfl (fun _ => rfl) (fun hh => absurd (hB5.symm.trans hh) (by decide))) (fun a h => ?_)
        exact (h.mid 2 rfl).val (by rw [Option.some.inj hz48])
      · refine g_no h rfl rfl rfl rfl hB5 rfl (by decide) (fun a h => ?_)
        refine g_no h rfl rfl rfl rfl hB5 rfl (by decide) (fun a h => ?_)
        rw [if_neg (by rw [hB5]; decide)] at hz48
        refine s_x h rfl rfl (by decide) (x_pick (u' := undef) h.k rfl rfl (fun hh => absurd (hB5.symm.trans hh) (by decide)) (fun _ => rfl)) (fun a h => ?_)
        exact (h.mid 2 rfl).val (by rw [Option.some.inj hz48])
      refine s_move h rfl _ rfl rfl (by decide) rfl (fun a h => ?_)
      obtain ⟨z55, hz54, hf⟩ := bsome hf
      refine q_grp h 4 (t := 35) 39 z55 rfl (fun hB9 => ?_) (fun hB9 => ?_) (fun a w h => ?_)
      · rw [if_pos hB9] at hz54
        refine g_yes h rfl rfl rfl rfl hB9 ?_
        refine s_x h rfl rfl (by decide) (x_ldR h.k rfl ag_api_Op rfl ([.int .i64 a0.1, .int .i64 a0.2.1, .int .i64 a0.2.2.1, .int .i64 a0.2.2.2.1, .int .i64 a0.2.2.2.2.1, .slice A18 a0.2.2.2.2.2.1.length c19, .slice A21 a0.2.2.2.2.2.2.length c22]) rfl (h.m.range0 (i := 0) rfl)) (fun a h => ?_)
        refine g_yes h rfl rfl rfl rfl hB9 ?_
        refine s_move h rfl _ rfl rfl (by decide) rfl (fun a h => ?_)
        refine g_yes h rfl rfl rfl rfl hB9 ?_
        obtain ⟨x57, h58, hz54⟩ := bsome hz54
        have hX := op_data_ok Fu (S0 := snapAll _) ([.int .i64 a0.1, .int .i64 a0.2.1, .int .i64 a0.2.2.1, .int .i64 a0.2.2.2.1, .int .i64 a0.2.2.2.2.1, .slice A18 a0.2.2.2.2.2.1.length c19, .slice A21 a0.2.2.2.2.2.2.length c22]) a0 ((tyP tyI (tyP tyI (tyP tyI (tyP tyI (tyP tyI (tyP (tyL ty8) (tyL ty8))))))).mono (h.m.leAll (i := 1) rfl) (show (tyP tyI (tyP tyI (tyP tyI (tyP tyI (tyP tyI (tyP (tyL ty8) (tyL ty8))))))).rep S0 ([.int .i64 a0.1, .int .i64 a0.2.1, .int .i64 a0.2.2.1, .int .i64 a0.2.2.2.1, .int .i64 a0.2.2.2.2.1, .slice A18 a0.2.2.2.2.2.1.length c19, .slice A21 a0.2.2.2.2.2.2.length c22]) a0 from ⟨[.int .i64 a0.1], [.int .i64 a0.2.1, .int .i64 a0.2.2.1, .int .i64 a0.2.2.2.1, .int .i64 a0.2.2.2.2.1, .slice A18 a0.2.2.2.2.2.1.length c19, .slice A21 a0.2.2.2.2.2.2.length c22], rfl, ⟨rfl, hr3⟩, ⟨[.int .i64 a0.2.1], [.int .i64 a0.2.2.1, .int .i64 a0.2.2.2.1, .int .i64 a0.2.2.2.2.1, .slice A18 a0.2.2.2.2.2.1.length c19, .slice A21 a0.2.2.2.2.2.2.length c22], rfl, ⟨rfl, hr6⟩, ⟨[.int .i64 a0.2.2.1], [.int .i64 a0.2.2.2.1, .int .i64 a0.2.2.2.2.1, .slice A18 a0.2.2.2.2.2.1.length c19, .slice A21 a0.2.2.2.2.2.2.length c22], rfl, ⟨rfl, hr9⟩, ⟨[.int .i64 a0.2.2.2.1], [.int .i64 a0.2.2.2.2.1, .slice A18 a0.2.2.2.2.2.1.length c19, .slice A21 a0.2.2.2.2.2.2.length c22], rfl, ⟨rfl, hr12⟩, ⟨[.int .i64 a0.2.2.2.2.1], [.slice A18 a0.2.2.2.2.2.1.length c19, .slice A21 a0.2.2.2.2.2.2.length c22], rfl, ⟨rfl, hr15⟩, ⟨[.slice A18 a0.2.2.2.2.2.1.length c19], [.slice A21 a0.2.2.2.2.2.2.length c22], rfl, ⟨_, _, rfl, hs20⟩, ⟨_, _, rfl, hs23⟩⟩⟩⟩⟩⟩⟩)) a1 hra1 _ h58 _ h.startAll
        refine q_callX hX h rfl rfl rfl (by decide) Try.func68 rfl rfl rfl (fun a w v L1 S1 hR hb1 h => ?_)
        obtain ⟨rfl, rfl, _⟩ := hR
        refine s_x h rfl rfl (by decide) (x_pick (u' := undef) h.k rfl rfl (fun _ => rfl) (fun hh => absurd (hB9.symm.trans hh) (by decide))) (fun a h => ?_)
        exact (h.mid 3 rfl).val (by rw [Option.some.inj hz54])
      · refine g_no h rfl rfl rfl rfl hB9 rfl (by decide) (fun a h => ?_)
        refine g_no h rfl rfl rfl rfl hB9 rfl (by decide) (fun a h => ?_)
        refine g_no h rfl rfl rfl rfl hB9 rfl (by decide) (fun a h => ?_)
        rw [if_neg (by rw [hB9]; decide)] at hz54
        refine s_x h rfl rfl (by decide) (x_pick (u' := undef) h.k rfl rfl (fun hh => absurd (hB9.symm.trans hh) (by decide)) (fun _ => rfl)) (fun a h => ?_)
        exact (h.mid 3 rfl).val (by rw [Option.some.inj hz54])
      refine s_assign h rfl _ rfl rfl (by decide) rfl (fun a h => ?_)
      refine l_end ?_
      refine wp_ret ?_
      rw [← Option.some.inj hf]
      exact r_ret1 h rfl (rv_tmp h rfl) ⟨_, [], _, rfl, ⟨rfl, rfl, trivial⟩, rfl, (Up.refl _ _ _), (h.m.pick [1] _ (by decide) rfl)⟩
def op_Put (Fu : Nat) (a0 : Int × Int × Int × Int × Int × (List UInt8) × (List UInt8)) (a1 : Int) : Option ((List UInt8) × Int) :=
  (op_Right Fu a0 a1).bind fun x25 => if (!x25) = true then (some ([], 2)) else ((field_Writer_Number Fu (0, []) a0.1 1).bind fun x30 => (field_Writer_Number Fu x30 a0.2.1 1).bind fun x42 => (field_Writer_Number Fu x42 a0.2.2.1 1).bind fun x53 => (field_Writer_Number Fu x53 a0.2.2.2.1 4).bind fun x64 => (field_Writer_Number Fu x64 a0.2.2.2.2.1 4).bind fun x75 => (field_Writer_Bytes Fu x75 a0.2.2.2.2.2.1).bind fun x86 => (field_Writer_Bytes Fu x86 a0.2.2.2.2.2.2).bind fun x97 => (field_Writer_Out Fu x97).bind fun x108 => some x108)
set_option maxRecDepth 100000 in
set_option maxHeartbeats 2000000 in
theorem op_Put_ok (Fu : Nat) {S0 : Snap} (csa0 : List Value) (a0 : Int × Int × Int × Int × Int × (List UInt8) × (List UInt8)) (hsa0 : (tyP tyI (tyP tyI (tyP tyI (tyP tyI (tyP tyI (tyP (tyL ty8) (tyL ty8))))))).rep S0 csa0 a0) (a1 : Int) (hra1 : r64 a1) (r : (List UInt8) × Int) (hf : op_Put Fu a0 a1 = some r) (w0 : World) (hm : Mem w0 (ownL ([] ++ [.sn S0])) ([] ++ [.sn S0]) w0) :
    Calls Try.prog 14 #[.agg csa0.toArray, .int .i64 a1] w0 (Ret w0 S0 [] (fun v L1 S1 => ∃ (A117 : Option Addr), ∃ (c118 : Nat), ∃ (cs119 : List Value), v = .tuple #[.slice A117 r.1.length c118, .int .i64 r.2] ∧ L1 = [.row (.slice A117 r.1.length c118) 5 1 r.1.length cs119] ∧ reps ty8 S1 cs119 r.1 ∧ r64 r.2 ∧ True)) := by
  unfold op_Put at hf
  obtain ⟨k1, k2, rfl, ⟨rfl, hr3⟩, ⟨k4, k5, rfl, ⟨rfl, hr6⟩, ⟨k7, k8, rfl, ⟨rfl, hr9⟩, ⟨k10, k11, rfl, ⟨rfl, hr12⟩, ⟨k13, k14, rfl, ⟨rfl, hr15⟩, ⟨k16, k17, rfl, ⟨A18, c19, rfl, hs20⟩, ⟨A21, c22, rfl, hs23⟩⟩⟩⟩⟩⟩⟩ := hsa0
  refine c_enterM Try.func14 rfl 35 rfl (by simp) _ hm _ rfl (fun a h => ?_)
  refine c_rs ?_ -- region 0
  refine s_box h rfl rfl rfl (by decide) rfl (cs := [.int .i64 a0.1, .int .i64 a0.2.1, .int .i64 a0.2.2.1, .int .i64 a0.2.2.2.1, .int .i64 a0.2.2.2.2.1, .slice A18 a0.2.2.2.2.2.1.length c19, .slice A21 a0.2.2.2.2.2.2.length c22]) (by rfl) (fun a w g24 h => ?_)
  refine s_assign h rfl _ rfl rfl (by decide) rfl (fun a h => ?_)
  refine s_assign h rfl _ rfl rfl (by decide) rfl (fun a h => ?_)
  refine l_end ?_
  refine wp_seq ?_
  refine c_rs ?_ -- region 1
  refine s_x h rfl rfl (by decide) (x_ldR h.k rfl ag_api_Op rfl ([.int .i64 a0.1, .int .i64 a0.2.1, .int .i64 a0.2.2.1, .int .i64 a0.2.2.2.1, .int .i64 a0.2.2.2.2.1, .slice A18 a0.2.2.2.2.2.1.length c19, .slice A21 a0.2.2.2.2.2.2.length c22]) rfl (h.m.range0 (i := 0) rfl)) (fun a h => ?_)
  refine s_move h rfl _ rfl rfl (by decide) rfl (fun a h => ?_)
  obtain ⟨x25, h26, hf⟩ := bsome hf
  have hX := op_Right_ok Fu (S0 := snapAll _) ([.int .i64 a0.1, .int .i64 a0.2.1, .int .i64 a0.2.2.1, .int .i64 a0.2.2.2.1, .int .i64 a0.2.2.2.2.1, .slice A18 a0.2.2.2.2.2.1.length c19, .slice A21 a0.2.2.2.2.2.2.length c22]) a0 ((tyP tyI (tyP tyI (tyP tyI (tyP tyI (tyP tyI (tyP (tyL ty8) (tyL ty8))))))).mono (h.m.leAll (i := 1) rfl) (show (tyP tyI (tyP tyI (tyP tyI (tyP tyI (tyP tyI (tyP (tyL ty8) (tyL ty8))))))).rep S0 ([.int .i64 a0.1, .int .i64 a0.2.1, .int .i64 a0.2.2.1, .int .i64 a0.2.2.2.1, .int .i64 a0.2.2.2.2.1, .slice A18 a0.2.2.2.2.2.1.length c19, .slice A21 a0.2.2.2.2.2.2.length c22]) a0 from ⟨[.int .i64 a0.1], [.int .i64 a0.2.1, .int .i64 a0.2.2.1, .int .i64 a0.2.2.2.1, .int .i64 a0.2.2.2.2.1, .slice A18 a0.2.2.2.2.2.1.length c19, .slice A21 a0.2.2.2.2.2.2.length c22], rfl, ⟨rfl, hr3⟩, ⟨[.int .i64 a0.2.1], [.int .i64 a0.2.2.1, .int .i64 a0.2.2.2.1, .int .i64 a0.2.2.2.2.1, .slice A18 a0.2.2.2.2.2.1.length c19, .slice A21 a0.2.2.2.2.2.2.length c22], rfl, ⟨rfl, hr6⟩, ⟨[.int .i64 a0.2.2.1], [.int .i64 a0.2.2.2.1, .int .i64 a0.2.2.2.2.1, .slice A18 a0.2.2.2.2.2.1.length c19, .slice A21 a0.2.2.2.2.2.2.length c22], rfl, ⟨rfl, hr9⟩, ⟨[.int .i64 a0.2.2.2.1], [.int .i64 a0.2.2.2.2.1, .slice A18 a0.2.2.2.2.2.1.length c19, .slice A21 a0.2.2.2.2.2.2.length c22], rfl, ⟨rfl, hr12⟩, ⟨[.int .i64 a0.2.2.2.2.1], [.slice A18 a0.2.2.2.2.2.1.length c19, .slice A21 a0.2.2.2.2.2.2.length c22], rfl, ⟨rfl, hr15⟩, ⟨[.slice A18 a0.2.2.2.2.2.1.length c19], [.slice A21 a0.2.2.2.2.2.2.length c22], rfl, ⟨_, _, rfl, hs20⟩, ⟨_, _, rfl, hs23⟩⟩⟩⟩⟩⟩⟩)) a1 hra1 _ h26 _ h.startAll
  refine q_callX hX h rfl rfl rfl (by decide) Try.func15 rfl rfl rfl (fun a w v L1 S1 hR hb1 h => ?_)
  obtain ⟨rfl, rfl, _⟩ := hR
  refine s_x h rfl rfl (by decide) (x_not h.k rfl rfl) (fun a h => ?_)
  refine l_end ?_
  refine c_cond h rfl (fun hb => ?_) (fun hb => ?_)
  · rw [if_pos hb] at hf
    refine c_rs ?_ -- region 2
    refine s_assign h rfl _ rfl rfl (by decide) rfl (fun a h => ?_)
    refine s_assign h rfl _ rfl rfl (by decide) rfl (fun a h => ?_)
    refine l_end ?_
    refine wp_ret ?_
    refine e_thenR ?_
    obtain rfl := Option.some.inj hf
    have h := h.mem (h.m.nilrow 5 1)
    exact r_ret2 h rfl (rv_tmp h rfl) (rv_tmp h rfl) ⟨_, [.row (.slice none ([]).length 0) 5 1 ([]).length []], _, rfl, ⟨none, 0, [], rfl, rfl, (show reps ty8 S0 [] [] from rfl), (show r64 2 from ⟨by decide, by decide⟩), trivial⟩, rfl, (Up.refl _ _ _), (h.m.pick [0, 2] _ (by decide) rfl)⟩
  · rw [if_neg (by rw [hb]; decide)] at hf
    refine wp_skip ?_
    refine e_thenN ?_
    refine c_rs ?_ -- region 3
    refine s_alloc h rfl rfl rfl (by decide) zi_field_Writer rfl (fun a w g29 h => ?_)
    refine l_end ?_
    refine c_rs ?_ -- region 4
    refine s_x h rfl rfl (by decide) (x_faddr h.k rfl Try.underlying24 rfl sz_int rfl) (fun a h => ?_)
    refine s_x h rfl rfl (by decide) (x_ld h.k rfl Try.underlying3 rfl rfl ((h.m.cell (i := 1) rfl 0).trans rfl)) (fun a h => ?_)
    obtain ⟨x30, h31, hf⟩ := bsome hf
    have h := h.mem (h.m.nilrow 5 1)
    have h := h.pick [1, 0, 3, 2] (by decide) rfl
    have hX := field_Writer_Number_ok Fu (S0 := S0) (0, []) g29 none 0 [] (show r64 0 from ⟨by decide, by decide⟩) (show reps ty8 S0 [] [] from rfl) a0.1 hr3 1 (show r64 1 from ⟨by decide, by decide⟩) _ h31 _ (h.sub (Ls := [.box g29 114 ([.int .i64 0, .slice none ([]).length 0]), .row (.slice none ([]).length 0) 5 1 ([]).length []]))
    refine q_callY (Ls := [.box g29 114 ([.int .i64 0, .slice none ([]).length 0]), .row (.slice none ([]).length 0) 5 1 ([]).length []]) hX h (Up.refl _ _ _) rfl rfl rfl (by decide) Try.func62 rfl rfl rfl (fun a w v L1 S34 hR le36 up35 h => ?_)
    obtain ⟨A38, c39, cs40, rfl, rfl, hr37, hq41, _⟩ := hR
    refine l_end ?_
    refine c_rs ?_ -- region 5
    refine s_x h rfl rfl (by decide) (x_faddr h.k rfl Try.underlying24 rfl sz_int rfl) (fun a h => ?_)
    refine s_x h rfl rfl (by decide) (x_ld h.k rfl Try.underlying3 rfl rfl ((h.m.cell (i := 3) rfl 1).trans rfl)) (fun a h => ?_)
    obtain ⟨x42, h43, hf⟩ := bsome hf
    have hX := field_Writer_Number_ok Fu (S0 := S34) x30 g29 A38 c39 cs40 hr37 hq41 a0.2.1 hr6 1 (show r64 1 from ⟨by decide, by decide⟩) _ h43 _ (h.sub (Ls := [.box g29 114 ([.int .i64 x30.1, .slice A38 x30.2.length c39]), .row (.slice A38 x30.2.length c39) 5 1 x30.2.length cs40]))
    refine q_callY (Ls := [.box g29 114 ([.int .i64 x30.1, .slice A38 x30.2.length c39]), .row (.slice A38 x30.2.length c39) 5 1 x30.2.length cs40]) hX h up35 rfl rfl rfl (by decide) Try.func62 rfl rfl rfl (fun a w v L1 S45 hR le47 up46 h => ?_)
    obtain ⟨A49, c50, cs51, rfl, rfl, hr48, hq52, _⟩ := hR
    refine l_end ?_
    refine c_rs ?_ -- region 6
    refine s_x h rfl rfl (by decide) (x_faddr h.k rfl Try.underlying24 rfl sz_int rfl) (fun a h => ?_)
    refine s_x h rfl rfl (by decide) (x_ld h.k rfl Try.underlying3 rfl rfl ((h.m.cell (i := 3) rfl 2).trans rfl)) (fun a h => ?_)
    obtain ⟨x53, h54, hf⟩ := bsome hf
    have hX := field_Writer_Number_ok Fu (S0 := S45) x42 g29 A49 c50 cs51 hr48 hq52 a0.2.2.1 hr9 1 (show r64 1 from ⟨by decide, by decide⟩) _ h54 _ (h.sub (Ls := [.box g29 114 ([.int .i64 x42.1, .slice A49 x42.2.length c50]), .row (.slice A49 x42.2.length c50) 5 1 x42.2.length cs51]))
    refine q_callY (Ls := [.box g29 114 ([.int .i64 x42.1, .slice A49 x42.2.length c50]), .row (.slice A49 x42.2.length c50) 5 1 x42.2.length cs51]) hX h up46 rfl rfl rfl (by decide) Try.func62 rfl rfl rfl (fun a w v L1 S56 hR le58 up57 h => ?_)
    obtain ⟨A60, c61, cs62, rfl, rfl, hr59, hq63, _⟩ := hR
    refine l_end ?_
    refine c_rs ?_ -- region 7
    refine s_x h rfl rfl (by decide) (x_faddr h.k rfl Try.underlying24 rfl sz_int rfl) (fun a h => ?_)
    refine s_x h rfl rfl (by decide) (x_ld h.k rfl Try.underlying3 rfl rfl ((h.m.cell (i := 3) rfl 3).trans rfl)) (fun a h => ?_)
    obtain ⟨x64, h65, hf⟩ := bsome hf
    have hX := field_Writer_Number_ok Fu (S0 := S56) x53 g29 A60 c61 cs62 hr59 hq63 a0.2.2.2.1 hr12 4 (show r64 4 from ⟨by decide, by decide⟩) _ h65 _ (h.sub (Ls := [.box g29 114 ([.int .i64 x53.1, .slice A60 x53.2.length c61]), .row (.slice A60 x53.2.length c61) 5 1 x53.2.length cs62]))
    refine q_callY (Ls := [.box g29 114 ([.int .i64 x53.1, .slice A60 x53.2.length c61]), .row (.slice A60 x53.2.length c61) 5 1 x53.2.length cs62]) hX h up57 rfl rfl rfl (by decide) Try.func62 rfl rfl rfl (fun a w v L1 S67 hR le69 up68 h => ?_)
    obtain ⟨A71, c72, cs73, rfl, rfl, hr70, hq74, _⟩ := hR
    refine l_end ?_
    refine c_rs ?_ -- region 8
    refine s_x h rfl rfl (by decide) (x_faddr h.k rfl Try.underlying24 rfl sz_int rfl) (fun a h => ?_)
    refine s_x h rfl rfl (by decide) (x_ld h.k rfl Try.underlying3 rfl rfl ((h.m.cell (i := 3) rfl 4).trans rfl)) (fun a h => ?_)
    obtain ⟨x75, h76, hf⟩ := bsome hf
    have hX := field_Writer_Number_ok Fu (S0 := S67) x64 g29 A71 c72 cs73 hr70 hq74 a0.2.2.2.2.1 hr15 4 (show r64 4 from ⟨by decide, by decide⟩) _ h76 _ (h.sub (Ls := [.box g29 114 ([.int .i64 x64.1, .slice A71 x64.2.length c72]), .row (.slice A71 x64.2.length c72) 5 1 x64.2.length cs73]))
    refine q_callY (Ls := [.box g29 114 ([.int .i64 x64.1, .slice A71 x64.2.length c72]), .row (.slice A71 x64.2.length c72) 5 1 x64.2.length cs73]) hX h up68 rfl rfl rfl (by decide) Try.func62 rfl rfl rfl (fun a w v L1 S78 hR le80 up79 h => ?_)
    obtain ⟨A82, c83, cs84, rfl, rfl, hr81, hq85, _⟩ := hR
    refine l_end ?_
    refine c_rs ?_ -- region 9
    refine s_x h rfl rfl (by decide) (x_faddr h.k rfl Try.underlying24 rfl sz_Suint8 rfl) (fun a h => ?_)
    refine s_x h rfl rfl (by decide) (x_ld h.k rfl Try.underlying22 rfl rfl ((h.m.cell (i := 3) rfl 5).trans rfl)) (fun a h => ?_)
    obtain ⟨x86, h87, hf⟩ := bsome hf
    have hX := field_Writer_Bytes_ok Fu (S0 := S78) x75 g29 A82 c83 cs84 hr81 hq85 A18 c19 a0.2.2.2.2.2.1 (hs20.mono ((((le36.trans le47).trans le58).trans le69).trans le80)) _ h87 _ (h.sub (Ls := [.box g29 114 ([.int .i64 x75.1, .slice A82 x75.2.length c83]), .row (.slice A82 x75.2.length c83) 5 1 x75.2.length cs84]))
    refine q_callY (Ls := [.box g29 114 ([.int .i64 x75.1, .slice A82 x75.2.length c83]), .row (.slice A82 x75.2.length c83) 5 1 x75.2.length cs84]) hX h up79 rfl rfl rfl (by decide) Try.func63 rfl rfl rfl (fun a w v L1 S89 hR le91 up90 h => ?_)
    obtain ⟨A93, c94, cs95, rfl, rfl, hr92, hq96, _⟩ := hR
    refine l_end ?_
    refine c_rs ?_ -- region 10
    refine s_x h rfl rfl (by decide) (x_faddr h.k rfl Try.underlying24 rfl sz_Suint8 rfl) (fun a h => ?_)
    refine s_x h rfl rfl (by decide) (x_ld h.k rfl Try.underlying22 rfl rfl ((h.m.cell (i := 3) rfl 6).trans rfl)) (fun a h => ?_)
    obtain ⟨x97, h98, hf⟩ := bsome hf
    have hX := field_Writer_Bytes_ok Fu (S0 := S89) x86 g29 A93 c94 cs95 hr92 hq96 A21 c22 a0.2.2.2.2.2.2 (hs23.mono (((((le36.trans le47).trans le58).trans le69).trans le80).trans le91)) _ h98 _ (h.sub (Ls := [.box g29 114 ([.int .i64 x86.1, .slice A93 x86.2.length c94]), .row (.slice A93 x86.2.length c94) 5 1 x86.2.length cs95]))
    refine q_callY (Ls := [.box g29 114 ([.int .i64 x86.1, .slice A93 x86.2.length c94]), .row (.slice A93 x86.2.length c94) 5 1 x86.2.length cs95]) hX h up90 rfl rfl rfl (by decide) Try.func63 rfl rfl rfl (fun a w v L1 S100 hR le102 up101 h => ?_)
    obtain ⟨A104, c105, cs106, rfl, rfl, hr103, hq107, _⟩ := hR
    refine l_end ?_
    refine c_rs ?_ -- region 11
    obtain ⟨x108, h109, hf⟩ := bsome hf
    have hX := field_Writer_Out_ok Fu (S0 := snapAll _) g29 x97 ⟨[.int .i64 x97.1, .slice A104 x97.2.length c105], h.m.boxAll (i := 0) rfl, ⟨[.int .i64 x97.1], [.slice A104 x97.2.length c105], rfl, ⟨rfl, hr103⟩, ⟨_, _, rfl, h.m.rowAll (i := 1) rfl (j := 2) rfl hq107⟩⟩⟩ _ h109 _ h.startAll
    refine q_callX hX h rfl rfl rfl (by decide) Try.func64 rfl rfl rfl (fun a w v L1 S1 hR hb1 h => ?_)
    obtain ⟨A111, c112, cs113, rfl, rfl, hq114, hr115, _⟩ := hR
    have hq116 := hq114.fl (S' := S100) fl_8
    refine s_x h rfl rfl (by decide) (x_ext h.k rfl rfl rfl) (fun a h => ?_)
    refine s_x h rfl rfl (by decide) (x_ext h.k rfl rfl rfl) (fun a h => ?_)
    refine s_assign h rfl _ rfl rfl (by decide) rfl (fun a h => ?_)
    refine s_assign h rfl _ rfl rfl (by decide) rfl (fun a h => ?_)
    refine l_end ?_
    refine wp_ret ?_
    rw [← Option.some.inj hf]
    exact r_ret2 h rfl (rv_tmp h rfl) (rv_tmp h rfl) ⟨_, [.row (.slice A111 x108.1.length c112) 5 1 x108.1.length cs113], _, rfl, ⟨A111, c112, cs113, rfl, rfl, hq116, hr115, trivial⟩, rfl, up101, (h.m.pick [0, 3] _ (by decide) rfl)⟩
def op_Take (Fu : Nat) (a0 : List UInt8) (a1 : Int) : Option ((Int × Int × Int × Int × Int × (List UInt8) × (List UInt8)) × Int) :=
  (field_Read Fu a0).bind fun x2 => (field_Reader_Number Fu x2 1 10).bind fun x13 => (field_Reader_Number Fu x13.2 1 16).bind fun x25 => (field_Reader_Number Fu x25.2 1 64).bind fun x36 => (field_Reader_Number Fu x36.2 4 4096).bind fun x47 => (field_Reader_Number Fu x47.2 4 4096).bind fun x58 => (field_Reader_Bytes Fu x58.2 64).bind fun x69 => (field_Reader_Bytes Fu x69.2 (mx 64 a1)).bind fun x87 => (field_Reader_Done Fu x87.2).bind fun x105 => ((if x105 = 0 then (op_Right Fu (x13.1, x25.1, x36.1, x47.1, x58.1, x69.1, x87.1) a1).bind fun x116 => some (!x116) else some false).bind fun z114 => if z114 = true then (some 2) else (some x105)).bind fun x111 => if x111 ≠ 0 then (some ((0, 0, 0, 0, 0, [], []), x111)) else (some ((x13.1, x25.1, x36.1, x47.1, x58.1, x69.1, x87.1), 0))
set_option maxRecDepth 100000 in
set_option maxHeartbeats 2000000 in
theorem op_Take_ok (Fu : Nat) {S0 : Snap} (Aa0 : Option Addr) (ca0 : Nat) (a0 : List UInt8) (hsa0 : slS ty8 S0 Aa0 ca0 a0) (a1 : Int) (hra1 : r64 a1) (r : (Int × Int × Int × Int × Int × (List UInt8) × (List UInt8)) × Int) (hf : op_Take Fu a0 a1 = some r) (w0 : World) (hm : Mem w0 (ownL ([] ++ [.sn S0])) ([] ++ [.sn S0]) w0) :
    Calls Try.prog 23 #[.slice Aa0 a0.length ca0, .int .i64 a1] w0 (Ret w0 S0 [] (fun v L1 S1 => ∃ (k120 : List Value), v = .tuple #[.agg k120.toArray, .int .i64 r.2] ∧ L1 = [] ∧ (tyP tyI (tyP tyI (tyP tyI (tyP tyI (tyP tyI (tyP (tyL ty8) (tyL ty8))))))).rep S1 k120 r.1 ∧ r64 r.2 ∧ True)) := by
  unfold op_Take at hf
  refine c_enterM Try.func23 rfl 49 rfl (by simp) _ hm _ rfl (fun a h => ?_)
  refine c_rs ?_ -- region 0
  refine s_alloc h rfl rfl rfl (by decide) zi_api_Op rfl (fun a w g1 h => ?_)
  refine s_assign h rfl _ rfl rfl (by decide) rfl (fun a h => ?_)
  refine l_end ?_
  refine c_rs ?_ -- region 1
  refine s_move h rfl _ rfl rfl (by decide) rfl (fun a h => ?_)
  obtain ⟨x2, h3, hf⟩ := bsome hf
  have h := h.pick [1, 0] (by decide) rfl
  have hX := field_Read_ok Fu (S0 := S0) Aa0 ca0 a0 hsa0 _ h3 _ (h.sub (Ls := []))
  refine q_callY (Ls := []) hX h (Up.refl _ _ _) rfl rfl rfl (by decide) Try.func74 rfl rfl rfl (fun a w v L1 S5 hR le7 up6 h => ?_)
  obtain ⟨g8, A10, c11, rfl, rfl, hr9, hs12, _⟩ := hR
  refine s_assign h rfl _ rfl rfl (by decide) rfl (fun a h => ?_)
  refine l_end ?_
  refine c_rs ?_ -- region 2
  refine s_move h rfl _ rfl rfl (by decide) rfl (fun a h => ?_)
  obtain ⟨x13, h14, hf⟩ := bsome hf
  have hX := field_Reader_Number_ok Fu (S0 := S5) x2 g8 A10 c11 hr9 hs12 1 (show r64 1 from ⟨by decide, by decide⟩) 10 (show r64 10 from ⟨by decide, by decide⟩) _ h14 _ (h.sub (Ls := [.box g8 179 ([.int .i64 x2.1, .slice A10 x2.2.1.length c11, .bool x2.2.2])]))
  refine q_callY (Ls := [.box g8 179 ([.int .i64 x2.1, .slice A10 x2.2.1.length c11, .bool x2.2.2])]) hX h up6 rfl rfl rfl (by decide) Try.func75 rfl rfl rfl (fun a w v L1 S16 hR le18 up17 h => ?_)
  obtain ⟨A21, c22, rfl, rfl, hr19, hr20, hs23, _⟩ := hR
  refine s_x h rfl rfl (by decide) (x_build h.k rfl [(0, .int .i64 x13.1)] rfl ([.int .i64 x13.1, .int .i64 0, .int .i64 0, .int .i64 0, .int .i64 0, .slice none 0 0, .slice none 0 0]) (by kernel_rfl)) (fun a h => ?_)
  refine s_alloc h rfl rfl rfl (by decide) zi_api_Op rfl (fun a w g24 h => ?_)
  refine s_stW h rfl rfl rfl ag_api_Op rfl (es := [.int .i64 x13.1, .int .i64 0, .int .i64 0, .int .i64 0, .int .i64 0, .slice none 0 0, .slice none 0 0]) rfl rfl (by simp [Value.oneCell']) 0 rfl rfl (fun a w h => ?_)
  refine l_end ?_
  refine c_rs ?_ -- region 3
  refine s_move h rfl _ rfl rfl (by decide) rfl (fun a h => ?_)
  obtain ⟨x25, h26, hf⟩ := bsome hf
  have h := h.pick [1, 2, 0, 3] (by decide) rfl
  have hX := field_Reader_Number_ok Fu (S0 := S16) x13.2 g8 A21 c22 hr20 hs23 1 (show r64 1 from ⟨by decide, by decide⟩) 16 (show r64 16 from ⟨by decide, by decide⟩) _ h26 _ (h.sub (Ls := [.box g8 179 ([.int .i64 x13.2.1, .slice A21 x13.2.2.1.length c22, .bool x13.2.2.2])]))
  refine q_callY (Ls := [.box g8 179 ([.int .i64 x13.2.1, .slice A21 x13.2.2.1.length c22, .bool x13.2.2.2])]) hX h up17 rfl rfl rfl (by decide) Try.func75 rfl rfl rfl (fun a w v L1 S28 hR le30 up29 h => ?_)
  obtain ⟨A33, c34, rfl, rfl, hr31, hr32, hs35, _⟩ := hR
  refine s_x h rfl rfl (by decide) (x_faddr h.k rfl Try.underlying24 rfl sz_int rfl) (fun a h => ?_)
  refine s_stb h rfl rfl rfl sz_int rfl rfl rfl 2 rfl (by first | decide | simp) (fun a w h => ?_)
  refine l_end ?_
  refine c_rs ?_ -- region 4
  refine s_move h rfl _ rfl rfl (by decide) rfl (fun a h => ?_)
  obtain ⟨x36, h37, hf⟩ := bsome hf
  have hX := field_Reader_Number_ok Fu (S0 := S28) x25.2 g8 A33 c34 hr32 hs35 1 (show r64 1 from ⟨by decide, by decide⟩) 64 (show r64 64 from ⟨by decide, by decide⟩) _ h37 _ (h.sub (Ls := [.box g8 179 ([.int .i64 x25.2.1, .slice A33 x25.2.2.1.length c34, .bool x25.2.2.2])]))
  refine q_callY (Ls := [.box g8 179 ([.int .i64 x25.2.1, .slice A33 x25.2.2.1.length c34, .bool x25.2.2.2])]) hX h up29 rfl rfl rfl (by decide) Try.func75 rfl rfl rfl (fun a w v L1 S39 hR le41 up40 h => ?_)
  obtain ⟨A44, c45, rfl, rfl, hr42, hr43, hs46, _⟩ := hR
  refine s_x h rfl rfl (by decide) (x_faddr h.k rfl Try.underlying24 rfl sz_int rfl) (fun a h => ?_)
  refine s_stb h rfl rfl rfl sz_int rfl rfl rfl 2 rfl (by first | decide | simp) (fun a w h => ?_)
  refine l_end ?_
  refine c_rs ?_ -- region 5
  refine s_move h rfl _ rfl rfl (by decide) rfl (fun a h => ?_)
  obtain ⟨x47, h48, hf⟩ := bsome hf
  have hX := field_Reader_Number_ok Fu (S0 := S39) x36.2 g8 A44 c45 hr43 hs46 4 (show r64 4 from ⟨by decide, by decide⟩) 4096 (show r64 4096 from ⟨by decide, by decide⟩) _ h48 _ (h.sub (Ls := [.box g8 179 ([.int .i64 x36.2.1, .slice A44 x36.2.2.1.length c45, .bool x36.2.2.2])]))
  refine q_callY (Ls := [.box g8 179 ([.int .i64 x36.2.1, .slice A44 x36.2.2.1.length c45, .bool x36.2.2.2])]) hX h up40 rfl rfl rfl (by decide) Try.func75 rfl rfl rfl (fun a w v L1 S50 hR le52 up51 h => ?_)
  obtain ⟨A55, c56, rfl, rfl, hr53, hr54, hs57, _⟩ := hR
  refine s_x h rfl rfl (by decide) (x_faddr h.k rfl Try.underlying24 rfl sz_int rfl) (fun a h => ?_)
  refine s_stb h rfl rfl rfl sz_int rfl rfl rfl 2 rfl (by first | decide | simp) (fun a w h => ?_)
  refine l_end ?_
  refine c_rs ?_ -- region 6
  refine s_move h rfl _ rfl rfl (by decide) rfl (fun a h => ?_)
  obtain ⟨x58, h59, hf⟩ := bsome hf
  have hX := field_Reader_Number_ok Fu (S0 := S50) x47.2 g8 A55 c56 hr54 hs57 4 (show r64 4 from ⟨by decide, by decide⟩) 4096 (show r64 4096 from ⟨by decide, by decide⟩) _ h59 _ (h.sub (Ls := [.box g8 179 ([.int .i64 x47.2.1, .slice A55 x47.2.2.1.length c56, .bool x47.2.2.2])]))
  refine q_callY (Ls := [.box g8 179 ([.int .i64 x47.2.1, .slice A55 x47.2.2.1.length c56, .bool x47.2.2.2])]) hX h up51 rfl rfl rfl (by decide) Try.func75 rfl rfl rfl (fun a w v L1 S61 hR le63 up62 h => ?_)
  obtain ⟨A66, c67, rfl, rfl, hr64, hr65, hs68, _⟩ := hR
  refine s_x h rfl rfl (by decide) (x_faddr h.k rfl Try.underlying24 rfl sz_int rfl) (fun a h => ?_)
  refine s_stb h rfl rfl rfl sz_int rfl rfl rfl 2 rfl (by first | decide | simp) (fun a w h => ?_)
  refine l_end ?_
  refine c_rs ?_ -- region 7
  refine s_move h rfl _ rfl rfl (by decide) rfl (fun a h => ?_)
  obtain ⟨x69, h70, hf⟩ := bsome hf
  have hX := field_Reader_Bytes_ok Fu (S0 := S61) x58.2 g8 A66 c67 hr65 hs68 64 (show r64 64 from ⟨by decide, by decide⟩) _ h70 _ (h.sub (Ls := [.box g8 179 ([.int .i64 x58.2.1, .slice A66 x58.2.2.1.length c67, .bool x58.2.2.2])]))
  refine q_callY (Ls := [.box g8 179 ([.int .i64 x58.2.1, .slice A66 x58.2.2.1.length c67, .bool x58.2.2.2])]) hX h up62 rfl rfl rfl (by decide) Try.func76 rfl rfl rfl (fun a w v L1 S72 hR le74 up73 h => ?_)
  obtain ⟨A75, c76, cs77, A80, c81, rfl, rfl, hq78, hr79, hs82, _⟩ := hR
  refine s_x h rfl rfl (by decide) (x_faddr h.k rfl Try.underlying24 rfl sz_Suint8 rfl) (fun a h => ?_)
  have h := h.pick [0, 2, 1, 3, 4] (by decide) rfl
  obtain ⟨S83, le84, up85, hs86, h⟩ := q_freeze (T := ty8) h up73 hq78
  refine s_stb h rfl rfl rfl sz_Suint8 rfl rfl rfl 2 rfl (by first | decide | simp) (fun a w h => ?_)
  refine l_end ?_
  refine c_rs ?_ -- region 8
  refine s_move h rfl _ rfl rfl (by decide) rfl (fun a h => ?_)
  refine s_move h rfl _ rfl rfl (by decide) rfl (fun a h => ?_)
  refine s_x h rfl rfl (by decide) (x_mx h.k rfl rfl rfl) (fun a h => ?_)
  obtain ⟨x87, h88, hf⟩ := bsome hf
  have h := h.pick [1, 0, 2, 3] (by decide) rfl
  have hX := field_Reader_Bytes_ok Fu (S0 := S83) x69.2 g8 A80 c81 hr79 (hs82.mono le84) (mx 64 a1) (mx_r (show r64 64 from ⟨by decide, by decide⟩) hra1) _ h88 _ (h.sub (Ls := [.box g8 179 ([.int .i64 x69.2.1, .slice A80 x69.2.2.1.length c81, .bool x69.2.2.2])]))
  refine q_callY (Ls := [.box g8 179 ([.int .i64 x69.2.1, .slice A80 x69.2.2.1.length c81, .bool x69.2.2.2])]) hX h up85 rfl rfl rfl (by decide) Try.func76 rfl rfl rfl (fun a w v L1 S90 hR le92 up91 h => ?_)
  obtain ⟨A93, c94, cs95, A98, c99, rfl, rfl, hq96, hr97, hs100, _⟩ := hR
  refine s_x h rfl rfl (by decide) (x_faddr h.k rfl Try.underlying24 rfl sz_Suint8 rfl) (fun a h => ?_)
  have h := h.pick [0, 2, 1, 3, 4] (by decide) rfl
  obtain ⟨S101, le102, up103, hs104, h⟩ := q_freeze (T := ty8) h up91 hq96
  refine s_stb h rfl rfl rfl sz_Suint8 rfl rfl rfl 2 rfl (by first | decide | simp) (fun a w h => ?_)
  refine l_end ?_
  refine c_rs ?_ -- region 9
  refine s_move h rfl _ rfl rfl (by decide) rfl (fun a h => ?_)
  obtain ⟨x105, h106, hf⟩ := bsome hf
  have hX := field_Reader_Done_ok Fu (S0 := snapAll _) g8 x87.2 ⟨[.int .i64 x87.2.1, .slice A98 x87.2.2.1.length c99, .bool x87.2.2.2], h.m.boxAll (i := 1) rfl, ⟨[.int .i64 x87.2.1], [.slice A98 x87.2.2.1.length c99, .bool x87.2.2.2], rfl, ⟨rfl, hr97⟩, ⟨[.slice A98 x87.2.2.1.length c99], [.bool x87.2.2.2], rfl, ⟨_, _, rfl, ((hs100.mono le102)).mono (h.m.leAll (i := 0) rfl)⟩, rfl⟩⟩⟩ _ h106 _ h.startAll
  refine q_callX hX h rfl rfl rfl (by decide) Try.func77 rfl rfl rfl (fun a w v L1 S1 hR hb1 h => ?_)
  obtain ⟨rfl, rfl, hr108, _⟩ := hR
  refine s_assign h rfl _ rfl rfl (by decide) rfl (fun a h => ?_)
  refine l_end ?_
  obtain ⟨o109, hc110, hf⟩ := bsome hf
  refine c_cut (fun a w => ∃ (x111 : Int), x111 = o109 ∧ r64 x111 ∧ St 49 w0 (ownL ([] ++ [.sn S0])) [(4, .pointer (some ⟨g1, 0, none⟩)), (7, .pointer (some ⟨g24, 0, none⟩)), (8, .int .i64 x111)] [.box g1 24 ([.int .i64 0, .int .i64 0, .int .i64 0, .int .i64 0, .int .i64 0, .slice none 0 0, .slice none 0 0]), .box g24 24 ([.int .i64 x13.1, .int .i64 x25.1, .int .i64 x36.1, .int .i64 x47.1, .int .i64 x58.1, .slice A75 x69.1.length c76, .slice A93 x87.1.length c94]), .sn S101] a w) ?_ ?_
  · refine c_rs ?_ -- region 10
    refine s_move h rfl _ rfl rfl (by decide) rfl (fun a h => ?_)
    refine s_x h rfl rfl (by decide) (x_bin h.k rfl rfl rfl ib_eql) (fun a h => ?_)
    refine s_move h rfl _ rfl rfl (by decide) rfl (fun a h => ?_)
    obtain ⟨z114, hz113, hc110⟩ := bsome hc110
    refine q_grp h 5 (t := 38) 43 z114 rfl (fun hB2 => ?_) (fun hB2 => ?_) (fun a w h => ?_)
    · rw [if_pos (of_decide_eq_true hB2)] at hz113
      refine g_yes h rfl rfl rfl rfl hB2 ?_
      refine s_x h rfl rfl (by decide) (x_ldR h.k rfl ag_api_Op rfl ([.int .i64 x13.1, .int .i64 x25.1, .int .i64 x36.1, .int .i64 x47.1, .int .i64 x58.1, .slice A75 x69.1.length c76, .slice A93 x87.1.length c94]) rfl (h.m.range0 (i := 2) rfl)) (fun a h => ?_)
      refine g_yes h rfl rfl rfl rfl hB2 ?_
      refine s_move h rfl _ rfl rfl (by decide) rfl (fun a h => ?_)
      refine g_yes h rfl rfl rfl rfl hB2 ?_
      obtain ⟨x116, h117, hz113⟩ := bsome hz113
      have hX := op_Right_ok Fu (S0 := snapAll _) ([.int .i64 x13.1, .int .i64 x25.1, .int .i64 x36.1, .int .i64 x47.1, .int .i64 x58.1, .slice A75 x69.1.length c76, .slice A93 x87.1.length c94]) (x13.1, x25.1, x36.1, x47.1, x58.1, x69.1, x87.1) ((tyP tyI (tyP tyI (tyP tyI (tyP tyI (tyP tyI (tyP (tyL ty8) (tyL ty8))))))).mono (h.m.leAll (i := 0) rfl) (show (tyP tyI (tyP tyI (tyP tyI (tyP tyI (tyP tyI (tyP (tyL ty8) (tyL ty8))))))).rep S101 ([.int .i64 x13.1, .int .i64 x25.1, .int .i64 x36.1, .int .i64 x47.1, .int .i64 x58.1, .slice A75 x69.1.length c76, .slice A93 x87.1.length c94]) (x13.1, x25.1, x36.1, x47.1, x58.1, x69.1, x87.1) from ⟨[.int .i64 x13.1], [.int .i64 x25.1, .int .i64 x36.1, .int .i64 x47.1, .int .i64 x58.1, .slice A75 x69.1.length c76, .slice A93 x87.1.length c94], rfl, ⟨rfl, hr19⟩, ⟨[.int .i64 x25.1], [.int .i64 x36.1, .int .i64 x47.1, .int .i64 x58.1, .slice A75 x69.1.length c76, .slice A93 x87.1.length c94], rfl, ⟨rfl, hr31⟩, ⟨[.int .i64 x36.1], [.int .i64 x47.1, .int .i64 x58.1, .slice A75 x69.1.length c76, .slice A93 x87.1.length c94], rfl, ⟨rfl, hr42⟩, ⟨[.int .i64 x47.1], [.int .i64 x58.1, .slice A75 x69.1.length c76, .slice A93 x87.1.length c94], rfl, ⟨rfl, hr53⟩, ⟨[.int .i64 x58.1], [.slice A75 x69.1.length c76, .slice A93 x87.1.length c94], rfl, ⟨rfl, hr64⟩, ⟨[.slice A75 x69.1.length c76], [.slice A93 x87.1.length c94], rfl, ⟨_, _, rfl, (hs86.mono (le92.trans le102))⟩, ⟨_, _, rfl, hs104⟩⟩⟩⟩⟩⟩⟩)) a1 hra1 _ h117 _ h.startAll
      refine q_callX hX h rfl rfl rfl (by decide) Try.func15 rfl rfl rfl (fun a w v L1 S1 hR hb1 h => ?_)
      obtain ⟨rfl, rfl, _⟩ := hR
      refine g_yes h rfl rfl rfl rfl hB2 ?_
      refine s_x h rfl rfl (by decide) (x_not h.k rfl rfl) (fun a h => ?_)
      refine s_x h rfl rfl (by decide) (x_pick (u' := undef) h.k rfl rfl (fun _ => rfl) (fun hh => absurd (hB2.symm.trans hh) (by decide))) (fun a h => ?_)
      exact (h.mid 4 rfl).val (by rw [Option.some.inj hz113])
    · refine g_no h rfl rfl rfl rfl hB2 rfl (by decide) (fun a h => ?_)
      refine g_no h rfl rfl rfl rfl hB2 rfl (by decide) (fun a h => ?_)
      refine g_no h rfl rfl rfl rfl hB2 rfl (by decide) (fun a h => ?_)
      refine g_no h rfl rfl rfl rfl hB2 rfl (by decide) (fun a h => ?_)
      rw [if_neg (of_decide_eq_false hB2)] at hz113
      refine s_x h rfl rfl (by decide) (x_pick (u' := undef) h.k rfl rfl (fun hh => absurd (hB2.symm.trans hh) (by decide)) (fun _ => rfl)) (fun a h => ?_)
      exact (h.mid 4 rfl).val (by rw [Option.some.inj hz113])
    refine l_end ?_
    refine c_cond h rfl (fun hb => ?_) (fun hb => ?_)
    · rw [if_pos hb] at hc110
      refine c_r ?_ -- region 11
      refine s_assign h rfl _ rfl rfl (by decide) rfl (fun a h => ?_)
      refine l_nil ?_
      refine e_thenN ?_
      have h := h.pick [3, 2, 0] (by decide) rfl
      exact ⟨2, (Option.some.inj hc110), (show r64 2 from ⟨by decide, by decide⟩), h.has (by exact ⟨rfl, rfl, rfl, trivial⟩)⟩
    · rw [if_neg (by rw [hb]; decide)] at hc110
      refine wp_skip ?_
      refine e_thenN ?_
      have h := h.pick [3, 2, 0] (by decide) rfl
      exact ⟨x105, (Option.some.inj hc110), hr108, h.has (by exact ⟨rfl, rfl, rfl, trivial⟩)⟩
  · rintro a w ⟨x111, rfl, hr112, h⟩
    refine wp_seq ?_
    refine c_rs ?_ -- region 12
    refine s_move h rfl _ rfl rfl (by decide) rfl (fun a h => ?_)
    refine s_x h rfl rfl (by decide) (x_bin h.k rfl rfl rfl ib_neq) (fun a h => ?_)
    refine l_end ?_
    refine c_cond h rfl (fun hb => ?_) (fun hb => ?_)
    · rw [if_pos (of_decide_eq_true hb)] at hf
      refine c_rs ?_ -- region 13
      refine s_x h rfl rfl (by decide) (x_build h.k rfl [] rfl ([.int .i64 0, .int .i64 0, .int .i64 0, .int .i64 0, .int .i64 0, .slice none 0 0, .slice none 0 0]) (by kernel_rfl)) (fun a h => ?_)
      refine s_move h rfl _ rfl rfl (by decide) rfl (fun a h => ?_)
      refine s_stW h rfl rfl rfl ag_api_Op rfl (es := [.int .i64 0, .int .i64 0, .int .i64 0, .int .i64 0, .int .i64 0, .slice none 0 0, .slice none 0 0]) rfl rfl (by simp [Value.oneCell']) 0 rfl rfl (fun a w h => ?_)
      refine s_assign h rfl _ rfl rfl (by decide) rfl (fun a h => ?_)
      refine l_end ?_
      refine wp_ret ?_
      refine e_thenR ?_
      obtain rfl := Option.some.inj hf
      exact r_ret2 h rfl (rv_cellA h rfl 0 rfl ag_api_Op rfl) (rv_tmp h rfl) ⟨_, [], _, rfl, ⟨[.int .i64 0, .int .i64 0, .int .i64 0, .int .i64 0, .int .i64 0, .slice none 0 0, .slice none 0 0], rfl, rfl, ⟨[.int .i64 0], [.int .i64 0, .int .i64 0, .int .i64 0, .int .i64 0, .slice none 0 0, .slice none 0 0], rfl, ⟨rfl, (show r64 0 from ⟨by decide, by decide⟩)⟩, ⟨[.int .i64 0], [.int .i64 0, .int .i64 0, .int .i64 0, .slice none 0 0, .slice none 0 0], rfl, ⟨rfl, (show r64 0 from ⟨by decide, by decide⟩)⟩, ⟨[.int .i64 0], [.int .i64 0, .int .i64 0, .slice none 0 0, .slice none 0 0], rfl, ⟨rfl, (show r64 0 from ⟨by decide, by decide⟩)⟩, ⟨[.int .i64 0], [.int .i64 0, .slice none 0 0, .slice none 0 0], rfl, ⟨rfl, (show r64 0 from ⟨by decide, by decide⟩)⟩, ⟨[.int .i64 0], [.slice none 0 0, .slice none 0 0], rfl, ⟨rfl, (show r64 0 from ⟨by decide, by decide⟩)⟩, ⟨[.slice none 0 0], [.slice none 0 0], rfl, ⟨_, _, rfl, (slS.nil ty8 _)⟩, ⟨_, _, rfl, (slS.nil ty8 _)⟩⟩⟩⟩⟩⟩⟩, hr112, trivial⟩, rfl, up103, (h.m.pick [2] _ (by decide) rfl)⟩
    · rw [if_neg (of_decide_eq_false hb)] at hf
      refine wp_skip ?_
      refine e_thenN ?_
      refine c_rs ?_ -- region 14
      refine s_x h rfl rfl (by decide) (x_ldR h.k rfl ag_api_Op rfl ([.int .i64 x13.1, .int .i64 x25.1, .int .i64 x36.1, .int .i64 x47.1, .int .i64 x58.1, .slice A75 x69.1.length c76, .slice A93 x87.1.length c94]) rfl (h.m.range0 (i := 1) rfl)) (fun a h => ?_)
      refine s_stW h rfl rfl rfl ag_api_Op rfl (es := [.int .i64 x13.1, .int .i64 x25.1, .int .i64 x36.1, .int .i64 x47.1, .int .i64 x58.1, .slice A75 x69.1.length c76, .slice A93 x87.1.length c94]) rfl rfl (by simp [Value.oneCell']) 0 rfl rfl (fun a w h => ?_)
      refine s_assign h rfl _ rfl rfl (by decide) rfl (fun a h => ?_)
      refine l_end ?_
      refine wp_ret ?_
      obtain rfl := Option.some.inj hf
      exact r_ret2 h rfl (rv_cellA h rfl 0 rfl ag_api_Op rfl) (rv_tmp h rfl) ⟨_, [], _, rfl, ⟨[.int .i64 x13.1, .int .i64 x25.1, .int .i64 x36.1, .int .i64 x47.1, .int .i64 x58.1, .slice A75 x69.1.length c76, .slice A93 x87.1.length c94], rfl, rfl, ⟨[.int .i64 x13.1], [.int .i64 x25.1, .int .i64 x36.1, .int .i64 x47.1, .int .i64 x58.1, .slice A75 x69.1.length c76, .slice A93 x87.1.length c94], rfl, ⟨rfl, hr19⟩, ⟨[.int .i64 x25.1], [.int .i64 x36.1, .int .i64 x47.1, .int .i64 x58.1, .slice A75 x69.1.length c76, .slice A93 x87.1.length c94], rfl, ⟨rfl, hr31⟩, ⟨[.int .i64 x36.1], [.int .i64 x47.1, .int .i64 x58.1, .slice A75 x69.1.length c76, .slice A93 x87.1.length c94], rfl, ⟨rfl, hr42⟩, ⟨[.int .i64 x47.1], [.int .i64 x58.1, .slice A75 x69.1.length c76, .slice A93 x87.1.length c94], rfl, ⟨rfl, hr53⟩, ⟨[.int .i64 x58.1], [.slice A75 x69.1.length c76, .slice A93 x87.1.length c94], rfl, ⟨rfl, hr64⟩, ⟨[.slice A75 x69.1.length c76], [.slice A93 x87.1.length c94], rfl, ⟨_, _, rfl, (hs86.mono (le92.trans le102))⟩, ⟨_, _, rfl, hs104⟩⟩⟩⟩⟩⟩⟩, (show r64 0 from ⟨by decide, by decide⟩), trivial⟩, rfl, up103, (h.m.pick [2] _ (by decide) rfl)⟩
def op_Record (Fu : Nat) (a0 : Int × Int × Int × Int × Int × (List UInt8) × (List UInt8)) (a1 : Int) : Option ((Int × Int × Int × Int × Int × Int)) :=
  some (a1, a0.1, a0.2.1, a0.2.2.1, a0.2.2.2.1, a0.2.2.2.2.1)
set_option maxRecDepth 100000 in
set_option maxHeartbeats 2000000 in
theorem op_Record_ok (Fu : Nat) {S0 : Snap} (csa0 : List Value) (a0 : Int × Int × Int × Int × Int × (List UInt8) × (List UInt8)) (hsa0 : (tyP tyI (tyP tyI (tyP tyI (tyP tyI (tyP tyI (tyP (tyL ty8) (tyL ty8))))))).rep S0 csa0 a0) (a1 : Int) (hra1 : r64 a1) (r : (Int × Int × Int × Int × Int × Int)) (hf : op_Record Fu a0 a1 = some r) (w0 : World) (hm : Mem w0 (ownL ([] ++ [.sn S0])) ([] ++ [.sn S0]) w0) :
    Calls Try.prog 17 #[.agg csa0.toArray, .int .i64 a1] w0 (Ret w0 S0 [] (fun v L1 S1 => ∃ (k26 : List Value), v = .agg k26.toArray ∧ L1 = [] ∧ (tyP tyI (tyP tyI (tyP tyI (tyP tyI (tyP tyI tyI))))).rep S1 k26 r ∧ True)) := by
  unfold op_Record at hf
  obtain ⟨k1, k2, rfl, ⟨rfl, hr3⟩, ⟨k4, k5, rfl, ⟨rfl, hr6⟩, ⟨k7, k8, rfl, ⟨rfl, hr9⟩, ⟨k10, k11, rfl, ⟨rfl, hr12⟩, ⟨k13, k14, rfl, ⟨rfl, hr15⟩, ⟨k16, k17, rfl, ⟨A18, c19, rfl, hs20⟩, ⟨A21, c22, rfl, hs23⟩⟩⟩⟩⟩⟩⟩ := hsa0
  refine c_enterM Try.func17 rfl 17 rfl (by simp) _ hm _ rfl (fun a h => ?_)
  refine c_rs ?_ -- region 0
  refine s_box h rfl rfl rfl (by decide) rfl (cs := [.int .i64 a0.1, .int .i64 a0.2.1, .int .i64 a0.2.2.1, .int .i64 a0.2.2.2.1, .int .i64 a0.2.2.2.2.1, .slice A18 a0.2.2.2.2.2.1.length c19, .slice A21 a0.2.2.2.2.2.2.length c22]) (by rfl) (fun a w g24 h => ?_)
  refine s_alloc h rfl rfl rfl (by decide) zi_api_Record rfl (fun a w g25 h => ?_)
  refine l_end ?_
  refine c_rs ?_ -- region 1
  refine s_move h rfl _ rfl rfl (by decide) rfl (fun a h => ?_)
  refine s_x h rfl rfl (by decide) (x_faddr h.k rfl Try.underlying24 rfl sz_int rfl) (fun a h => ?_)
  refine s_x h rfl rfl (by decide) (x_ld h.k rfl Try.underlying3 rfl rfl ((h.m.cell (i := 1) rfl 0).trans rfl)) (fun a h => ?_)
  refine s_x h rfl rfl (by decide) (x_faddr h.k rfl Try.underlying24 rfl sz_int rfl) (fun a h => ?_)
  refine s_x h rfl rfl (by decide) (x_ld h.k rfl Try.underlying3 rfl rfl ((h.m.cell (i := 1) rfl 1).trans rfl)) (fun a h => ?_)
  refine s_x h rfl rfl (by decide) (x_faddr h.k rfl Try.underlying24 rfl sz_int rfl) (fun a h => ?_)
  refine s_x h rfl rfl (by decide) (x_ld h.k rfl Try.underlying3 rfl rfl ((h.m.cell (i := 1) rfl 2).trans rfl)) (fun a h => ?_)
  refine s_x h rfl rfl (by decide) (x_faddr h.k rfl Try.underlying24 rfl sz_int rfl) (fun a h => ?_)
  refine s_x h rfl rfl (by decide) (x_ld h.k rfl Try.underlying3 rfl rfl ((h.m.cell (i := 1) rfl 3).trans rfl)) (fun a h => ?_)
  refine s_x h rfl rfl (by decide) (x_faddr h.k rfl Try.underlying24 rfl sz_int rfl) (fun a h => ?_)
  refine s_x h rfl rfl (by decide) (x_ld h.k rfl Try.underlying3 rfl rfl ((h.m.cell (i := 1) rfl 4).trans rfl)) (fun a h => ?_)
  refine s_x h rfl rfl (by decide) (x_build h.k rfl [(0, .int .i64 a1), (1, .int .i64 a0.1), (2, .int .i64 a0.2.1), (3, .int .i64 a0.2.2.1), (4, .int .i64 a0.2.2.2.1), (5, .int .i64 a0.2.2.2.2.1)] rfl ([.int .i64 a1, .int .i64 a0.1, .int .i64 a0.2.1, .int .i64 a0.2.2.1, .int .i64 a0.2.2.2.1, .int .i64 a0.2.2.2.2.1]) (by kernel_rfl)) (fun a h => ?_)
  refine s_stW h rfl rfl rfl ag_api_Record rfl (es := [.int .i64 a1, .int .i64 a0.1, .int .i64 a0.2.1, .int .i64 a0.2.2.1, .int .i64 a0.2.2.2.1, .int .i64 a0.2.2.2.2.1]) rfl rfl (by simp [Value.oneCell']) 0 rfl rfl (fun a w h => ?_)
  refine l_end ?_
  refine wp_ret ?_
  obtain rfl := Option.some.inj hf
  exact r_ret1 h rfl (rv_cellA h rfl 0 rfl ag_api_Record rfl) ⟨_, [], _, rfl, ⟨[.int .i64 a1, .int .i64 a0.1, .int .i64 a0.2.1, .int .i64 a0.2.2.1, .int .i64 a0.2.2.2.1, .int .i64 a0.2.2.2.2.1], rfl, rfl, ⟨[.int .i64 a1], [.int .i64 a0.1, .int .i64 a0.2.1, .int .i64 a0.2.2.1, .int .i64 a0.2.2.2.1, .int .i64 a0.2.2.2.2.1], rfl, ⟨rfl, hra1⟩, ⟨[.int .i64 a0.1], [.int .i64 a0.2.1, .int .i64 a0.2.2.1, .int .i64 a0.2.2.2.1, .int .i64 a0.2.2.2.2.1], rfl, ⟨rfl, hr3⟩, ⟨[.int .i64 a0.2.1], [.int .i64 a0.2.2.1, .int .i64 a0.2.2.2.1, .int .i64 a0.2.2.2.2.1], rfl, ⟨rfl, hr6⟩, ⟨[.int .i64 a0.2.2.1], [.int .i64 a0.2.2.2.1, .int .i64 a0.2.2.2.2.1], rfl, ⟨rfl, hr9⟩, ⟨[.int .i64 a0.2.2.2.1], [.int .i64 a0.2.2.2.2.1], rfl, ⟨rfl, hr12⟩, ⟨rfl, hr15⟩⟩⟩⟩⟩⟩, trivial⟩, rfl, (Up.refl _ _ _), (h.m.pick [2] _ (by decide) rfl)⟩
def bytes_Equal (Fu : Nat) (a0 : List UInt8) (a1 : List UInt8) : Option Bool :=
  some (decide (a0 = a1))
set_option maxRecDepth 100000 in
set_option maxHeartbeats 2000000 in
theorem bytes_Equal_ok (Fu : Nat) {S0 : Snap} (Aa0 : Option Addr) (ca0 : Nat) (a0 : List UInt8) (hsa0 : slS ty8 S0 Aa0 ca0 a0) (Aa1 : Option Addr) (ca1 : Nat) (a1 : List UInt8) (hsa1 : slS ty8 S0 Aa1 ca1 a1) (r : Bool) (hf : bytes_Equal Fu a0 a1 = some r) (w0 : World) (hm : Mem w0 (ownL ([] ++ [.sn S0])) ([] ++ [.sn S0]) w0) :
    Calls Try.prog 70 #[.slice Aa0 a0.length ca0, .slice Aa1 a1.length ca1] w0 (Ret w0 S0 [] (fun v L1 S1 => v = .bool r ∧ L1 = [] ∧ True)) := by
  unfold bytes_Equal at hf
  refine c_enterM Try.func70 rfl 10 rfl (by simp) _ hm _ rfl (fun a h => ?_)
  refine c_rs ?_ -- region 0
  refine s_assign h rfl _ rfl rfl (by decide) rfl (fun a h => ?_)
  refine l_end ?_
  refine c_rs ?_ -- region 1
  refine s_move h rfl _ rfl rfl (by decide) rfl (fun a h => ?_)
  obtain ⟨_, _, vs1, hrd2, hrp3⟩ := id hsa0
  refine s_x h rfl rfl (by decide) (x_convBS (S := S0) h.k rfl Try.underlying22 Try.underlying5 Try.underlying9 rfl hrp3 (hrd2 _ (h.m.snOK (i := 0) rfl))) (fun a h => ?_)
  refine s_move h rfl _ rfl rfl (by decide) rfl (fun a h => ?_)
  obtain ⟨_, _, vs4, hrd5, hrp6⟩ := id hsa1
  refine s_x h rfl rfl (by decide) (x_convBS (S := S0) h.k rfl Try.underlying22 Try.underlying5 Try.underlying9 rfl hrp6 (hrd5 _ (h.m.snOK (i := 0) rfl))) (fun a h => ?_)
  refine s_x h rfl rfl (by decide) (x_eqlStr h.k rfl rfl rfl) (fun a h => ?_)
  refine s_assign h rfl _ rfl rfl (by decide) rfl (fun a h => ?_)
  refine l_end ?_
  refine wp_ret ?_
  obtain rfl := Option.some.inj hf
  exact r_ret1 h rfl (rv_tmp h rfl) ⟨_, [], _, rfl, ⟨rfl, rfl, trivial⟩, rfl, (Up.refl _ _ _), h.m⟩
def op_Same (Fu : Nat) (a0 : Int × Int × Int × Int × Int × (List UInt8) × (List UInt8)) (a1 : Int × Int × Int × Int × Int × (List UInt8) × (List UInt8)) : Option Bool :=
  (if (((((decide (a0.1 = a1.1)) && (decide (a0.2.1 = a1.2.1))) && (decide (a0.2.2.1 = a1.2.2.1))) && (decide (a0.2.2.2.1 = a1.2.2.2.1))) && (decide (a0.2.2.2.2.1 = a1.2.2.2.2.1))) = true then (bytes_Equal Fu a0.2.2.2.2.2.1 a1.2.2.2.2.2.1).bind fun x60 => some x60 else some false).bind fun z58 => (if z58 = true then (bytes_Equal Fu a0.2.2.2.2.2.2 a1.2.2.2.2.2.2).bind fun x66 => some x66 else some false).bind fun z64 => some z64
set_option maxRecDepth 100000 in
set_option maxHeartbeats 2000000 in
theorem op_Same_ok (Fu : Nat) {S0 : Snap} (csa0 : List Value) (a0 : Int × Int × Int × Int × Int × (List UInt8) × (List UInt8)) (hsa0 : (tyP tyI (tyP tyI (tyP tyI (tyP tyI (tyP tyI (tyP (tyL ty8) (tyL ty8))))))).rep S0 csa0 a0) (csa1 : List Value) (a1 : Int × Int × Int × Int × Int × (List UInt8) × (List UInt8)) (hsa1 : (tyP tyI (tyP tyI (tyP tyI (tyP tyI (tyP tyI (tyP (tyL ty8) (tyL ty8))))))).rep S0 csa1 a1) (r : Bool) (hf : op_Same Fu a0 a1 = some r) (w0 : World) (hm : Mem w0 (ownL ([] ++ [.sn S0])) ([] ++ [.sn S0]) w0) :
    Calls Try.prog 18 #[.agg csa0.toArray, .agg csa1.toArray] w0 (Ret w0 S0 [] (fun v L1 S1 => v = .bool r ∧ L1 = [] ∧ True)) := by
  unfold op_Same at hf
  obtain ⟨k1, k2, rfl, ⟨rfl, hr3⟩, ⟨k4, k5, rfl, ⟨rfl, hr6⟩, ⟨k7, k8, rfl, ⟨rfl, hr9⟩, ⟨k10, k11, rfl, ⟨rfl, hr12⟩, ⟨k13, k14, rfl, ⟨rfl, hr15⟩, ⟨k16, k17, rfl, ⟨A18, c19, rfl, hs20⟩, ⟨A21, c22, rfl, hs23⟩⟩⟩⟩⟩⟩⟩ := hsa0
  obtain ⟨k24, k25, rfl, ⟨rfl, hr26⟩, ⟨k27, k28, rfl, ⟨rfl, hr29⟩, ⟨k30, k31, rfl, ⟨rfl, hr32⟩, ⟨k33, k34, rfl, ⟨rfl, hr35⟩, ⟨k36, k37, rfl, ⟨rfl, hr38⟩, ⟨k39, k40, rfl, ⟨A41, c42, rfl, hs43⟩, ⟨A44, c45, rfl, hs46⟩⟩⟩⟩⟩⟩⟩ := hsa1
  refine c_enterM Try.func18 rfl 52 rfl (by simp) _ hm _ rfl (fun a h => ?_)
  refine c_rs ?_ -- region 0
  refine s_box h rfl rfl rfl (by decide) rfl (cs := [.int .i64 a0.1, .int .i64 a0.2.1, .int .i64 a0.2.2.1, .int .i64 a0.2.2.2.1, .int .i64 a0.2.2.2.2.1, .slice A18 a0.2.2.2.2.2.1.length c19, .slice A21 a0.2.2.2.2.2.2.length c22]) (by rfl) (fun a w g47 h => ?_)
  refine s_box h rfl rfl rfl (by decide) rfl (cs := [.int .i64 a1.1, .int .i64 a1.2.1, .int .i64 a1.2.2.1, .int .i64 a1.2.2.2.1, .int .i64 a1.2.2.2.2.1, .slice A41 a1.2.2.2.2.2.1.length c42, .slice A44 a1.2.2.2.2.2.2.length c45]) (by rfl) (fun a w g48 h => ?_)
  refine s_assign h rfl _ rfl rfl (by decide) rfl (fun a h => ?_)
  refine l_end ?_
  refine c_rs ?_ -- region 1
  refine s_x h rfl rfl (by decide) (x_faddr h.k rfl Try.underlying24 rfl sz_int rfl) (fun a h => ?_)
  refine s_x h rfl rfl (by decide) (x_ld h.k rfl Try.underlying3 rfl rfl ((h.m.cell (i := 1) rfl 0).trans rfl)) (fun a h => ?_)
  refine s_x h rfl rfl (by decide) (x_faddr h.k rfl Try.underlying24 rfl sz_int rfl) (fun a h => ?_)
  refine s_x h rfl rfl (by decide) (x_ld h.k rfl Try.underlying3 rfl rfl ((h.m.cell (i := 0) rfl 0).trans rfl)) (fun a h => ?_)
  refine s_x h rfl rfl (by decide) (x_bin h.k rfl rfl rfl ib_eql) (fun a h => ?_)
  refine s_move h rfl _ rfl rfl (by decide) rfl (fun a h => ?_)
  refine q_grp h 6 (t := 10) 16 ((decide (a0.1 = a1.1)) && (decide (a0.2.1 = a1.2.1))) rfl (fun hB5 => ?_) (fun hB5 => ?_) (fun a w h => ?_)
  · refine g_yes h rfl rfl rfl rfl hB5 ?_
    refine s_x h rfl rfl (by decide) (x_faddr h.k rfl Try.underlying24 rfl sz_int rfl) (fun a h => ?_)
    refine g_yes h rfl rfl rfl rfl hB5 ?_
    refine s_x h rfl rfl (by decide) (x_ld h.k rfl Try.underlying3 rfl rfl ((h.m.cell (i := 1) rfl 1).trans rfl)) (fun a h => ?_)
    refine g_yes h rfl rfl rfl rfl hB5 ?_
    refine s_x h rfl rfl (by decide) (x_faddr h.k rfl Try.underlying24 rfl sz_int rfl) (fun a h => ?_)
    refine g_yes h rfl rfl rfl rfl hB5 ?_
    refine s_x h rfl rfl (by decide) (x_ld h.k rfl Try.underlying3 rfl rfl ((h.m.cell (i := 0) rfl 1).trans rfl)) (fun a h => ?_)
    refine g_yes h rfl rfl rfl rfl hB5 ?_
    refine s_x h rfl rfl (by decide) (x_bin h.k rfl rfl rfl ib_eql) (fun a h => ?_)
    refine s_x h rfl rfl (by decide) (x_pick (u' := undef) h.k rfl rfl (fun _ => rfl) (fun hh => absurd (hB5.symm.trans hh) (by decide))) (fun a h => ?_)
    exact (h.mid 5 rfl).val (by first | rfl | (rw [hB5]; first | rfl | simp))
  · refine g_no h rfl rfl rfl rfl hB5 rfl (by decide) (fun a h => ?_)
    refine g_no h rfl rfl rfl rfl hB5 rfl (by decide) (fun a h => ?_)
    refine g_no h rfl rfl rfl rfl hB5 rfl (by decide) (fun a h => ?_)
    refine g_no h rfl rfl rfl rfl hB5 rfl (by decide) (fun a h => ?_)
    refine g_no h rfl rfl rfl rfl hB5 rfl (by decide) (fun a h => ?_)
    refine s_x h rfl rfl (by decide) (x_pick (u' := undef) h.k rfl rfl (fun hh => absurd (hB5.symm.trans hh) (by decide)) (fun _ => rfl)) (fun a h => ?_)
    exact (h.mid 5 rfl).val (by first | rfl | (rw [hB5]; first | rfl | simp))
  refine s_move h rfl _ rfl rfl (by decide) rfl (fun a h => ?_)
  refine q_grp h 6 (t := 17) 23 (((decide (a0.1 = a1.1)) && (decide (a0.2.1 = a1.2.1))) && (decide (a0.2.2.1 = a1.2.2.1))) rfl (fun hB12 => ?_) (fun hB12 => ?_) (fun a w h => ?_)
  · refine g_yes h rfl rfl rfl rfl hB12 ?_
    refine s_x h rfl rfl (by decide) (x_faddr h.k rfl Try.underlying24 rfl sz_int rfl) (fun a h => ?_)
    refine g_yes h rfl rfl rfl rfl hB12 ?_
    refine s_x h rfl rfl (by decide) (x_ld h.k rfl Try.underlying3 rfl rfl ((h.m.cell (i := 1) rfl 2).trans rfl)) (fun a h => ?_)
    refine g_yes h rfl rfl rfl rfl hB12 ?_
    refine s_x h rfl rfl (by decide) (x_faddr h.k rfl Try.underlying24 rfl sz_int rfl) (fun a h => ?_)
    refine g_yes h rfl rfl rfl rfl hB12 ?_
    refine s_x h rfl rfl (by decide) (x_ld h.k rfl Try.underlying3 rfl rfl ((h.m.cell (i := 0) rfl 2).trans rfl)) (fun a h => ?_)
    refine g_yes h rfl rfl rfl rfl hB12 ?_
    refine s_x h rfl rfl (by decide) (x_bin h.k rfl rfl rfl ib_eql) (fun a h => ?_)
    refine s_x h rfl rfl (by decide) (x_pick (u' := undef) h.k rfl rfl (fun _ => rfl) (fun hh => absurd (hB12.symm.trans hh) (by decide))) (fun a h => ?_)
    exact (h.mid 5 rfl).val (by first | rfl | (rw [hB12]; first | rfl | simp))
  · refine g_no h rfl rfl rfl rfl hB12 rfl (by decide) (fun a h => ?_)
    refine g_no h rfl rfl rfl rfl hB12 rfl (by decide) (fun a h => ?_)
    refine g_no h rfl rfl rfl rfl hB12 rfl (by decide) (fun a h => ?_)
    refine g_no h rfl rfl rfl rfl hB12 rfl (by decide) (fun a h => ?_)
    refine g_no h rfl rfl rfl rfl hB12 rfl (by decide) (fun a h => ?_)
    refine s_x h rfl rfl (by decide) (x_pick (u' := undef) h.k rfl rfl (fun hh => absurd (hB12.symm.trans hh) (by decide)) (fun _ => rfl)) (fun a h => ?_)
    exact (h.mid 5 rfl).val (by first | rfl | (rw [hB12]; first | rfl | simp))
  refine s_move h rfl _ rfl rfl (by decide) rfl (fun a h => ?_)
  refine q_grp h 6 (t := 24) 30 ((((decide (a0.1 = a1.1)) && (decide (a0.2.1 = a1.2.1))) && (decide (a0.2.2.1 = a1.2.2.1))) && (decide (a0.2.2.2.1 = a1.2.2.2.1))) rfl (fun hB19 => ?_) (fun hB19 => ?_) (fun a w h => ?_)
  · refine g_yes h rfl rfl rfl rfl hB19 ?_
    refine s_x h rfl rfl (by decide) (x_faddr h.k rfl Try.underlying24 rfl sz_int rfl) (fun a h => ?_)
    refine g_yes h rfl rfl rfl rfl hB19 ?_
    refine s_x h rfl rfl (by decide) (x_ld h.k rfl Try.underlying3 rfl rfl ((h.m.cell (i := 1) rfl 3).trans rfl)) (fun a h => ?_)
    refine g_yes h rfl rfl rfl rfl hB19 ?_
    refine s_x h rfl rfl (by decide) (x_faddr h.k rfl Try.underlying24 rfl sz_int rfl) (fun a h => ?_)
    refine g_yes h rfl rfl rfl rfl hB19 ?_
    refine s_x h rfl rfl (by decide) (x_ld h.k rfl Try.underlying3 rfl rfl ((h.m.cell (i := 0) rfl 3).trans rfl)) (fun a h => ?_)
    refine g_yes h rfl rfl rfl rfl hB19 ?_
    refine s_x h rfl rfl (by decide) (x_bin h.k rfl rfl rfl ib_eql) (fun a h => ?_)
    refine s_x h rfl rfl (by decide) (x_pick (u' := undef) h.k rfl rfl (fun _ => rfl) (fun hh => absurd (hB19.symm.trans hh) (by decide))) (fun a h => ?_)
    exact (h.mid 5 rfl).val (by first | rfl | (rw [hB19]; first | rfl | simp))
  · refine g_no h rfl rfl rfl rfl hB19 rfl (by decide) (fun a h => ?_)
    refine g_no h rfl rfl rfl rfl hB19 rfl (by decide) (fun a h => ?_)
    refine g_no h rfl rfl rfl rfl hB19 rfl (by decide) (fun a h => ?_)
    refine g_no h rfl rfl rfl rfl hB19 rfl (by decide) (fun a h => ?_)
    refine g_no h rfl rfl rfl rfl hB19 rfl (by decide) (fun a h => ?_)
    refine s_x h rfl rfl (by decide) (x_pick (u' := undef) h.k rfl rfl (fun hh => absurd (hB19.symm.trans hh) (by decide)) (fun _ => rfl)) (fun a h => ?_)
    exact (h.mid 5 rfl).val (by first | rfl | (rw [hB19]; first | rfl | simp))
  refine s_move h rfl _ rfl rfl (by decide) rfl (fun a h => ?_)
  refine q_grp h 6 (t := 31) 37 (((((decide (a0.1 = a1.1)) && (decide (a0.2.1 = a1.2.1))) && (decide (a0.2.2.1 = a1.2.2.1))) && (decide (a0.2.2.2.1 = a1.2.2.2.1))) && (decide (a0.2.2.2.2.1 = a1.2.2.2.2.1))) rfl (fun hB26 => ?_) (fun hB26 => ?_) (fun a w h => ?_)
  · refine g_yes h rfl rfl rfl rfl hB26 ?_
    refine s_x h rfl rfl (by decide) (x_faddr h.k rfl Try.underlying24 rfl sz_int rfl) (fun a h => ?_)
    refine g_yes h rfl rfl rfl rfl hB26 ?_
    refine s_x h rfl rfl (by decide) (x_ld h.k rfl Try.underlying3 rfl rfl ((h.m.cell (i := 1) rfl 4).trans rfl)) (fun a h => ?_)
    refine g_yes h rfl rfl rfl rfl hB26 ?_
    refine s_x h rfl rfl (by decide) (x_faddr h.k rfl Try.underlying24 rfl sz_int rfl) (fun a h => ?_)
    refine g_yes h rfl rfl rfl rfl hB26 ?_
    refine s_x h rfl rfl (by decide) (x_ld h.k rfl Try.underlying3 rfl rfl ((h.m.cell (i := 0) rfl 4).trans rfl)) (fun a h => ?_)
    refine g_yes h rfl rfl rfl rfl hB26 ?_
    refine s_x h rfl rfl (by decide) (x_bin h.k rfl rfl rfl ib_eql) (fun a h => ?_)
    refine s_x h rfl rfl (by decide) (x_pick (u' := undef) h.k rfl rfl (fun _ => rfl) (fun hh => absurd (hB26.symm.trans hh) (by decide))) (fun a h => ?_)
    exact (h.mid 5 rfl).val (by first | rfl | (rw [hB26]; first | rfl | simp))
  · refine g_no h rfl rfl rfl rfl hB26 rfl (by decide) (fun a h => ?_)
    refine g_no h rfl rfl rfl rfl hB26 rfl (by decide) (fun a h => ?_)
    refine g_no h rfl rfl rfl rfl hB26 rfl (by decide) (fun a h => ?_)
    refine g_no h rfl rfl rfl rfl hB26 rfl (by decide) (fun a h => ?_)
    refine g_no h rfl rfl rfl rfl hB26 rfl (by decide) (fun a h => ?_)
    refine s_x h rfl rfl (by decide) (x_pick (u' := undef) h.k rfl rfl (fun hh => absurd (hB26.symm.trans hh) (by decide)) (fun _ => rfl)) (fun a h => ?_)
    exact (h.mid 5 rfl).val (by first | rfl | (rw [hB26]; first | rfl | simp))
  refine s_move h rfl _ rfl rfl (by decide) rfl (fun a h => ?_)
  obtain ⟨z58, hz57, hf⟩ := bsome hf
  refine q_grp h 6 (t := 38) 44 z58 rfl (fun hB33 => ?_) (fun hB33 => ?_) (fun a w h => ?_)
  · rw [if_pos hB33] at hz57
    refine g_yes h rfl rfl rfl rfl hB33 ?_
    refine s_x h rfl rfl (by decide) (x_faddr h.k rfl Try.underlying24 rfl sz_Suint8 rfl) (fun a h => ?_)
    refine g_yes h rfl rfl rfl rfl hB33 ?_
    refine s_x h rfl rfl (by decide) (x_ld h.k rfl Try.underlying22 rfl rfl ((h.m.cell (i := 1) rfl 5).trans rfl)) (fun a h => ?_)
    refine g_yes h rfl rfl rfl rfl hB33 ?_
    refine s_x h rfl rfl (by decide) (x_faddr h.k rfl Try.underlying24 rfl sz_Suint8 rfl) (fun a h => ?_)
    refine g_yes h rfl rfl rfl rfl hB33 ?_
    refine s_x h rfl rfl (by decide) (x_ld h.k rfl Try.underlying22 rfl rfl ((h.m.cell (i := 0) rfl 5).trans rfl)) (fun a h => ?_)
    refine g_yes h rfl rfl rfl rfl hB33 ?_
    obtain ⟨x60, h61, hz57⟩ := bsome hz57
    have hX := bytes_Equal_ok Fu (S0 := snapAll _) A18 c19 a0.2.2.2.2.2.1 (hs20.mono (h.m.leAll (i := 2) rfl)) A41 c42 a1.2.2.2.2.2.1 (hs43.mono (h.m.leAll (i := 2) rfl)) _ h61 _ h.startAll
    refine q_callX hX h rfl rfl rfl (by decide) Try.func70 rfl rfl rfl (fun a w v L1 S1 hR hb1 h => ?_)
    obtain ⟨rfl, rfl, _⟩ := hR
    refine s_x h rfl rfl (by decide) (x_pick (u' := undef) h.k rfl rfl (fun _ => rfl) (fun hh => absurd (hB33.symm.trans hh) (by decide))) (fun a h => ?_)
    exact (h.mid 5 rfl).val (by rw [Option.some.inj hz57])
  · refine g_no h rfl rfl rfl rfl hB33 rfl (by decide) (fun a h => ?_)
    refine g_no h rfl rfl rfl rfl hB33 rfl (by decide) (fun a h => ?_)
    refine g_no h rfl rfl rfl rfl hB33 rfl (by decide) (fun a h => ?_)
    refine g_no h rfl rfl rfl rfl hB33 rfl (by decide) (fun a h => ?_)
    refine g_no h rfl rfl rfl rfl hB33 rfl (by decide) (fun a h => ?_)
    rw [if_neg (by rw [hB33]; decide)] at hz57
    refine s_x h rfl rfl (by decide) (x_pick (u' := undef) h.k rfl rfl (fun hh => absurd (hB33.symm.trans hh) (by decide)) (fun _ => rfl)) (fun a h => ?_)
    exact (h.mid 5 rfl).val (by rw [Option.some.inj hz57])
  refine s_move h rfl _ rfl rfl (by decide) rfl (fun a h => ?_)
  obtain ⟨z64, hz63, hf⟩ := bsome hf
  refine q_grp h 6 (t := 45) 51 z64 rfl (fun hB40 => ?_) (fun hB40 => ?_) (fun a w h => ?_)
  · rw [if_pos hB40] at hz63
    refine g_yes h rfl rfl rfl rfl hB40 ?_
    refine s_x h rfl rfl (by decide) (x_faddr h.k rfl Try.underlying24 rfl sz_Suint8 rfl) (fun a h => ?_)
    refine g_yes h rfl rfl rfl rfl hB40 ?_
    refine s_x h rfl rfl (by decide) (x_ld h.k rfl Try.underlying22 rfl rfl ((h.m.cell (i := 1) rfl 6).trans rfl)) (fun a h => ?_)
    refine g_yes h rfl rfl rfl rfl hB40 ?_
    refine s_x h rfl rfl (by decide) (x_faddr h.k rfl Try.underlying24 rfl sz_Suint8 rfl) (fun a h => ?_)
    refine g_yes h rfl rfl rfl rfl hB40 ?_
    refine s_x h rfl rfl (by decide) (x_ld h.k rfl Try.underlying22 rfl rfl ((h.m.cell (i := 0) rfl 6).trans rfl)) (fun a h => ?_)
    refine g_yes h rfl rfl rfl rfl hB40 ?_
    obtain ⟨x66, h67, hz63⟩ := bsome hz63
    have hX := bytes_Equal_ok Fu (S0 := snapAll _) A21 c22 a0.2.2.2.2.2.2 (hs23.mono (h.m.leAll (i := 2) rfl)) A44 c45 a1.2.2.2.2.2.2 (hs46.mono (h.m.leAll (i := 2) rfl)) _ h67 _ h.startAll
    refine q_callX hX h rfl rfl rfl (by decide) Try.func70 rfl rfl rfl (fun a w v L1 S1 hR hb1 h => ?_)
    obtain ⟨rfl, rfl, _⟩ := hR
    refine s_x h rfl rfl (by decide) (x_pick (u' := undef) h.k rfl rfl (fun _ => rfl) (fun hh => absurd (hB40.symm.trans hh) (by decide))) (fun a h => ?_)
    exact (h.mid 5 rfl).val (by rw [Option.some.inj hz63])
  · refine g_no h rfl rfl rfl rfl hB40 rfl (by decide) (fun a h => ?_)
    refine g_no h rfl rfl rfl rfl hB40 rfl (by decide) (fun a h => ?_)
    refine g_no h rfl rfl rfl rfl hB40 rfl (by decide) (fun a h => ?_)
    refine g_no h rfl rfl rfl rfl hB40 rfl (by decide) (fun a h => ?_)
    refine g_no h rfl rfl rfl rfl hB40 rfl (by decide) (fun a h => ?_)
    rw [if_neg (by rw [hB40]; decide)] at hz63
    refine s_x h rfl rfl (by decide) (x_pick (u' := undef) h.k rfl rfl (fun hh => absurd (hB40.symm.trans hh) (by decide)) (fun _ => rfl)) (fun a h => ?_)
    exact (h.mid 5 rfl).val (by rw [Option.some.inj hz63])
  refine s_assign h rfl _ rfl rfl (by decide) rfl (fun a h => ?_)
  refine l_end ?_
  refine wp_ret ?_
  rw [← Option.some.inj hf]
  exact r_ret1 h rfl (rv_tmp h rfl) ⟨_, [], _, rfl, ⟨rfl, rfl, trivial⟩, rfl, (Up.refl _ _ _), (h.m.pick [2] _ (by decide) rfl)⟩
end Go.Proofs.Ythaakmdafnjkpaa
