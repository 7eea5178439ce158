/- Or: Go functions as plain functions, and that they are so (written by xt.py). -/
import Derived.Test.YthaakmdafnjkpaaFr
import Derived.Test.YthaakmdafnjkpaaEb
set_option linter.unusedVariables false
set_option linter.unusedSimpArgs false
namespace Go.Proofs.Ythaakmdafnjkpaa
open Go.RowKit
def chatelaineref29_from (Fu : Nat) (a0 : Int) (a1 : Int) (a2 : Int) : Option Bool :=
  some ((decide (a1 ≤ a0)) && (decide (a0 ≤ a2)))
set_option maxRecDepth 100000 in
set_option maxHeartbeats 2000000 in
theorem chatelaineref29_from_ok (Fu : Nat) {S0 : Snap} (a0 : Int) (hra0 : r64 a0) (a1 : Int) (hra1 : r64 a1) (a2 : Int) (hra2 : r64 a2) (r : Bool) (hf : chatelaineref29_from Fu a0 a1 a2 = some r) (w0 : World) (hm : Mem w0 (ownL ([] ++ [.sn S0])) ([] ++ [.sn S0]) w0) :
    Calls Try.prog 69 #[.int .i64 a0, .int .i64 a1, .int .i64 a2] w0 (Ret w0 S0 [] (fun v L1 S1 => v = .bool r ∧ L1 = [] ∧ True)) := by
  unfold chatelaineref29_from at hf
  refine c_enterM Try.func69 rfl 15 rfl (by simp) _ hm _ rfl (fun a h => ?_)
  refine c_rs ?_ -- region 0
  refine s_assign h rfl _ rfl rfl (by decide) rfl (fun a h => ?_)
  refine l_end ?_
  refine c_rs ?_ -- region 1
  refine s_move h rfl _ rfl rfl (by decide) rfl (fun a h => ?_)
  refine s_move h rfl _ rfl rfl (by decide) rfl (fun a h => ?_)
  refine s_x h rfl rfl (by decide) (x_bin h.k rfl rfl rfl ib_geq) (fun a h => ?_)
  refine s_move h rfl _ rfl rfl (by decide) rfl (fun a h => ?_)
  refine q_grp h 4 (t := 10) 14 ((decide (a1 ≤ a0)) && (decide (a0 ≤ a2))) rfl (fun hB3 => ?_) (fun hB3 => ?_) (fun a w h => ?_)
  · refine g_yes h rfl rfl rfl rfl hB3 ?_
    refine s_move h rfl _ rfl rfl (by decide) rfl (fun a h => ?_)
    refine g_yes h rfl rfl rfl rfl hB3 ?_
    refine s_move h rfl _ rfl rfl (by decide) rfl (fun a h => ?_)
    refine g_yes h rfl rfl rfl rfl hB3 ?_
    refine s_x h rfl rfl (by decide) (x_bin h.k rfl rfl rfl ib_leq) (fun a h => ?_)
    refine s_x h rfl rfl (by decide) (x_pick (u' := undef) h.k rfl rfl (fun _ => rfl) (fun hh => absurd (hB3.symm.trans hh) (by decide))) (fun a h => ?_)
    exact (h.mid 3 rfl).val (by first | rfl | (rw [hB3]; first | rfl | simp))
  · refine g_no h rfl rfl rfl rfl hB3 rfl (by decide) (fun a h => ?_)
    refine g_no h rfl rfl rfl rfl hB3 rfl (by decide) (fun a h => ?_)
    refine g_no h rfl rfl rfl rfl hB3 rfl (by decide) (fun a h => ?_)
    refine s_x h rfl rfl (by decide) (x_pick (u' := undef) h.k rfl rfl (fun hh => absurd (hB3.symm.trans hh) (by decide)) (fun _ => rfl)) (fun a h => ?_)
    exact (h.mid 3 rfl).val (by first | rfl | (rw [hB3]; first | rfl | simp))
  refine s_assign h rfl _ rfl rfl (by decide) rfl (fun a h => ?_)
  refine l_end ?_
  refine wp_ret ?_
  obtain rfl := Option.some.inj hf
  exact r_ret1 h rfl (rv_tmp h rfl) ⟨_, [], _, rfl, ⟨rfl, rfl, trivial⟩, rfl, (Up.refl _ _ _), h.m⟩
def chatelaineref29_Right (Fu : Nat) (a0 : Int × Int × Int × Int × Int × (List UInt8) × (List UInt8)) (a1 : Int) : Option Bool :=
  (chatelaineref29_from Fu a0.1 1 10).bind fun x25 => (if (!x25) = true then some true else (chatelaineref29_from Fu a0.2.1 1 16).bind fun x31 => some (!x31)).bind fun z29 => (if z29 = true then some true else (chatelaineref29_from Fu a0.2.2.2.1 0 4096).bind fun x37 => some (!x37)).bind fun z35 => if (z35 || (decide (64 < (a0.2.2.2.2.2.1.length : Int)))) = true then (some false) else ((if (((decide (a0.1 = 1)) || (decide (a0.1 = 5))) || (decide (a0.1 = 6))) = true then (if a0.2.2.1 ≠ 0 then (some (.inl false)) else (some (.inr ()))) else ((chatelaineref29_from Fu a0.2.2.1 1 64).bind fun x48 => if (!x48) = true then (some (.inl false)) else (some (.inr ()))) : Option (Sum Bool Unit)).bind fun o => match o with | .inl r75 => some r75 | .inr _ => if ((((decide (a0.1 = 2)) || (decide (a0.1 = 3))) && (decide (a0.2.2.2.1 = 0))) || ((((decide (a0.1 = 4)) || (decide (a0.1 = 5))) || (decide (a0.1 = 6))) && (decide (a0.2.2.2.1 ≠ 0)))) = true then (some false) else ((if ((decide (a0.1 = 9)) || (decide (a0.1 = 10))) = true then ((chatelaineref29_from Fu a0.2.2.2.2.1 1 4096).bind fun x67 => if (!x67) = true then (some (.inl false)) else (some (.inr ()))) else (if a0.2.2.2.2.1 ≠ 0 then (some (.inl false)) else (some (.inr ()))) : Option (Sum Bool Unit)).bind fun o => match o with | .inl r74 => some r74 | .inr _ => if ((decide (a0.1 = 1)) || (decide (a0.1 = 5))) = true then (some ((decide (8 ≤ (a0.2.2.2.2.2.2.length : Int))) && (decide ((a0.2.2.2.2.2.2.length : Int) ≤ 64)))) else (if a0.1 = 8 then (some (decide ((a0.2.2.2.2.2.2.length : Int) = a1))) else (some (decide ((a0.2.2.2.2.2.2.length : Int) = 0))))))
set_option maxRecDepth 100000 in
set_option maxHeartbeats 2000000 in
theorem chatelaineref29_Right_ok (Fu : Nat) {S0 : Snap} (csa0 : List Value) (a0 : Int × Int × Int × Int × Int × (List UInt8) × (List UInt8)) (hsa0 : (tyP tyI (tyP tyI (tyP tyI (tyP tyI (tyP tyI (tyP (tyL ty8) (tyL ty8))))))).rep S0 csa0 a0) (a1 : Int) (hra1 : r64 a1) (r : Bool) (hf : chatelaineref29_Right Fu a0 a1 = some r) (w0 : World) (hm : Mem w0 (ownL ([] ++ [.sn S0])) ([] ++ [.sn S0]) w0) :
    Calls Try.prog 16 #[.agg csa0.toArray, .int .i64 a1] w0 (Ret w0 S0 [] (fun v L1 S1 => v = .bool r ∧ L1 = [] ∧ True)) := by
  unfold chatelaineref29_Right at hf
  obtain ⟨k1, k2, rfl, ⟨rfl, hr3⟩, ⟨k4, k5, rfl, ⟨rfl, hr6⟩, ⟨k7, k8, rfl, ⟨rfl, hr9⟩, ⟨k10, k11, rfl, ⟨rfl, hr12⟩, ⟨k13, k14, rfl, ⟨rfl, hr15⟩, ⟨k16, k17, rfl, ⟨A18, c19, rfl, hs20⟩, ⟨A21, c22, rfl, hs23⟩⟩⟩⟩⟩⟩⟩ := hsa0
  refine c_enterM Try.func16 rfl 110 rfl (by simp) _ hm _ rfl (fun a h => ?_)
  refine c_rs ?_ -- region 0
  refine s_box h rfl rfl rfl (by decide) rfl (cs := [.int .i64 a0.1, .int .i64 a0.2.1, .int .i64 a0.2.2.1, .int .i64 a0.2.2.2.1, .int .i64 a0.2.2.2.2.1, .slice A18 a0.2.2.2.2.2.1.length c19, .slice A21 a0.2.2.2.2.2.2.length c22]) (by rfl) (fun a w g24 h => ?_)
  refine s_assign h rfl _ rfl rfl (by decide) rfl (fun a h => ?_)
  refine l_end ?_
  refine c_rs ?_ -- region 1
  refine s_x h rfl rfl (by decide) (x_faddr h.k rfl Try.underlying24 rfl sz_int rfl) (fun a h => ?_)
  refine s_x h rfl rfl (by decide) (x_ld h.k rfl Try.underlying3 rfl rfl ((h.m.cell (i := 0) rfl 0).trans rfl)) (fun a h => ?_)
  refine s_assign h rfl _ rfl rfl (by decide) rfl (fun a h => ?_)
  refine l_end ?_
  refine wp_seq ?_
  refine c_rs ?_ -- region 2
  refine s_move h rfl _ rfl rfl (by decide) rfl (fun a h => ?_)
  obtain ⟨x25, h26, hf⟩ := bsome hf
  have hX := chatelaineref29_from_ok Fu (S0 := snapAll _) a0.1 hr3 1 (show r64 1 from ⟨by decide, by decide⟩) 10 (show r64 10 from ⟨by decide, by decide⟩) _ h26 _ h.startAll
  refine q_callX hX h rfl rfl rfl (by decide) Try.func69 rfl rfl rfl (fun a w v L1 S1 hR hb1 h => ?_)
  obtain ⟨rfl, rfl, _⟩ := hR
  refine s_x h rfl rfl (by decide) (x_not h.k rfl rfl) (fun a h => ?_)
  refine s_move h rfl _ rfl rfl (by decide) rfl (fun a h => ?_)
  obtain ⟨z29, hz28, hf⟩ := bsome hf
  refine q_grp h 5 (t := 12) 17 z29 rfl (fun hB3 => ?_) (fun hB3 => ?_) (fun a w h => ?_)
  · refine g_no h rfl rfl rfl rfl hB3 rfl (by decide) (fun a h => ?_)
    refine g_no h rfl rfl rfl rfl hB3 rfl (by decide) (fun a h => ?_)
    refine g_no h rfl rfl rfl rfl hB3 rfl (by decide) (fun a h => ?_)
    refine g_no h rfl rfl rfl rfl hB3 rfl (by decide) (fun a h => ?_)
    rw [if_pos hB3] at hz28
    refine s_x h rfl rfl (by decide) (x_pick (u' := undef) h.k rfl rfl (fun _ => rfl) (fun hh => absurd (hB3.symm.trans hh) (by decide))) (fun a h => ?_)
    exact (h.mid 4 rfl).val (by rw [Option.some.inj hz28])
  · rw [if_neg (by rw [hB3]; decide)] at hz28
    refine g_yes h rfl rfl rfl rfl hB3 ?_
    refine s_x h rfl rfl (by decide) (x_faddr h.k rfl Try.underlying24 rfl sz_int rfl) (fun a h => ?_)
    refine g_yes h rfl rfl rfl rfl hB3 ?_
    refine s_x h rfl rfl (by decide) (x_ld h.k rfl Try.underlying3 rfl rfl ((h.m.cell (i := 0) rfl 1).trans rfl)) (fun a h => ?_)
    refine g_yes h rfl rfl rfl rfl hB3 ?_
    obtain ⟨x31, h32, hz28⟩ := bsome hz28
    have hX := chatelaineref29_from_ok Fu (S0 := snapAll _) a0.2.1 hr6 1 (show r64 1 from ⟨by decide, by decide⟩) 16 (show r64 16 from ⟨by decide, by decide⟩) _ h32 _ h.startAll
    refine q_callX hX h rfl rfl rfl (by decide) Try.func69 rfl rfl rfl (fun a w v L1 S1 hR hb1 h => ?_)
    obtain ⟨rfl, rfl, _⟩ := hR
    refine g_yes h rfl rfl rfl rfl hB3 ?_
    refine s_x h rfl rfl (by decide) (x_not h.k rfl rfl) (fun a h => ?_)
    refine s_x h rfl rfl (by decide) (x_pick (u' := undef) h.k rfl rfl (fun hh => absurd (hB3.symm.trans hh) (by decide)) (fun _ => rfl)) (fun a h => ?_)
    exact (h.mid 4 rfl).val (by rw [Option.some.inj hz28])
  refine s_move h rfl _ rfl rfl (by decide) rfl (fun a h => ?_)
  obtain ⟨z35, hz34, hf⟩ := bsome hf
  refine q_grp h 5 (t := 18) 23 z35 rfl (fun hB9 => ?_) (fun hB9 => ?_) (fun a w h => ?_)
  · refine g_no h rfl rfl rfl rfl hB9 rfl (by decide) (fun a h => ?_)
    refine g_no h rfl rfl rfl rfl hB9 rfl (by decide) (fun a h => ?_)
    refine g_no h rfl rfl rfl rfl hB9 rfl (by decide) (fun a h => ?_)
    refine g_no h rfl rfl rfl rfl hB9 rfl (by decide) (fun a h => ?_)
    rw [if_pos hB9] at hz34
    refine s_x h rfl rfl (by decide) (x_pick (u' := undef) h.k rfl rfl (fun _ => rfl) (fun hh => absurd (hB9.symm.trans hh) (by decide))) (fun a h => ?_)
    exact (h.mid 4 rfl).val (by rw [Option.some.inj hz34])
  · rw [if_neg (by rw [hB9]; decide)] at hz34
    refine g_yes h rfl rfl rfl rfl hB9 ?_
    refine s_x h rfl rfl (by decide) (x_faddr h.k rfl Try.underlying24 rfl sz_int rfl) (fun a h => ?_)
    refine g_yes h rfl rfl rfl rfl hB9 ?_
    refine s_x h rfl rfl (by decide) (x_ld h.k rfl Try.underlying3 rfl rfl ((h.m.cell (i := 0) rfl 3).trans rfl)) (fun a h => ?_)
    refine g_yes h rfl rfl rfl rfl hB9 ?_
    obtain ⟨x37, h38, hz34⟩ := bsome hz34
    have hX := chatelaineref29_from_ok Fu (S0 := snapAll _) a0.2.2.2.1 hr12 0 (show r64 0 from ⟨by decide, by decide⟩) 4096 (show r64 4096 from ⟨by decide, by decide⟩) _ h38 _ h.startAll
    refine q_callX hX h rfl rfl rfl (by decide) Try.func69 rfl rfl rfl (fun a w v L1 S1 hR hb1 h => ?_)
    obtain ⟨rfl, rfl, _⟩ := hR
    refine g_yes h rfl rfl rfl rfl hB9 ?_
    refine s_x h rfl rfl (by decide) (x_not h.k rfl rfl) (fun a h => ?_)
    refine s_x h rfl rfl (by decide) (x_pick (u' := undef) h.k rfl rfl (fun hh => absurd (hB9.symm.trans hh) (by decide)) (fun _ => rfl)) (fun a h => ?_)
    exact (h.mid 4 rfl).val (by rw [Option.some.inj hz34])
  refine s_move h rfl _ rfl rfl (by decide) rfl (fun a h => ?_)
  refine q_grp h 5 (t := 24) 29 (z35 || (decide (64 < (a0.2.2.2.2.2.1.length : Int)))) rfl (fun hB15 => ?_) (fun hB15 => ?_) (fun a w h => ?_)
  · refine g_no h rfl rfl rfl rfl hB15 rfl (by decide) (fun a h => ?_)
    refine g_no h rfl rfl rfl rfl hB15 rfl (by decide) (fun a h => ?_)
    refine g_no h rfl rfl rfl rfl hB15 rfl (by decide) (fun a h => ?_)
    refine g_no h rfl rfl rfl rfl hB15 rfl (by decide) (fun a h => ?_)
    refine s_x h rfl rfl (by decide) (x_pick (u' := undef) h.k rfl rfl (fun _ => rfl) (fun hh => absurd (hB15.symm.trans hh) (by decide))) (fun a h => ?_)
    exact (h.mid 4 rfl).val (by first | rfl | (rw [hB15]; first | rfl | simp))
  · refine g_yes h rfl rfl rfl rfl hB15 ?_
    refine s_x h rfl rfl (by decide) (x_faddr h.k rfl Try.underlying24 rfl sz_Suint8 rfl) (fun a h => ?_)
    refine g_yes h rfl rfl rfl rfl hB15 ?_
    refine s_x h rfl rfl (by decide) (x_ld h.k rfl Try.underlying22 rfl rfl ((h.m.cell (i := 0) rfl 5).trans rfl)) (fun a h => ?_)
    refine g_yes h rfl rfl rfl rfl hB15 ?_
    refine s_x h rfl rfl (by decide) (x_len h.k rfl Try.underlying22 rfl) (fun a h => ?_)
    refine g_yes h rfl rfl rfl rfl hB15 ?_
    refine s_x h rfl rfl (by decide) (x_bin h.k rfl rfl rfl ib_gtr) (fun a h => ?_)
    refine s_x h rfl rfl (by decide) (x_pick (u' := undef) h.k rfl rfl (fun hh => absurd (hB15.symm.trans hh) (by decide)) (fun _ => rfl)) (fun a h => ?_)
    exact (h.mid 4 rfl).val (by first | rfl | (rw [hB15]; first | rfl | simp))
  refine l_end ?_
  refine c_cond h rfl (fun hb => ?_) (fun hb => ?_)
  · rw [if_pos hb] at hf
    refine c_rs ?_ -- region 3
    refine s_assign h rfl _ rfl rfl (by decide) rfl (fun a h => ?_)
    refine l_end ?_
    refine wp_ret ?_
    refine e_thenR ?_
    rw [← Option.some.inj hf]
    exact r_ret1 h rfl (rv_tmp h rfl) ⟨_, [], _, rfl, ⟨rfl, rfl, trivial⟩, rfl, (Up.refl _ _ _), (h.m.pick [1] _ (by decide) rfl)⟩
  · rw [if_neg (by rw [hb]; decide)] at hf
    refine wp_skip ?_
    refine e_thenN ?_
    obtain ⟨o42, hc43, hf⟩ := bsome hf
    refine c_cut (fun a w => (.inr ()) = o42 ∧ St 110 w0 (ownL ([] ++ [.sn S0])) [(1, .int .i64 a1), (2, .pointer (some ⟨g24, 0, none⟩)), (5, .int .i64 a0.1)] [.box g24 24 ([.int .i64 a0.1, .int .i64 a0.2.1, .int .i64 a0.2.2.1, .int .i64 a0.2.2.2.1, .int .i64 a0.2.2.2.2.1, .slice A18 a0.2.2.2.2.2.1.length c19, .slice A21 a0.2.2.2.2.2.2.length c22]), .sn S0] a w) ?_ ?_
    · refine c_rs ?_ -- region 4
      refine s_move h rfl _ rfl rfl (by decide) rfl (fun a h => ?_)
      refine s_x h rfl rfl (by decide) (x_bin h.k rfl rfl rfl ib_eql) (fun a h => ?_)
      refine s_move h rfl _ rfl rfl (by decide) rfl (fun a h => ?_)
      refine q_grp h 3 (t := 32) 35 ((decide (a0.1 = 1)) || (decide (a0.1 = 5))) rfl (fun hB2 => ?_) (fun hB2 => ?_) (fun a w h => ?_)
      · refine g_no h rfl rfl rfl rfl hB2 rfl (by decide) (fun a h => ?_)
        refine g_no h rfl rfl rfl rfl hB2 rfl (by decide) (fun a h => ?_)
        refine s_x h rfl rfl (by decide) (x_pick (u' := undef) h.k rfl rfl (fun _ => rfl) (fun hh => absurd (hB2.symm.trans hh) (by decide))) (fun a h => ?_)
        exact (h.mid 2 rfl).val (by first | rfl | (rw [hB2]; first | rfl | simp))
      · refine g_yes h rfl rfl rfl rfl hB2 ?_
        refine s_move h rfl _ rfl rfl (by decide) rfl (fun a h => ?_)
        refine g_yes h rfl rfl rfl rfl hB2 ?_
        refine s_x h rfl rfl (by decide) (x_bin h.k rfl rfl rfl ib_eql) (fun a h => ?_)
        refine s_x h rfl rfl (by decide) (x_pick (u' := undef) h.k rfl rfl (fun hh => absurd (hB2.symm.trans hh) (by decide)) (fun _ => rfl)) (fun a h => ?_)
        exact (h.mid 2 rfl).val (by first | rfl | (rw [hB2]; first | rfl | simp))
      refine s_move h rfl _ rfl rfl (by decide) rfl (fun a h => ?_)
      refine q_grp h 3 (t := 36) 39 (((decide (a0.1 = 1)) || (decide (a0.1 = 5))) || (decide (a0.1 = 6))) rfl (fun hB6 => ?_) (fun hB6 => ?_) (fun a w h => ?_)
      · refine g_no h rfl rfl rfl rfl hB6 rfl (by decide) (fun a h => ?_)
        refine g_no h rfl rfl rfl rfl hB6 rfl (by decide) (fun a h => ?_)
        refine s_x h rfl rfl (by decide) (x_pick (u' := undef) h.k rfl rfl (fun _ => rfl) (fun hh => absurd (hB6.symm.trans hh) (by decide))) (fun a h => ?_)
        exact (h.mid 2 rfl).val (by first | rfl | (rw [hB6]; first | rfl | simp))
      · refine g_yes h rfl rfl rfl rfl hB6 ?_
        refine s_move h rfl _ rfl rfl (by decide) rfl (fun a h => ?_)
        refine g_yes h rfl rfl rfl rfl hB6 ?_
        refine s_x h rfl rfl (by decide) (x_bin h.k rfl rfl rfl ib_eql) (fun a h => ?_)
        refine s_x h rfl rfl (by decide) (x_pick (u' := undef) h.k rfl rfl (fun hh => absurd (hB6.symm.trans hh) (by decide)) (fun _ => rfl)) (fun a h => ?_)
        exact (h.mid 2 rfl).val (by first | rfl | (rw [hB6]; first | rfl | simp))
      refine l_end ?_
      refine c_cond h rfl (fun hb => ?_) (fun hb => ?_)
      · rw [if_pos hb] at hc43
        refine c_rs ?_ -- region 5
        refine s_x h rfl rfl (by decide) (x_faddr h.k rfl Try.underlying24 rfl sz_int rfl) (fun a h => ?_)
        refine s_x h rfl rfl (by decide) (x_ld h.k rfl Try.underlying3 rfl rfl ((h.m.cell (i := 0) rfl 2).trans rfl)) (fun a h => ?_)
        refine s_x h rfl rfl (by decide) (x_bin h.k rfl rfl rfl ib_neq) (fun a h => ?_)
        refine l_end ?_
        refine c_cond h rfl (fun hb => ?_) (fun hb => ?_)
        · rw [if_pos (of_decide_eq_true hb)] at hc43
          refine c_rs ?_ -- region 6
          refine s_assign h rfl _ rfl rfl (by decide) rfl (fun a h => ?_)
          refine l_end ?_
          refine wp_ret ?_
          refine e_thenR ?_
          cases hc43
          try dsimp only at hf
          rw [← Option.some.inj hf]
          exact r_ret1 h rfl (rv_tmp h rfl) ⟨_, [], _, rfl, ⟨rfl, rfl, trivial⟩, rfl, (Up.refl _ _ _), (h.m.pick [1] _ (by decide) rfl)⟩
        · rw [if_neg (of_decide_eq_false hb)] at hc43
          refine wp_skip ?_
          refine e_thenN ?_
          exact ⟨(Option.some.inj hc43), h.has (by exact ⟨rfl, rfl, rfl, trivial⟩)⟩
      · rw [if_neg (by rw [hb]; decide)] at hc43
        refine c_rs ?_ -- region 7
        refine s_x h rfl rfl (by decide) (x_faddr h.k rfl Try.underlying24 rfl sz_int rfl) (fun a h => ?_)
        refine s_x h rfl rfl (by decide) (x_ld h.k rfl Try.underlying3 rfl rfl ((h.m.cell (i := 0) rfl 2).trans rfl)) (fun a h => ?_)
        obtain ⟨x48, h49, hc43⟩ := bsome hc43
        have hX := chatelaineref29_from_ok Fu (S0 := snapAll _) a0.2.2.1 hr9 1 (show r64 1 from ⟨by decide, by decide⟩) 64 (show r64 64 from ⟨by decide, by decide⟩) _ h49 _ h.startAll
        refine q_callX hX h rfl rfl rfl (by decide) Try.func69 rfl rfl rfl (fun a w v L1 S1 hR hb1 h => ?_)
        obtain ⟨rfl, rfl, _⟩ := hR
        refine s_x h rfl rfl (by decide) (x_not h.k rfl rfl) (fun a h => ?_)
        refine l_end ?_
        refine c_cond h rfl (fun hb => ?_) (fun hb => ?_)
        · rw [if_pos hb] at hc43
          refine c_rs ?_ -- region 8
          refine s_assign h rfl _ rfl rfl (by decide) rfl (fun a h => ?_)
          refine l_end ?_
          refine wp_ret ?_
          refine e_thenR ?_
          cases hc43
          try dsimp only at hf
          rw [← Option.some.inj hf]
          exact r_ret1 h rfl (rv_tmp h rfl) ⟨_, [], _, rfl, ⟨rfl, rfl, trivial⟩, rfl, (Up.refl _ _ _), (h.m.pick [1] _ (by decide) rfl)⟩
        · rw [if_neg (by rw [hb]; decide)] at hc43
          refine wp_skip ?_
          refine e_thenN ?_
          exact ⟨(Option.some.inj hc43), h.has (by exact ⟨rfl, rfl, rfl, trivial⟩)⟩
    · rintro a w ⟨rfl, h⟩
      try dsimp only at hf
      refine wp_seq ?_
      refine c_rs ?_ -- region 9
      refine s_move h rfl _ rfl rfl (by decide) rfl (fun a h => ?_)
      refine s_x h rfl rfl (by decide) (x_bin h.k rfl rfl rfl ib_eql) (fun a h => ?_)
      refine s_move h rfl _ rfl rfl (by decide) rfl (fun a h => ?_)
      refine q_grp h 3 (t := 49) 52 ((decide (a0.1 = 2)) || (decide (a0.1 = 3))) rfl (fun hB2 => ?_) (fun hB2 => ?_) (fun a w h => ?_)
      · refine g_no h rfl rfl rfl rfl hB2 rfl (by decide) (fun a h => ?_)
        refine g_no h rfl rfl rfl rfl hB2 rfl (by decide) (fun a h => ?_)
        refine s_x h rfl rfl (by decide) (x_pick (u' := undef) h.k rfl rfl (fun _ => rfl) (fun hh => absurd (hB2.symm.trans hh) (by decide))) (fun a h => ?_)
        exact (h.mid 2 rfl).val (by first | rfl | (rw [hB2]; first | rfl | simp))
      · refine g_yes h rfl rfl rfl rfl hB2 ?_
        refine s_move h rfl _ rfl rfl (by decide) rfl (fun a h => ?_)
        refine g_yes h rfl rfl rfl rfl hB2 ?_
        refine s_x h rfl rfl (by decide) (x_bin h.k rfl rfl rfl ib_eql) (fun a h => ?_)
        refine s_x h rfl rfl (by decide) (x_pick (u' := undef) h.k rfl rfl (fun hh => absurd (hB2.symm.trans hh) (by decide)) (fun _ => rfl)) (fun a h => ?_)
        exact (h.mid 2 rfl).val (by first | rfl | (rw [hB2]; first | rfl | simp))
      refine s_move h rfl _ rfl rfl (by decide) rfl (fun a h => ?_)
      refine q_grp h 4 (t := 53) 57 (((decide (a0.1 = 2)) || (decide (a0.1 = 3))) && (decide (a0.2.2.2.1 = 0))) rfl (fun hB6 => ?_) (fun hB6 => ?_) (fun a w h => ?_)
      · refine g_yes h rfl rfl rfl rfl hB6 ?_
        refine s_x h rfl rfl (by decide) (x_faddr h.k rfl Try.underlying24 rfl sz_int rfl) (fun a h => ?_)
        refine g_yes h rfl rfl rfl rfl hB6 ?_
        refine s_x h rfl rfl (by decide) (x_ld h.k rfl Try.underlying3 rfl rfl ((h.m.cell (i := 0) rfl 3).trans rfl)) (fun a h => ?_)
        refine g_yes h rfl rfl rfl rfl hB6 ?_
        refine s_x h rfl rfl (by decide) (x_bin h.k rfl rfl rfl ib_eql) (fun a h => ?_)
        refine s_x h rfl rfl (by decide) (x_pick (u' := undef) h.k rfl rfl (fun _ => rfl) (fun hh => absurd (hB6.symm.trans hh) (by decide))) (fun a h => ?_)
        exact (h.mid 3 rfl).val (by first | rfl | (rw [hB6]; first | rfl | simp))
      · refine g_no h rfl rfl rfl rfl hB6 rfl (by decide) (fun a h => ?_)
        refine g_no h rfl rfl rfl rfl hB6 rfl (by decide) (fun a h => ?_)
        refine g_no h rfl rfl rfl rfl hB6 rfl (by decide) (fun a h => ?_)
        refine s_x h rfl rfl (by decide) (x_pick (u' := undef) h.k rfl rfl (fun hh => absurd (hB6.symm.trans hh) (by decide)) (fun _ => rfl)) (fun a h => ?_)
        exact (h.mid 3 rfl).val (by first | rfl | (rw [hB6]; first | rfl | simp))
      refine s_move h rfl _ rfl rfl (by decide) rfl (fun a h => ?_)
      refine q_grp h 16 (t := 58) 74 ((((decide (a0.1 = 2)) || (decide (a0.1 = 3))) && (decide (a0.2.2.2.1 = 0))) || ((((decide (a0.1 = 4)) || (decide (a0.1 = 5))) || (decide (a0.1 = 6))) && (decide (a0.2.2.2.1 ≠ 0)))) rfl (fun hB11 => ?_) (fun hB11 => ?_) (fun a w h => ?_)
      · refine g_no h rfl rfl rfl rfl hB11 rfl (by decide) (fun a h => ?_)
        refine g_no h rfl rfl rfl rfl hB11 rfl (by decide) (fun a h => ?_)
        refine g_no h rfl rfl rfl rfl hB11 rfl (by decide) (fun a h => ?_)
        refine g_off h rfl rfl rfl rfl rfl (by decide) (fun a h => ?_)
        refine g_off h rfl rfl rfl rfl rfl (by decide) (fun a h => ?_)
        refine g_no h rfl rfl rfl rfl hB11 rfl (by decide) (fun a h => ?_)
        refine g_no h rfl rfl rfl rfl hB11 rfl (by decide) (fun a h => ?_)
        refine g_off h rfl rfl rfl rfl rfl (by decide) (fun a h => ?_)
        refine g_off h rfl rfl rfl rfl rfl (by decide) (fun a h => ?_)
        refine g_no h rfl rfl rfl rfl hB11 rfl (by decide) (fun a h => ?_)
        refine g_no h rfl rfl rfl rfl hB11 rfl (by decide) (fun a h => ?_)
        refine g_off h rfl rfl rfl rfl rfl (by decide) (fun a h => ?_)
        refine g_off h rfl rfl rfl rfl rfl (by decide) (fun a h => ?_)
        refine g_off h rfl rfl rfl rfl rfl (by decide) (fun a h => ?_)
        refine g_no h rfl rfl rfl rfl hB11 rfl (by decide) (fun a h => ?_)
        refine s_x h rfl rfl (by decide) (x_pick (u' := undef) h.k rfl rfl (fun _ => rfl) (fun hh => absurd (hB11.symm.trans hh) (by decide))) (fun a h => ?_)
        exact (h.mid 15 rfl).val (by first | rfl | (rw [hB11]; first | rfl | simp))
      · refine g_yes h rfl rfl rfl rfl hB11 ?_
        refine s_move h rfl _ rfl rfl (by decide) rfl (fun a h => ?_)
        refine g_yes h rfl rfl rfl rfl hB11 ?_
        refine s_x h rfl rfl (by decide) (x_bin h.k rfl rfl rfl ib_eql) (fun a h => ?_)
        refine g_yes h rfl rfl rfl rfl hB11 ?_
        refine s_move h rfl _ rfl rfl (by decide) rfl (fun a h => ?_)
        refine q_grp h 3 (t := 61) 64 ((decide (a0.1 = 4)) || (decide (a0.1 = 5))) rfl (fun hB14 => ?_) (fun hB14 => ?_) (fun a w h => ?_)
        · refine g_no h rfl rfl rfl rfl hB14 rfl (by decide) (fun a h => ?_)
          refine g_no h rfl rfl rfl rfl hB14 rfl (by decide) (fun a h => ?_)
          refine g_yes h rfl rfl rfl rfl hB11 ?_
          refine s_x h rfl rfl (by decide) (x_pick (u' := undef) h.k rfl rfl (fun _ => rfl) (fun hh => absurd (hB14.symm.trans hh) (by decide))) (fun a h => ?_)
          exact (h.mid 2 rfl).val (by first | rfl | (rw [hB14]; first | rfl | simp))
        · refine g_yes h rfl rfl rfl rfl hB14 ?_
          refine s_move h rfl _ rfl rfl (by decide) rfl (fun a h => ?_)
          refine g_yes h rfl rfl rfl rfl hB14 ?_
          refine s_x h rfl rfl (by decide) (x_bin h.k rfl rfl rfl ib_eql) (fun a h => ?_)
          refine g_yes h rfl rfl rfl rfl hB11 ?_
          refine s_x h rfl rfl (by decide) (x_pick (u' := undef) h.k rfl rfl (fun hh => absurd (hB14.symm.trans hh) (by decide)) (fun _ => rfl)) (fun a h => ?_)
          exact (h.mid 2 rfl).val (by first | rfl | (rw [hB14]; first | rfl | simp))
        refine g_yes h rfl rfl rfl rfl hB11 ?_
        refine s_move h rfl _ rfl rfl (by decide) rfl (fun a h => ?_)
        refine q_grp h 3 (t := 65) 68 (((decide (a0.1 = 4)) || (decide (a0.1 = 5))) || (decide (a0.1 = 6))) rfl (fun hB18 => ?_) (fun hB18 => ?_) (fun a w h => ?_)
        · refine g_no h rfl rfl rfl rfl hB18 rfl (by decide) (fun a h => ?_)
          refine g_no h rfl rfl rfl rfl hB18 rfl (by decide) (fun a h => ?_)
          refine g_yes h rfl rfl rfl rfl hB11 ?_
          refine s_x h rfl rfl (by decide) (x_pick (u' := undef) h.k rfl rfl (fun _ => rfl) (fun hh => absurd (hB18.symm.trans hh) (by decide))) (fun a h => ?_)
          exact (h.mid 2 rfl).val (by first | rfl | (rw [hB18]; first | rfl | simp))
        · refine g_yes h rfl rfl rfl rfl hB18 ?_
          refine s_move h rfl _ rfl rfl (by decide) rfl (fun a h => ?_)
          refine g_yes h rfl rfl rfl rfl hB18 ?_
          refine s_x h rfl rfl (by decide) (x_bin h.k rfl rfl rfl ib_eql) (fun a h => ?_)
          refine g_yes h rfl rfl rfl rfl hB11 ?_
          refine s_x h rfl rfl (by decide) (x_pick (u' := undef) h.k rfl rfl (fun hh => absurd (hB18.symm.trans hh) (by decide)) (fun _ => rfl)) (fun a h => ?_)
          exact (h.mid 2 rfl).val (by first | rfl | (rw [hB18]; first | rfl | simp))
        refine g_yes h rfl rfl rfl rfl hB11 ?_
        refine s_move h rfl _ rfl rfl (by decide) rfl (fun a h => ?_)
        refine q_grp h 4 (t := 69) 73 ((((decide (a0.1 = 4)) || (decide (a0.1 = 5))) || (decide (a0.1 = 6))) && (decide (a0.2.2.2.1 ≠ 0))) rfl (fun hB22 => ?_) (fun hB22 => ?_) (fun a w h => ?_)
        · refine g_yes h rfl rfl rfl rfl hB22 ?_
          refine s_x h rfl rfl (by decide) (x_faddr h.k rfl Try.underlying24 rfl sz_int rfl) (fun a h => ?_)
          refine g_yes h rfl rfl rfl rfl hB22 ?_
          refine s_x h rfl rfl (by decide) (x_ld h.k rfl Try.underlying3 rfl rfl ((h.m.cell (i := 0) rfl 3).trans rfl)) (fun a h => ?_)
          refine g_yes h rfl rfl rfl rfl hB22 ?_
          refine s_x h rfl rfl (by decide) (x_bin h.k rfl rfl rfl ib_neq) (fun a h => ?_)
          refine g_yes h rfl rfl rfl rfl hB11 ?_
          refine s_x h rfl rfl (by decide) (x_pick (u' := undef) h.k rfl rfl (fun _ => rfl) (fun hh => absurd (hB22.symm.trans hh) (by decide))) (fun a h => ?_)
          exact (h.mid 3 rfl).val (by first | rfl | (rw [hB22]; first | rfl | simp))
        · refine g_no h rfl rfl rfl rfl hB22 rfl (by decide) (fun a h => ?_)
          refine g_no h rfl rfl rfl rfl hB22 rfl (by decide) (fun a h => ?_)
          refine g_no h rfl rfl rfl rfl hB22 rfl (by decide) (fun a h => ?_)
          refine g_yes h rfl rfl rfl rfl hB11 ?_
          refine s_x h rfl rfl (by decide) (x_pick (u' := undef) h.k rfl rfl (fun hh => absurd (hB22.symm.trans hh) (by decide)) (fun _ => rfl)) (fun a h => ?_)
          exact (h.mid 3 rfl).val (by first | rfl | (rw [hB22]; first | rfl | simp))
        refine s_x h rfl rfl (by decide) (x_pick (u' := undef) h.k rfl rfl (fun hh => absurd (hB11.symm.trans hh) (by decide)) (fun _ => rfl)) (fun a h => ?_)
        exact (h.mid 8 rfl).val (by first | rfl | (rw [hB11]; first | rfl | simp))
      refine l_end ?_
      refine c_cond h rfl (fun hb => ?_) (fun hb => ?_)
      · rw [if_pos hb] at hf
        refine c_rs ?_ -- region 10
        refine s_assign h rfl _ rfl rfl (by decide) rfl (fun a h => ?_)
        refine l_end ?_
        refine wp_ret ?_
        refine e_thenR ?_
        rw [← Option.some.inj hf]
        exact r_ret1 h rfl (rv_tmp h rfl) ⟨_, [], _, rfl, ⟨rfl, rfl, trivial⟩, rfl, (Up.refl _ _ _), (h.m.pick [1] _ (by decide) rfl)⟩
      · rw [if_neg (by rw [hb]; decide)] at hf
        refine wp_skip ?_
        refine e_thenN ?_
        obtain ⟨o63, hc64, hf⟩ := bsome hf
        refine c_cut (fun a w => (.inr ()) = o63 ∧ St 110 w0 (ownL ([] ++ [.sn S0])) [(1, .int .i64 a1), (2, .pointer (some ⟨g24, 0, none⟩)), (5, .int .i64 a0.1)] [.box g24 24 ([.int .i64 a0.1, .int .i64 a0.2.1, .int .i64 a0.2.2.1, .int .i64 a0.2.2.2.1, .int .i64 a0.2.2.2.2.1, .slice A18 a0.2.2.2.2.2.1.length c19, .slice A21 a0.2.2.2.2.2.2.length c22]), .sn S0] a w) ?_ ?_
        · refine c_rs ?_ -- region 11
          refine s_move h rfl _ rfl rfl (by decide) rfl (fun a h => ?_)
          refine s_x h rfl rfl (by decide) (x_bin h.k rfl rfl rfl ib_eql) (fun a h => ?_)
          refine s_move h rfl _ rfl rfl (by decide) rfl (fun a h => ?_)
          refine q_grp h 3 (t := 77) 80 ((decide (a0.1 = 9)) || (decide (a0.1 = 10))) rfl (fun hB2 => ?_) (fun hB2 => ?_) (fun a w h => ?_)
          · refine g_no h rfl rfl rfl rfl hB2 rfl (by decide) (fun a h => ?_)
            refine g_no h rfl rfl rfl rfl hB2 rfl (by decide) (fun a h => ?_)
            refine s_x h rfl rfl (by decide) (x_pick (u' := undef) h.k rfl rfl (fun _ => rfl) (fun hh => absurd (hB2.symm.trans hh) (by decide))) (fun a h => ?_)
            exact (h.mid 2 rfl).val (by first | rfl | (rw [hB2]; first | rfl | simp))
          · refine g_yes h rfl rfl rfl rfl hB2 ?_
            refine s_move h rfl _ rfl rfl (by decide) rfl (fun a h => ?_)
            refine g_yes h rfl rfl rfl rfl hB2 ?_
            refine s_x h rfl rfl (by decide) (x_bin h.k rfl rfl rfl ib_eql) (fun a h => ?_)
            refine s_x h rfl rfl (by decide) (x_pick (u' := undef) h.k rfl rfl (fun hh => absurd (hB2.symm.trans hh) (by decide)) (fun _ => rfl)) (fun a h => ?_)
            exact (h.mid 2 rfl).val (by first | rfl | (rw [hB2]; first | rfl | simp))
          refine l_end ?_
          refine c_cond h rfl (fun hb => ?_) (fun hb => ?_)
          · rw [if_pos hb] at hc64
            refine c_rs ?_ -- region 12
            refine s_x h rfl rfl (by decide) (x_faddr h.k rfl Try.underlying24 rfl sz_int rfl) (fun a h => ?_)
            refine s_x h rfl rfl (by decide) (x_ld h.k rfl Try.underlying3 rfl rfl ((h.m.cell (i := 0) rfl 4).trans rfl)) (fun a h => ?_)
            obtain ⟨x67, h68, hc64⟩ := bsome hc64
            have hX := chatelaineref29_from_ok Fu (S0 := snapAll _) a0.2.2.2.2.1 hr15 1 (show r64 1 from ⟨by decide, by decide⟩) 4096 (show r64 4096 from ⟨by decide, by decide⟩) _ h68 _ h.startAll
            refine q_callX hX h rfl rfl rfl (by decide) Try.func69 rfl rfl rfl (fun a w v L1 S1 hR hb1 h => ?_)
            obtain ⟨rfl, rfl, _⟩ := hR
            refine s_x h rfl rfl (by decide) (x_not h.k rfl rfl) (fun a h => ?_)
            refine l_end ?_
            refine c_cond h rfl (fun hb => ?_) (fun hb => ?_)
            · rw [if_pos hb] at hc64
              refine c_rs ?_ -- region 13
              refine s_assign h rfl _ rfl rfl (by decide) rfl (fun a h => ?_)
              refine l_end ?_
              refine wp_ret ?_
              refine e_thenR ?_
              cases hc64
              try dsimp only at hf
              rw [← Option.some.inj hf]
              exact r_ret1 h rfl (rv_tmp h rfl) ⟨_, [], _, rfl, ⟨rfl, rfl, trivial⟩, rfl, (Up.refl _ _ _), (h.m.pick [1] _ (by decide) rfl)⟩
            · rw [if_neg (by rw [hb]; decide)] at hc64
              refine wp_skip ?_
              refine e_thenN ?_
              exact ⟨(Option.some.inj hc64), h.has (by exact ⟨rfl, rfl, rfl, trivial⟩)⟩
          · rw [if_neg (by rw [hb]; decide)] at hc64
            refine c_rs ?_ -- region 14
            refine s_x h rfl rfl (by decide) (x_faddr h.k rfl Try.underlying24 rfl sz_int rfl) (fun a h => ?_)
            refine s_x h rfl rfl (by decide) (x_ld h.k rfl Try.underlying3 rfl rfl ((h.m.cell (i := 0) rfl 4).trans rfl)) (fun a h => ?_)
            refine s_x h rfl rfl (by decide) (x_bin h.k rfl rfl rfl ib_neq) (fun a h => ?_)
            refine l_end ?_
            refine c_cond h rfl (fun hb => ?_) (fun hb => ?_)
            · rw [if_pos (of_decide_eq_true hb)] at hc64
              refine c_rs ?_ -- region 15
              refine s_assign h rfl _ rfl rfl (by decide) rfl (fun a h => ?_)
              refine l_end ?_
              refine wp_ret ?_
              refine e_thenR ?_
              cases hc64
              try dsimp only at hf
              rw [← Option.some.inj hf]
              exact r_ret1 h rfl (rv_tmp h rfl) ⟨_, [], _, rfl, ⟨rfl, rfl, trivial⟩, rfl, (Up.refl _ _ _), (h.m.pick [1] _ (by decide) rfl)⟩
            · rw [if_neg (of_decide_eq_false hb)] at hc64
              refine wp_skip ?_
              refine e_thenN ?_
              exact ⟨(Option.some.inj hc64), h.has (by exact ⟨rfl, rfl, rfl, trivial⟩)⟩
        · rintro a w ⟨rfl, h⟩
          try dsimp only at hf
          refine c_rs ?_ -- region 16
          refine s_x h rfl rfl (by decide) (x_faddr h.k rfl Try.underlying24 rfl sz_Suint8 rfl) (fun a h => ?_)
          refine s_x h rfl rfl (by decide) (x_ld h.k rfl Try.underlying22 rfl rfl ((h.m.cell (i := 0) rfl 6).trans rfl)) (fun a h => ?_)
          refine s_x h rfl rfl (by decide) (x_len h.k rfl Try.underlying22 rfl) (fun a h => ?_)
          refine s_assign h rfl _ rfl rfl (by decide) rfl (fun a h => ?_)
          refine l_end ?_
          refine wp_seq ?_
          refine c_rs ?_ -- region 17
          refine s_move h rfl _ rfl rfl (by decide) rfl (fun a h => ?_)
          refine s_x h rfl rfl (by decide) (x_bin h.k rfl rfl rfl ib_eql) (fun a h => ?_)
          refine s_move h rfl _ rfl rfl (by decide) rfl (fun a h => ?_)
          refine q_grp h 3 (t := 93) 96 ((decide (a0.1 = 1)) || (decide (a0.1 = 5))) rfl (fun hB2 => ?_) (fun hB2 => ?_) (fun a w h => ?_)
          · refine g_no h rfl rfl rfl rfl hB2 rfl (by decide) (fun a h => ?_)
            refine g_no h rfl rfl rfl rfl hB2 rfl (by decide) (fun a h => ?_)
            refine s_x h rfl rfl (by decide) (x_pick (u' := undef) h.k rfl rfl (fun _ => rfl) (fun hh => absurd (hB2.symm.trans hh) (by decide))) (fun a h => ?_)
            exact (h.mid 2 rfl).val (by first | rfl | (rw [hB2]; first | rfl | simp))
          · refine g_yes h rfl rfl rfl rfl hB2 ?_
            refine s_move h rfl _ rfl rfl (by decide) rfl (fun a h => ?_)
            refine g_yes h rfl rfl rfl rfl hB2 ?_
            refine s_x h rfl rfl (by decide) (x_bin h.k rfl rfl rfl ib_eql) (fun a h => ?_)
            refine s_x h rfl rfl (by decide) (x_pick (u' := undef) h.k rfl rfl (fun hh => absurd (hB2.symm.trans hh) (by decide)) (fun _ => rfl)) (fun a h => ?_)
            exact (h.mid 2 rfl).val (by first | rfl | (rw [hB2]; first | rfl | simp))
          refine l_end ?_
          refine c_cond h rfl (fun hb => ?_) (fun hb => ?_)
          · rw [if_pos hb] at hf
            refine c_rs ?_ -- region 18
            refine s_move h rfl _ rfl rfl (by decide) rfl (fun a h => ?_)
            refine s_x h rfl rfl (by decide) (x_bin h.k rfl rfl rfl ib_geq) (fun a h => ?_)
            refine s_move h rfl _ rfl rfl (by decide) rfl (fun a h => ?_)
            refine q_grp h 3 (t := 99) 102 ((decide (8 ≤ (a0.2.2.2.2.2.2.length : Int))) && (decide ((a0.2.2.2.2.2.2.length : Int) ≤ 64))) rfl (fun hB2 => ?_) (fun hB2 => ?_) (fun a w h => ?_)
            · refine g_yes h rfl rfl rfl rfl hB2 ?_
              refine s_move h rfl _ rfl rfl (by decide) rfl (fun a h => ?_)
              refine g_yes h rfl rfl rfl rfl hB2 ?_
              refine s_x h rfl rfl (by decide) (x_bin h.k rfl rfl rfl ib_leq) (fun a h => ?_)
              refine s_x h rfl rfl (by decide) (x_pick (u' := undef) h.k rfl rfl (fun _ => rfl) (fun hh => absurd (hB2.symm.trans hh) (by decide))) (fun a h => ?_)
              exact (h.mid 2 rfl).val (by first | rfl | (rw [hB2]; first | rfl | simp))
            · refine g_no h rfl rfl rfl rfl hB2 rfl (by decide) (fun a h => ?_)
              refine g_no h rfl rfl rfl rfl hB2 rfl (by decide) (fun a h => ?_)
              refine s_x h rfl rfl (by decide) (x_pick (u' := undef) h.k rfl rfl (fun hh => absurd (hB2.symm.trans hh) (by decide)) (fun _ => rfl)) (fun a h => ?_)
              exact (h.mid 2 rfl).val (by first | rfl | (rw [hB2]; first | rfl | simp))
            refine s_assign h rfl _ rfl rfl (by decide) rfl (fun a h => ?_)
            refine l_end ?_
            refine wp_ret ?_
            refine e_thenR ?_
            obtain rfl := Option.some.inj hf
            exact r_ret1 h rfl (rv_tmp h rfl) ⟨_, [], _, rfl, ⟨rfl, rfl, trivial⟩, rfl, (Up.refl _ _ _), (h.m.pick [1] _ (by decide) rfl)⟩
          · rw [if_neg (by rw [hb]; decide)] at hf
            refine wp_skip ?_
            refine e_thenN ?_
            refine wp_seq ?_
            refine c_rs ?_ -- region 19
            refine s_move h rfl _ rfl rfl (by decide) rfl (fun a h => ?_)
            refine s_x h rfl rfl (by decide) (x_bin h.k rfl rfl rfl ib_eql) (fun a h => ?_)
            refine l_end ?_
            refine c_cond h rfl (fun hb => ?_) (fun hb => ?_)
            · rw [if_pos (of_decide_eq_true hb)] at hf
              refine c_rs ?_ -- region 20
              refine s_move h rfl _ rfl rfl (by decide) rfl (fun a h => ?_)
              refine s_move h rfl _ rfl rfl (by decide) rfl (fun a h => ?_)
              refine s_x h rfl rfl (by decide) (x_bin h.k rfl rfl rfl ib_eql) (fun a h => ?_)
              refine s_assign h rfl _ rfl rfl (by decide) rfl (fun a h => ?_)
              refine l_end ?_
              refine wp_ret ?_
              refine e_thenR ?_
              obtain rfl := Option.some.inj hf
              exact r_ret1 h rfl (rv_tmp h rfl) ⟨_, [], _, rfl, ⟨rfl, rfl, trivial⟩, rfl, (Up.refl _ _ _), (h.m.pick [1] _ (by decide) rfl)⟩
            · rw [if_neg (of_decide_eq_false hb)] at hf
              refine wp_skip ?_
              refine e_thenN ?_
              refine c_rs ?_ -- region 21
              refine s_move h rfl _ rfl rfl (by decide) rfl (fun a h => ?_)
              refine s_x h rfl rfl (by decide) (x_bin h.k rfl rfl rfl ib_eql) (fun a h => ?_)
              refine s_assign h rfl _ rfl rfl (by decide) rfl (fun a h => ?_)
              refine l_end ?_
              refine wp_ret ?_
              obtain rfl := Option.some.inj hf
              exact r_ret1 h rfl (rv_tmp h rfl) ⟨_, [], _, rfl, ⟨rfl, rfl, trivial⟩, rfl, (Up.refl _ _ _), (h.m.pick [1] _ (by decide) rfl)⟩
def chatelaineref12_Writer_Out_own0 (Fu : Nat) (a0 : (List UInt8) × Int) : Option ((List UInt8) × Int) :=
  if a0.2 ≠ 0 then (some ([], a0.2)) else (some (a0.1, 0))
set_option maxRecDepth 100000 in
set_option maxHeartbeats 2000000 in
theorem chatelaineref12_Writer_Out_own0_ok (Fu : Nat) {S0 : Snap} (a0 : (List UInt8) × Int) (g1 : Nat) (A2 : Option Addr) (c3 : Nat) (cs4 : List Value) (hq5 : reps ty8 S0 cs4 a0.1) (hr6 : r64 a0.2) (r : (List UInt8) × Int) (hf : chatelaineref12_Writer_Out_own0 Fu a0 = some r) (w0 : World) (hm : Mem w0 (ownL ([.box g1 122 ([.slice A2 a0.1.length c3, .int .i64 a0.2]), .row (.slice A2 a0.1.length c3) 5 1 a0.1.length cs4] ++ [.sn S0])) ([.box g1 122 ([.slice A2 a0.1.length c3, .int .i64 a0.2]), .row (.slice A2 a0.1.length c3) 5 1 a0.1.length cs4] ++ [.sn S0]) w0) :
    Calls Try.prog 73 #[.pointer (some ⟨g1, 0, none⟩)] w0 (Ret w0 S0 [.box g1 122 ([.slice A2 a0.1.length c3, .int .i64 a0.2]), .row (.slice A2 a0.1.length c3) 5 1 a0.1.length cs4] (fun v L1 S1 => ∃ (A8 : Option Addr), ∃ (c9 : Nat), ∃ (cs10 : List Value), v = .tuple #[.slice A8 r.1.length c9, .int .i64 r.2] ∧ L1 = [.row (.slice A8 r.1.length c9) 5 1 r.1.length cs10] ∧ reps ty8 S1 cs10 r.1 ∧ r64 r.2 ∧ True)) := by
  unfold chatelaineref12_Writer_Out_own0 at hf
  obtain ⟨B0, hB0⟩ : ∃ B0, B0 = (ownL ([.box g1 122 ([.slice A2 a0.1.length c3, .int .i64 a0.2]), .row (.slice A2 a0.1.length c3) 5 1 a0.1.length cs4] ++ [.sn S0])) := ⟨_, rfl⟩
  rw [← hB0] at hm
  refine c_enterM Try.func73 rfl 17 rfl (by simp) _ hm _ rfl (fun a h => ?_)
  refine c_rs ?_ -- region 0
  refine s_assign h rfl _ rfl rfl (by decide) rfl (fun a h => ?_)
  refine s_assign h rfl _ rfl rfl (by decide) rfl (fun a h => ?_)
  refine l_end ?_
  refine wp_seq ?_
  refine c_rs ?_ -- region 1
  refine s_move h rfl _ rfl rfl (by decide) rfl (fun a h => ?_)
  refine s_x h rfl rfl (by decide) (x_nil h.k rfl rfl) (fun a h => ?_)
  refine s_x h rfl rfl (by decide) (x_faddr h.k rfl Try.underlying122 rfl sz_int rfl) (fun a h => ?_)
  refine s_x h rfl rfl (by decide) (x_ld h.k rfl Try.underlying3 rfl rfl ((h.m.cell (i := 0) rfl 1).trans rfl)) (fun a h => ?_)
  refine s_x h rfl rfl (by decide) (x_bin h.k rfl rfl rfl ib_neq) (fun a h => ?_)
  refine l_end ?_
  refine c_cond h rfl (fun hb => ?_) (fun hb => ?_)
  · rw [if_pos (of_decide_eq_true hb)] at hf
    refine wp_seq ?_
    -- region 2 draws
    refine d_start h (Mem _ _ _) 6 6 rfl (by kernel_rfl) (fun _ _ _ _ _ h => h) (fun _ h => h) (fun Q a w HE HN h HS => ?_)
    refine d_takeP h (fun _ => HS) HN 0 rfl (by kernel_rfl) (by kernel_rfl) (by kernel_rfl) (by decide) rfl rfl (by decide) (fun w' => x_move h.k _ rfl rfl) (fun a h => ?_)
    refine d_takeP h (fun _ => HS) HN 1 rfl (by kernel_rfl) (by kernel_rfl) (by kernel_rfl) (by decide) rfl rfl (by decide) (fun w' => x_nil h.k rfl rfl) (fun a h => ?_)
    refine d_takeP h (fun _ => HS) HN 2 rfl (by kernel_rfl) (by kernel_rfl) (by kernel_rfl) (by decide) rfl rfl (by decide) (fun w' => x_faddr h.k rfl Try.underlying122 rfl sz_int rfl) (fun a h => ?_)
    refine d_take h HS HN 3 rfl (by kernel_rfl) (by kernel_rfl) (by kernel_rfl) (by kernel_rfl) (by kernel_rfl) rfl rfl (by decide) (fun w' hw => x_ld h.k rfl Try.underlying3 rfl rfl ((hw.cell (i := 0) rfl 1).trans rfl)) (fun a h => ?_)
    refine d_takeP h (fun _ => HS) HN 4 rfl (by kernel_rfl) (by kernel_rfl) (by kernel_rfl) (by decide) rfl rfl (by decide) (fun w' => x_assign h.k _ rfl rfl) (fun a h => ?_)
    refine d_takeP h (fun _ => HS) HN 5 rfl (by kernel_rfl) (by kernel_rfl) (by kernel_rfl) (by decide) rfl rfl (by decide) (fun w' => x_assign h.k _ rfl rfl) (fun a h => ?_)
    refine d_done (by kernel_rfl) (HE _ _ ?_) _
    refine e_thenN ?_
    refine wp_ret ?_
    refine e_thenR ?_
    obtain rfl := Option.some.inj hf
    have h := h.mem (h.m.nilrow 5 1)
    subst hB0
    exact r_ret2 h rfl (rv_tmp h rfl) (rv_tmp h rfl) ⟨_, [.row (.slice none ([]).length 0) 5 1 ([]).length []], _, rfl, ⟨none, 0, [], rfl, rfl, (show reps ty8 S0 [] [] from rfl), hr6, trivial⟩, rfl, (Up.refl _ _ _), (h.m.pick [0, 3] _ (by decide) rfl)⟩
  · rw [if_neg (of_decide_eq_false hb)] at hf
    refine wp_skip ?_
    refine e_thenN ?_
    refine c_rs ?_ -- region 3
    refine s_move h rfl _ rfl rfl (by decide) rfl (fun a h => ?_)
    refine s_x h rfl rfl (by decide) (x_nil h.k rfl rfl) (fun a h => ?_)
    refine s_x h rfl rfl (by decide) (x_faddr h.k rfl Try.underlying122 rfl sz_Suint8 rfl) (fun a h => ?_)
    refine s_x h rfl rfl (by decide) (x_ld h.k rfl Try.underlying22 rfl rfl ((h.m.cell (i := 0) rfl 0).trans rfl)) (fun a h => ?_)
    refine s_assign h rfl _ rfl rfl (by decide) rfl (fun a h => ?_)
    refine s_assign h rfl _ rfl rfl (by decide) rfl (fun a h => ?_)
    refine l_end ?_
    refine wp_ret ?_
    obtain rfl := Option.some.inj hf
    subst hB0
    exact r_ret2 h rfl (rv_tmp h rfl) (rv_tmp h rfl) ⟨_, [.row (.slice A2 a0.1.length c3) 5 1 a0.1.length cs4], _, rfl, ⟨A2, c3, cs4, rfl, rfl, hq5, (show r64 0 from ⟨by decide, by decide⟩), trivial⟩, rfl, (Up.refl _ _ _), (h.m.pick [1, 2] _ (by decide) rfl)⟩
def chatelaineref29_Put (Fu : Nat) (a0 : Int × Int × Int × Int × Int × (List UInt8) × (List UInt8)) : Option ((List UInt8)) :=
  (chatelaineref12_Writer_Number Fu ([], 0) a0.1 1).bind fun x26 => (chatelaineref12_Writer_Number Fu x26 a0.2.1 1).bind fun x38 => (chatelaineref12_Writer_Number Fu x38 a0.2.2.1 1).bind fun x49 => (chatelaineref12_Writer_Number Fu x49 a0.2.2.2.1 4).bind fun x60 => (chatelaineref12_Writer_Number Fu x60 a0.2.2.2.2.1 4).bind fun x71 => (chatelaineref12_Writer_Bytes Fu x71 a0.2.2.2.2.2.1).bind fun x82 => (chatelaineref12_Writer_Bytes Fu x82 a0.2.2.2.2.2.2).bind fun x93 => (chatelaineref12_Writer_Out_own0 Fu x93).bind fun x104 => some x104.1
set_option maxRecDepth 100000 in
set_option maxHeartbeats 2000000 in
theorem chatelaineref29_Put_ok (Fu : Nat) {S0 : Snap} (csa0 : List Value) (a0 : Int × Int × Int × Int × Int × (List UInt8) × (List UInt8)) (hsa0 : (tyP tyI (tyP tyI (tyP tyI (tyP tyI (tyP tyI (tyP (tyL ty8) (tyL ty8))))))).rep S0 csa0 a0) (r : (List UInt8)) (hf : chatelaineref29_Put Fu a0 = some r) (w0 : World) (hm : Mem w0 (ownL ([] ++ [.sn S0])) ([] ++ [.sn S0]) w0) :
    Calls Try.prog 22 #[.agg csa0.toArray] w0 (Ret w0 S0 [] (fun v L1 S1 => ∃ (A115 : Option Addr), ∃ (c116 : Nat), ∃ (cs117 : List Value), v = .slice A115 r.length c116 ∧ L1 = [.row (.slice A115 r.length c116) 5 1 r.length cs117] ∧ reps ty8 S1 cs117 r ∧ True)) := by
  unfold chatelaineref29_Put at hf
  obtain ⟨k1, k2, rfl, ⟨rfl, hr3⟩, ⟨k4, k5, rfl, ⟨rfl, hr6⟩, ⟨k7, k8, rfl, ⟨rfl, hr9⟩, ⟨k10, k11, rfl, ⟨rfl, hr12⟩, ⟨k13, k14, rfl, ⟨rfl, hr15⟩, ⟨k16, k17, rfl, ⟨A18, c19, rfl, hs20⟩, ⟨A21, c22, rfl, hs23⟩⟩⟩⟩⟩⟩⟩ := hsa0
  refine c_enterM Try.func22 rfl 42 rfl (by simp) _ hm _ rfl (fun a h => ?_)
  refine c_rs ?_ -- region 0
  refine s_box h rfl rfl rfl (by decide) rfl (cs := [.int .i64 a0.1, .int .i64 a0.2.1, .int .i64 a0.2.2.1, .int .i64 a0.2.2.2.1, .int .i64 a0.2.2.2.2.1, .slice A18 a0.2.2.2.2.2.1.length c19, .slice A21 a0.2.2.2.2.2.2.length c22]) (by rfl) (fun a w g24 h => ?_)
  refine s_assign h rfl _ rfl rfl (by decide) rfl (fun a h => ?_)
  refine l_end ?_
  refine c_rs ?_ -- region 1
  refine s_x h rfl rfl (by decide) (x_build h.k rfl [] rfl ([.slice none 0 0, .int .i64 0]) (by kernel_rfl)) (fun a h => ?_)
  refine s_box h rfl rfl rfl (by decide) rfl (cs := [.slice none 0 0, .int .i64 0]) (by rfl) (fun a w g25 h => ?_)
  refine s_assign h rfl _ rfl rfl (by decide) rfl (fun a h => ?_)
  refine l_end ?_
  refine c_rs ?_ -- region 2
  refine s_move h rfl _ rfl rfl (by decide) rfl (fun a h => ?_)
  refine s_x h rfl rfl (by decide) (x_faddr h.k rfl Try.underlying24 rfl sz_int rfl) (fun a h => ?_)
  refine s_x h rfl rfl (by decide) (x_ld h.k rfl Try.underlying3 rfl rfl ((h.m.cell (i := 1) rfl 0).trans rfl)) (fun a h => ?_)
  obtain ⟨x26, h27, hf⟩ := bsome hf
  have h := h.mem (h.m.nilrow 5 1)
  have h := h.pick [1, 0, 3, 2] (by decide) rfl
  have hX := chatelaineref12_Writer_Number_ok Fu (S0 := S0) ([], 0) g25 none 0 [] (show reps ty8 S0 [] [] from rfl) (show r64 0 from ⟨by decide, by decide⟩) a0.1 hr3 1 (show r64 1 from ⟨by decide, by decide⟩) _ h27 _ (h.sub (Ls := [.box g25 122 ([.slice none ([]).length 0, .int .i64 0]), .row (.slice none ([]).length 0) 5 1 ([]).length []]))
  refine q_callY (Ls := [.box g25 122 ([.slice none ([]).length 0, .int .i64 0]), .row (.slice none ([]).length 0) 5 1 ([]).length []]) hX h (Up.refl _ _ _) rfl rfl rfl (by decide) Try.func71 rfl rfl rfl (fun a w v L1 S30 hR le32 up31 h => ?_)
  obtain ⟨A33, c34, cs35, rfl, rfl, hq36, hr37, _⟩ := hR
  refine l_end ?_
  refine c_rs ?_ -- region 3
  refine s_move h rfl _ rfl rfl (by decide) rfl (fun a h => ?_)
  refine s_x h rfl rfl (by decide) (x_faddr h.k rfl Try.underlying24 rfl sz_int rfl) (fun a h => ?_)
  refine s_x h rfl rfl (by decide) (x_ld h.k rfl Try.underlying3 rfl rfl ((h.m.cell (i := 3) rfl 1).trans rfl)) (fun a h => ?_)
  obtain ⟨x38, h39, hf⟩ := bsome hf
  have hX := chatelaineref12_Writer_Number_ok Fu (S0 := S30) x26 g25 A33 c34 cs35 hq36 hr37 a0.2.1 hr6 1 (show r64 1 from ⟨by decide, by decide⟩) _ h39 _ (h.sub (Ls := [.box g25 122 ([.slice A33 x26.1.length c34, .int .i64 x26.2]), .row (.slice A33 x26.1.length c34) 5 1 x26.1.length cs35]))
  refine q_callY (Ls := [.box g25 122 ([.slice A33 x26.1.length c34, .int .i64 x26.2]), .row (.slice A33 x26.1.length c34) 5 1 x26.1.length cs35]) hX h up31 rfl rfl rfl (by decide) Try.func71 rfl rfl rfl (fun a w v L1 S41 hR le43 up42 h => ?_)
  obtain ⟨A44, c45, cs46, rfl, rfl, hq47, hr48, _⟩ := hR
  refine l_end ?_
  refine c_rs ?_ -- region 4
  refine s_move h rfl _ rfl rfl (by decide) rfl (fun a h => ?_)
  refine s_x h rfl rfl (by decide) (x_faddr h.k rfl Try.underlying24 rfl sz_int rfl) (fun a h => ?_)
  refine s_x h rfl rfl (by decide) (x_ld h.k rfl Try.underlying3 rfl rfl ((h.m.cell (i := 3) rfl 2).trans rfl)) (fun a h => ?_)
  obtain ⟨x49, h50, hf⟩ := bsome hf
  have hX := chatelaineref12_Writer_Number_ok Fu (S0 := S41) x38 g25 A44 c45 cs46 hq47 hr48 a0.2.2.1 hr9 1 (show r64 1 from ⟨by decide, by decide⟩) _ h50 _ (h.sub (Ls := [.box g25 122 ([.slice A44 x38.1.length c45, .int .i64 x38.2]), .row (.slice A44 x38.1.length c45) 5 1 x38.1.length cs46]))
  refine q_callY (Ls := [.box g25 122 ([.slice A44 x38.1.length c45, .int .i64 x38.2]), .row (.slice A44 x38.1.length c45) 5 1 x38.1.length cs46]) hX h up42 rfl rfl rfl (by decide) Try.func71 rfl rfl rfl (fun a w v L1 S52 hR le54 up53 h => ?_)
  obtain ⟨A55, c56, cs57, rfl, rfl, hq58, hr59, _⟩ := hR
  refine l_end ?_
  refine c_rs ?_ -- region 5
  refine s_move h rfl _ rfl rfl (by decide) rfl (fun a h => ?_)
  refine s_x h rfl rfl (by decide) (x_faddr h.k rfl Try.underlying24 rfl sz_int rfl) (fun a h => ?_)
  refine s_x h rfl rfl (by decide) (x_ld h.k rfl Try.underlying3 rfl rfl ((h.m.cell (i := 3) rfl 3).trans rfl)) (fun a h => ?_)
  obtain ⟨x60, h61, hf⟩ := bsome hf
  have hX := chatelaineref12_Writer_Number_ok Fu (S0 := S52) x49 g25 A55 c56 cs57 hq58 hr59 a0.2.2.2.1 hr12 4 (show r64 4 from ⟨by decide, by decide⟩) _ h61 _ (h.sub (Ls := [.box g25 122 ([.slice A55 x49.1.length c56, .int .i64 x49.2]), .row (.slice A55 x49.1.length c56) 5 1 x49.1.length cs57]))
  refine q_callY (Ls := [.box g25 122 ([.slice A55 x49.1.length c56, .int .i64 x49.2]), .row (.slice A55 x49.1.length c56) 5 1 x49.1.length cs57]) hX h up53 rfl rfl rfl (by decide) Try.func71 rfl rfl rfl (fun a w v L1 S63 hR le65 up64 h => ?_)
  obtain ⟨A66, c67, cs68, rfl, rfl, hq69, hr70, _⟩ := hR
  refine l_end ?_
  refine c_rs ?_ -- region 6
  refine s_move h rfl _ rfl rfl (by decide) rfl (fun a h => ?_)
  refine s_x h rfl rfl (by decide) (x_faddr h.k rfl Try.underlying24 rfl sz_int rfl) (fun a h => ?_)
  refine s_x h rfl rfl (by decide) (x_ld h.k rfl Try.underlying3 rfl rfl ((h.m.cell (i := 3) rfl 4).trans rfl)) (fun a h => ?_)
  obtain ⟨x71, h72, hf⟩ := bsome hf
  have hX := chatelaineref12_Writer_Number_ok Fu (S0 := S63) x60 g25 A66 c67 cs68 hq69 hr70 a0.2.2.2.2.1 hr15 4 (show r64 4 from ⟨by decide, by decide⟩) _ h72 _ (h.sub (Ls := [.box g25 122 ([.slice A66 x60.1.length c67, .int .i64 x60.2]), .row (.slice A66 x60.1.length c67) 5 1 x60.1.length cs68]))
  refine q_callY (Ls := [.box g25 122 ([.slice A66 x60.1.length c67, .int .i64 x60.2]), .row (.slice A66 x60.1.length c67) 5 1 x60.1.length cs68]) hX h up64 rfl rfl rfl (by decide) Try.func71 rfl rfl rfl (fun a w v L1 S74 hR le76 up75 h => ?_)
  obtain ⟨A77, c78, cs79, rfl, rfl, hq80, hr81, _⟩ := hR
  refine l_end ?_
  refine c_rs ?_ -- region 7
  refine s_move h rfl _ rfl rfl (by decide) rfl (fun a h => ?_)
  refine s_x h rfl rfl (by decide) (x_faddr h.k rfl Try.underlying24 rfl sz_Suint8 rfl) (fun a h => ?_)
  refine s_x h rfl rfl (by decide) (x_ld h.k rfl Try.underlying22 rfl rfl ((h.m.cell (i := 3) rfl 5).trans rfl)) (fun a h => ?_)
  obtain ⟨x82, h83, hf⟩ := bsome hf
  have hX := chatelaineref12_Writer_Bytes_ok Fu (S0 := S74) x71 g25 A77 c78 cs79 hq80 hr81 A18 c19 a0.2.2.2.2.2.1 (hs20.mono ((((le32.trans le43).trans le54).trans le65).trans le76)) _ h83 _ (h.sub (Ls := [.box g25 122 ([.slice A77 x71.1.length c78, .int .i64 x71.2]), .row (.slice A77 x71.1.length c78) 5 1 x71.1.length cs79]))
  refine q_callY (Ls := [.box g25 122 ([.slice A77 x71.1.length c78, .int .i64 x71.2]), .row (.slice A77 x71.1.length c78) 5 1 x71.1.length cs79]) hX h up75 rfl rfl rfl (by decide) Try.func72 rfl rfl rfl (fun a w v L1 S85 hR le87 up86 h => ?_)
  obtain ⟨A88, c89, cs90, rfl, rfl, hq91, hr92, _⟩ := hR
  refine l_end ?_
  refine c_rs ?_ -- region 8
  refine s_move h rfl _ rfl rfl (by decide) rfl (fun a h => ?_)
  refine s_x h rfl rfl (by decide) (x_faddr h.k rfl Try.underlying24 rfl sz_Suint8 rfl) (fun a h => ?_)
  refine s_x h rfl rfl (by decide) (x_ld h.k rfl Try.underlying22 rfl rfl ((h.m.cell (i := 3) rfl 6).trans rfl)) (fun a h => ?_)
  obtain ⟨x93, h94, hf⟩ := bsome hf
  have hX := chatelaineref12_Writer_Bytes_ok Fu (S0 := S85) x82 g25 A88 c89 cs90 hq91 hr92 A21 c22 a0.2.2.2.2.2.2 (hs23.mono (((((le32.trans le43).trans le54).trans le65).trans le76).trans le87)) _ h94 _ (h.sub (Ls := [.box g25 122 ([.slice A88 x82.1.length c89, .int .i64 x82.2]), .row (.slice A88 x82.1.length c89) 5 1 x82.1.length cs90]))
  refine q_callY (Ls := [.box g25 122 ([.slice A88 x82.1.length c89, .int .i64 x82.2]), .row (.slice A88 x82.1.length c89) 5 1 x82.1.length cs90]) hX h up86 rfl rfl rfl (by decide) Try.func72 rfl rfl rfl (fun a w v L1 S96 hR le98 up97 h => ?_)
  obtain ⟨A99, c100, cs101, rfl, rfl, hq102, hr103, _⟩ := hR
  refine l_end ?_
  refine c_rs ?_ -- region 9
  refine s_move h rfl _ rfl rfl (by decide) rfl (fun a h => ?_)
  obtain ⟨x104, h105, hf⟩ := bsome hf
  have hX := chatelaineref12_Writer_Out_own0_ok Fu (S0 := S96) x93 g25 A99 c100 cs101 hq102 hr103 _ h105 _ (h.sub (Ls := [.box g25 122 ([.slice A99 x93.1.length c100, .int .i64 x93.2]), .row (.slice A99 x93.1.length c100) 5 1 x93.1.length cs101]))
  refine q_callY (Ls := [.box g25 122 ([.slice A99 x93.1.length c100, .int .i64 x93.2]), .row (.slice A99 x93.1.length c100) 5 1 x93.1.length cs101]) hX h up97 rfl rfl rfl (by decide) Try.func73 rfl rfl rfl (fun a w v L1 S107 hR le109 up108 h => ?_)
  obtain ⟨A110, c111, cs112, rfl, rfl, hq113, hr114, _⟩ := hR
  refine s_move h rfl _ rfl rfl (by decide) rfl (fun a h => ?_)
  refine s_x h rfl rfl (by decide) (x_ext h.k rfl rfl rfl) (fun a h => ?_)
  refine s_x h rfl rfl (by decide) (x_ext h.k rfl rfl rfl) (fun a h => ?_)
  refine s_assign h rfl _ rfl rfl (by decide) rfl (fun a h => ?_)
  refine s_assign h rfl _ rfl rfl (by decide) rfl (fun a h => ?_)
  refine l_end ?_
  refine c_rs ?_ -- region 10
  refine s_move h rfl _ rfl rfl (by decide) rfl (fun a h => ?_)
  refine s_assign h rfl _ rfl rfl (by decide) rfl (fun a h => ?_)
  refine l_end ?_
  refine wp_ret ?_
  obtain rfl := Option.some.inj hf
  exact r_ret1 h rfl (rv_tmp h rfl) ⟨_, [.row (.slice A110 x104.1.length c111) 5 1 x104.1.length cs112], _, rfl, ⟨A110, c111, cs112, rfl, rfl, hq113, trivial⟩, rfl, up108, (h.m.pick [0, 1] _ (by decide) rfl)⟩
def chatelaineref29_Take (Fu : Nat) (a0 : List UInt8) (a1 : Int) : Option ((Int × Int × Int × Int × Int × (List UInt8) × (List UInt8)) × Int) :=
  (chatelaineref12_Reader_Number Fu (a0, 0) 1 10).bind fun x4 => (chatelaineref12_Reader_Number Fu x4.2 1 16).bind fun x15 => (chatelaineref12_Reader_Number Fu x15.2 1 64).bind fun x26 => (chatelaineref12_Reader_Number Fu x26.2 4 4096).bind fun x37 => (chatelaineref12_Reader_Number Fu x37.2 4 4096).bind fun x48 => (chatelaineref12_Reader_Bytes Fu x48.2 64).bind fun x59 => (if 64 < a1 then (some a1) else (some 64)).bind fun x74 => (chatelaineref12_Reader_Bytes Fu x59.2 x74).bind fun x76 => (chatelaineref12_Reader_Done Fu x76.2).bind fun x89 => ((if x89 = 0 then (chatelaineref29_Right Fu (x4.1, x15.1, x26.1, x37.1, x48.1, x59.1, x76.1) a1).bind fun x100 => some (!x100) else some false).bind fun z98 => if z98 = true then (some 2) else (some x89)).bind fun x95 => if x95 ≠ 0 then (some ((0, 0, 0, 0, 0, [], []), x95)) else (some ((x4.1, x15.1, x26.1, x37.1, x48.1, x59.1, x76.1), 0))
set_option maxRecDepth 100000 in
set_option maxHeartbeats 2000000 in
theorem chatelaineref29_Take_ok (Fu : Nat) {S0 : Snap} (Aa0 : Option Addr) (ca0 : Nat) (a0 : List UInt8) (hsa0 : slS ty8 S0 Aa0 ca0 a0) (a1 : Int) (hra1 : r64 a1) (r : (Int × Int × Int × Int × Int × (List UInt8) × (List UInt8)) × Int) (hf : chatelaineref29_Take Fu a0 a1 = some r) (w0 : World) (hm : Mem w0 (ownL ([] ++ [.sn S0])) ([] ++ [.sn S0]) w0) :
    Calls Try.prog 24 #[.slice Aa0 a0.length ca0, .int .i64 a1] w0 (Ret w0 S0 [] (fun v L1 S1 => ∃ (k105 : List Value), v = .tuple #[.agg k105.toArray, .int .i64 r.2] ∧ L1 = [] ∧ (tyP tyI (tyP tyI (tyP tyI (tyP tyI (tyP tyI (tyP (tyL ty8) (tyL ty8))))))).rep S1 k105 r.1 ∧ r64 r.2 ∧ True)) := by
  unfold chatelaineref29_Take at hf
  refine c_enterM Try.func24 rfl 54 rfl (by simp) _ hm _ rfl (fun a h => ?_)
  refine c_rs ?_ -- region 0
  refine s_alloc h rfl rfl rfl (by decide) zi_api_Op rfl (fun a w g1 h => ?_)
  refine s_assign h rfl _ rfl rfl (by decide) rfl (fun a h => ?_)
  refine l_end ?_
  refine c_rs ?_ -- region 1
  refine s_move h rfl _ rfl rfl (by decide) rfl (fun a h => ?_)
  refine s_x h rfl rfl (by decide) (x_build h.k rfl [(0, .slice Aa0 a0.length ca0)] rfl ([.slice Aa0 a0.length ca0, .int .i64 0]) (by kernel_rfl)) (fun a h => ?_)
  refine s_box h rfl rfl rfl (by decide) rfl (cs := [.slice Aa0 a0.length ca0, .int .i64 0]) (by rfl) (fun a w g2 h => ?_)
  refine s_assign h rfl _ rfl rfl (by decide) rfl (fun a h => ?_)
  refine l_end ?_
  refine c_rs ?_ -- region 2
  refine s_alloc h rfl rfl rfl (by decide) zi_api_Op rfl (fun a w g3 h => ?_)
  refine l_end ?_
  refine c_rs ?_ -- region 3
  refine s_move h rfl _ rfl rfl (by decide) rfl (fun a h => ?_)
  obtain ⟨x4, h5, hf⟩ := bsome hf
  have h := h.pick [1, 3, 0, 2] (by decide) rfl
  have hX := chatelaineref12_Reader_Number_ok Fu (S0 := S0) (a0, 0) g2 Aa0 ca0 hsa0 (show r64 0 from ⟨by decide, by decide⟩) 1 (show r64 1 from ⟨by decide, by decide⟩) 10 (show r64 10 from ⟨by decide, by decide⟩) _ h5 _ (h.sub (Ls := [.box g2 129 ([.slice Aa0 a0.length ca0, .int .i64 0])]))
  refine q_callY (Ls := [.box g2 129 ([.slice Aa0 a0.length ca0, .int .i64 0])]) hX h (Up.refl _ _ _) rfl rfl rfl (by decide) Try.func78 rfl rfl rfl (fun a w v L1 S7 hR le9 up8 h => ?_)
  obtain ⟨A11, c12, rfl, rfl, hr10, hs13, hr14, _⟩ := hR
  refine s_x h rfl rfl (by decide) (x_faddr h.k rfl Try.underlying24 rfl sz_int rfl) (fun a h => ?_)
  refine s_stb h rfl rfl rfl sz_int rfl rfl rfl 2 rfl (by first | decide | simp) (fun a w h => ?_)
  refine l_end ?_
  refine c_rs ?_ -- region 4
  refine s_move h rfl _ rfl rfl (by decide) rfl (fun a h => ?_)
  obtain ⟨x15, h16, hf⟩ := bsome hf
  have hX := chatelaineref12_Reader_Number_ok Fu (S0 := S7) x4.2 g2 A11 c12 hs13 hr14 1 (show r64 1 from ⟨by decide, by decide⟩) 16 (show r64 16 from ⟨by decide, by decide⟩) _ h16 _ (h.sub (Ls := [.box g2 129 ([.slice A11 x4.2.1.length c12, .int .i64 x4.2.2])]))
  refine q_callY (Ls := [.box g2 129 ([.slice A11 x4.2.1.length c12, .int .i64 x4.2.2])]) hX h up8 rfl rfl rfl (by decide) Try.func78 rfl rfl rfl (fun a w v L1 S18 hR le20 up19 h => ?_)
  obtain ⟨A22, c23, rfl, rfl, hr21, hs24, hr25, _⟩ := hR
  refine s_x h rfl rfl (by decide) (x_faddr h.k rfl Try.underlying24 rfl sz_int rfl) (fun a h => ?_)
  refine s_stb h rfl rfl rfl sz_int rfl rfl rfl 2 rfl (by first | decide | simp) (fun a w h => ?_)
  refine l_end ?_
  refine c_rs ?_ -- region 5
  refine s_move h rfl _ rfl rfl (by decide) rfl (fun a h => ?_)
  obtain ⟨x26, h27, hf⟩ := bsome hf
  have hX := chatelaineref12_Reader_Number_ok Fu (S0 := S18) x15.2 g2 A22 c23 hs24 hr25 1 (show r64 1 from ⟨by decide, by decide⟩) 64 (show r64 64 from ⟨by decide, by decide⟩) _ h27 _ (h.sub (Ls := [.box g2 129 ([.slice A22 x15.2.1.length c23, .int .i64 x15.2.2])]))
  refine q_callY (Ls := [.box g2 129 ([.slice A22 x15.2.1.length c23, .int .i64 x15.2.2])]) hX h up19 rfl rfl rfl (by decide) Try.func78 rfl rfl rfl (fun a w v L1 S29 hR le31 up30 h => ?_)
  obtain ⟨A33, c34, rfl, rfl, hr32, hs35, hr36, _⟩ := hR
  refine s_x h rfl rfl (by decide) (x_faddr h.k rfl Try.underlying24 rfl sz_int rfl) (fun a h => ?_)
  refine s_stb h rfl rfl rfl sz_int rfl rfl rfl 2 rfl (by first | decide | simp) (fun a w h => ?_)
  refine l_end ?_
  refine c_rs ?_ -- region 6
  refine s_move h rfl _ rfl rfl (by decide) rfl (fun a h => ?_)
  obtain ⟨x37, h38, hf⟩ := bsome hf
  have hX := chatelaineref12_Reader_Number_ok Fu (S0 := S29) x26.2 g2 A33 c34 hs35 hr36 4 (show r64 4 from ⟨by decide, by decide⟩) 4096 (show r64 4096 from ⟨by decide, by decide⟩) _ h38 _ (h.sub (Ls := [.box g2 129 ([.slice A33 x26.2.1.length c34, .int .i64 x26.2.2])]))
  refine q_callY (Ls := [.box g2 129 ([.slice A33 x26.2.1.length c34, .int .i64 x26.2.2])]) hX h up30 rfl rfl rfl (by decide) Try.func78 rfl rfl rfl (fun a w v L1 S40 hR le42 up41 h => ?_)
  obtain ⟨A44, c45, rfl, rfl, hr43, hs46, hr47, _⟩ := hR
  refine s_x h rfl rfl (by decide) (x_faddr h.k rfl Try.underlying24 rfl sz_int rfl) (fun a h => ?_)
  refine s_stb h rfl rfl rfl sz_int rfl rfl rfl 2 rfl (by first | decide | simp) (fun a w h => ?_)
  refine l_end ?_
  refine c_rs ?_ -- region 7
  refine s_move h rfl _ rfl rfl (by decide) rfl (fun a h => ?_)
  obtain ⟨x48, h49, hf⟩ := bsome hf
  have hX := chatelaineref12_Reader_Number_ok Fu (S0 := S40) x37.2 g2 A44 c45 hs46 hr47 4 (show r64 4 from ⟨by decide, by decide⟩) 4096 (show r64 4096 from ⟨by decide, by decide⟩) _ h49 _ (h.sub (Ls := [.box g2 129 ([.slice A44 x37.2.1.length c45, .int .i64 x37.2.2])]))
  refine q_callY (Ls := [.box g2 129 ([.slice A44 x37.2.1.length c45, .int .i64 x37.2.2])]) hX h up41 rfl rfl rfl (by decide) Try.func78 rfl rfl rfl (fun a w v L1 S51 hR le53 up52 h => ?_)
  obtain ⟨A55, c56, rfl, rfl, hr54, hs57, hr58, _⟩ := hR
  refine s_x h rfl rfl (by decide) (x_faddr h.k rfl Try.underlying24 rfl sz_int rfl) (fun a h => ?_)
  refine s_stb h rfl rfl rfl sz_int rfl rfl rfl 2 rfl (by first | decide | simp) (fun a w h => ?_)
  refine l_end ?_
  refine c_rs ?_ -- region 8
  refine s_move h rfl _ rfl rfl (by decide) rfl (fun a h => ?_)
  obtain ⟨x59, h60, hf⟩ := bsome hf
  have hX := chatelaineref12_Reader_Bytes_ok Fu (S0 := S51) x48.2 g2 A55 c56 hs57 hr58 64 (show r64 64 from ⟨by decide, by decide⟩) _ h60 _ (h.sub (Ls := [.box g2 129 ([.slice A55 x48.2.1.length c56, .int .i64 x48.2.2])]))
  refine q_callY (Ls := [.box g2 129 ([.slice A55 x48.2.1.length c56, .int .i64 x48.2.2])]) hX h up52 rfl rfl rfl (by decide) Try.func79 rfl rfl rfl (fun a w v L1 S62 hR le64 up63 h => ?_)
  obtain ⟨A65, c66, A68, c69, rfl, rfl, hs67, hs70, hr71, _⟩ := hR
  refine s_x h rfl rfl (by decide) (x_faddr h.k rfl Try.underlying24 rfl sz_Suint8 rfl) (fun a h => ?_)
  refine s_stb h rfl rfl rfl sz_Suint8 rfl rfl rfl 2 rfl (by first | decide | simp) (fun a w h => ?_)
  refine l_end ?_
  refine c_rs ?_ -- region 9
  refine s_assign h rfl _ rfl rfl (by decide) rfl (fun a h => ?_)
  refine l_end ?_
  obtain ⟨o72, hc73, hf⟩ := bsome hf
  refine c_cut (fun a w => ∃ (x74 : Int), x74 = o72 ∧ r64 x74 ∧ St 54 w0 (ownL ([] ++ [.sn S0])) [(1, .int .i64 a1), (4, .pointer (some ⟨g1, 0, none⟩)), (6, .pointer (some ⟨g2, 0, none⟩)), (7, .pointer (some ⟨g3, 0, none⟩)), (8, .int .i64 x74)] [.box g1 24 ([.int .i64 0, .int .i64 0, .int .i64 0, .int .i64 0, .int .i64 0, .slice none 0 0, .slice none 0 0]), .box g2 129 ([.slice A68 x59.2.1.length c69, .int .i64 x59.2.2]), .box g3 24 ([.int .i64 x4.1, .int .i64 x15.1, .int .i64 x26.1, .int .i64 x37.1, .int .i64 x48.1, .slice A65 x59.1.length c66, .slice none 0 0]), .sn S62] a w) ?_ ?_
  · refine c_rs ?_ -- region 10
    refine s_move h rfl _ rfl rfl (by decide) rfl (fun a h => ?_)
    refine s_move h rfl _ rfl rfl (by decide) rfl (fun a h => ?_)
    refine s_x h rfl rfl (by decide) (x_bin h.k rfl rfl rfl ib_gtr) (fun a h => ?_)
    refine l_end ?_
    refine c_cond h rfl (fun hb => ?_) (fun hb => ?_)
    · rw [if_pos (of_decide_eq_true hb)] at hc73
      refine c_r ?_ -- region 11
      refine s_move h rfl _ rfl rfl (by decide) rfl (fun a h => ?_)
      refine s_assign h rfl _ rfl rfl (by decide) rfl (fun a h => ?_)
      refine l_nil ?_
      refine e_thenN ?_
      have h := h.pick [3, 0, 2, 1] (by decide) rfl
      exact ⟨a1, (Option.some.inj hc73), hra1, h.has (by exact ⟨rfl, rfl, rfl, rfl, rfl, trivial⟩)⟩
    · rw [if_neg (of_decide_eq_false hb)] at hc73
      refine wp_skip ?_
      refine e_thenN ?_
      have h := h.pick [3, 0, 2, 1] (by decide) rfl
      exact ⟨64, (Option.some.inj hc73), (show r64 64 from ⟨by decide, by decide⟩), h.has (by exact ⟨rfl, rfl, rfl, rfl, rfl, trivial⟩)⟩
  · rintro a w ⟨x74, rfl, hr75, h⟩
    refine c_rs ?_ -- region 12
    refine s_move h rfl _ rfl rfl (by decide) rfl (fun a h => ?_)
    refine s_move h rfl _ rfl rfl (by decide) rfl (fun a h => ?_)
    obtain ⟨x76, h77, hf⟩ := bsome hf
    have h := h.pick [1, 3, 0, 2] (by decide) rfl
    have hX := chatelaineref12_Reader_Bytes_ok Fu (S0 := S62) x59.2 g2 A68 c69 hs70 hr71 x74 hr75 _ h77 _ (h.sub (Ls := [.box g2 129 ([.slice A68 x59.2.1.length c69, .int .i64 x59.2.2])]))
    refine q_callY (Ls := [.box g2 129 ([.slice A68 x59.2.1.length c69, .int .i64 x59.2.2])]) hX h up63 rfl rfl rfl (by decide) Try.func79 rfl rfl rfl (fun a w v L1 S79 hR le81 up80 h => ?_)
    obtain ⟨A82, c83, A85, c86, rfl, rfl, hs84, hs87, hr88, _⟩ := hR
    refine s_x h rfl rfl (by decide) (x_faddr h.k rfl Try.underlying24 rfl sz_Suint8 rfl) (fun a h => ?_)
    refine s_stb h rfl rfl rfl sz_Suint8 rfl rfl rfl 3 rfl (by first | decide | simp) (fun a w h => ?_)
    refine l_end ?_
    refine c_rs ?_ -- region 13
    refine s_move h rfl _ rfl rfl (by decide) rfl (fun a h => ?_)
    obtain ⟨x89, h90, hf⟩ := bsome hf
    have hX := chatelaineref12_Reader_Done_ok Fu (S0 := snapAll _) g2 x76.2 ⟨[.slice A85 x76.2.1.length c86, .int .i64 x76.2.2], h.m.boxAll (i := 0) rfl, ⟨[.slice A85 x76.2.1.length c86], [.int .i64 x76.2.2], rfl, ⟨_, _, rfl, (hs87).mono (h.m.leAll (i := 1) rfl)⟩, ⟨rfl, hr88⟩⟩⟩ _ h90 _ h.startAll
    refine q_callX hX h rfl rfl rfl (by decide) Try.func80 rfl rfl rfl (fun a w v L1 S1 hR hb1 h => ?_)
    obtain ⟨rfl, rfl, hr92, _⟩ := hR
    refine s_assign h rfl _ rfl rfl (by decide) rfl (fun a h => ?_)
    refine l_end ?_
    obtain ⟨o93, hc94, hf⟩ := bsome hf
    refine c_cut (fun a w => ∃ (x95 : Int), x95 = o93 ∧ r64 x95 ∧ St 54 w0 (ownL ([] ++ [.sn S0])) [(4, .pointer (some ⟨g1, 0, none⟩)), (7, .pointer (some ⟨g3, 0, none⟩)), (9, .int .i64 x95)] [.box g1 24 ([.int .i64 0, .int .i64 0, .int .i64 0, .int .i64 0, .int .i64 0, .slice none 0 0, .slice none 0 0]), .box g3 24 ([.int .i64 x4.1, .int .i64 x15.1, .int .i64 x26.1, .int .i64 x37.1, .int .i64 x48.1, .slice A65 x59.1.length c66, .slice A82 x76.1.length c83]), .sn S79] a w) ?_ ?_
    · refine c_rs ?_ -- region 14
      refine s_move h rfl _ rfl rfl (by decide) rfl (fun a h => ?_)
      refine s_x h rfl rfl (by decide) (x_bin h.k rfl rfl rfl ib_eql) (fun a h => ?_)
      refine s_move h rfl _ rfl rfl (by decide) rfl (fun a h => ?_)
      obtain ⟨z98, hz97, hc94⟩ := bsome hc94
      refine q_grp h 5 (t := 43) 48 z98 rfl (fun hB2 => ?_) (fun hB2 => ?_) (fun a w h => ?_)
      · rw [if_pos (of_decide_eq_true hB2)] at hz97
        refine g_yes h rfl rfl rfl rfl hB2 ?_
        refine s_x h rfl rfl (by decide) (x_ldR h.k rfl ag_api_Op rfl ([.int .i64 x4.1, .int .i64 x15.1, .int .i64 x26.1, .int .i64 x37.1, .int .i64 x48.1, .slice A65 x59.1.length c66, .slice A82 x76.1.length c83]) rfl (h.m.range0 (i := 3) rfl)) (fun a h => ?_)
        refine g_yes h rfl rfl rfl rfl hB2 ?_
        refine s_move h rfl _ rfl rfl (by decide) rfl (fun a h => ?_)
        refine g_yes h rfl rfl rfl rfl hB2 ?_
        obtain ⟨x100, h101, hz97⟩ := bsome hz97
        have hX := chatelaineref29_Right_ok Fu (S0 := snapAll _) ([.int .i64 x4.1, .int .i64 x15.1, .int .i64 x26.1, .int .i64 x37.1, .int .i64 x48.1, .slice A65 x59.1.length c66, .slice A82 x76.1.length c83]) (x4.1, x15.1, x26.1, x37.1, x48.1, x59.1, x76.1) ((tyP tyI (tyP tyI (tyP tyI (tyP tyI (tyP tyI (tyP (tyL ty8) (tyL ty8))))))).mono (h.m.leAll (i := 1) rfl) (show (tyP tyI (tyP tyI (tyP tyI (tyP tyI (tyP tyI (tyP (tyL ty8) (tyL ty8))))))).rep S79 ([.int .i64 x4.1, .int .i64 x15.1, .int .i64 x26.1, .int .i64 x37.1, .int .i64 x48.1, .slice A65 x59.1.length c66, .slice A82 x76.1.length c83]) (x4.1, x15.1, x26.1, x37.1, x48.1, x59.1, x76.1) from ⟨[.int .i64 x4.1], [.int .i64 x15.1, .int .i64 x26.1, .int .i64 x37.1, .int .i64 x48.1, .slice A65 x59.1.length c66, .slice A82 x76.1.length c83], rfl, ⟨rfl, hr10⟩, ⟨[.int .i64 x15.1], [.int .i64 x26.1, .int .i64 x37.1, .int .i64 x48.1, .slice A65 x59.1.length c66, .slice A82 x76.1.length c83], rfl, ⟨rfl, hr21⟩, ⟨[.int .i64 x26.1], [.int .i64 x37.1, .int .i64 x48.1, .slice A65 x59.1.length c66, .slice A82 x76.1.length c83], rfl, ⟨rfl, hr32⟩, ⟨[.int .i64 x37.1], [.int .i64 x48.1, .slice A65 x59.1.length c66, .slice A82 x76.1.length c83], rfl, ⟨rfl, hr43⟩, ⟨[.int .i64 x48.1], [.slice A65 x59.1.length c66, .slice A82 x76.1.length c83], rfl, ⟨rfl, hr54⟩, ⟨[.slice A65 x59.1.length c66], [.slice A82 x76.1.length c83], rfl, ⟨_, _, rfl, (hs67.mono le81)⟩, ⟨_, _, rfl, hs84⟩⟩⟩⟩⟩⟩⟩)) a1 hra1 _ h101 _ h.startAll
        refine q_callX hX h rfl rfl rfl (by decide) Try.func16 rfl rfl rfl (fun a w v L1 S1 hR hb1 h => ?_)
        obtain ⟨rfl, rfl, _⟩ := hR
        refine g_yes h rfl rfl rfl rfl hB2 ?_
        refine s_x h rfl rfl (by decide) (x_not h.k rfl rfl) (fun a h => ?_)
        refine s_x h rfl rfl (by decide) (x_pick (u' := undef) h.k rfl rfl (fun _ => rfl) (fun hh => absurd (hB2.symm.trans hh) (by decide))) (fun a h => ?_)
        exact (h.mid 4 rfl).val (by rw [Option.some.inj hz97])
      · refine g_no h rfl rfl rfl rfl hB2 rfl (by decide) (fun a h => ?_)
        refine g_no h rfl rfl rfl rfl hB2 rfl (by decide) (fun a h => ?_)
        refine g_no h rfl rfl rfl rfl hB2 rfl (by decide) (fun a h => ?_)
        refine g_no h rfl rfl rfl rfl hB2 rfl (by decide) (fun a h => ?_)
        rw [if_neg (of_decide_eq_false hB2)] at hz97
        refine s_x h rfl rfl (by decide) (x_pick (u' := undef) h.k rfl rfl (fun hh => absurd (hB2.symm.trans hh) (by decide)) (fun _ => rfl)) (fun a h => ?_)
        exact (h.mid 4 rfl).val (by rw [Option.some.inj hz97])
      refine l_end ?_
      refine c_cond h rfl (fun hb => ?_) (fun hb => ?_)
      · rw [if_pos hb] at hc94
        refine c_r ?_ -- region 15
        refine s_assign h rfl _ rfl rfl (by decide) rfl (fun a h => ?_)
        refine l_nil ?_
        refine e_thenN ?_
        have h := h.pick [2, 3, 1] (by decide) rfl
        exact ⟨2, (Option.some.inj hc94), (show r64 2 from ⟨by decide, by decide⟩), h.has (by exact ⟨rfl, rfl, rfl, trivial⟩)⟩
      · rw [if_neg (by rw [hb]; decide)] at hc94
        refine wp_skip ?_
        refine e_thenN ?_
        have h := h.pick [2, 3, 1] (by decide) rfl
        exact ⟨x89, (Option.some.inj hc94), hr92, h.has (by exact ⟨rfl, rfl, rfl, trivial⟩)⟩
    · rintro a w ⟨x95, rfl, hr96, h⟩
      refine wp_seq ?_
      refine c_rs ?_ -- region 16
      refine s_move h rfl _ rfl rfl (by decide) rfl (fun a h => ?_)
      refine s_x h rfl rfl (by decide) (x_bin h.k rfl rfl rfl ib_neq) (fun a h => ?_)
      refine l_end ?_
      refine c_cond h rfl (fun hb => ?_) (fun hb => ?_)
      · rw [if_pos (of_decide_eq_true hb)] at hf
        refine c_rs ?_ -- region 17
        refine s_x h rfl rfl (by decide) (x_build h.k rfl [] rfl ([.int .i64 0, .int .i64 0, .int .i64 0, .int .i64 0, .int .i64 0, .slice none 0 0, .slice none 0 0]) (by kernel_rfl)) (fun a h => ?_)
        refine s_move h rfl _ rfl rfl (by decide) rfl (fun a h => ?_)
        refine s_stW h rfl rfl rfl ag_api_Op rfl (es := [.int .i64 0, .int .i64 0, .int .i64 0, .int .i64 0, .int .i64 0, .slice none 0 0, .slice none 0 0]) rfl rfl (by simp [Value.oneCell']) 0 rfl rfl (fun a w h => ?_)
        refine s_assign h rfl _ rfl rfl (by decide) rfl (fun a h => ?_)
        refine l_end ?_
        refine wp_ret ?_
        refine e_thenR ?_
        obtain rfl := Option.some.inj hf
        exact r_ret2 h rfl (rv_cellA h rfl 0 rfl ag_api_Op rfl) (rv_tmp h rfl) ⟨_, [], _, rfl, ⟨[.int .i64 0, .int .i64 0, .int .i64 0, .int .i64 0, .int .i64 0, .slice none 0 0, .slice none 0 0], rfl, rfl, ⟨[.int .i64 0], [.int .i64 0, .int .i64 0, .int .i64 0, .int .i64 0, .slice none 0 0, .slice none 0 0], rfl, ⟨rfl, (show r64 0 from ⟨by decide, by decide⟩)⟩, ⟨[.int .i64 0], [.int .i64 0, .int .i64 0, .int .i64 0, .slice none 0 0, .slice none 0 0], rfl, ⟨rfl, (show r64 0 from ⟨by decide, by decide⟩)⟩, ⟨[.int .i64 0], [.int .i64 0, .int .i64 0, .slice none 0 0, .slice none 0 0], rfl, ⟨rfl, (show r64 0 from ⟨by decide, by decide⟩)⟩, ⟨[.int .i64 0], [.int .i64 0, .slice none 0 0, .slice none 0 0], rfl, ⟨rfl, (show r64 0 from ⟨by decide, by decide⟩)⟩, ⟨[.int .i64 0], [.slice none 0 0, .slice none 0 0], rfl, ⟨rfl, (show r64 0 from ⟨by decide, by decide⟩)⟩, ⟨[.slice none 0 0], [.slice none 0 0], rfl, ⟨_, _, rfl, (slS.nil ty8 _)⟩, ⟨_, _, rfl, (slS.nil ty8 _)⟩⟩⟩⟩⟩⟩⟩, hr96, trivial⟩, rfl, up80, (h.m.pick [2] _ (by decide) rfl)⟩
      · rw [if_neg (of_decide_eq_false hb)] at hf
        refine wp_skip ?_
        refine e_thenN ?_
        refine c_rs ?_ -- region 18
        refine s_x h rfl rfl (by decide) (x_ldR h.k rfl ag_api_Op rfl ([.int .i64 x4.1, .int .i64 x15.1, .int .i64 x26.1, .int .i64 x37.1, .int .i64 x48.1, .slice A65 x59.1.length c66, .slice A82 x76.1.length c83]) rfl (h.m.range0 (i := 1) rfl)) (fun a h => ?_)
        refine s_stW h rfl rfl rfl ag_api_Op rfl (es := [.int .i64 x4.1, .int .i64 x15.1, .int .i64 x26.1, .int .i64 x37.1, .int .i64 x48.1, .slice A65 x59.1.length c66, .slice A82 x76.1.length c83]) rfl rfl (by simp [Value.oneCell']) 0 rfl rfl (fun a w h => ?_)
        refine s_assign h rfl _ rfl rfl (by decide) rfl (fun a h => ?_)
        refine l_end ?_
        refine wp_ret ?_
        obtain rfl := Option.some.inj hf
        exact r_ret2 h rfl (rv_cellA h rfl 0 rfl ag_api_Op rfl) (rv_tmp h rfl) ⟨_, [], _, rfl, ⟨[.int .i64 x4.1, .int .i64 x15.1, .int .i64 x26.1, .int .i64 x37.1, .int .i64 x48.1, .slice A65 x59.1.length c66, .slice A82 x76.1.length c83], rfl, rfl, ⟨[.int .i64 x4.1], [.int .i64 x15.1, .int .i64 x26.1, .int .i64 x37.1, .int .i64 x48.1, .slice A65 x59.1.length c66, .slice A82 x76.1.length c83], rfl, ⟨rfl, hr10⟩, ⟨[.int .i64 x15.1], [.int .i64 x26.1, .int .i64 x37.1, .int .i64 x48.1, .slice A65 x59.1.length c66, .slice A82 x76.1.length c83], rfl, ⟨rfl, hr21⟩, ⟨[.int .i64 x26.1], [.int .i64 x37.1, .int .i64 x48.1, .slice A65 x59.1.length c66, .slice A82 x76.1.length c83], rfl, ⟨rfl, hr32⟩, ⟨[.int .i64 x37.1], [.int .i64 x48.1, .slice A65 x59.1.length c66, .slice A82 x76.1.length c83], rfl, ⟨rfl, hr43⟩, ⟨[.int .i64 x48.1], [.slice A65 x59.1.length c66, .slice A82 x76.1.length c83], rfl, ⟨rfl, hr54⟩, ⟨[.slice A65 x59.1.length c66], [.slice A82 x76.1.length c83], rfl, ⟨_, _, rfl, (hs67.mono le81)⟩, ⟨_, _, rfl, hs84⟩⟩⟩⟩⟩⟩⟩, (show r64 0 from ⟨by decide, by decide⟩), trivial⟩, rfl, up80, (h.m.pick [2] _ (by decide) rfl)⟩
def chatelaineref29_Same (Fu : Nat) (a0 : Int × Int × Int × Int × Int × (List UInt8) × (List UInt8)) (a1 : Int × Int × Int × Int × Int × (List UInt8) × (List UInt8)) : Option Bool :=
  (if (((((decide (a0.1 = a1.1)) && (decide (a0.2.1 = a1.2.1))) && (decide (a0.2.2.1 = a1.2.2.1))) && (decide (a0.2.2.2.1 = a1.2.2.2.1))) && (decide (a0.2.2.2.2.1 = a1.2.2.2.2.1))) = true then (chatelaineref01_Same Fu a0.2.2.2.2.2.1 a1.2.2.2.2.2.1).bind fun x60 => some x60 else some false).bind fun z58 => (if z58 = true then (chatelaineref01_Same Fu a0.2.2.2.2.2.2 a1.2.2.2.2.2.2).bind fun x66 => some x66 else some false).bind fun z64 => some z64
set_option maxRecDepth 100000 in
set_option maxHeartbeats 2000000 in
theorem chatelaineref29_Same_ok (Fu : Nat) {S0 : Snap} (csa0 : List Value) (a0 : Int × Int × Int × Int × Int × (List UInt8) × (List UInt8)) (hsa0 : (tyP tyI (tyP tyI (tyP tyI (tyP tyI (tyP tyI (tyP (tyL ty8) (tyL ty8))))))).rep S0 csa0 a0) (csa1 : List Value) (a1 : Int × Int × Int × Int × Int × (List UInt8) × (List UInt8)) (hsa1 : (tyP tyI (tyP tyI (tyP tyI (tyP tyI (tyP tyI (tyP (tyL ty8) (tyL ty8))))))).rep S0 csa1 a1) (r : Bool) (hf : chatelaineref29_Same Fu a0 a1 = some r) (w0 : World) (hm : Mem w0 (ownL ([] ++ [.sn S0])) ([] ++ [.sn S0]) w0) :
    Calls Try.prog 25 #[.agg csa0.toArray, .agg csa1.toArray] w0 (Ret w0 S0 [] (fun v L1 S1 => v = .bool r ∧ L1 = [] ∧ True)) := by
  unfold chatelaineref29_Same at hf
  obtain ⟨k1, k2, rfl, ⟨rfl, hr3⟩, ⟨k4, k5, rfl, ⟨rfl, hr6⟩, ⟨k7, k8, rfl, ⟨rfl, hr9⟩, ⟨k10, k11, rfl, ⟨rfl, hr12⟩, ⟨k13, k14, rfl, ⟨rfl, hr15⟩, ⟨k16, k17, rfl, ⟨A18, c19, rfl, hs20⟩, ⟨A21, c22, rfl, hs23⟩⟩⟩⟩⟩⟩⟩ := hsa0
  obtain ⟨k24, k25, rfl, ⟨rfl, hr26⟩, ⟨k27, k28, rfl, ⟨rfl, hr29⟩, ⟨k30, k31, rfl, ⟨rfl, hr32⟩, ⟨k33, k34, rfl, ⟨rfl, hr35⟩, ⟨k36, k37, rfl, ⟨rfl, hr38⟩, ⟨k39, k40, rfl, ⟨A41, c42, rfl, hs43⟩, ⟨A44, c45, rfl, hs46⟩⟩⟩⟩⟩⟩⟩ := hsa1
  refine c_enterM Try.func25 rfl 52 rfl (by simp) _ hm _ rfl (fun a h => ?_)
  refine c_rs ?_ -- region 0
  refine s_box h rfl rfl rfl (by decide) rfl (cs := [.int .i64 a0.1, .int .i64 a0.2.1, .int .i64 a0.2.2.1, .int .i64 a0.2.2.2.1, .int .i64 a0.2.2.2.2.1, .slice A18 a0.2.2.2.2.2.1.length c19, .slice A21 a0.2.2.2.2.2.2.length c22]) (by rfl) (fun a w g47 h => ?_)
  refine s_box h rfl rfl rfl (by decide) rfl (cs := [.int .i64 a1.1, .int .i64 a1.2.1, .int .i64 a1.2.2.1, .int .i64 a1.2.2.2.1, .int .i64 a1.2.2.2.2.1, .slice A41 a1.2.2.2.2.2.1.length c42, .slice A44 a1.2.2.2.2.2.2.length c45]) (by rfl) (fun a w g48 h => ?_)
  refine s_assign h rfl _ rfl rfl (by decide) rfl (fun a h => ?_)
  refine l_end ?_
  refine c_rs ?_ -- region 1
  refine s_x h rfl rfl (by decide) (x_faddr h.k rfl Try.underlying24 rfl sz_int rfl) (fun a h => ?_)
  refine s_x h rfl rfl (by decide) (x_ld h.k rfl Try.underlying3 rfl rfl ((h.m.cell (i := 1) rfl 0).trans rfl)) (fun a h => ?_)
  refine s_x h rfl rfl (by decide) (x_faddr h.k rfl Try.underlying24 rfl sz_int rfl) (fun a h => ?_)
  refine s_x h rfl rfl (by decide) (x_ld h.k rfl Try.underlying3 rfl rfl ((h.m.cell (i := 0) rfl 0).trans rfl)) (fun a h => ?_)
  refine s_x h rfl rfl (by decide) (x_bin h.k rfl rfl rfl ib_eql) (fun a h => ?_)
  refine s_move h rfl _ rfl rfl (by decide) rfl (fun a h => ?_)
  refine q_grp h 6 (t := 10) 16 ((decide (a0.1 = a1.1)) && (decide (a0.2.1 = a1.2.1))) rfl (fun hB5 => ?_) (fun hB5 => ?_) (fun a w h => ?_)
  · refine g_yes h rfl rfl rfl rfl hB5 ?_
    refine s_x h rfl rfl (by decide) (x_faddr h.k rfl Try.underlying24 rfl sz_int rfl) (fun a h => ?_)
    refine g_yes h rfl rfl rfl rfl hB5 ?_
    refine s_x h rfl rfl (by decide) (x_ld h.k rfl Try.underlying3 rfl rfl ((h.m.cell (i := 1) rfl 1).trans rfl)) (fun a h => ?_)
    refine g_yes h rfl rfl rfl rfl hB5 ?_
    refine s_x h rfl rfl (by decide) (x_faddr h.k rfl Try.underlying24 rfl sz_int rfl) (fun a h => ?_)
    refine g_yes h rfl rfl rfl rfl hB5 ?_
    refine s_x h rfl rfl (by decide) (x_ld h.k rfl Try.underlying3 rfl rfl ((h.m.cell (i := 0) rfl 1).trans rfl)) (fun a h => ?_)
    refine g_yes h rfl rfl rfl rfl hB5 ?_
    refine s_x h rfl rfl (by decide) (x_bin h.k rfl rfl rfl ib_eql) (fun a h => ?_)
    refine s_x h rfl rfl (by decide) (x_pick (u' := undef) h.k rfl rfl (fun _ => rfl) (fun hh => absurd (hB5.symm.trans hh) (by decide))) (fun a h => ?_)
    exact (h.mid 5 rfl).val (by first | rfl | (rw [hB5]; first | rfl | simp))
  · refine g_no h rfl rfl rfl rfl hB5 rfl (by decide) (fun a h => ?_)
    refine g_no h rfl rfl rfl rfl hB5 rfl (by decide) (fun a h => ?_)
    refine g_no h rfl rfl rfl rfl hB5 rfl (by decide) (fun a h => ?_)
    refine g_no h rfl rfl rfl rfl hB5 rfl (by decide) (fun a h => ?_)
    refine g_no h rfl rfl rfl rfl hB5 rfl (by decide) (fun a h => ?_)
    refine s_x h rfl rfl (by decide) (x_pick (u' := undef) h.k rfl rfl (fun hh => absurd (hB5.symm.trans hh) (by decide)) (fun _ => rfl)) (fun a h => ?_)
    exact (h.mid 5 rfl).val (by first | rfl | (rw [hB5]; first | rfl | simp))
  refine s_move h rfl _ rfl rfl (by decide) rfl (fun a h => ?_)
  refine q_grp h 6 (t := 17) 23 (((decide (a0.1 = a1.1)) && (decide (a0.2.1 = a1.2.1))) && (decide (a0.2.2.1 = a1.2.2.1))) rfl (fun hB12 => ?_) (fun hB12 => ?_) (fun a w h => ?_)
  · refine g_yes h rfl rfl rfl rfl hB12 ?_
    refine s_x h rfl rfl (by decide) (x_faddr h.k rfl Try.underlying24 rfl sz_int rfl) (fun a h => ?_)
    refine g_yes h rfl rfl rfl rfl hB12 ?_
    refine s_x h rfl rfl (by decide) (x_ld h.k rfl Try.underlying3 rfl rfl ((h.m.cell (i := 1) rfl 2).trans rfl)) (fun a h => ?_)
    refine g_yes h rfl rfl rfl rfl hB12 ?_
    refine s_x h rfl rfl (by decide) (x_faddr h.k rfl Try.underlying24 rfl sz_int rfl) (fun a h => ?_)
    refine g_yes h rfl rfl rfl rfl hB12 ?_
    refine s_x h rfl rfl (by decide) (x_ld h.k rfl Try.underlying3 rfl rfl ((h.m.cell (i := 0) rfl 2).trans rfl)) (fun a h => ?_)
    refine g_yes h rfl rfl rfl rfl hB12 ?_
    refine s_x h rfl rfl (by decide) (x_bin h.k rfl rfl rfl ib_eql) (fun a h => ?_)
    refine s_x h rfl rfl (by decide) (x_pick (u' := undef) h.k rfl rfl (fun _ => rfl) (fun hh => absurd (hB12.symm.trans hh) (by decide))) (fun a h => ?_)
    exact (h.mid 5 rfl).val (by first | rfl | (rw [hB12]; first | rfl | simp))
  · refine g_no h rfl rfl rfl rfl hB12 rfl (by decide) (fun a h => ?_)
    refine g_no h rfl rfl rfl rfl hB12 rfl (by decide) (fun a h => ?_)
    refine g_no h rfl rfl rfl rfl hB12 rfl (by decide) (fun a h => ?_)
    refine g_no h rfl rfl rfl rfl hB12 rfl (by decide) (fun a h => ?_)
    refine g_no h rfl rfl rfl rfl hB12 rfl (by decide) (fun a h => ?_)
    refine s_x h rfl rfl (by decide) (x_pick (u' := undef) h.k rfl rfl (fun hh => absurd (hB12.symm.trans hh) (by decide)) (fun _ => rfl)) (fun a h => ?_)
    exact (h.mid 5 rfl).val (by first | rfl | (rw [hB12]; first | rfl | simp))
  refine s_move h rfl _ rfl rfl (by decide) rfl (fun a h => ?_)
  refine q_grp h 6 (t := 24) 30 ((((decide (a0.1 = a1.1)) && (decide (a0.2.1 = a1.2.1))) && (decide (a0.2.2.1 = a1.2.2.1))) && (decide (a0.2.2.2.1 = a1.2.2.2.1))) rfl (fun hB19 => ?_) (fun hB19 => ?_) (fun a w h => ?_)
  · refine g_yes h rfl rfl rfl rfl hB19 ?_
    refine s_x h rfl rfl (by decide) (x_faddr h.k rfl Try.underlying24 rfl sz_int rfl) (fun a h => ?_)
    refine g_yes h rfl rfl rfl rfl hB19 ?_
    refine s_x h rfl rfl (by decide) (x_ld h.k rfl Try.underlying3 rfl rfl ((h.m.cell (i := 1) rfl 3).trans rfl)) (fun a h => ?_)
    refine g_yes h rfl rfl rfl rfl hB19 ?_
    refine s_x h rfl rfl (by decide) (x_faddr h.k rfl Try.underlying24 rfl sz_int rfl) (fun a h => ?_)
    refine g_yes h rfl rfl rfl rfl hB19 ?_
    refine s_x h rfl rfl (by decide) (x_ld h.k rfl Try.underlying3 rfl rfl ((h.m.cell (i := 0) rfl 3).trans rfl)) (fun a h => ?_)
    refine g_yes h rfl rfl rfl rfl hB19 ?_
    refine s_x h rfl rfl (by decide) (x_bin h.k rfl rfl rfl ib_eql) (fun a h => ?_)
    refine s_x h rfl rfl (by decide) (x_pick (u' := undef) h.k rfl rfl (fun _ => rfl) (fun hh => absurd (hB19.symm.trans hh) (by decide))) (fun a h => ?_)
    exact (h.mid 5 rfl).val (by first | rfl | (rw [hB19]; first | rfl | simp))
  · refine g_no h rfl rfl rfl rfl hB19 rfl (by decide) (fun a h => ?_)
    refine g_no h rfl rfl rfl rfl hB19 rfl (by decide) (fun a h => ?_)
    refine g_no h rfl rfl rfl rfl hB19 rfl (by decide) (fun a h => ?_)
    refine g_no h rfl rfl rfl rfl hB19 rfl (by decide) (fun a h => ?_)
    refine g_no h rfl rfl rfl rfl hB19 rfl (by decide) (fun a h => ?_)
    refine s_x h rfl rfl (by decide) (x_pick (u' := undef) h.k rfl rfl (fun hh => absurd (hB19.symm.trans hh) (by decide)) (fun _ => rfl)) (fun a h => ?_)
    exact (h.mid 5 rfl).val (by first | rfl | (rw [hB19]; first | rfl | simp))
  refine s_move h rfl _ rfl rfl (by decide) rfl (fun a h => ?_)
  refine q_grp h 6 (t := 31) 37 (((((decide (a0.1 = a1.1)) && (decide (a0.2.1 = a1.2.1))) && (decide (a0.2.2.1 = a1.2.2.1))) && (decide (a0.2.2.2.1 = a1.2.2.2.1))) && (decide (a0.2.2.2.2.1 = a1.2.2.2.2.1))) rfl (fun hB26 => ?_) (fun hB26 => ?_) (fun a w h => ?_)
  · refine g_yes h rfl rfl rfl rfl hB26 ?_
    refine s_x h rfl rfl (by decide) (x_faddr h.k rfl Try.underlying24 rfl sz_int rfl) (fun a h => ?_)
    refine g_yes h rfl rfl rfl rfl hB26 ?_
    refine s_x h rfl rfl (by decide) (x_ld h.k rfl Try.underlying3 rfl rfl ((h.m.cell (i := 1) rfl 4).trans rfl)) (fun a h => ?_)
    refine g_yes h rfl rfl rfl rfl hB26 ?_
    refine s_x h rfl rfl (by decide) (x_faddr h.k rfl Try.underlying24 rfl sz_int rfl) (fun a h => ?_)
    refine g_yes h rfl rfl rfl rfl hB26 ?_
    refine s_x h rfl rfl (by decide) (x_ld h.k rfl Try.underlying3 rfl rfl ((h.m.cell (i := 0) rfl 4).trans rfl)) (fun a h => ?_)
    refine g_yes h rfl rfl rfl rfl hB26 ?_
    refine s_x h rfl rfl (by decide) (x_bin h.k rfl rfl rfl ib_eql) (fun a h => ?_)
    refine s_x h rfl rfl (by decide) (x_pick (u' := undef) h.k rfl rfl (fun _ => rfl) (fun hh => absurd (hB26.symm.trans hh) (by decide))) (fun a h => ?_)
    exact (h.mid 5 rfl).val (by first | rfl | (rw [hB26]; first | rfl | simp))
  · refine g_no h rfl rfl rfl rfl hB26 rfl (by decide) (fun a h => ?_)
    refine g_no h rfl rfl rfl rfl hB26 rfl (by decide) (fun a h => ?_)
    refine g_no h rfl rfl rfl rfl hB26 rfl (by decide) (fun a h => ?_)
    refine g_no h rfl rfl rfl rfl hB26 rfl (by decide) (fun a h => ?_)
    refine g_no h rfl rfl rfl rfl hB26 rfl (by decide) (fun a h => ?_)
    refine s_x h rfl rfl (by decide) (x_pick (u' := undef) h.k rfl rfl (fun hh => absurd (hB26.symm.trans hh) (by decide)) (fun _ => rfl)) (fun a h => ?_)
    exact (h.mid 5 rfl).val (by first | rfl | (rw [hB26]; first | rfl | simp))
  refine s_move h rfl _ rfl rfl (by decide) rfl (fun a h => ?_)
  obtain ⟨z58, hz57, hf⟩ := bsome hf
  refine q_grp h 6 (t := 38) 44 z58 rfl (fun hB33 => ?_) (fun hB33 => ?_) (fun a w h => ?_)
  · rw [if_pos hB33] at hz57
    refine g_yes h rfl rfl rfl rfl hB33 ?_
    refine s_x h rfl rfl (by decide) (x_faddr h.k rfl Try.underlying24 rfl sz_Suint8 rfl) (fun a h => ?_)
    refine g_yes h rfl rfl rfl rfl hB33 ?_
    refine s_x h rfl rfl (by decide) (x_ld h.k rfl Try.underlying22 rfl rfl ((h.m.cell (i := 1) rfl 5).trans rfl)) (fun a h => ?_)
    refine g_yes h rfl rfl rfl rfl hB33 ?_
    refine s_x h rfl rfl (by decide) (x_faddr h.k rfl Try.underlying24 rfl sz_Suint8 rfl) (fun a h => ?_)
    refine g_yes h rfl rfl rfl rfl hB33 ?_
    refine s_x h rfl rfl (by decide) (x_ld h.k rfl Try.underlying22 rfl rfl ((h.m.cell (i := 0) rfl 5).trans rfl)) (fun a h => ?_)
    refine g_yes h rfl rfl rfl rfl hB33 ?_
    obtain ⟨x60, h61, hz57⟩ := bsome hz57
    have hX := chatelaineref01_Same_ok Fu (S0 := snapAll _) A18 c19 a0.2.2.2.2.2.1 (hs20.mono (h.m.leAll (i := 2) rfl)) A41 c42 a1.2.2.2.2.2.1 (hs43.mono (h.m.leAll (i := 2) rfl)) _ h61 _ h.startAll
    refine q_callX hX h rfl rfl rfl (by decide) Try.func21 rfl rfl rfl (fun a w v L1 S1 hR hb1 h => ?_)
    obtain ⟨rfl, rfl, _⟩ := hR
    refine s_x h rfl rfl (by decide) (x_pick (u' := undef) h.k rfl rfl (fun _ => rfl) (fun hh => absurd (hB33.symm.trans hh) (by decide))) (fun a h => ?_)
    exact (h.mid 5 rfl).val (by rw [Option.some.inj hz57])
  · refine g_no h rfl rfl rfl rfl hB33 rfl (by decide) (fun a h => ?_)
    refine g_no h rfl rfl rfl rfl hB33 rfl (by decide) (fun a h => ?_)
    refine g_no h rfl rfl rfl rfl hB33 rfl (by decide) (fun a h => ?_)
    refine g_no h rfl rfl rfl rfl hB33 rfl (by decide) (fun a h => ?_)
    refine g_no h rfl rfl rfl rfl hB33 rfl (by decide) (fun a h => ?_)
    rw [if_neg (by rw [hB33]; decide)] at hz57
    refine s_x h rfl rfl (by decide) (x_pick (u' := undef) h.k rfl rfl (fun hh => absurd (hB33.symm.trans hh) (by decide)) (fun _ => rfl)) (fun a h => ?_)
    exact (h.mid 5 rfl).val (by rw [Option.some.inj hz57])
  refine s_move h rfl _ rfl rfl (by decide) rfl (fun a h => ?_)
  obtain ⟨z64, hz63, hf⟩ := bsome hf
  refine q_grp h 6 (t := 45) 51 z64 rfl (fun hB40 => ?_) (fun hB40 => ?_) (fun a w h => ?_)
  · rw [if_pos hB40] at hz63
    refine g_yes h rfl rfl rfl rfl hB40 ?_
    refine s_x h rfl rfl (by decide) (x_faddr h.k rfl Try.underlying24 rfl sz_Suint8 rfl) (fun a h => ?_)
    refine g_yes h rfl rfl rfl rfl hB40 ?_
    refine s_x h rfl rfl (by decide) (x_ld h.k rfl Try.underlying22 rfl rfl ((h.m.cell (i := 1) rfl 6).trans rfl)) (fun a h => ?_)
    refine g_yes h rfl rfl rfl rfl hB40 ?_
    refine s_x h rfl rfl (by decide) (x_faddr h.k rfl Try.underlying24 rfl sz_Suint8 rfl) (fun a h => ?_)
    refine g_yes h rfl rfl rfl rfl hB40 ?_
    refine s_x h rfl rfl (by decide) (x_ld h.k rfl Try.underlying22 rfl rfl ((h.m.cell (i := 0) rfl 6).trans rfl)) (fun a h => ?_)
    refine g_yes h rfl rfl rfl rfl hB40 ?_
    obtain ⟨x66, h67, hz63⟩ := bsome hz63
    have hX := chatelaineref01_Same_ok Fu (S0 := snapAll _) A21 c22 a0.2.2.2.2.2.2 (hs23.mono (h.m.leAll (i := 2) rfl)) A44 c45 a1.2.2.2.2.2.2 (hs46.mono (h.m.leAll (i := 2) rfl)) _ h67 _ h.startAll
    refine q_callX hX h rfl rfl rfl (by decide) Try.func21 rfl rfl rfl (fun a w v L1 S1 hR hb1 h => ?_)
    obtain ⟨rfl, rfl, _⟩ := hR
    refine s_x h rfl rfl (by decide) (x_pick (u' := undef) h.k rfl rfl (fun _ => rfl) (fun hh => absurd (hB40.symm.trans hh) (by decide))) (fun a h => ?_)
    exact (h.mid 5 rfl).val (by rw [Option.some.inj hz63])
  · refine g_no h rfl rfl rfl rfl hB40 rfl (by decide) (fun a h => ?_)
    refine g_no h rfl rfl rfl rfl hB40 rfl (by decide) (fun a h => ?_)
    refine g_no h rfl rfl rfl rfl hB40 rfl (by decide) (fun a h => ?_)
    refine g_no h rfl rfl rfl rfl hB40 rfl (by decide) (fun a h => ?_)
    refine g_no h rfl rfl rfl rfl hB40 rfl (by decide) (fun a h => ?_)
    rw [if_neg (by rw [hB40]; decide)] at hz63
    refine s_x h rfl rfl (by decide) (x_pick (u' := undef) h.k rfl rfl (fun hh => absurd (hB40.symm.trans hh) (by decide)) (fun _ => rfl)) (fun a h => ?_)
    exact (h.mid 5 rfl).val (by rw [Option.some.inj hz63])
  refine s_assign h rfl _ rfl rfl (by decide) rfl (fun a h => ?_)
  refine l_end ?_
  refine wp_ret ?_
  rw [← Option.some.inj hf]
  exact r_ret1 h rfl (rv_tmp h rfl) ⟨_, [], _, rfl, ⟨rfl, rfl, trivial⟩, rfl, (Up.refl _ _ _), (h.m.pick [2] _ (by decide) rfl)⟩
end Go.Proofs.Ythaakmdafnjkpaa
