/- Ey: Go functions as plain functions, and that they are so (written by xt.py). -/
import Derived.Test.YtdahdlidpplllaaEw
set_option linter.unusedVariables false
set_option linter.unusedSimpArgs false
namespace Go.Proofs.Ytdahdlidpplllaa
open Go.RowKit
def chatelainelaw20_awake (Fu : Nat) : Option Bool :=
  (path_Depth Fu 5).bind fun x1 => (if x1 = 2 then (path_Total Fu 5).bind fun x8 => some (decide (x8 = 7)) else some false).bind fun z6 => some z6
set_option maxRecDepth 100000 in
set_option maxHeartbeats 2000000 in
theorem chatelainelaw20_awake_ok (Fu : Nat) {S0 : Snap}  (r : Bool) (hf : chatelainelaw20_awake Fu = some r) (w0 : World) (hm : Mem w0 (ownL ([] ++ [.sn S0])) ([] ++ [.sn S0]) w0) :
    Calls Try.prog 41 #[] w0 (Ret w0 S0 [] (fun v L1 S1 => v = .bool r ∧ L1 = [] ∧ True)) := by
  unfold chatelainelaw20_awake at hf
  refine c_enterM Try.func41 rfl 7 rfl (by simp) _ hm _ rfl (fun a h => ?_)
  refine c_rs ?_ -- region 0
  refine s_assign h rfl _ rfl rfl (by decide) rfl (fun a h => ?_)
  refine l_end ?_
  refine c_rs ?_ -- region 1
  obtain ⟨x1, h2, hf⟩ := bsome hf
  have hX := path_Depth_ok Fu (S0 := snapAll _) 5 (show r64 5 from ⟨by decide, by decide⟩) _ h2 _ h.startAll
  refine q_callX hX h rfl rfl rfl (by decide) Try.func46 rfl rfl rfl (fun a w v L1 S1 hR hb1 h => ?_)
  obtain ⟨rfl, rfl, hr4, _⟩ := hR
  refine s_x h rfl rfl (by decide) (x_bin h.k rfl rfl rfl ib_eql) (fun a h => ?_)
  refine s_move h rfl _ rfl rfl (by decide) rfl (fun a h => ?_)
  obtain ⟨z6, hz5, hf⟩ := bsome hf
  refine q_grp h 3 (t := 3) 6 z6 rfl (fun hB2 => ?_) (fun hB2 => ?_) (fun a w h => ?_)
  · rw [if_pos (of_decide_eq_true hB2)] at hz5
    refine g_yes h rfl rfl rfl rfl hB2 ?_
    obtain ⟨x8, h9, hz5⟩ := bsome hz5
    have hX := path_Total_ok Fu (S0 := snapAll _) 5 (show r64 5 from ⟨by decide, by decide⟩) _ h9 _ h.startAll
    refine q_callX hX h rfl rfl rfl (by decide) Try.func47 rfl rfl rfl (fun a w v L1 S1 hR hb1 h => ?_)
    obtain ⟨rfl, rfl, hr11, _⟩ := hR
    refine g_yes h rfl rfl rfl rfl hB2 ?_
    refine s_x h rfl rfl (by decide) (x_bin h.k rfl rfl rfl ib_eql) (fun a h => ?_)
    refine s_x h rfl rfl (by decide) (x_pick (u' := undef) h.k rfl rfl (fun _ => rfl) (fun hh => absurd (hB2.symm.trans hh) (by decide))) (fun a h => ?_)
    exact (h.mid 2 rfl).val (by rw [Option.some.inj hz5])
  · refine g_no h rfl rfl rfl rfl hB2 rfl (by decide) (fun a h => ?_)
    refine g_no h rfl rfl rfl rfl hB2 rfl (by decide) (fun a h => ?_)
    rw [if_neg (of_decide_eq_false hB2)] at hz5
    refine s_x h rfl rfl (by decide) (x_pick (u' := undef) h.k rfl rfl (fun hh => absurd (hB2.symm.trans hh) (by decide)) (fun _ => rfl)) (fun a h => ?_)
    exact (h.mid 2 rfl).val (by rw [Option.some.inj hz5])
  refine s_assign h rfl _ rfl rfl (by decide) rfl (fun a h => ?_)
  refine l_end ?_
  refine wp_ret ?_
  obtain rfl := Option.some.inj hf
  exact r_ret1 h rfl (rv_tmp h rfl) ⟨_, [], _, rfl, ⟨rfl, rfl, trivial⟩, rfl, (Up.refl _ _ _), h.m⟩
def chatelainelaw20_PathPlaces_l0 (Fu : Nat) (x48 : (List Int)) : Nat → Int → Int → Option Int
  | 0, _, _ => none
  | k + 1, x59, x61 => if x61 < (x48.length : Int) then ((ix x48.length x61).bind fun m67 => (x48[m67]?).bind fun x73 => chatelainelaw20_PathPlaces_l0 Fu x48 k (w64 (x59 + x73)) (w64 (x61 + 1))) else (some x59)
def chatelainelaw20_PathPlaces (Fu : Nat) (a0 : Int) (a1 : Int) (a2 : Int) : Option Bool :=
  (chatelainelaw20_awake Fu).bind fun x1 => if (!x1) = true then (some false) else ((path_Place Fu a0 a1 a2).bind fun x4 => (chatelaineref20_Place Fu a0 a1 a2).bind fun x8 => if (((!(x4.2 == (decide (0 ≤ x8)))) || (x4.2 && (decide (x4.1 ≠ x8)))) || ((!x4.2) && (decide (x4.1 ≠ 0)))) = true then (some false) else ((path_Node Fu a0 a2).bind fun x20 => (chatelaineref20_May Fu a0).bind fun x25 => if (!x25) = true then ((path_Depth Fu a0).bind fun x28 => (if x28 = 0 then (path_Total Fu a0).bind fun x35 => some (decide (x35 = 0)) else some false).bind fun z33 => (if z33 = true then (path_Count Fu a0 a1).bind fun x42 => some (decide (x42 = 0)) else some false).bind fun z40 => some (z40 && (!x20.2.2))) else ((chatelaineref20_Counts Fu a0).bind fun x48 => (chatelainelaw20_PathPlaces_l0 Fu x48 Fu (-1) 0).bind fun x63 => (if ((decide (0 ≤ a1)) && (decide (a1 < (x48.length : Int)))) = true then ((ix x48.length a1).bind fun m87 => (x48[m87]?).bind fun x93 => some x93) else (some 0)).bind fun x82 => (path_Depth Fu a0).bind fun x100 => (if x100 ≠ w64 ((x48.length : Int) - 1) then some true else (path_Total Fu a0).bind fun x108 => some (decide (x108 ≠ x63))).bind fun z106 => (if z106 = true then some true else (path_Count Fu a0 a1).bind fun x115 => some (decide (x115 ≠ x82))).bind fun z113 => if z113 = true then (some false) else ((if (x20.2.2 == ((decide (0 ≤ a2)) && (decide (a2 < x63)))) = true then (if x20.2.2 = true then (chatelaineref20_Place Fu a0 x20.1 x20.2.1).bind fun x127 => some (decide (x127 = a2)) else some false).bind fun z125 => some (z125 || (((!x20.2.2) && (decide (x20.1 = 0))) && (decide (x20.2.1 = 0)))) else some false).bind fun z122 => some z122))))
set_option maxRecDepth 100000 in
set_option maxHeartbeats 2000000 in
theorem chatelainelaw20_PathPlaces_ok (Fu : Nat) {S0 : Snap} (a0 : Int) (hra0 : r64 a0) (a1 : Int) (hra1 : r64 a1) (a2 : Int) (hra2 : r64 a2) (r : Bool) (hf : chatelainelaw20_PathPlaces Fu a0 a1 a2 = some r) (w0 : World) (hm : Mem w0 (ownL ([] ++ [.sn S0])) ([] ++ [.sn S0]) w0) :
    Calls Try.prog 9 #[.int .i64 a0, .int .i64 a1, .int .i64 a2] w0 (Ret w0 S0 [] (fun v L1 S1 => v = .bool r ∧ L1 = [] ∧ True)) := by
  unfold chatelainelaw20_PathPlaces at hf
  refine c_enterM Try.func9 rfl 154 rfl (by simp) _ hm _ rfl (fun a h => ?_)
  refine c_rs ?_ -- region 0
  refine s_assign h rfl _ rfl rfl (by decide) rfl (fun a h => ?_)
  refine l_end ?_
  refine wp_seq ?_
  refine c_rs ?_ -- region 1
  obtain ⟨x1, h2, hf⟩ := bsome hf
  have hX := chatelainelaw20_awake_ok Fu (S0 := snapAll _)  _ h2 _ h.startAll
  refine q_callX hX h rfl rfl rfl (by decide) Try.func41 rfl rfl rfl (fun a w v L1 S1 hR hb1 h => ?_)
  obtain ⟨rfl, rfl, _⟩ := hR
  refine s_x h rfl rfl (by decide) (x_not h.k rfl rfl) (fun a h => ?_)
  refine l_end ?_
  refine c_cond h rfl (fun hb => ?_) (fun hb => ?_)
  · rw [if_pos hb] at hf
    refine c_rs ?_ -- region 2
    refine s_assign h rfl _ rfl rfl (by decide) rfl (fun a h => ?_)
    refine l_end ?_
    refine wp_ret ?_
    refine e_thenR ?_
    obtain rfl := Option.some.inj hf
    exact r_ret1 h rfl (rv_tmp h rfl) ⟨_, [], _, rfl, ⟨rfl, rfl, trivial⟩, rfl, (Up.refl _ _ _), h.m⟩
  · rw [if_neg (by rw [hb]; decide)] at hf
    refine wp_skip ?_
    refine e_thenN ?_
    refine c_rs ?_ -- region 3
    refine s_move h rfl _ rfl rfl (by decide) rfl (fun a h => ?_)
    refine s_move h rfl _ rfl rfl (by decide) rfl (fun a h => ?_)
    refine s_move h rfl _ rfl rfl (by decide) rfl (fun a h => ?_)
    obtain ⟨x4, h5, hf⟩ := bsome hf
    have hX := path_Place_ok Fu (S0 := snapAll _) a0 hra0 a1 hra1 a2 hra2 _ h5 _ h.startAll
    refine q_callX hX h rfl rfl rfl (by decide) Try.func42 rfl rfl rfl (fun a w v L1 S1 hR hb1 h => ?_)
    obtain ⟨rfl, rfl, hr7, _⟩ := hR
    refine s_move h rfl _ rfl rfl (by decide) rfl (fun a h => ?_)
    refine s_x h rfl rfl (by decide) (x_ext h.k rfl rfl rfl) (fun a h => ?_)
    refine s_x h rfl rfl (by decide) (x_ext h.k rfl rfl rfl) (fun a h => ?_)
    refine s_assign h rfl _ rfl rfl (by decide) rfl (fun a h => ?_)
    refine s_assign h rfl _ rfl rfl (by decide) rfl (fun a h => ?_)
    refine l_end ?_
    refine c_rs ?_ -- region 4
    refine s_move h rfl _ rfl rfl (by decide) rfl (fun a h => ?_)
    refine s_move h rfl _ rfl rfl (by decide) rfl (fun a h => ?_)
    refine s_move h rfl _ rfl rfl (by decide) rfl (fun a h => ?_)
    obtain ⟨x8, h9, hf⟩ := bsome hf
    have hX := chatelaineref20_Place_ok Fu (S0 := snapAll _) a0 hra0 a1 hra1 a2 hra2 _ h9 _ h.startAll
    refine q_callX hX h rfl rfl rfl (by decide) Try.func43 rfl rfl rfl (fun a w v L1 S1 hR hb1 h => ?_)
    obtain ⟨rfl, rfl, hr11, _⟩ := hR
    refine s_assign h rfl _ rfl rfl (by decide) rfl (fun a h => ?_)
    refine l_end ?_
    refine wp_seq ?_
    refine c_rs ?_ -- region 5
    refine s_move h rfl _ rfl rfl (by decide) rfl (fun a h => ?_)
    refine s_move h rfl _ rfl rfl (by decide) rfl (fun a h => ?_)
    refine s_x h rfl rfl (by decide) (x_bin h.k rfl rfl rfl ib_geq) (fun a h => ?_)
    refine s_x h rfl rfl (by decide) (x_neqB h.k rfl Try.underlying4 rfl rfl) (fun a h => ?_)
    refine s_move h rfl _ rfl rfl (by decide) rfl (fun a h => ?_)
    refine q_grp h 7 (t := 35) 42 ((!(x4.2 == (decide (0 ≤ x8)))) || (x4.2 && (decide (x4.1 ≠ x8)))) rfl (fun hB4 => ?_) (fun hB4 => ?_) (fun a w h => ?_)
    · refine g_no h rfl rfl rfl rfl hB4 rfl (by decide) (fun a h => ?_)
      refine g_no h rfl rfl rfl rfl hB4 rfl (by decide) (fun a h => ?_)
      refine g_off h rfl rfl rfl rfl rfl (by decide) (fun a h => ?_)
      refine g_off h rfl rfl rfl rfl rfl (by decide) (fun a h => ?_)
      refine g_off h rfl rfl rfl rfl rfl (by decide) (fun a h => ?_)
      refine g_no h rfl rfl rfl rfl hB4 rfl (by decide) (fun a h => ?_)
      refine s_x h rfl rfl (by decide) (x_pick (u' := undef) h.k rfl rfl (fun _ => rfl) (fun hh => absurd (hB4.symm.trans hh) (by decide))) (fun a h => ?_)
      exact (h.mid 6 rfl).val (by first | rfl | (rw [hB4]; first | rfl | simp))
    · refine g_yes h rfl rfl rfl rfl hB4 ?_
      refine s_move h rfl _ rfl rfl (by decide) rfl (fun a h => ?_)
      refine g_yes h rfl rfl rfl rfl hB4 ?_
      refine s_move h rfl _ rfl rfl (by decide) rfl (fun a h => ?_)
      refine q_grp h 4 (t := 37) 41 (x4.2 && (decide (x4.1 ≠ x8))) rfl (fun hB6 => ?_) (fun hB6 => ?_) (fun a w h => ?_)
      · refine g_yes h rfl rfl rfl rfl hB6 ?_
        refine s_move h rfl _ rfl rfl (by decide) rfl (fun a h => ?_)
        refine g_yes h rfl rfl rfl rfl hB6 ?_
        refine s_move h rfl _ rfl rfl (by decide) rfl (fun a h => ?_)
        refine g_yes h rfl rfl rfl rfl hB6 ?_
        refine s_x h rfl rfl (by decide) (x_bin h.k rfl rfl rfl ib_neq) (fun a h => ?_)
        refine g_yes h rfl rfl rfl rfl hB4 ?_
        refine s_x h rfl rfl (by decide) (x_pick (u' := undef) h.k rfl rfl (fun _ => rfl) (fun hh => absurd (hB6.symm.trans hh) (by decide))) (fun a h => ?_)
        exact (h.mid 3 rfl).val (by first | rfl | (rw [hB6]; first | rfl | simp))
      · refine g_no h rfl rfl rfl rfl hB6 rfl (by decide) (fun a h => ?_)
        refine g_no h rfl rfl rfl rfl hB6 rfl (by decide) (fun a h => ?_)
        refine g_no h rfl rfl rfl rfl hB6 rfl (by decide) (fun a h => ?_)
        refine g_yes h rfl rfl rfl rfl hB4 ?_
        refine s_x h rfl rfl (by decide) (x_pick (u' := undef) h.k rfl rfl (fun hh => absurd (hB6.symm.trans hh) (by decide)) (fun _ => rfl)) (fun a h => ?_)
        exact (h.mid 3 rfl).val (by first | rfl | (rw [hB6]; first | rfl | simp))
      refine s_x h rfl rfl (by decide) (x_pick (u' := undef) h.k rfl rfl (fun hh => absurd (hB4.symm.trans hh) (by decide)) (fun _ => rfl)) (fun a h => ?_)
      exact (h.mid 3 rfl).val (by first | rfl | (rw [hB4]; first | rfl | simp))
    refine s_move h rfl _ rfl rfl (by decide) rfl (fun a h => ?_)
    refine q_grp h 7 (t := 43) 50 (((!(x4.2 == (decide (0 ≤ x8)))) || (x4.2 && (decide (x4.1 ≠ x8)))) || ((!x4.2) && (decide (x4.1 ≠ 0)))) rfl (fun hB12 => ?_) (fun hB12 => ?_) (fun a w h => ?_)
    · refine g_no h rfl rfl rfl rfl hB12 rfl (by decide) (fun a h => ?_)
      refine g_no h rfl rfl rfl rfl hB12 rfl (by decide) (fun a h => ?_)
      refine g_no h rfl rfl rfl rfl hB12 rfl (by decide) (fun a h => ?_)
      refine g_off h rfl rfl rfl rfl rfl (by decide) (fun a h => ?_)
      refine g_off h rfl rfl rfl rfl rfl (by decide) (fun a h => ?_)
      refine g_no h rfl rfl rfl rfl hB12 rfl (by decide) (fun a h => ?_)
      refine s_x h rfl rfl (by decide) (x_pick (u' := undef) h.k rfl rfl (fun _ => rfl) (fun hh => absurd (hB12.symm.trans hh) (by decide))) (fun a h => ?_)
      exact (h.mid 6 rfl).val (by first | rfl | (rw [hB12]; first | rfl | simp))
    · refine g_yes h rfl rfl rfl rfl hB12 ?_
      refine s_move h rfl _ rfl rfl (by decide) rfl (fun a h => ?_)
      refine g_yes h rfl rfl rfl rfl hB12 ?_
      refine s_x h rfl rfl (by decide) (x_not h.k rfl rfl) (fun a h => ?_)
      refine g_yes h rfl rfl rfl rfl hB12 ?_
      refine s_move h rfl _ rfl rfl (by decide) rfl (fun a h => ?_)
      refine q_grp h 3 (t := 46) 49 ((!x4.2) && (decide (x4.1 ≠ 0))) rfl (fun hB15 => ?_) (fun hB15 => ?_) (fun a w h => ?_)
      · refine g_yes h rfl rfl rfl rfl hB15 ?_
        refine s_move h rfl _ rfl rfl (by decide) rfl (fun a h => ?_)
        refine g_yes h rfl rfl rfl rfl hB15 ?_
        refine s_x h rfl rfl (by decide) (x_bin h.k rfl rfl rfl ib_neq) (fun a h => ?_)
        refine g_yes h rfl rfl rfl rfl hB12 ?_
        refine s_x h rfl rfl (by decide) (x_pick (u' := undef) h.k rfl rfl (fun _ => rfl) (fun hh => absurd (hB15.symm.trans hh) (by decide))) (fun a h => ?_)
        exact (h.mid 2 rfl).val (by first | rfl | (rw [hB15]; first | rfl | simp))
      · refine g_no h rfl rfl rfl rfl hB15 rfl (by decide) (fun a h => ?_)
        refine g_no h rfl rfl rfl rfl hB15 rfl (by decide) (fun a h => ?_)
        refine g_yes h rfl rfl rfl rfl hB12 ?_
        refine s_x h rfl rfl (by decide) (x_pick (u' := undef) h.k rfl rfl (fun hh => absurd (hB15.symm.trans hh) (by decide)) (fun _ => rfl)) (fun a h => ?_)
        exact (h.mid 2 rfl).val (by first | rfl | (rw [hB15]; first | rfl | simp))
      refine s_x h rfl rfl (by decide) (x_pick (u' := undef) h.k rfl rfl (fun hh => absurd (hB12.symm.trans hh) (by decide)) (fun _ => rfl)) (fun a h => ?_)
      exact (h.mid 4 rfl).val (by first | rfl | (rw [hB12]; first | rfl | simp))
    refine l_end ?_
    refine c_cond h rfl (fun hb => ?_) (fun hb => ?_)
    · rw [if_pos hb] at hf
      refine c_rs ?_ -- region 6
      refine s_assign h rfl _ rfl rfl (by decide) rfl (fun a h => ?_)
      refine l_end ?_
      refine wp_ret ?_
      refine e_thenR ?_
      obtain rfl := Option.some.inj hf
      exact r_ret1 h rfl (rv_tmp h rfl) ⟨_, [], _, rfl, ⟨rfl, rfl, trivial⟩, rfl, (Up.refl _ _ _), h.m⟩
    · rw [if_neg (by rw [hb]; decide)] at hf
      refine wp_skip ?_
      refine e_thenN ?_
      refine c_rs ?_ -- region 7
      refine s_move h rfl _ rfl rfl (by decide) rfl (fun a h => ?_)
      refine s_move h rfl _ rfl rfl (by decide) rfl (fun a h => ?_)
      obtain ⟨x20, h21, hf⟩ := bsome hf
      have hX := path_Node_ok Fu (S0 := snapAll _) a0 hra0 a2 hra2 _ h21 _ h.startAll
      refine q_callX hX h rfl rfl rfl (by decide) Try.func44 rfl rfl rfl (fun a w v L1 S1 hR hb1 h => ?_)
      obtain ⟨rfl, rfl, hr23, hr24, _⟩ := hR
      refine s_move h rfl _ rfl rfl (by decide) rfl (fun a h => ?_)
      refine s_x h rfl rfl (by decide) (x_ext h.k rfl rfl rfl) (fun a h => ?_)
      refine s_x h rfl rfl (by decide) (x_ext h.k rfl rfl rfl) (fun a h => ?_)
      refine s_x h rfl rfl (by decide) (x_ext h.k rfl rfl rfl) (fun a h => ?_)
      refine s_assign h rfl _ rfl rfl (by decide) rfl (fun a h => ?_)
      refine s_assign h rfl _ rfl rfl (by decide) rfl (fun a h => ?_)
      refine s_assign h rfl _ rfl rfl (by decide) rfl (fun a h => ?_)
      refine l_end ?_
      refine wp_seq ?_
      refine c_rs ?_ -- region 8
      refine s_move h rfl _ rfl rfl (by decide) rfl (fun a h => ?_)
      obtain ⟨x25, h26, hf⟩ := bsome hf
      have hX := chatelaineref20_May_ok Fu (S0 := snapAll _) a0 hra0 _ h26 _ h.startAll
      refine q_callX hX h rfl rfl rfl (by decide) Try.func45 rfl rfl rfl (fun a w v L1 S1 hR hb1 h => ?_)
      obtain ⟨rfl, rfl, _⟩ := hR
      refine s_x h rfl rfl (by decide) (x_not h.k rfl rfl) (fun a h => ?_)
      refine l_end ?_
      refine c_cond h rfl (fun hb => ?_) (fun hb => ?_)
      · rw [if_pos hb] at hf
        refine c_rs ?_ -- region 9
        refine s_move h rfl _ rfl rfl (by decide) rfl (fun a h => ?_)
        obtain ⟨x28, h29, hf⟩ := bsome hf
        have hX := path_Depth_ok Fu (S0 := snapAll _) a0 hra0 _ h29 _ h.startAll
        refine q_callX hX h rfl rfl rfl (by decide) Try.func46 rfl rfl rfl (fun a w v L1 S1 hR hb1 h => ?_)
        obtain ⟨rfl, rfl, hr31, _⟩ := hR
        refine s_x h rfl rfl (by decide) (x_bin h.k rfl rfl rfl ib_eql) (fun a h => ?_)
        refine s_move h rfl _ rfl rfl (by decide) rfl (fun a h => ?_)
        obtain ⟨z33, hz32, hf⟩ := bsome hf
        refine q_grp h 4 (t := 64) 68 z33 rfl (fun hB3 => ?_) (fun hB3 => ?_) (fun a w h => ?_)
        · rw [if_pos (of_decide_eq_true hB3)] at hz32
          refine g_yes h rfl rfl rfl rfl hB3 ?_
          refine s_move h rfl _ rfl rfl (by decide) rfl (fun a h => ?_)
          refine g_yes h rfl rfl rfl rfl hB3 ?_
          obtain ⟨x35, h36, hz32⟩ := bsome hz32
          have hX := path_Total_ok Fu (S0 := snapAll _) a0 hra0 _ h36 _ h.startAll
          refine q_callX hX h rfl rfl rfl (by decide) Try.func47 rfl rfl rfl (fun a w v L1 S1 hR hb1 h => ?_)
          obtain ⟨rfl, rfl, hr38, _⟩ := hR
          refine g_yes h rfl rfl rfl rfl hB3 ?_
          refine s_x h rfl rfl (by decide) (x_bin h.k rfl rfl rfl ib_eql) (fun a h => ?_)
          refine s_x h rfl rfl (by decide) (x_pick (u' := undef) h.k rfl rfl (fun _ => rfl) (fun hh => absurd (hB3.symm.trans hh) (by decide))) (fun a h => ?_)
          exact (h.mid 3 rfl).val (by rw [Option.some.inj hz32])
        · refine g_no h rfl rfl rfl rfl hB3 rfl (by decide) (fun a h => ?_)
          refine g_no h rfl rfl rfl rfl hB3 rfl (by decide) (fun a h => ?_)
          refine g_no h rfl rfl rfl rfl hB3 rfl (by decide) (fun a h => ?_)
          rw [if_neg (of_decide_eq_false hB3)] at hz32
          refine s_x h rfl rfl (by decide) (x_pick (u' := undef) h.k rfl rfl (fun hh => absurd (hB3.symm.trans hh) (by decide)) (fun _ => rfl)) (fun a h => ?_)
          exact (h.mid 3 rfl).val (by rw [Option.some.inj hz32])
        refine s_move h rfl _ rfl rfl (by decide) rfl (fun a h => ?_)
        obtain ⟨z40, hz39, hf⟩ := bsome hf
        refine q_grp h 5 (t := 69) 74 z40 rfl (fun hB8 => ?_) (fun hB8 => ?_) (fun a w h => ?_)
        · rw [if_pos hB8] at hz39
          refine g_yes h rfl rfl rfl rfl hB8 ?_
          refine s_move h rfl _ rfl rfl (by decide) rfl (fun a h => ?_)
          refine g_yes h rfl rfl rfl rfl hB8 ?_
          refine s_move h rfl _ rfl rfl (by decide) rfl (fun a h => ?_)
          refine g_yes h rfl rfl rfl rfl hB8 ?_
          obtain ⟨x42, h43, hz39⟩ := bsome hz39
          have hX := path_Count_ok Fu (S0 := snapAll _) a0 hra0 a1 hra1 _ h43 _ h.startAll
          refine q_callX hX h rfl rfl rfl (by decide) Try.func48 rfl rfl rfl (fun a w v L1 S1 hR hb1 h => ?_)
          obtain ⟨rfl, rfl, hr45, _⟩ := hR
          refine g_yes h rfl rfl rfl rfl hB8 ?_
          refine s_x h rfl rfl (by decide) (x_bin h.k rfl rfl rfl ib_eql) (fun a h => ?_)
          refine s_x h rfl rfl (by decide) (x_pick (u' := undef) h.k rfl rfl (fun _ => rfl) (fun hh => absurd (hB8.symm.trans hh) (by decide))) (fun a h => ?_)
          exact (h.mid 4 rfl).val (by rw [Option.some.inj hz39])
        · refine g_no h rfl rfl rfl rfl hB8 rfl (by decide) (fun a h => ?_)
          refine g_no h rfl rfl rfl rfl hB8 rfl (by decide) (fun a h => ?_)
          refine g_no h rfl rfl rfl rfl hB8 rfl (by decide) (fun a h => ?_)
          refine g_no h rfl rfl rfl rfl hB8 rfl (by decide) (fun a h => ?_)
          rw [if_neg (by rw [hB8]; decide)] at hz39
          refine s_x h rfl rfl (by decide) (x_pick (u' := undef) h.k rfl rfl (fun hh => absurd (hB8.symm.trans hh) (by decide)) (fun _ => rfl)) (fun a h => ?_)
          exact (h.mid 4 rfl).val (by rw [Option.some.inj hz39])
        refine s_move h rfl _ rfl rfl (by decide) rfl (fun a h => ?_)
        refine q_grp h 3 (t := 75) 78 (z40 && (!x20.2.2)) rfl (fun hB14 => ?_) (fun hB14 => ?_) (fun a w h => ?_)
        · refine g_yes h rfl rfl rfl rfl hB14 ?_
          refine s_move h rfl _ rfl rfl (by decide) rfl (fun a h => ?_)
          refine g_yes h rfl rfl rfl rfl hB14 ?_
          refine s_x h rfl rfl (by decide) (x_not h.k rfl rfl) (fun a h => ?_)
          refine s_x h rfl rfl (by decide) (x_pick (u' := undef) h.k rfl rfl (fun _ => rfl) (fun hh => absurd (hB14.symm.trans hh) (by decide))) (fun a h => ?_)
          exact (h.mid 2 rfl).val (by first | rfl | (rw [hB14]; first | rfl | simp))
        · refine g_no h rfl rfl rfl rfl hB14 rfl (by decide) (fun a h => ?_)
          refine g_no h rfl rfl rfl rfl hB14 rfl (by decide) (fun a h => ?_)
          refine s_x h rfl rfl (by decide) (x_pick (u' := undef) h.k rfl rfl (fun hh => absurd (hB14.symm.trans hh) (by decide)) (fun _ => rfl)) (fun a h => ?_)
          exact (h.mid 2 rfl).val (by first | rfl | (rw [hB14]; first | rfl | simp))
        refine s_assign h rfl _ rfl rfl (by decide) rfl (fun a h => ?_)
        refine l_end ?_
        refine wp_ret ?_
        refine e_thenR ?_
        obtain rfl := Option.some.inj hf
        exact r_ret1 h rfl (rv_tmp h rfl) ⟨_, [], _, rfl, ⟨rfl, rfl, trivial⟩, rfl, (Up.refl _ _ _), h.m⟩
      · rw [if_neg (by rw [hb]; decide)] at hf
        refine wp_skip ?_
        refine e_thenN ?_
        refine c_rs ?_ -- region 10
        refine s_move h rfl _ rfl rfl (by decide) rfl (fun a h => ?_)
        obtain ⟨x48, h49, hf⟩ := bsome hf
        have hX := chatelaineref20_Counts_ok Fu (S0 := snapAll _) a0 hra0 _ h49 _ h.startAll
        refine q_callX hX h rfl rfl rfl (by decide) Try.func49 rfl rfl rfl (fun a w v L1 S1 hR hb1 h => ?_)
        obtain ⟨A51, c52, cs53, rfl, rfl, hq54, _⟩ := hR
        have hq55 := hq54.fl (S' := S0) fl_I
        refine s_assign h rfl _ rfl rfl (by decide) rfl (fun a h => ?_)
        refine l_end ?_
        refine c_rs ?_ -- region 11
        refine s_assign h rfl _ rfl rfl (by decide) rfl (fun a h => ?_)
        refine l_end ?_
        refine wp_seq ?_
        refine c_rs ?_ -- region 12
        refine s_move h rfl _ rfl rfl (by decide) rfl (fun a h => ?_)
        have hr56 : r64 (x48.length : Int) := len_r (h.m.rowLen (i := 0) rfl)
        refine s_x h rfl rfl (by decide) (x_len h.k rfl Try.underlying78 rfl) (fun a h => ?_)
        refine s_move h rfl _ rfl rfl (by decide) rfl (fun a h => ?_)
        refine l_end ?_
        obtain ⟨o57, hl58, hf⟩ := bsome hf
        refine c_fin (fun a w => ∃ (x63 : Int), x63 = o57 ∧ r64 x63 ∧ St 154 w0 (ownL ([] ++ [.sn S0])) [(0, .int .i64 a0), (1, .int .i64 a1), (2, .int .i64 a2), (10, .int .i64 x20.1), (11, .int .i64 x20.2.1), (12, .bool x20.2.2), (13, .slice A51 x48.length c52), (14, .int .i64 x63)] [.row (.slice A51 x48.length c52) 3 1 x48.length cs53, .sn S0] a w) ?_ ?_
        · refine wp_block ?_
          refine c_loop (fun m66 a w => ∃ (x59 : Int), ∃ (x61 : Int), chatelainelaw20_PathPlaces_l0 Fu x48 m66 x59 x61 = some o57 ∧ r64 x59 ∧ r64 x61 ∧ St 154 w0 (ownL ([] ++ [.sn S0])) [(0, .int .i64 a0), (1, .int .i64 a1), (2, .int .i64 a2), (10, .int .i64 x20.1), (11, .int .i64 x20.2.1), (12, .bool x20.2.2), (13, .slice A51 x48.length c52), (14, .int .i64 x59), (81, .slice A51 x48.length c52), (82, .int .i64 (x48.length : Int)), (83, .int .i64 x61)] [.row (.slice A51 x48.length c52) 3 1 x48.length cs53, .sn S0] a w) Fu ⟨(-1), 0, hl58, (show r64 (-1) from ⟨by decide, by decide⟩), (show r64 0 from ⟨by decide, by decide⟩), h.has (by exact ⟨rfl, rfl, rfl, rfl, rfl, rfl, rfl, rfl, rfl, rfl, rfl, trivial⟩)⟩ (fun m66 a w hI => ?_)
          obtain ⟨x59, x61, hl65, hr60, hr62, h⟩ := hI
          obtain _ | m66 := m66
          · rw [chatelainelaw20_PathPlaces_l0] at hl65; cases hl65
          rw [chatelainelaw20_PathPlaces_l0] at hl65
          refine c_rs ?_ -- region 13
          refine s_x h rfl rfl (by decide) (x_bin h.k rfl rfl rfl ib_lss) (fun a h => ?_)
          refine l_end ?_
          refine c_cs h rfl (fun hb => ?_) (fun hb => ?_)
          · rw [if_pos (of_decide_eq_true hb)] at hl65
            refine wp_skip ?_
            refine e_thenN ?_
            refine wp_seq ?_
            refine wp_block ?_
            refine c_rs ?_ -- region 14
            obtain ⟨m67, h68, hl65⟩ := bsome hl65
            obtain ⟨hi69, hm70⟩ := ix_some h68
            obtain ⟨g72, hA71⟩ := h.m.rowHead (i := 0) rfl (Nat.lt_of_le_of_lt (Nat.zero_le _) hm70)
            refine s_x h rfl rfl (by decide) (x_iaddrE h.k rfl Try.underlying78 sz_int hA71 rfl rfl hi69 hm70) (fun a h => ?_)
            obtain ⟨x73, h74, hl65⟩ := bsome hl65
            obtain ⟨u75, hv76, hu77⟩ := (hq55).cell rfl h74
            obtain ⟨e79, hr78⟩ := hu77
            cases e79
            refine s_x h rfl rfl (by decide) (x_ld h.k rfl Try.underlying3 rfl rfl (h.m.cellRowE (i := 0) rfl hA71 _ (by rw [Nat.mul_one]; exact hv76))) (fun a h => ?_)
            refine s_assign h rfl _ rfl rfl (by decide) rfl (fun a h => ?_)
            refine l_end ?_
            refine c_r ?_ -- region 15
            refine s_move h rfl _ rfl rfl (by decide) rfl (fun a h => ?_)
            refine s_move h rfl _ rfl rfl (by decide) rfl (fun a h => ?_)
            refine s_x h rfl rfl (by decide) (x_bin h.k rfl rfl rfl (ib_add rfl)) (fun a h => ?_)
            refine s_assign h rfl _ rfl rfl (by decide) rfl (fun a h => ?_)
            refine l_nil ?_
            refine e_blkN ?_
            refine e_thenN ?_
            refine c_r ?_ -- region 16
            refine s_x h rfl rfl (by decide) (x_bin h.k rfl rfl rfl (ib_add rfl)) (fun a h => ?_)
            refine s_move h rfl _ rfl rfl (by decide) rfl (fun a h => ?_)
            refine l_nil ?_
            exact e_thenN ⟨m66, Nat.lt_succ_self _, w64 (x59 + x73), w64 (x61 + 1), hl65, (w64_r _), (w64_r _), h.has (by exact ⟨rfl, rfl, rfl, rfl, rfl, rfl, rfl, rfl, rfl, rfl, rfl, trivial⟩)⟩
          · rw [if_neg (of_decide_eq_false hb)] at hl65
            refine wp_exit ?_
            refine e_thenX ?_
            refine e_thenX ?_
            refine e_blkX ?_
            refine e_thenN ?_
            exact ⟨x59, (Option.some.inj hl65), hr60, h.has (by exact ⟨rfl, rfl, rfl, rfl, rfl, rfl, rfl, rfl, trivial⟩)⟩
        · rintro a w ⟨x63, rfl, hr64, h⟩
          refine e_thenN ?_
          refine c_rs ?_ -- region 17
          refine s_assign h rfl _ rfl rfl (by decide) rfl (fun a h => ?_)
          refine l_end ?_
          obtain ⟨o80, hc81, hf⟩ := bsome hf
          refine c_cut (fun a w => ∃ (x82 : Int), x82 = o80 ∧ r64 x82 ∧ St 154 w0 (ownL ([] ++ [.sn S0])) [(0, .int .i64 a0), (1, .int .i64 a1), (2, .int .i64 a2), (10, .int .i64 x20.1), (11, .int .i64 x20.2.1), (12, .bool x20.2.2), (13, .slice A51 x48.length c52), (14, .int .i64 x63), (17, .int .i64 x82)] [.row (.slice A51 x48.length c52) 3 1 x48.length cs53, .sn S0] a w) ?_ ?_
          · refine c_rs ?_ -- region 18
            refine s_move h rfl _ rfl rfl (by decide) rfl (fun a h => ?_)
            refine s_x h rfl rfl (by decide) (x_bin h.k rfl rfl rfl ib_geq) (fun a h => ?_)
            refine s_move h rfl _ rfl rfl (by decide) rfl (fun a h => ?_)
            refine q_grp h 5 (t := 93) 98 ((decide (0 ≤ a1)) && (decide (a1 < (x48.length : Int)))) rfl (fun hB2 => ?_) (fun hB2 => ?_) (fun a w h => ?_)
            · refine g_yes h rfl rfl rfl rfl hB2 ?_
              refine s_move h rfl _ rfl rfl (by decide) rfl (fun a h => ?_)
              refine g_yes h rfl rfl rfl rfl hB2 ?_
              refine s_move h rfl _ rfl rfl (by decide) rfl (fun a h => ?_)
              refine g_yes h rfl rfl rfl rfl hB2 ?_
              have hr86 : r64 (x48.length : Int) := len_r (h.m.rowLen (i := 0) rfl)
              refine s_x h rfl rfl (by decide) (x_len h.k rfl Try.underlying78 rfl) (fun a h => ?_)
              refine g_yes h rfl rfl rfl rfl hB2 ?_
              refine s_x h rfl rfl (by decide) (x_bin h.k rfl rfl rfl ib_lss) (fun a h => ?_)
              refine s_x h rfl rfl (by decide) (x_pick (u' := undef) h.k rfl rfl (fun _ => rfl) (fun hh => absurd (hB2.symm.trans hh) (by decide))) (fun a h => ?_)
              exact (h.mid 4 rfl).val (by first | rfl | (rw [hB2]; first | rfl | simp))
            · refine g_no h rfl rfl rfl rfl hB2 rfl (by decide) (fun a h => ?_)
              refine g_no h rfl rfl rfl rfl hB2 rfl (by decide) (fun a h => ?_)
              refine g_no h rfl rfl rfl rfl hB2 rfl (by decide) (fun a h => ?_)
              refine g_no h rfl rfl rfl rfl hB2 rfl (by decide) (fun a h => ?_)
              refine s_x h rfl rfl (by decide) (x_pick (u' := undef) h.k rfl rfl (fun hh => absurd (hB2.symm.trans hh) (by decide)) (fun _ => rfl)) (fun a h => ?_)
              exact (h.mid 4 rfl).val (by first | rfl | (rw [hB2]; first | rfl | simp))
            refine l_end ?_
            refine c_cond h rfl (fun hb => ?_) (fun hb => ?_)
            · rw [if_pos hb] at hc81
              refine c_r ?_ -- region 19
              refine s_move h rfl _ rfl rfl (by decide) rfl (fun a h => ?_)
              refine s_move h rfl _ rfl rfl (by decide) rfl (fun a h => ?_)
              obtain ⟨m87, h88, hc81⟩ := bsome hc81
              obtain ⟨hi89, hm90⟩ := ix_some h88
              obtain ⟨g92, hA91⟩ := h.m.rowHead (i := 0) rfl (Nat.lt_of_le_of_lt (Nat.zero_le _) hm90)
              refine s_x h rfl rfl (by decide) (x_iaddrE h.k rfl Try.underlying78 sz_int hA91 rfl rfl hi89 hm90) (fun a h => ?_)
              obtain ⟨x93, h94, hc81⟩ := bsome hc81
              obtain ⟨u95, hv96, hu97⟩ := (hq55).cell rfl h94
              obtain ⟨e99, hr98⟩ := hu97
              cases e99
              refine s_x h rfl rfl (by decide) (x_ld h.k rfl Try.underlying3 rfl rfl (h.m.cellRowE (i := 0) rfl hA91 _ (by rw [Nat.mul_one]; exact hv96))) (fun a h => ?_)
              refine s_assign h rfl _ rfl rfl (by decide) rfl (fun a h => ?_)
              refine l_nil ?_
              refine e_thenN ?_
              exact ⟨x93, (Option.some.inj hc81), hr98, h.has (by exact ⟨rfl, rfl, rfl, rfl, rfl, rfl, rfl, rfl, rfl, trivial⟩)⟩
            · rw [if_neg (by rw [hb]; decide)] at hc81
              refine wp_skip ?_
              refine e_thenN ?_
              exact ⟨0, (Option.some.inj hc81), (show r64 0 from ⟨by decide, by decide⟩), h.has (by exact ⟨rfl, rfl, rfl, rfl, rfl, rfl, rfl, rfl, rfl, trivial⟩)⟩
          · rintro a w ⟨x82, rfl, hr83, h⟩
            refine wp_seq ?_
            refine c_rs ?_ -- region 20
            refine s_move h rfl _ rfl rfl (by decide) rfl (fun a h => ?_)
            obtain ⟨x100, h101, hf⟩ := bsome hf
            have hX := path_Depth_ok Fu (S0 := snapAll _) a0 hra0 _ h101 _ h.startAll
            refine q_callX hX h rfl rfl rfl (by decide) Try.func46 rfl rfl rfl (fun a w v L1 S1 hR hb1 h => ?_)
            obtain ⟨rfl, rfl, hr103, _⟩ := hR
            refine s_move h rfl _ rfl rfl (by decide) rfl (fun a h => ?_)
            have hr104 : r64 (x48.length : Int) := len_r (h.m.rowLen (i := 0) rfl)
            refine s_x h rfl rfl (by decide) (x_len h.k rfl Try.underlying78 rfl) (fun a h => ?_)
            refine s_x h rfl rfl (by decide) (x_bin h.k rfl rfl rfl (ib_sub rfl)) (fun a h => ?_)
            refine s_x h rfl rfl (by decide) (x_bin h.k rfl rfl rfl ib_neq) (fun a h => ?_)
            refine s_move h rfl _ rfl rfl (by decide) rfl (fun a h => ?_)
            obtain ⟨z106, hz105, hf⟩ := bsome hf
            refine q_grp h 5 (t := 109) 114 z106 rfl (fun hB6 => ?_) (fun hB6 => ?_) (fun a w h => ?_)
            · refine g_no h rfl rfl rfl rfl hB6 rfl (by decide) (fun a h => ?_)
              refine g_no h rfl rfl rfl rfl hB6 rfl (by decide) (fun a h => ?_)
              refine g_no h rfl rfl rfl rfl hB6 rfl (by decide) (fun a h => ?_)
              refine g_no h rfl rfl rfl rfl hB6 rfl (by decide) (fun a h => ?_)
              rw [if_pos (of_decide_eq_true hB6)] at hz105
              refine s_x h rfl rfl (by decide) (x_pick (u' := undef) h.k rfl rfl (fun _ => rfl) (fun hh => absurd (hB6.symm.trans hh) (by decide))) (fun a h => ?_)
              exact (h.mid 4 rfl).val (by rw [Option.some.inj hz105])
            · rw [if_neg (of_decide_eq_false hB6)] at hz105
              refine g_yes h rfl rfl rfl rfl hB6 ?_
              refine s_move h rfl _ rfl rfl (by decide) rfl (fun a h => ?_)
              refine g_yes h rfl rfl rfl rfl hB6 ?_
              obtain ⟨x108, h109, hz105⟩ := bsome hz105
              have hX := path_Total_ok Fu (S0 := snapAll _) a0 hra0 _ h109 _ h.startAll
              refine q_callX hX h rfl rfl rfl (by decide) Try.func47 rfl rfl rfl (fun a w v L1 S1 hR hb1 h => ?_)
              obtain ⟨rfl, rfl, hr111, _⟩ := hR
              refine g_yes h rfl rfl rfl rfl hB6 ?_
              refine s_move h rfl _ rfl rfl (by decide) rfl (fun a h => ?_)
              refine g_yes h rfl rfl rfl rfl hB6 ?_
              refine s_x h rfl rfl (by decide) (x_bin h.k rfl rfl rfl ib_neq) (fun a h => ?_)
              refine s_x h rfl rfl (by decide) (x_pick (u' := undef) h.k rfl rfl (fun hh => absurd (hB6.symm.trans hh) (by decide)) (fun _ => rfl)) (fun a h => ?_)
              exact (h.mid 4 rfl).val (by rw [Option.some.inj hz105])
            refine s_move h rfl _ rfl rfl (by decide) rfl (fun a h => ?_)
            obtain ⟨z113, hz112, hf⟩ := bsome hf
            refine q_grp h 6 (t := 115) 121 z113 rfl (fun hB12 => ?_) (fun hB12 => ?_) (fun a w h => ?_)
            · refine g_no h rfl rfl rfl rfl hB12 rfl (by decide) (fun a h => ?_)
              refine g_no h rfl rfl rfl rfl hB12 rfl (by decide) (fun a h => ?_)
              refine g_no h rfl rfl rfl rfl hB12 rfl (by decide) (fun a h => ?_)
              refine g_no h rfl rfl rfl rfl hB12 rfl (by decide) (fun a h => ?_)
              refine g_no h rfl rfl rfl rfl hB12 rfl (by decide) (fun a h => ?_)
              rw [if_pos hB12] at hz112
              refine s_x h rfl rfl (by decide) (x_pick (u' := undef) h.k rfl rfl (fun _ => rfl) (fun hh => absurd (hB12.symm.trans hh) (by decide))) (fun a h => ?_)
              exact (h.mid 5 rfl).val (by rw [Option.some.inj hz112])
            · rw [if_neg (by rw [hB12]; decide)] at hz112
              refine g_yes h rfl rfl rfl rfl hB12 ?_
              refine s_move h rfl _ rfl rfl (by decide) rfl (fun a h => ?_)
              refine g_yes h rfl rfl rfl rfl hB12 ?_
              refine s_move h rfl _ rfl rfl (by decide) rfl (fun a h => ?_)
              refine g_yes h rfl rfl rfl rfl hB12 ?_
              obtain ⟨x115, h116, hz112⟩ := bsome hz112
              have hX := path_Count_ok Fu (S0 := snapAll _) a0 hra0 a1 hra1 _ h116 _ h.startAll
              refine q_callX hX h rfl rfl rfl (by decide) Try.func48 rfl rfl rfl (fun a w v L1 S1 hR hb1 h => ?_)
              obtain ⟨rfl, rfl, hr118, _⟩ := hR
              refine g_yes h rfl rfl rfl rfl hB12 ?_
              refine s_move h rfl _ rfl rfl (by decide) rfl (fun a h => ?_)
              refine g_yes h rfl rfl rfl rfl hB12 ?_
              refine s_x h rfl rfl (by decide) (x_bin h.k rfl rfl rfl ib_neq) (fun a h => ?_)
              refine s_x h rfl rfl (by decide) (x_pick (u' := undef) h.k rfl rfl (fun hh => absurd (hB12.symm.trans hh) (by decide)) (fun _ => rfl)) (fun a h => ?_)
              exact (h.mid 5 rfl).val (by rw [Option.some.inj hz112])
            refine l_end ?_
            refine c_cond h rfl (fun hb => ?_) (fun hb => ?_)
            · rw [if_pos hb] at hf
              refine c_rs ?_ -- region 21
              refine s_assign h rfl _ rfl rfl (by decide) rfl (fun a h => ?_)
              refine l_end ?_
              refine wp_ret ?_
              refine e_thenR ?_
              obtain rfl := Option.some.inj hf
              exact r_ret1 h rfl (rv_tmp h rfl) ⟨_, [], _, rfl, ⟨rfl, rfl, trivial⟩, rfl, (Up.refl _ _ _), (h.m.pick [1] _ (by decide) rfl)⟩
            · rw [if_neg (by rw [hb]; decide)] at hf
              refine wp_skip ?_
              refine e_thenN ?_
              refine c_rs ?_ -- region 22
              refine s_move h rfl _ rfl rfl (by decide) rfl (fun a h => ?_)
              refine s_move h rfl _ rfl rfl (by decide) rfl (fun a h => ?_)
              refine s_x h rfl rfl (by decide) (x_bin h.k rfl rfl rfl ib_geq) (fun a h => ?_)
              refine s_move h rfl _ rfl rfl (by decide) rfl (fun a h => ?_)
              refine q_grp h 4 (t := 125) 129 ((decide (0 ≤ a2)) && (decide (a2 < x63))) rfl (fun hB3 => ?_) (fun hB3 => ?_) (fun a w h => ?_)
              · refine g_yes h rfl rfl rfl rfl hB3 ?_
                refine s_move h rfl _ rfl rfl (by decide) rfl (fun a h => ?_)
                refine g_yes h rfl rfl rfl rfl hB3 ?_
                refine s_move h rfl _ rfl rfl (by decide) rfl (fun a h => ?_)
                refine g_yes h rfl rfl rfl rfl hB3 ?_
                refine s_x h rfl rfl (by decide) (x_bin h.k rfl rfl rfl ib_lss) (fun a h => ?_)
                refine s_x h rfl rfl (by decide) (x_pick (u' := undef) h.k rfl rfl (fun _ => rfl) (fun hh => absurd (hB3.symm.trans hh) (by decide))) (fun a h => ?_)
                exact (h.mid 3 rfl).val (by first | rfl | (rw [hB3]; first | rfl | simp))
              · refine g_no h rfl rfl rfl rfl hB3 rfl (by decide) (fun a h => ?_)
                refine g_no h rfl rfl rfl rfl hB3 rfl (by decide) (fun a h => ?_)
                refine g_no h rfl rfl rfl rfl hB3 rfl (by decide) (fun a h => ?_)
                refine s_x h rfl rfl (by decide) (x_pick (u' := undef) h.k rfl rfl (fun hh => absurd (hB3.symm.trans hh) (by decide)) (fun _ => rfl)) (fun a h => ?_)
                exact (h.mid 3 rfl).val (by first | rfl | (rw [hB3]; first | rfl | simp))
              refine s_x h rfl rfl (by decide) (x_eqlB h.k rfl Try.underlying4 rfl rfl) (fun a h => ?_)
              refine s_move h rfl _ rfl rfl (by decide) rfl (fun a h => ?_)
              obtain ⟨z122, hz121, hf⟩ := bsome hf
              refine q_grp h 22 (t := 131) 153 z122 rfl (fun hB9 => ?_) (fun hB9 => ?_) (fun a w h => ?_)
              · rw [if_pos hB9] at hz121
                refine g_yes h rfl rfl rfl rfl hB9 ?_
                refine s_move h rfl _ rfl rfl (by decide) rfl (fun a h => ?_)
                refine g_yes h rfl rfl rfl rfl hB9 ?_
                refine s_move h rfl _ rfl rfl (by decide) rfl (fun a h => ?_)
                obtain ⟨z125, hz124, hz121⟩ := bsome hz121
                refine q_grp h 7 (t := 133) 140 z125 rfl (fun hB11 => ?_) (fun hB11 => ?_) (fun a w h => ?_)
                · rw [if_pos hB11] at hz124
                  refine g_yes h rfl rfl rfl rfl hB11 ?_
                  refine s_move h rfl _ rfl rfl (by decide) rfl (fun a h => ?_)
                  refine g_yes h rfl rfl rfl rfl hB11 ?_
                  refine s_move h rfl _ rfl rfl (by decide) rfl (fun a h => ?_)
                  refine g_yes h rfl rfl rfl rfl hB11 ?_
                  refine s_move h rfl _ rfl rfl (by decide) rfl (fun a h => ?_)
                  refine g_yes h rfl rfl rfl rfl hB11 ?_
                  obtain ⟨x127, h128, hz124⟩ := bsome hz124
                  have hX := chatelaineref20_Place_ok Fu (S0 := snapAll _) a0 hra0 x20.1 hr23 x20.2.1 hr24 _ h128 _ h.startAll
                  refine q_callX hX h rfl rfl rfl (by decide) Try.func43 rfl rfl rfl (fun a w v L1 S1 hR hb1 h => ?_)
                  obtain ⟨rfl, rfl, hr130, _⟩ := hR
                  refine g_yes h rfl rfl rfl rfl hB11 ?_
                  refine s_move h rfl _ rfl rfl (by decide) rfl (fun a h => ?_)
                  refine g_yes h rfl rfl rfl rfl hB11 ?_
                  refine s_x h rfl rfl (by decide) (x_bin h.k rfl rfl rfl ib_eql) (fun a h => ?_)
                  refine g_yes h rfl rfl rfl rfl hB9 ?_
                  refine s_x h rfl rfl (by decide) (x_pick (u' := undef) h.k rfl rfl (fun _ => rfl) (fun hh => absurd (hB11.symm.trans hh) (by decide))) (fun a h => ?_)
                  exact (h.mid 6 rfl).val (by rw [Option.some.inj hz124])
                · refine g_no h rfl rfl rfl rfl hB11 rfl (by decide) (fun a h => ?_)
                  refine g_no h rfl rfl rfl rfl hB11 rfl (by decide) (fun a h => ?_)
                  refine g_no h rfl rfl rfl rfl hB11 rfl (by decide) (fun a h => ?_)
                  refine g_no h rfl rfl rfl rfl hB11 rfl (by decide) (fun a h => ?_)
                  refine g_no h rfl rfl rfl rfl hB11 rfl (by decide) (fun a h => ?_)
                  refine g_no h rfl rfl rfl rfl hB11 rfl (by decide) (fun a h => ?_)
                  rw [if_neg (by rw [hB11]; decide)] at hz124
                  refine g_yes h rfl rfl rfl rfl hB9 ?_
                  refine s_x h rfl rfl (by decide) (x_pick (u' := undef) h.k rfl rfl (fun hh => absurd (hB11.symm.trans hh) (by decide)) (fun _ => rfl)) (fun a h => ?_)
                  exact (h.mid 6 rfl).val (by rw [Option.some.inj hz124])
                refine g_yes h rfl rfl rfl rfl hB9 ?_
                refine s_move h rfl _ rfl rfl (by decide) rfl (fun a h => ?_)
                refine q_grp h 11 (t := 141) 152 (z125 || (((!x20.2.2) && (decide (x20.1 = 0))) && (decide (x20.2.1 = 0)))) rfl (fun hB19 => ?_) (fun hB19 => ?_) (fun a w h => ?_)
                · refine g_no h rfl rfl rfl rfl hB19 rfl (by decide) (fun a h => ?_)
                  refine g_no h rfl rfl rfl rfl hB19 rfl (by decide) (fun a h => ?_)
                  refine g_no h rfl rfl rfl rfl hB19 rfl (by decide) (fun a h => ?_)
                  refine g_off h rfl rfl rfl rfl rfl (by decide) (fun a h => ?_)
                  refine g_off h rfl rfl rfl rfl rfl (by decide) (fun a h => ?_)
                  refine g_no h rfl rfl rfl rfl hB19 rfl (by decide) (fun a h => ?_)
                  refine g_no h rfl rfl rfl rfl hB19 rfl (by decide) (fun a h => ?_)
                  refine g_off h rfl rfl rfl rfl rfl (by decide) (fun a h => ?_)
                  refine g_off h rfl rfl rfl rfl rfl (by decide) (fun a h => ?_)
                  refine g_no h rfl rfl rfl rfl hB19 rfl (by decide) (fun a h => ?_)
                  refine g_yes h rfl rfl rfl rfl hB9 ?_
                  refine s_x h rfl rfl (by decide) (x_pick (u' := undef) h.k rfl rfl (fun _ => rfl) (fun hh => absurd (hB19.symm.trans hh) (by decide))) (fun a h => ?_)
                  exact (h.mid 10 rfl).val (by first | rfl | (rw [hB19]; first | rfl | simp))
                · refine g_yes h rfl rfl rfl rfl hB19 ?_
                  refine s_move h rfl _ rfl rfl (by decide) rfl (fun a h => ?_)
                  refine g_yes h rfl rfl rfl rfl hB19 ?_
                  refine s_x h rfl rfl (by decide) (x_not h.k rfl rfl) (fun a h => ?_)
                  refine g_yes h rfl rfl rfl rfl hB19 ?_
                  refine s_move h rfl _ rfl rfl (by decide) rfl (fun a h => ?_)
                  refine q_grp h 3 (t := 144) 147 ((!x20.2.2) && (decide (x20.1 = 0))) rfl (fun hB22 => ?_) (fun hB22 => ?_) (fun a w h => ?_)
                  · refine g_yes h rfl rfl rfl rfl hB22 ?_
                    refine s_move h rfl _ rfl rfl (by decide) rfl (fun a h => ?_)
                    refine g_yes h rfl rfl rfl rfl hB22 ?_
                    refine s_x h rfl rfl (by decide) (x_bin h.k rfl rfl rfl ib_eql) (fun a h => ?_)
                    refine g_yes h rfl rfl rfl rfl hB19 ?_
                    refine s_x h rfl rfl (by decide) (x_pick (u' := undef) h.k rfl rfl (fun _ => rfl) (fun hh => absurd (hB22.symm.trans hh) (by decide))) (fun a h => ?_)
                    exact (h.mid 2 rfl).val (by first | rfl | (rw [hB22]; first | rfl | simp))
                  · refine g_no h rfl rfl rfl rfl hB22 rfl (by decide) (fun a h => ?_)
                    refine g_no h rfl rfl rfl rfl hB22 rfl (by decide) (fun a h => ?_)
                    refine g_yes h rfl rfl rfl rfl hB19 ?_
                    refine s_x h rfl rfl (by decide) (x_pick (u' := undef) h.k rfl rfl (fun hh => absurd (hB22.symm.trans hh) (by decide)) (fun _ => rfl)) (fun a h => ?_)
                    exact (h.mid 2 rfl).val (by first | rfl | (rw [hB22]; first | rfl | simp))
                  refine g_yes h rfl rfl rfl rfl hB19 ?_
                  refine s_move h rfl _ rfl rfl (by decide) rfl (fun a h => ?_)
                  refine q_grp h 3 (t := 148) 151 (((!x20.2.2) && (decide (x20.1 = 0))) && (decide (x20.2.1 = 0))) rfl (fun hB26 => ?_) (fun hB26 => ?_) (fun a w h => ?_)
                  · refine g_yes h rfl rfl rfl rfl hB26 ?_
                    refine s_move h rfl _ rfl rfl (by decide) rfl (fun a h => ?_)
                    refine g_yes h rfl rfl rfl rfl hB26 ?_
                    refine s_x h rfl rfl (by decide) (x_bin h.k rfl rfl rfl ib_eql) (fun a h => ?_)
                    refine g_yes h rfl rfl rfl rfl hB19 ?_
                    refine s_x h rfl rfl (by decide) (x_pick (u' := undef) h.k rfl rfl (fun _ => rfl) (fun hh => absurd (hB26.symm.trans hh) (by decide))) (fun a h => ?_)
                    exact (h.mid 2 rfl).val (by first | rfl | (rw [hB26]; first | rfl | simp))
                  · refine g_no h rfl rfl rfl rfl hB26 rfl (by decide) (fun a h => ?_)
                    refine g_no h rfl rfl rfl rfl hB26 rfl (by decide) (fun a h => ?_)
                    refine g_yes h rfl rfl rfl rfl hB19 ?_
                    refine s_x h rfl rfl (by decide) (x_pick (u' := undef) h.k rfl rfl (fun hh => absurd (hB26.symm.trans hh) (by decide)) (fun _ => rfl)) (fun a h => ?_)
                    exact (h.mid 2 rfl).val (by first | rfl | (rw [hB26]; first | rfl | simp))
                  refine g_yes h rfl rfl rfl rfl hB9 ?_
                  refine s_x h rfl rfl (by decide) (x_pick (u' := undef) h.k rfl rfl (fun hh => absurd (hB19.symm.trans hh) (by decide)) (fun _ => rfl)) (fun a h => ?_)
                  exact (h.mid 6 rfl).val (by first | rfl | (rw [hB19]; first | rfl | simp))
                refine s_x h rfl rfl (by decide) (x_pick (u' := undef) h.k rfl rfl (fun _ => rfl) (fun hh => absurd (hB9.symm.trans hh) (by decide))) (fun a h => ?_)
                exact (h.mid 5 rfl).val (by rw [Option.some.inj hz121])
              · refine g_no h rfl rfl rfl rfl hB9 rfl (by decide) (fun a h => ?_)
                refine g_no h rfl rfl rfl rfl hB9 rfl (by decide) (fun a h => ?_)
                refine g_off h rfl rfl rfl rfl rfl (by decide) (fun a h => ?_)
                refine g_off h rfl rfl rfl rfl rfl (by decide) (fun a h => ?_)
                refine g_off h rfl rfl rfl rfl rfl (by decide) (fun a h => ?_)
                refine g_off h rfl rfl rfl rfl rfl (by decide) (fun a h => ?_)
                refine g_off h rfl rfl rfl rfl rfl (by decide) (fun a h => ?_)
                refine g_off h rfl rfl rfl rfl rfl (by decide) (fun a h => ?_)
                refine g_no h rfl rfl rfl rfl hB9 rfl (by decide) (fun a h => ?_)
                refine g_no h rfl rfl rfl rfl hB9 rfl (by decide) (fun a h => ?_)
                refine g_off h rfl rfl rfl rfl rfl (by decide) (fun a h => ?_)
                refine g_off h rfl rfl rfl rfl rfl (by decide) (fun a h => ?_)
                refine g_off h rfl rfl rfl rfl rfl (by decide) (fun a h => ?_)
                refine g_off h rfl rfl rfl rfl rfl (by decide) (fun a h => ?_)
                refine g_off h rfl rfl rfl rfl rfl (by decide) (fun a h => ?_)
                refine g_off h rfl rfl rfl rfl rfl (by decide) (fun a h => ?_)
                refine g_off h rfl rfl rfl rfl rfl (by decide) (fun a h => ?_)
                refine g_off h rfl rfl rfl rfl rfl (by decide) (fun a h => ?_)
                refine g_off h rfl rfl rfl rfl rfl (by decide) (fun a h => ?_)
                refine g_off h rfl rfl rfl rfl rfl (by decide) (fun a h => ?_)
                refine g_no h rfl rfl rfl rfl hB9 rfl (by decide) (fun a h => ?_)
                rw [if_neg (by rw [hB9]; decide)] at hz121
                refine s_x h rfl rfl (by decide) (x_pick (u' := undef) h.k rfl rfl (fun hh => absurd (hB9.symm.trans hh) (by decide)) (fun _ => rfl)) (fun a h => ?_)
                exact (h.mid 21 rfl).val (by rw [Option.some.inj hz121])
              refine s_assign h rfl _ rfl rfl (by decide) rfl (fun a h => ?_)
              refine l_end ?_
              refine wp_ret ?_
              obtain rfl := Option.some.inj hf
              exact r_ret1 h rfl (rv_tmp h rfl) ⟨_, [], _, rfl, ⟨rfl, rfl, trivial⟩, rfl, (Up.refl _ _ _), (h.m.pick [1] _ (by decide) rfl)⟩
def chatelainelaw20_PathWays_l1 (Fu : Nat) (x4 : (List Int)) (x35 : Int) (x56 : (List Int)) : Nat → Bool → Int → Option Bool
  | 0, _, _ => none
  | k + 1, x67, x68 => if x68 < (x56.length : Int) then ((ix x56.length x68).bind fun m73 => (x56[m73]?).bind fun x79 => (if x67 = true then some true else (ix x4.length (w64 (x35 - 1))).bind fun m89 => (x4[m89]?).bind fun x95 => some (decide (x79 = x95))).bind fun z87 => chatelainelaw20_PathWays_l1 Fu x4 x35 x56 k z87 (w64 (x68 + 1))) else (some x67)
def chatelainelaw20_PathWays_l0 (Fu : Nat) (a0 : Int) (x4 : (List Int)) : Nat → Int → Int → Option (Sum Bool Unit)
  | 0, _, _ => none
  | k + 1, x33, x35 => if 1 ≤ x35 then ((ix x4.length (w64 (x35 - 1))).bind fun m39 => (x4[m39]?).bind fun x45 => (chatelaineref20_Place Fu a0 x35 x33).bind fun x52 => if x45 ≠ x52 then (some (.inl false)) else ((path_Children Fu a0 (w64 (x35 - 1)) (w64 (Int.tdiv x33 4))).bind fun x56 => (chatelainelaw20_PathWays_l1 Fu x4 x35 x56 Fu false 0).bind fun x70 => if (!x70) = true then (some (.inl false)) else (chatelainelaw20_PathWays_l0 Fu a0 x4 k (w64 (Int.tdiv x33 4)) (w64 (x35 - 1))))) else (some (.inr ()))
def chatelainelaw20_PathWays_l2 (Fu : Nat) (x20 : (List Int)) (x103 : Int) : Nat → Int → Int → Option Int
  | 0, _, _ => none
  | k + 1, x108, x110 => if x110 < w64 ((w64 ((x20.length : Int) - 1)) - x103) then (chatelainelaw20_PathWays_l2 Fu x20 x103 k (w64 (Int.tdiv x108 4)) (w64 (x110 + 1))) else (some x108)
def chatelainelaw20_PathWays_l3 (Fu : Nat) (a0 : Int) (x103 : Int) (x112 : Int) : Nat → (List Int) → Int → Int → Option (Sum Bool ((List Int) × Int))
  | 0, _, _, _ => none
  | k + 1, x132, x137, x139 => if x139 < w64 ((w64 (4 * x112)) + 4) then (((chatelaineref20_Place Fu a0 (w64 (x103 + 1)) x139).bind fun x160 => if 0 ≤ x160 then ((app 8 x132 ([x160])).bind fun x166 => (path_Below Fu a0 (w64 (x103 + 1)) x139).bind fun x172 => if ((decide (x172.1 ≠ x137)) || (decide (x172.2 ≤ x172.1))) = true then (some (.inl false)) else (some (.inr (x172.2, x166)))) else (some (.inr (x137, x132))) : Option (Sum Bool (Int × (List Int)))).bind fun o => match o with | .inl r179 => some (.inl r179) | .inr (x153, x155) => chatelainelaw20_PathWays_l3 Fu a0 x103 x112 k x155 x153 (w64 (x139 + 1))) else (some (.inr (x132, x137)))
def chatelainelaw20_PathWays (Fu : Nat) (a0 : Int) (a1 : Int) (a2 : UInt8) : Option Bool :=
  (chatelainelaw20_awake Fu).bind fun x1 => if (!x1) = true then (some false) else ((path_Path Fu a0 a1).bind fun x4 => (chatelaineref20_May Fu a0).bind fun x12 => if (((!x12) || (decide (a1 < 0))) || (decide (a0 ≤ a1))) = true then (some (decide ((x4.length : Int) = 0))) else ((chatelaineref20_Counts Fu a0).bind fun x20 => if (x4.length : Int) ≠ w64 ((x20.length : Int) - 1) then (some false) else ((chatelainelaw20_PathWays_l0 Fu a0 x4 Fu a1 (w64 ((x20.length : Int) - 1))).bind fun o => match o with | .inl r204 => some r204 | .inr _ => (remI (a2.toNat : Int) (x20.length : Int)).bind fun x103 => (chatelainelaw20_PathWays_l2 Fu x20 x103 Fu a1 0).bind fun x112 => (path_Below Fu a0 x103 x112).bind fun x116 => (chatelainelaw20_PathWays_l3 Fu a0 x103 x112 Fu ([]) x116.1 (w64 (4 * x112))).bind fun o => match o with | .inl r203 => some r203 | .inr (x141, x146) => if ((((decide (a1 < x116.1)) || (decide (x116.2 ≤ a1))) || ((decide (x103 < w64 ((x20.length : Int) - 1))) && (decide (x146 ≠ x116.2)))) || ((decide (x103 = w64 ((x20.length : Int) - 1))) && (decide (x116.2 ≠ w64 (x116.1 + 1))))) = true then (some false) else ((path_Children Fu a0 x103 x112).bind fun x192 => (chatelaineref01_Ints Fu x192 x141).bind fun x200 => some x200))))
set_option maxRecDepth 100000 in
set_option maxHeartbeats 2000000 in
theorem chatelainelaw20_PathWays_ok (Fu : Nat) {S0 : Snap} (a0 : Int) (hra0 : r64 a0) (a1 : Int) (hra1 : r64 a1) (a2 : UInt8) (r : Bool) (hf : chatelainelaw20_PathWays Fu a0 a1 a2 = some r) (w0 : World) (hm : Mem w0 (ownL ([] ++ [.sn S0])) ([] ++ [.sn S0]) w0) :
    Calls Try.prog 11 #[.int .i64 a0, .int .i64 a1, .int .u8 (a2.toNat : Int)] w0 (Ret w0 S0 [] (fun v L1 S1 => v = .bool r ∧ L1 = [] ∧ True)) := by
  unfold chatelainelaw20_PathWays at hf
  refine c_enterM Try.func11 rfl 197 rfl (by simp) _ hm _ rfl (fun a h => ?_)
  refine c_rs ?_ -- region 0
  refine s_assign h rfl _ rfl rfl (by decide) rfl (fun a h => ?_)
  refine l_end ?_
  refine wp_seq ?_
  refine c_rs ?_ -- region 1
  obtain ⟨x1, h2, hf⟩ := bsome hf
  have hX := chatelainelaw20_awake_ok Fu (S0 := snapAll _)  _ h2 _ h.startAll
  refine q_callX hX h rfl rfl rfl (by decide) Try.func41 rfl rfl rfl (fun a w v L1 S1 hR hb1 h => ?_)
  obtain ⟨rfl, rfl, _⟩ := hR
  refine s_x h rfl rfl (by decide) (x_not h.k rfl rfl) (fun a h => ?_)
  refine l_end ?_
  refine c_cond h rfl (fun hb => ?_) (fun hb => ?_)
  · rw [if_pos hb] at hf
    refine c_rs ?_ -- region 2
    refine s_assign h rfl _ rfl rfl (by decide) rfl (fun a h => ?_)
    refine l_end ?_
    refine wp_ret ?_
    refine e_thenR ?_
    obtain rfl := Option.some.inj hf
    exact r_ret1 h rfl (rv_tmp h rfl) ⟨_, [], _, rfl, ⟨rfl, rfl, trivial⟩, rfl, (Up.refl _ _ _), h.m⟩
  · rw [if_neg (by rw [hb]; decide)] at hf
    refine wp_skip ?_
    refine e_thenN ?_
    refine c_rs ?_ -- region 3
    refine s_move h rfl _ rfl rfl (by decide) rfl (fun a h => ?_)
    refine s_move h rfl _ rfl rfl (by decide) rfl (fun a h => ?_)
    obtain ⟨x4, h5, hf⟩ := bsome hf
    have hX := path_Path_ok Fu (S0 := snapAll _) a0 hra0 a1 hra1 _ h5 _ h.startAll
    refine q_callX hX h rfl rfl rfl (by decide) Try.func58 rfl rfl rfl (fun a w v L1 S1 hR hb1 h => ?_)
    obtain ⟨A7, c8, cs9, rfl, rfl, hq10, _⟩ := hR
    have hq11 := hq10.fl (S' := S0) fl_I
    refine s_assign h rfl _ rfl rfl (by decide) rfl (fun a h => ?_)
    refine l_end ?_
    refine wp_seq ?_
    refine c_rs ?_ -- region 4
    refine s_move h rfl _ rfl rfl (by decide) rfl (fun a h => ?_)
    obtain ⟨x12, h13, hf⟩ := bsome hf
    have hX := chatelaineref20_May_ok Fu (S0 := snapAll _) a0 hra0 _ h13 _ h.startAll
    refine q_callX hX h rfl rfl rfl (by decide) Try.func45 rfl rfl rfl (fun a w v L1 S1 hR hb1 h => ?_)
    obtain ⟨rfl, rfl, _⟩ := hR
    refine s_x h rfl rfl (by decide) (x_not h.k rfl rfl) (fun a h => ?_)
    refine s_move h rfl _ rfl rfl (by decide) rfl (fun a h => ?_)
    refine q_grp h 3 (t := 32) 35 ((!x12) || (decide (a1 < 0))) rfl (fun hB3 => ?_) (fun hB3 => ?_) (fun a w h => ?_)
    · refine g_no h rfl rfl rfl rfl hB3 rfl (by decide) (fun a h => ?_)
      refine g_no h rfl rfl rfl rfl hB3 rfl (by decide) (fun a h => ?_)
      refine s_x h rfl rfl (by decide) (x_pick (u' := undef) h.k rfl rfl (fun _ => rfl) (fun hh => absurd (hB3.symm.trans hh) (by decide))) (fun a h => ?_)
      exact (h.mid 2 rfl).val (by first | rfl | (rw [hB3]; first | rfl | simp))
    · refine g_yes h rfl rfl rfl rfl hB3 ?_
      refine s_move h rfl _ rfl rfl (by decide) rfl (fun a h => ?_)
      refine g_yes h rfl rfl rfl rfl hB3 ?_
      refine s_x h rfl rfl (by decide) (x_bin h.k rfl rfl rfl ib_lss) (fun a h => ?_)
      refine s_x h rfl rfl (by decide) (x_pick (u' := undef) h.k rfl rfl (fun hh => absurd (hB3.symm.trans hh) (by decide)) (fun _ => rfl)) (fun a h => ?_)
      exact (h.mid 2 rfl).val (by first | rfl | (rw [hB3]; first | rfl | simp))
    refine s_move h rfl _ rfl rfl (by decide) rfl (fun a h => ?_)
    refine q_grp h 4 (t := 36) 40 (((!x12) || (decide (a1 < 0))) || (decide (a0 ≤ a1))) rfl (fun hB7 => ?_) (fun hB7 => ?_) (fun a w h => ?_)
    · refine g_no h rfl rfl rfl rfl hB7 rfl (by decide) (fun a h => ?_)
      refine g_no h rfl rfl rfl rfl hB7 rfl (by decide) (fun a h => ?_)
      refine g_no h rfl rfl rfl rfl hB7 rfl (by decide) (fun a h => ?_)
      refine s_x h rfl rfl (by decide) (x_pick (u' := undef) h.k rfl rfl (fun _ => rfl) (fun hh => absurd (hB7.symm.trans hh) (by decide))) (fun a h => ?_)
      exact (h.mid 3 rfl).val (by first | rfl | (rw [hB7]; first | rfl | simp))
    · refine g_yes h rfl rfl rfl rfl hB7 ?_
      refine s_move h rfl _ rfl rfl (by decide) rfl (fun a h => ?_)
      refine g_yes h rfl rfl rfl rfl hB7 ?_
      refine s_move h rfl _ rfl rfl (by decide) rfl (fun a h => ?_)
      refine g_yes h rfl rfl rfl rfl hB7 ?_
      refine s_x h rfl rfl (by decide) (x_bin h.k rfl rfl rfl ib_geq) (fun a h => ?_)
      refine s_x h rfl rfl (by decide) (x_pick (u' := undef) h.k rfl rfl (fun hh => absurd (hB7.symm.trans hh) (by decide)) (fun _ => rfl)) (fun a h => ?_)
      exact (h.mid 3 rfl).val (by first | rfl | (rw [hB7]; first | rfl | simp))
    refine l_end ?_
    refine c_cond h rfl (fun hb => ?_) (fun hb => ?_)
    · rw [if_pos hb] at hf
      refine c_rs ?_ -- region 5
      refine s_move h rfl _ rfl rfl (by decide) rfl (fun a h => ?_)
      have hr19 : r64 (x4.length : Int) := len_r (h.m.rowLen (i := 0) rfl)
      refine s_x h rfl rfl (by decide) (x_len h.k rfl Try.underlying78 rfl) (fun a h => ?_)
      refine s_x h rfl rfl (by decide) (x_bin h.k rfl rfl rfl ib_eql) (fun a h => ?_)
      refine s_assign h rfl _ rfl rfl (by decide) rfl (fun a h => ?_)
      refine l_end ?_
      refine wp_ret ?_
      refine e_thenR ?_
      obtain rfl := Option.some.inj hf
      exact r_ret1 h rfl (rv_tmp h rfl) ⟨_, [], _, rfl, ⟨rfl, rfl, trivial⟩, rfl, (Up.refl _ _ _), (h.m.pick [1] _ (by decide) rfl)⟩
    · rw [if_neg (by rw [hb]; decide)] at hf
      refine wp_skip ?_
      refine e_thenN ?_
      refine c_rs ?_ -- region 6
      refine s_move h rfl _ rfl rfl (by decide) rfl (fun a h => ?_)
      obtain ⟨x20, h21, hf⟩ := bsome hf
      have hX := chatelaineref20_Counts_ok Fu (S0 := snapAll _) a0 hra0 _ h21 _ h.startAll
      refine q_callX hX h rfl rfl rfl (by decide) Try.func49 rfl rfl rfl (fun a w v L1 S1 hR hb1 h => ?_)
      obtain ⟨A23, c24, cs25, rfl, rfl, hq26, _⟩ := hR
      have hq27 := hq26.fl (S' := S0) fl_I
      refine s_assign h rfl _ rfl rfl (by decide) rfl (fun a h => ?_)
      refine l_end ?_
      refine wp_seq ?_
      refine c_rs ?_ -- region 7
      refine s_move h rfl _ rfl rfl (by decide) rfl (fun a h => ?_)
      have hr28 : r64 (x4.length : Int) := len_r (h.m.rowLen (i := 1) rfl)
      refine s_x h rfl rfl (by decide) (x_len h.k rfl Try.underlying78 rfl) (fun a h => ?_)
      refine s_move h rfl _ rfl rfl (by decide) rfl (fun a h => ?_)
      have hr29 : r64 (x20.length : Int) := len_r (h.m.rowLen (i := 0) rfl)
      refine s_x h rfl rfl (by decide) (x_len h.k rfl Try.underlying78 rfl) (fun a h => ?_)
      refine s_x h rfl rfl (by decide) (x_bin h.k rfl rfl rfl (ib_sub rfl)) (fun a h => ?_)
      refine s_x h rfl rfl (by decide) (x_bin h.k rfl rfl rfl ib_neq) (fun a h => ?_)
      refine l_end ?_
      refine c_cond h rfl (fun hb => ?_) (fun hb => ?_)
      · rw [if_pos (of_decide_eq_true hb)] at hf
        refine c_rs ?_ -- region 8
        refine s_assign h rfl _ rfl rfl (by decide) rfl (fun a h => ?_)
        refine l_end ?_
        refine wp_ret ?_
        refine e_thenR ?_
        obtain rfl := Option.some.inj hf
        exact r_ret1 h rfl (rv_tmp h rfl) ⟨_, [], _, rfl, ⟨rfl, rfl, trivial⟩, rfl, (Up.refl _ _ _), (h.m.pick [2] _ (by decide) rfl)⟩
      · rw [if_neg (of_decide_eq_false hb)] at hf
        refine wp_skip ?_
        refine e_thenN ?_
        refine c_rs ?_ -- region 9
        refine s_move h rfl _ rfl rfl (by decide) rfl (fun a h => ?_)
        refine s_assign h rfl _ rfl rfl (by decide) rfl (fun a h => ?_)
        refine l_end ?_
        refine wp_seq ?_
        refine c_rs ?_ -- region 10
        refine s_move h rfl _ rfl rfl (by decide) rfl (fun a h => ?_)
        have hr30 : r64 (x20.length : Int) := len_r (h.m.rowLen (i := 0) rfl)
        refine s_x h rfl rfl (by decide) (x_len h.k rfl Try.underlying78 rfl) (fun a h => ?_)
        refine s_x h rfl rfl (by decide) (x_bin h.k rfl rfl rfl (ib_sub rfl)) (fun a h => ?_)
        refine s_assign h rfl _ rfl rfl (by decide) rfl (fun a h => ?_)
        refine l_end ?_
        obtain ⟨o31, hl32, hf⟩ := bsome hf
        refine c_fin (fun a w => (.inr ()) = o31 ∧ St 197 w0 (ownL ([] ++ [.sn S0])) [(0, .int .i64 a0), (1, .int .i64 a1), (2, .int .u8 (a2.toNat : Int)), (8, .slice A23 x20.length c24)] [.row (.slice A23 x20.length c24) 3 1 x20.length cs25, .sn S0] a w) ?_ ?_
        · refine wp_block ?_
          have h := h.pick [1, 0, 2] (by decide) rfl
          refine c_loop (fun m38 a w => ∃ (x33 : Int), ∃ (x35 : Int), chatelainelaw20_PathWays_l0 Fu a0 x4 m38 x33 x35 = some o31 ∧ r64 x33 ∧ r64 x35 ∧ St 197 w0 (ownL ([] ++ [.sn S0])) [(0, .int .i64 a0), (1, .int .i64 a1), (2, .int .u8 (a2.toNat : Int)), (7, .slice A7 x4.length c8), (8, .slice A23 x20.length c24), (9, .int .i64 x33), (10, .int .i64 x35)] [.row (.slice A7 x4.length c8) 3 1 x4.length cs9, .row (.slice A23 x20.length c24) 3 1 x20.length cs25, .sn S0] a w) Fu ⟨a1, w64 ((x20.length : Int) - 1), hl32, hra1, (w64_r _), h.has (by exact ⟨rfl, rfl, rfl, rfl, rfl, rfl, rfl, trivial⟩)⟩ (fun m38 a w hI => ?_)
          obtain ⟨x33, x35, hl37, hr34, hr36, h⟩ := hI
          obtain _ | m38 := m38
          · rw [chatelainelaw20_PathWays_l0] at hl37; cases hl37
          rw [chatelainelaw20_PathWays_l0] at hl37
          refine wp_seq ?_
          refine c_rs ?_ -- region 11
          refine s_move h rfl _ rfl rfl (by decide) rfl (fun a h => ?_)
          refine s_x h rfl rfl (by decide) (x_bin h.k rfl rfl rfl ib_geq) (fun a h => ?_)
          refine l_end ?_
          refine c_cond h rfl (fun hb => ?_) (fun hb => ?_)
          · rw [if_pos (of_decide_eq_true hb)] at hl37
            refine wp_skip ?_
            refine e_thenN ?_
            refine wp_seq ?_
            refine wp_block ?_
            refine wp_seq ?_
            refine wp_seq ?_
            -- region 13 draws
            obtain ⟨m39, h40, hl37⟩ := bsome hl37
            obtain ⟨x45, h46, hl37⟩ := bsome hl37
            obtain ⟨x52, h53, hl37⟩ := bsome hl37
            refine d_start h (Mem _ _ _) 10 10 rfl (by kernel_rfl) (fun _ _ _ _ _ h => h) (fun _ h => h) (fun Q a w HE HN h HS => ?_)
            refine d_takeP h (fun _ => HS) HN 0 rfl (by kernel_rfl) (by kernel_rfl) (by kernel_rfl) (by decide) rfl rfl (by decide) (fun w' => x_move h.k _ rfl rfl) (fun a h => ?_)
            refine d_takeP h (fun _ => HS) HN 1 rfl (by kernel_rfl) (by kernel_rfl) (by kernel_rfl) (by decide) rfl rfl (by decide) (fun w' => x_move h.k _ rfl rfl) (fun a h => ?_)
            refine d_takeP h (fun _ => HS) HN 2 rfl (by kernel_rfl) (by kernel_rfl) (by kernel_rfl) (by decide) rfl rfl (by decide) (fun w' => x_bin h.k rfl rfl rfl (ib_sub rfl)) (fun a h => ?_)
            obtain ⟨hi41, hm42⟩ := ix_some h40
            obtain ⟨g44, hA43⟩ := h.m.rowHead (i := 0) rfl (Nat.lt_of_le_of_lt (Nat.zero_le _) hm42)
            refine d_takeP h (fun _ => HS) HN 3 rfl (by kernel_rfl) (by kernel_rfl) (by kernel_rfl) (by decide) rfl rfl (by decide) (fun w' => x_iaddrE h.k rfl Try.underlying78 sz_int hA43 rfl rfl hi41 hm42) (fun a h => ?_)
            obtain ⟨u47, hv48, hu49⟩ := (hq11).cell rfl h46
            obtain ⟨e51, hr50⟩ := hu49
            cases e51
            refine d_take h HS HN 4 rfl (by kernel_rfl) (by kernel_rfl) (by kernel_rfl) (by kernel_rfl) (by kernel_rfl) rfl rfl (by decide) (fun w' hw => x_ld h.k rfl Try.underlying3 rfl rfl (hw.cellRowE (i := 0) rfl hA43 _ (by rw [Nat.mul_one]; exact hv48))) (fun a h => ?_)
            refine d_takeP h (fun _ => HS) HN 5 rfl (by kernel_rfl) (by kernel_rfl) (by kernel_rfl) (by decide) rfl rfl (by decide) (fun w' => x_move h.k _ rfl rfl) (fun a h => ?_)
            refine d_takeP h (fun _ => HS) HN 6 rfl (by kernel_rfl) (by kernel_rfl) (by kernel_rfl) (by decide) rfl rfl (by decide) (fun w' => x_move h.k _ rfl rfl) (fun a h => ?_)
            refine d_takeP h (fun _ => HS) HN 7 rfl (by kernel_rfl) (by kernel_rfl) (by kernel_rfl) (by decide) rfl rfl (by decide) (fun w' => x_move h.k _ rfl rfl) (fun a h => ?_)
            refine d_alone 8 rfl (by kernel_rfl) (fun K hK => ?_)
            have hX := chatelaineref20_Place_ok Fu (S0 := snapAll _) a0 hra0 x35 hr36 x33 hr34 _ h53 _ h.startAll
            refine q_callX hX h rfl rfl rfl (by decide) Try.func43 rfl rfl rfl (fun a w v L1 S1 hR hb1 h => ?_)
            obtain ⟨rfl, rfl, hr55, _⟩ := hR
            refine hK _ _ (fun _ _ => HS.ext hb1) ?_
            replace HS := HS.ext hb1
            clear hK
            refine d_takeP h (fun _ => HS) HN 9 rfl (by kernel_rfl) (by kernel_rfl) (by kernel_rfl) (by decide) rfl rfl (by decide) (fun w' => x_bin h.k rfl rfl rfl ib_neq) (fun a h => ?_)
            refine d_done (by kernel_rfl) (HE _ _ ?_) _
            refine e_thenN ?_
            refine c_cond h rfl (fun hb => ?_) (fun hb => ?_)
            · rw [if_pos (of_decide_eq_true hb)] at hl37
              refine c_rs ?_ -- region 14
              refine s_assign h rfl _ rfl rfl (by decide) rfl (fun a h => ?_)
              refine l_end ?_
              refine wp_ret ?_
              refine e_thenR ?_
              refine e_blkR ?_
              refine e_thenR ?_
              refine e_thenR ?_
              refine e_blkR ?_
              refine e_thenR ?_
              cases hl37
              try dsimp only at hf
              refine e_thenR ?_
              obtain rfl := Option.some.inj hf
              exact r_ret1 h rfl (rv_tmp h rfl) ⟨_, [], _, rfl, ⟨rfl, rfl, trivial⟩, rfl, (Up.refl _ _ _), (h.m.pick [2] _ (by decide) rfl)⟩
            · rw [if_neg (of_decide_eq_false hb)] at hl37
              refine wp_skip ?_
              refine e_thenN ?_
              refine c_rs ?_ -- region 15
              refine s_move h rfl _ rfl rfl (by decide) rfl (fun a h => ?_)
              refine s_move h rfl _ rfl rfl (by decide) rfl (fun a h => ?_)
              refine s_x h rfl rfl (by decide) (x_bin h.k rfl rfl rfl (ib_sub rfl)) (fun a h => ?_)
              refine s_move h rfl _ rfl rfl (by decide) rfl (fun a h => ?_)
              refine s_x h rfl rfl (by decide) (x_bin h.k rfl rfl rfl (ib_quow (by decide))) (fun a h => ?_)
              obtain ⟨x56, h57, hl37⟩ := bsome hl37
              have hX := path_Children_ok Fu (S0 := snapAll _) a0 hra0 (w64 (x35 - 1)) (w64_r _) (w64 (Int.tdiv x33 4)) (w64_r _) _ h57 _ h.startAll
              refine q_callX hX h rfl rfl rfl (by decide) Try.func59 rfl rfl rfl (fun a w v L1 S1 hR hb1 h => ?_)
              obtain ⟨A59, c60, cs61, rfl, rfl, hq62, _⟩ := hR
              have hq63 := hq62.fl (S' := S0) fl_I
              refine s_assign h rfl _ rfl rfl (by decide) rfl (fun a h => ?_)
              refine l_end ?_
              refine c_rs ?_ -- region 16
              refine s_assign h rfl _ rfl rfl (by decide) rfl (fun a h => ?_)
              refine l_end ?_
              refine wp_seq ?_
              refine c_rs ?_ -- region 17
              refine s_move h rfl _ rfl rfl (by decide) rfl (fun a h => ?_)
              have hr64 : r64 (x56.length : Int) := len_r (h.m.rowLen (i := 0) rfl)
              refine s_x h rfl rfl (by decide) (x_len h.k rfl Try.underlying78 rfl) (fun a h => ?_)
              refine s_move h rfl _ rfl rfl (by decide) rfl (fun a h => ?_)
              refine l_end ?_
              obtain ⟨o65, hl66, hl37⟩ := bsome hl37
              refine c_fin (fun a w => ∃ (x70 : Bool), x70 = o65 ∧ St 197 w0 (ownL ([] ++ [.sn S0])) [(0, .int .i64 a0), (1, .int .i64 a1), (2, .int .u8 (a2.toNat : Int)), (7, .slice A7 x4.length c8), (8, .slice A23 x20.length c24), (9, .int .i64 x33), (10, .int .i64 x35), (12, .bool x70)] [.row (.slice A7 x4.length c8) 3 1 x4.length cs9, .row (.slice A23 x20.length c24) 3 1 x20.length cs25, .sn S0] a w) ?_ ?_
              · refine wp_block ?_
                have h := h.pick [1, 2, 0, 3] (by decide) rfl
                refine c_loop (fun m72 a w => ∃ (x67 : Bool), ∃ (x68 : Int), chatelainelaw20_PathWays_l1 Fu x4 x35 x56 m72 x67 x68 = some o65 ∧ r64 x68 ∧ St 197 w0 (ownL ([] ++ [.sn S0])) [(0, .int .i64 a0), (1, .int .i64 a1), (2, .int .u8 (a2.toNat : Int)), (7, .slice A7 x4.length c8), (8, .slice A23 x20.length c24), (9, .int .i64 x33), (10, .int .i64 x35), (12, .bool x67), (76, .slice A59 x56.length c60), (77, .int .i64 (x56.length : Int)), (78, .int .i64 x68)] [.row (.slice A7 x4.length c8) 3 1 x4.length cs9, .row (.slice A23 x20.length c24) 3 1 x20.length cs25, .row (.slice A59 x56.length c60) 3 1 x56.length cs61, .sn S0] a w) Fu ⟨false, 0, hl66, (show r64 0 from ⟨by decide, by decide⟩), h.has (by exact ⟨rfl, rfl, rfl, rfl, rfl, rfl, rfl, rfl, rfl, rfl, rfl, trivial⟩)⟩ (fun m72 a w hI => ?_)
                obtain ⟨x67, x68, hl71, hr69, h⟩ := hI
                obtain _ | m72 := m72
                · rw [chatelainelaw20_PathWays_l1] at hl71; cases hl71
                rw [chatelainelaw20_PathWays_l1] at hl71
                refine c_rs ?_ -- region 18
                refine s_x h rfl rfl (by decide) (x_bin h.k rfl rfl rfl ib_lss) (fun a h => ?_)
                refine l_end ?_
                refine c_cs h rfl (fun hb => ?_) (fun hb => ?_)
                · rw [if_pos (of_decide_eq_true hb)] at hl71
                  refine wp_skip ?_
                  refine e_thenN ?_
                  refine wp_seq ?_
                  refine wp_block ?_
                  refine c_rs ?_ -- region 19
                  obtain ⟨m73, h74, hl71⟩ := bsome hl71
                  obtain ⟨hi75, hm76⟩ := ix_some h74
                  obtain ⟨g78, hA77⟩ := h.m.rowHead (i := 2) rfl (Nat.lt_of_le_of_lt (Nat.zero_le _) hm76)
                  refine s_x h rfl rfl (by decide) (x_iaddrE h.k rfl Try.underlying78 sz_int hA77 rfl rfl hi75 hm76) (fun a h => ?_)
                  obtain ⟨x79, h80, hl71⟩ := bsome hl71
                  obtain ⟨u81, hv82, hu83⟩ := (hq63).cell rfl h80
                  obtain ⟨e85, hr84⟩ := hu83
                  cases e85
                  refine s_x h rfl rfl (by decide) (x_ld h.k rfl Try.underlying3 rfl rfl (h.m.cellRowE (i := 2) rfl hA77 _ (by rw [Nat.mul_one]; exact hv82))) (fun a h => ?_)
                  refine s_assign h rfl _ rfl rfl (by decide) rfl (fun a h => ?_)
                  refine l_end ?_
                  refine c_r ?_ -- region 20
                  refine s_move h rfl _ rfl rfl (by decide) rfl (fun a h => ?_)
                  refine s_move h rfl _ rfl rfl (by decide) rfl (fun a h => ?_)
                  obtain ⟨z87, hz86, hl71⟩ := bsome hl71
                  refine q_grp h 8 (t := 83) 91 z87 rfl (fun hB1 => ?_) (fun hB1 => ?_) (fun a w h => ?_)
                  · refine g_no h rfl rfl rfl rfl hB1 rfl (by decide) (fun a h => ?_)
                    refine g_no h rfl rfl rfl rfl hB1 rfl (by decide) (fun a h => ?_)
                    refine g_no h rfl rfl rfl rfl hB1 rfl (by decide) (fun a h => ?_)
                    refine g_no h rfl rfl rfl rfl hB1 rfl (by decide) (fun a h => ?_)
                    refine g_no h rfl rfl rfl rfl hB1 rfl (by decide) (fun a h => ?_)
                    refine g_no h rfl rfl rfl rfl hB1 rfl (by decide) (fun a h => ?_)
                    refine g_no h rfl rfl rfl rfl hB1 rfl (by decide) (fun a h => ?_)
                    rw [if_pos hB1] at hz86
                    refine s_x h rfl rfl (by decide) (x_pick (u' := undef) h.k rfl rfl (fun _ => rfl) (fun hh => absurd (hB1.symm.trans hh) (by decide))) (fun a h => ?_)
                    exact (h.mid 7 rfl).val (by rw [Option.some.inj hz86])
                  · rw [if_neg (by rw [hB1]; decide)] at hz86
                    refine g_yes h rfl rfl rfl rfl hB1 ?_
                    refine s_move h rfl _ rfl rfl (by decide) rfl (fun a h => ?_)
                    refine g_yes h rfl rfl rfl rfl hB1 ?_
                    refine s_move h rfl _ rfl rfl (by decide) rfl (fun a h => ?_)
                    refine g_yes h rfl rfl rfl rfl hB1 ?_
                    refine s_move h rfl _ rfl rfl (by decide) rfl (fun a h => ?_)
                    refine g_yes h rfl rfl rfl rfl hB1 ?_
                    refine s_x h rfl rfl (by decide) (x_bin h.k rfl rfl rfl (ib_sub rfl)) (fun a h => ?_)
                    refine g_yes h rfl rfl rfl rfl hB1 ?_
                    obtain ⟨m89, h90, hz86⟩ := bsome hz86
                    obtain ⟨hi91, hm92⟩ := ix_some h90
                    obtain ⟨g94, hA93⟩ := h.m.rowHead (i := 0) rfl (Nat.lt_of_le_of_lt (Nat.zero_le _) hm92)
                    refine s_x h rfl rfl (by decide) (x_iaddrE h.k rfl Try.underlying78 sz_int hA93 rfl rfl hi91 hm92) (fun a h => ?_)
                    refine g_yes h rfl rfl rfl rfl hB1 ?_
                    obtain ⟨x95, h96, hz86⟩ := bsome hz86
                    obtain ⟨u97, hv98, hu99⟩ := (hq11).cell rfl h96
                    obtain ⟨e101, hr100⟩ := hu99
                    cases e101
                    refine s_x h rfl rfl (by decide) (x_ld h.k rfl Try.underlying3 rfl rfl (h.m.cellRowE (i := 0) rfl hA93 _ (by rw [Nat.mul_one]; exact hv98))) (fun a h => ?_)
                    refine g_yes h rfl rfl rfl rfl hB1 ?_
                    refine s_x h rfl rfl (by decide) (x_bin h.k rfl rfl rfl ib_eql) (fun a h => ?_)
                    refine s_x h rfl rfl (by decide) (x_pick (u' := undef) h.k rfl rfl (fun hh => absurd (hB1.symm.trans hh) (by decide)) (fun _ => rfl)) (fun a h => ?_)
                    exact (h.mid 7 rfl).val (by rw [Option.some.inj hz86])
                  refine s_assign h rfl _ rfl rfl (by decide) rfl (fun a h => ?_)
                  refine l_nil ?_
                  refine e_blkN ?_
                  refine e_thenN ?_
                  refine c_r ?_ -- region 21
                  refine s_x h rfl rfl (by decide) (x_bin h.k rfl rfl rfl (ib_add rfl)) (fun a h => ?_)
                  refine s_move h rfl _ rfl rfl (by decide) rfl (fun a h => ?_)
                  refine l_nil ?_
                  exact e_thenN ⟨m72, Nat.lt_succ_self _, z87, w64 (x68 + 1), hl71, (w64_r _), h.has (by exact ⟨rfl, rfl, rfl, rfl, rfl, rfl, rfl, rfl, rfl, rfl, rfl, trivial⟩)⟩
                · rw [if_neg (of_decide_eq_false hb)] at hl71
                  refine wp_exit ?_
                  refine e_thenX ?_
                  refine e_thenX ?_
                  refine e_blkX ?_
                  refine e_thenN ?_
                  have h := h.pick [0, 1, 3] (by decide) rfl
                  exact ⟨x67, (Option.some.inj hl71), h.has (by exact ⟨rfl, rfl, rfl, rfl, rfl, rfl, rfl, rfl, trivial⟩)⟩
              · rintro a w ⟨x70, rfl, h⟩
                refine e_thenN ?_
                refine wp_seq ?_
                refine c_rs ?_ -- region 22
                refine s_move h rfl _ rfl rfl (by decide) rfl (fun a h => ?_)
                refine s_x h rfl rfl (by decide) (x_not h.k rfl rfl) (fun a h => ?_)
                refine l_end ?_
                refine c_cond h rfl (fun hb => ?_) (fun hb => ?_)
                · rw [if_pos hb] at hl37
                  refine c_rs ?_ -- region 23
                  refine s_assign h rfl _ rfl rfl (by decide) rfl (fun a h => ?_)
                  refine l_end ?_
                  refine wp_ret ?_
                  refine e_thenR ?_
                  refine e_blkR ?_
                  refine e_thenR ?_
                  refine e_thenR ?_
                  refine e_blkR ?_
                  refine e_thenR ?_
                  cases hl37
                  try dsimp only at hf
                  refine e_thenR ?_
                  obtain rfl := Option.some.inj hf
                  exact r_ret1 h rfl (rv_tmp h rfl) ⟨_, [], _, rfl, ⟨rfl, rfl, trivial⟩, rfl, (Up.refl _ _ _), (h.m.pick [2] _ (by decide) rfl)⟩
                · rw [if_neg (by rw [hb]; decide)] at hl37
                  refine wp_skip ?_
                  refine e_thenN ?_
                  refine c_r ?_ -- region 24
                  refine s_move h rfl _ rfl rfl (by decide) rfl (fun a h => ?_)
                  refine s_x h rfl rfl (by decide) (x_bin h.k rfl rfl rfl (ib_quow (by decide))) (fun a h => ?_)
                  refine s_assign h rfl _ rfl rfl (by decide) rfl (fun a h => ?_)
                  refine l_nil ?_
                  refine e_blkN ?_
                  refine e_thenN ?_
                  refine c_r ?_ -- region 12
                  refine s_move h rfl _ rfl rfl (by decide) rfl (fun a h => ?_)
                  refine s_x h rfl rfl (by decide) (x_bin h.k rfl rfl rfl (ib_sub rfl)) (fun a h => ?_)
                  refine s_assign h rfl _ rfl rfl (by decide) rfl (fun a h => ?_)
                  refine l_nil ?_
                  exact e_thenN ⟨m38, Nat.lt_succ_self _, w64 (Int.tdiv x33 4), w64 (x35 - 1), hl37, (w64_r _), (w64_r _), h.has (by exact ⟨rfl, rfl, rfl, rfl, rfl, rfl, rfl, trivial⟩)⟩
          · rw [if_neg (of_decide_eq_false hb)] at hl37
            refine wp_exit ?_
            refine e_thenX ?_
            refine e_thenX ?_
            refine e_blkX ?_
            refine e_thenN ?_
            have h := h.pick [1, 2] (by decide) rfl
            exact ⟨(Option.some.inj hl37), h.has (by exact ⟨rfl, rfl, rfl, rfl, trivial⟩)⟩
        · rintro a w ⟨rfl, h⟩
          try dsimp only at hf
          refine e_thenN ?_
          refine c_rs ?_ -- region 25
          refine s_move h rfl _ rfl rfl (by decide) rfl (fun a h => ?_)
          refine s_x h rfl rfl (by decide) (x_convE h.k rfl Try.underlying5 Try.underlying3 rfl (nw64 (u8_r _))) (fun a h => ?_)
          refine s_move h rfl _ rfl rfl (by decide) rfl (fun a h => ?_)
          have hr102 : r64 (x20.length : Int) := len_r (h.m.rowLen (i := 0) rfl)
          refine s_x h rfl rfl (by decide) (x_len h.k rfl Try.underlying78 rfl) (fun a h => ?_)
          obtain ⟨x103, h104, hf⟩ := bsome hf
          refine s_x h rfl rfl (by decide) (x_bin h.k rfl rfl rfl (ib_rem_ h104)) (fun a h => ?_)
          refine s_assign h rfl _ rfl rfl (by decide) rfl (fun a h => ?_)
          refine l_end ?_
          refine c_rs ?_ -- region 26
          refine s_move h rfl _ rfl rfl (by decide) rfl (fun a h => ?_)
          refine s_assign h rfl _ rfl rfl (by decide) rfl (fun a h => ?_)
          refine l_end ?_
          refine wp_seq ?_
          refine c_rs ?_ -- region 27
          refine s_move h rfl _ rfl rfl (by decide) rfl (fun a h => ?_)
          have hr105 : r64 (x20.length : Int) := len_r (h.m.rowLen (i := 0) rfl)
          refine s_x h rfl rfl (by decide) (x_len h.k rfl Try.underlying78 rfl) (fun a h => ?_)
          refine s_x h rfl rfl (by decide) (x_bin h.k rfl rfl rfl (ib_sub rfl)) (fun a h => ?_)
          refine s_move h rfl _ rfl rfl (by decide) rfl (fun a h => ?_)
          refine s_x h rfl rfl (by decide) (x_bin h.k rfl rfl rfl (ib_sub rfl)) (fun a h => ?_)
          refine s_move h rfl _ rfl rfl (by decide) rfl (fun a h => ?_)
          refine l_end ?_
          obtain ⟨o106, hl107, hf⟩ := bsome hf
          refine c_fin (fun a w => ∃ (x112 : Int), x112 = o106 ∧ r64 x112 ∧ St 197 w0 (ownL ([] ++ [.sn S0])) [(0, .int .i64 a0), (1, .int .i64 a1), (8, .slice A23 x20.length c24), (9, .int .i64 x112), (15, .int .i64 x103)] [.row (.slice A23 x20.length c24) 3 1 x20.length cs25, .sn S0] a w) ?_ ?_
          · refine wp_block ?_
            refine c_loop (fun m115 a w => ∃ (x108 : Int), ∃ (x110 : Int), chatelainelaw20_PathWays_l2 Fu x20 x103 m115 x108 x110 = some o106 ∧ r64 x108 ∧ r64 x110 ∧ St 197 w0 (ownL ([] ++ [.sn S0])) [(0, .int .i64 a0), (1, .int .i64 a1), (8, .slice A23 x20.length c24), (9, .int .i64 x108), (15, .int .i64 x103), (107, .int .i64 (w64 ((w64 ((x20.length : Int) - 1)) - x103))), (108, .int .i64 x110)] [.row (.slice A23 x20.length c24) 3 1 x20.length cs25, .sn S0] a w) Fu ⟨a1, 0, hl107, hra1, (show r64 0 from ⟨by decide, by decide⟩), h.has (by exact ⟨rfl, rfl, rfl, rfl, rfl, rfl, rfl, trivial⟩)⟩ (fun m115 a w hI => ?_)
            obtain ⟨x108, x110, hl114, hr109, hr111, h⟩ := hI
            obtain _ | m115 := m115
            · rw [chatelainelaw20_PathWays_l2] at hl114; cases hl114
            rw [chatelainelaw20_PathWays_l2] at hl114
            refine c_rs ?_ -- region 28
            refine s_x h rfl rfl (by decide) (x_bin h.k rfl rfl rfl ib_lss) (fun a h => ?_)
            refine l_end ?_
            refine c_cs h rfl (fun hb => ?_) (fun hb => ?_)
            · rw [if_pos (of_decide_eq_true hb)] at hl114
              refine wp_skip ?_
              refine e_thenN ?_
              refine wp_seq ?_
              refine wp_block ?_
              refine c_r ?_ -- region 29
              refine s_move h rfl _ rfl rfl (by decide) rfl (fun a h => ?_)
              refine s_x h rfl rfl (by decide) (x_bin h.k rfl rfl rfl (ib_quow (by decide))) (fun a h => ?_)
              refine s_assign h rfl _ rfl rfl (by decide) rfl (fun a h => ?_)
              refine l_nil ?_
              refine e_blkN ?_
              refine e_thenN ?_
              refine c_r ?_ -- region 30
              refine s_x h rfl rfl (by decide) (x_bin h.k rfl rfl rfl (ib_add rfl)) (fun a h => ?_)
              refine s_move h rfl _ rfl rfl (by decide) rfl (fun a h => ?_)
              refine l_nil ?_
              exact e_thenN ⟨m115, Nat.lt_succ_self _, w64 (Int.tdiv x108 4), w64 (x110 + 1), hl114, (w64_r _), (w64_r _), h.has (by exact ⟨rfl, rfl, rfl, rfl, rfl, rfl, rfl, trivial⟩)⟩
            · rw [if_neg (of_decide_eq_false hb)] at hl114
              refine wp_exit ?_
              refine e_thenX ?_
              refine e_thenX ?_
              refine e_blkX ?_
              refine e_thenN ?_
              exact ⟨x108, (Option.some.inj hl114), hr109, h.has (by exact ⟨rfl, rfl, rfl, rfl, rfl, trivial⟩)⟩
          · rintro a w ⟨x112, rfl, hr113, h⟩
            refine e_thenN ?_
            refine c_rs ?_ -- region 31
            refine s_assign h rfl _ rfl rfl (by decide) rfl (fun a h => ?_)
            refine l_end ?_
            refine c_rs ?_ -- region 32
            refine s_move h rfl _ rfl rfl (by decide) rfl (fun a h => ?_)
            refine s_move h rfl _ rfl rfl (by decide) rfl (fun a h => ?_)
            refine s_move h rfl _ rfl rfl (by decide) rfl (fun a h => ?_)
            obtain ⟨x116, h117, hf⟩ := bsome hf
            have hX := path_Below_ok Fu (S0 := snapAll _) a0 hra0 x103 (remI_r h104 (u8_r _)) x112 hr113 _ h117 _ h.startAll
            refine q_callX hX h rfl rfl rfl (by decide) Try.func60 rfl rfl rfl (fun a w v L1 S1 hR hb1 h => ?_)
            obtain ⟨rfl, rfl, hr119, hr120, _⟩ := hR
            refine s_move h rfl _ rfl rfl (by decide) rfl (fun a h => ?_)
            refine s_x h rfl rfl (by decide) (x_ext h.k rfl rfl rfl) (fun a h => ?_)
            refine s_x h rfl rfl (by decide) (x_ext h.k rfl rfl rfl) (fun a h => ?_)
            refine s_assign h rfl _ rfl rfl (by decide) rfl (fun a h => ?_)
            refine s_assign h rfl _ rfl rfl (by decide) rfl (fun a h => ?_)
            refine l_end ?_
            refine c_rs ?_ -- region 33
            refine s_move h rfl _ rfl rfl (by decide) rfl (fun a h => ?_)
            refine s_assign h rfl _ rfl rfl (by decide) rfl (fun a h => ?_)
            refine l_end ?_
            refine wp_seq ?_
            refine c_rs ?_ -- region 34
            refine s_move h rfl _ rfl rfl (by decide) rfl (fun a h => ?_)
            refine s_x h rfl rfl (by decide) (x_bin h.k rfl rfl rfl (ib_mul rfl)) (fun a h => ?_)
            refine s_assign h rfl _ rfl rfl (by decide) rfl (fun a h => ?_)
            refine l_end ?_
            obtain ⟨o121, hl122, hf⟩ := bsome hf
            refine c_fin (fun a w => ∃ (x141 : List Int), ∃ (A142 : Option Addr), ∃ (c143 : Nat), ∃ (cs144 : List Value), ∃ (x146 : Int), (.inr (x141, x146)) = o121 ∧ reps tyI S0 cs144 x141 ∧ r64 x146 ∧ St 197 w0 (ownL ([] ++ [.sn S0])) [(0, .int .i64 a0), (1, .int .i64 a1), (8, .slice A23 x20.length c24), (9, .int .i64 x112), (15, .int .i64 x103), (16, .slice A142 x141.length c143), (17, .int .i64 x116.1), (18, .int .i64 x116.2), (19, .int .i64 x146)] [.row (.slice A23 x20.length c24) 3 1 x20.length cs25, .row (.slice A142 x141.length c143) 3 1 x141.length cs144, .sn S0] a w) ?_ ?_
            · refine wp_block ?_
              have h := h.mem (h.m.nilrow 3 1)
              have h := h.pick [1, 0, 2] (by decide) rfl
              refine c_loop (fun m149 a w => ∃ (x132 : List Int), ∃ (A133 : Option Addr), ∃ (c134 : Nat), ∃ (cs135 : List Value), ∃ (x137 : Int), ∃ (x139 : Int), chatelainelaw20_PathWays_l3 Fu a0 x103 x112 m149 x132 x137 x139 = some o121 ∧ reps tyI S0 cs135 x132 ∧ r64 x137 ∧ r64 x139 ∧ St 197 w0 (ownL ([] ++ [.sn S0])) [(0, .int .i64 a0), (1, .int .i64 a1), (8, .slice A23 x20.length c24), (9, .int .i64 x112), (15, .int .i64 x103), (16, .slice A133 x132.length c134), (17, .int .i64 x116.1), (18, .int .i64 x116.2), (19, .int .i64 x137), (20, .int .i64 x139)] [.row (.slice A23 x20.length c24) 3 1 x20.length cs25, .row (.slice A133 x132.length c134) 3 1 x132.length cs135, .sn S0] a w) Fu ⟨[], none, 0, [], x116.1, w64 (4 * x112), hl122, (show reps tyI S0 [] [] from rfl), hr119, (w64_r _), h.has (by exact ⟨rfl, rfl, rfl, rfl, rfl, rfl, rfl, rfl, rfl, rfl, trivial⟩)⟩ (fun m149 a w hI => ?_)
              obtain ⟨x132, A133, c134, cs135, x137, x139, hl148, hq136, hr138, hr140, h⟩ := hI
              obtain _ | m149 := m149
              · rw [chatelainelaw20_PathWays_l3] at hl148; cases hl148
              rw [chatelainelaw20_PathWays_l3] at hl148
              refine wp_seq ?_
              refine c_rs ?_ -- region 35
              refine s_move h rfl _ rfl rfl (by decide) rfl (fun a h => ?_)
              refine s_move h rfl _ rfl rfl (by decide) rfl (fun a h => ?_)
              refine s_x h rfl rfl (by decide) (x_bin h.k rfl rfl rfl (ib_mul rfl)) (fun a h => ?_)
              refine s_x h rfl rfl (by decide) (x_bin h.k rfl rfl rfl (ib_add rfl)) (fun a h => ?_)
              refine s_x h rfl rfl (by decide) (x_bin h.k rfl rfl rfl ib_lss) (fun a h => ?_)
              refine l_end ?_
              refine c_cond h rfl (fun hb => ?_) (fun hb => ?_)
              · rw [if_pos (of_decide_eq_true hb)] at hl148
                refine wp_skip ?_
                refine e_thenN ?_
                obtain ⟨o151, hc152, hl148⟩ := bsome hl148
                refine c_cut (fun a w => ∃ (x153 : Int), ∃ (x155 : List Int), ∃ (A156 : Option Addr), ∃ (c157 : Nat), ∃ (cs158 : List Value), (.inr (x153, x155)) = o151 ∧ r64 x153 ∧ reps tyI S0 cs158 x155 ∧ St 197 w0 (ownL ([] ++ [.sn S0])) [(0, .int .i64 a0), (1, .int .i64 a1), (8, .slice A23 x20.length c24), (9, .int .i64 x112), (15, .int .i64 x103), (16, .slice A156 x155.length c157), (17, .int .i64 x116.1), (18, .int .i64 x116.2), (19, .int .i64 x153), (20, .int .i64 x139)] [.row (.slice A23 x20.length c24) 3 1 x20.length cs25, .row (.slice A156 x155.length c157) 3 1 x155.length cs158, .sn S0] a w) ?_ ?_
                · refine wp_block ?_
                  refine c_rs ?_ -- region 37
                  refine s_move h rfl _ rfl rfl (by decide) rfl (fun a h => ?_)
                  refine s_move h rfl _ rfl rfl (by decide) rfl (fun a h => ?_)
                  refine s_x h rfl rfl (by decide) (x_bin h.k rfl rfl rfl (ib_add rfl)) (fun a h => ?_)
                  refine s_move h rfl _ rfl rfl (by decide) rfl (fun a h => ?_)
                  obtain ⟨x160, h161, hc152⟩ := bsome hc152
                  have hX := chatelaineref20_Place_ok Fu (S0 := snapAll _) a0 hra0 (w64 (x103 + 1)) (w64_r _) x139 hr140 _ h161 _ h.startAll
                  refine q_callX hX h rfl rfl rfl (by decide) Try.func43 rfl rfl rfl (fun a w v L1 S1 hR hb1 h => ?_)
                  obtain ⟨rfl, rfl, hr163, _⟩ := hR
                  refine s_assign h rfl _ rfl rfl (by decide) rfl (fun a h => ?_)
                  refine l_end ?_
                  refine c_rs ?_ -- region 38
                  refine s_move h rfl _ rfl rfl (by decide) rfl (fun a h => ?_)
                  refine s_x h rfl rfl (by decide) (x_bin h.k rfl rfl rfl ib_geq) (fun a h => ?_)
                  refine l_end ?_
                  refine c_cond h rfl (fun hb => ?_) (fun hb => ?_)
                  · rw [if_pos (of_decide_eq_true hb)] at hc152
                    refine c_rs ?_ -- region 39
                    refine s_move h rfl _ rfl rfl (by decide) rfl (fun a h => ?_)
                    refine s_move h rfl _ rfl rfl (by decide) rfl (fun a h => ?_)
                    refine q_bslice (T := tyI) (S := S0) h rfl rfl rfl (by decide) Try.underlying78 zi_int (by decide) (by decide) (by decide) (by decide) [.int .i64 x160] rfl rfl (C := [[.int .i64 x160]]) rfl (xs := [x160]) ⟨[.int .i64 x160], _, rfl, ⟨rfl, hr163⟩, rfl⟩ (by intro c hc; simp only [List.mem_cons, List.not_mem_nil, or_false] at hc; subst hc; rfl) (fun a w A164 h => ?_)
                    have hb165 : reps tyI S0 ([[.int .i64 x160]]).flatten [x160] := ⟨[.int .i64 x160], _, rfl, ⟨rfl, hr163⟩, rfl⟩
                    obtain ⟨x166, h167, hc152⟩ := bsome hc152
                    refine q_append (T := tyI) (S := S0) h rfl rfl rfl (by decide) Try.underlying78 zb_int rfl (by decide) rfl 2 rfl hq136 rfl hb165 (h.m.rdRowA (i := 0) rfl) h167 (fun a w A168 c169 cs170 hq171 h => ?_)
                    refine s_assign h rfl _ rfl rfl (by decide) rfl (fun a h => ?_)
                    refine l_end ?_
                    refine c_rs ?_ -- region 40
                    refine s_move h rfl _ rfl rfl (by decide) rfl (fun a h => ?_)
                    refine s_move h rfl _ rfl rfl (by decide) rfl (fun a h => ?_)
                    refine s_x h rfl rfl (by decide) (x_bin h.k rfl rfl rfl (ib_add rfl)) (fun a h => ?_)
                    refine s_move h rfl _ rfl rfl (by decide) rfl (fun a h => ?_)
                    obtain ⟨x172, h173, hc152⟩ := bsome hc152
                    have hX := path_Below_ok Fu (S0 := snapAll _) a0 hra0 (w64 (x103 + 1)) (w64_r _) x139 hr140 _ h173 _ h.startAll
                    refine q_callX hX h rfl rfl rfl (by decide) Try.func60 rfl rfl rfl (fun a w v L1 S1 hR hb1 h => ?_)
                    obtain ⟨rfl, rfl, hr175, hr176, _⟩ := hR
                    refine s_move h rfl _ rfl rfl (by decide) rfl (fun a h => ?_)
                    refine s_x h rfl rfl (by decide) (x_ext h.k rfl rfl rfl) (fun a h => ?_)
                    refine s_x h rfl rfl (by decide) (x_ext h.k rfl rfl rfl) (fun a h => ?_)
                    refine s_assign h rfl _ rfl rfl (by decide) rfl (fun a h => ?_)
                    refine s_assign h rfl _ rfl rfl (by decide) rfl (fun a h => ?_)
                    refine l_end ?_
                    refine wp_seq ?_
                    refine c_rs ?_ -- region 41
                    refine s_move h rfl _ rfl rfl (by decide) rfl (fun a h => ?_)
                    refine s_move h rfl _ rfl rfl (by decide) rfl (fun a h => ?_)
                    refine s_x h rfl rfl (by decide) (x_bin h.k rfl rfl rfl ib_neq) (fun a h => ?_)
                    refine s_move h rfl _ rfl rfl (by decide) rfl (fun a h => ?_)
                    refine q_grp h 4 (t := 152) 156 ((decide (x172.1 ≠ x137)) || (decide (x172.2 ≤ x172.1))) rfl (fun hB3 => ?_) (fun hB3 => ?_) (fun a w h => ?_)
                    · refine g_no h rfl rfl rfl rfl hB3 rfl (by decide) (fun a h => ?_)
                      refine g_no h rfl rfl rfl rfl hB3 rfl (by decide) (fun a h => ?_)
                      refine g_no h rfl rfl rfl rfl hB3 rfl (by decide) (fun a h => ?_)
                      refine s_x h rfl rfl (by decide) (x_pick (u' := undef) h.k rfl rfl (fun _ => rfl) (fun hh => absurd (hB3.symm.trans hh) (by decide))) (fun a h => ?_)
                      exact (h.mid 3 rfl).val (by first | rfl | (rw [hB3]; first | rfl | simp))
                    · refine g_yes h rfl rfl rfl rfl hB3 ?_
                      refine s_move h rfl _ rfl rfl (by decide) rfl (fun a h => ?_)
                      refine g_yes h rfl rfl rfl rfl hB3 ?_
                      refine s_move h rfl _ rfl rfl (by decide) rfl (fun a h => ?_)
                      refine g_yes h rfl rfl rfl rfl hB3 ?_
                      refine s_x h rfl rfl (by decide) (x_bin h.k rfl rfl rfl ib_leq) (fun a h => ?_)
                      refine s_x h rfl rfl (by decide) (x_pick (u' := undef) h.k rfl rfl (fun hh => absurd (hB3.symm.trans hh) (by decide)) (fun _ => rfl)) (fun a h => ?_)
                      exact (h.mid 3 rfl).val (by first | rfl | (rw [hB3]; first | rfl | simp))
                    refine l_end ?_
                    refine c_cond h rfl (fun hb => ?_) (fun hb => ?_)
                    · rw [if_pos hb] at hc152
                      refine c_rs ?_ -- region 42
                      refine s_assign h rfl _ rfl rfl (by decide) rfl (fun a h => ?_)
                      refine l_end ?_
                      refine wp_ret ?_
                      refine e_thenR ?_
                      refine e_blkR ?_
                      refine e_thenR ?_
                      cases hc152
                      try dsimp only at hl148
                      refine e_thenR ?_
                      refine e_blkR ?_
                      refine e_thenR ?_
                      cases hl148
                      try dsimp only at hf
                      refine e_thenR ?_
                      obtain rfl := Option.some.inj hf
                      exact r_ret1 h rfl (rv_tmp h rfl) ⟨_, [], _, rfl, ⟨rfl, rfl, trivial⟩, rfl, (Up.refl _ _ _), (h.m.pick [3] _ (by decide) rfl)⟩
                    · rw [if_neg (by rw [hb]; decide)] at hc152
                      refine wp_skip ?_
                      refine e_thenN ?_
                      refine c_r ?_ -- region 43
                      refine s_move h rfl _ rfl rfl (by decide) rfl (fun a h => ?_)
                      refine s_assign h rfl _ rfl rfl (by decide) rfl (fun a h => ?_)
                      refine l_nil ?_
                      refine e_blkN ?_
                      refine e_thenN ?_
                      have h := h.pick [1, 2, 3] (by decide) rfl
                      exact ⟨x172.2, x166, A168, c169, cs170, (Option.some.inj hc152), hr176, hq171, h.has (by exact ⟨rfl, rfl, rfl, rfl, rfl, rfl, rfl, rfl, rfl, rfl, trivial⟩)⟩
                  · rw [if_neg (of_decide_eq_false hb)] at hc152
                    refine wp_skip ?_
                    refine e_blkN ?_
                    refine e_thenN ?_
                    exact ⟨x137, x132, A133, c134, cs135, (Option.some.inj hc152), hr138, hq136, h.has (by exact ⟨rfl, rfl, rfl, rfl, rfl, rfl, rfl, rfl, rfl, rfl, trivial⟩)⟩
                · rintro a w ⟨x153, x155, A156, c157, cs158, rfl, hr154, hq159, h⟩
                  try dsimp only at hl148
                  refine c_r ?_ -- region 36
                  refine s_move h rfl _ rfl rfl (by decide) rfl (fun a h => ?_)
                  refine s_x h rfl rfl (by decide) (x_bin h.k rfl rfl rfl (ib_add rfl)) (fun a h => ?_)
                  refine s_assign h rfl _ rfl rfl (by decide) rfl (fun a h => ?_)
                  refine l_nil ?_
                  exact e_thenN ⟨m149, Nat.lt_succ_self _, x155, A156, c157, cs158, x153, w64 (x139 + 1), hl148, hq159, hr154, (w64_r _), h.has (by exact ⟨rfl, rfl, rfl, rfl, rfl, rfl, rfl, rfl, rfl, rfl, trivial⟩)⟩
              · rw [if_neg (of_decide_eq_false hb)] at hl148
                refine wp_exit ?_
                refine e_thenX ?_
                refine e_thenX ?_
                refine e_blkX ?_
                refine e_thenN ?_
                exact ⟨x132, A133, c134, cs135, x137, (Option.some.inj hl148), hq136, hr138, h.has (by exact ⟨rfl, rfl, rfl, rfl, rfl, rfl, rfl, rfl, rfl, trivial⟩)⟩
            · rintro a w ⟨x141, A142, c143, cs144, x146, rfl, hq145, hr147, h⟩
              try dsimp only at hf
              refine e_thenN ?_
              refine wp_seq ?_
              refine c_rs ?_ -- region 44
              refine s_move h rfl _ rfl rfl (by decide) rfl (fun a h => ?_)
              refine s_move h rfl _ rfl rfl (by decide) rfl (fun a h => ?_)
              refine s_x h rfl rfl (by decide) (x_bin h.k rfl rfl rfl ib_lss) (fun a h => ?_)
              refine s_move h rfl _ rfl rfl (by decide) rfl (fun a h => ?_)
              refine q_grp h 4 (t := 161) 165 ((decide (a1 < x116.1)) || (decide (x116.2 ≤ a1))) rfl (fun hB3 => ?_) (fun hB3 => ?_) (fun a w h => ?_)
              · refine g_no h rfl rfl rfl rfl hB3 rfl (by decide) (fun a h => ?_)
                refine g_no h rfl rfl rfl rfl hB3 rfl (by decide) (fun a h => ?_)
                refine g_no h rfl rfl rfl rfl hB3 rfl (by decide) (fun a h => ?_)
                refine s_x h rfl rfl (by decide) (x_pick (u' := undef) h.k rfl rfl (fun _ => rfl) (fun hh => absurd (hB3.symm.trans hh) (by decide))) (fun a h => ?_)
                exact (h.mid 3 rfl).val (by first | rfl | (rw [hB3]; first | rfl | simp))
              · refine g_yes h rfl rfl rfl rfl hB3 ?_
                refine s_move h rfl _ rfl rfl (by decide) rfl (fun a h => ?_)
                refine g_yes h rfl rfl rfl rfl hB3 ?_
                refine s_move h rfl _ rfl rfl (by decide) rfl (fun a h => ?_)
                refine g_yes h rfl rfl rfl rfl hB3 ?_
                refine s_x h rfl rfl (by decide) (x_bin h.k rfl rfl rfl ib_geq) (fun a h => ?_)
                refine s_x h rfl rfl (by decide) (x_pick (u' := undef) h.k rfl rfl (fun hh => absurd (hB3.symm.trans hh) (by decide)) (fun _ => rfl)) (fun a h => ?_)
                exact (h.mid 3 rfl).val (by first | rfl | (rw [hB3]; first | rfl | simp))
              refine s_move h rfl _ rfl rfl (by decide) rfl (fun a h => ?_)
              refine q_grp h 11 (t := 166) 177 (((decide (a1 < x116.1)) || (decide (x116.2 ≤ a1))) || ((decide (x103 < w64 ((x20.length : Int) - 1))) && (decide (x146 ≠ x116.2)))) rfl (fun hB8 => ?_) (fun hB8 => ?_) (fun a w h => ?_)
              · refine g_no h rfl rfl rfl rfl hB8 rfl (by decide) (fun a h => ?_)
                refine g_no h rfl rfl rfl rfl hB8 rfl (by decide) (fun a h => ?_)
                refine g_no h rfl rfl rfl rfl hB8 rfl (by decide) (fun a h => ?_)
                refine g_no h rfl rfl rfl rfl hB8 rfl (by decide) (fun a h => ?_)
                refine g_no h rfl rfl rfl rfl hB8 rfl (by decide) (fun a h => ?_)
                refine g_no h rfl rfl rfl rfl hB8 rfl (by decide) (fun a h => ?_)
                refine g_off h rfl rfl rfl rfl rfl (by decide) (fun a h => ?_)
                refine g_off h rfl rfl rfl rfl rfl (by decide) (fun a h => ?_)
                refine g_off h rfl rfl rfl rfl rfl (by decide) (fun a h => ?_)
                refine g_no h rfl rfl rfl rfl hB8 rfl (by decide) (fun a h => ?_)
                refine s_x h rfl rfl (by decide) (x_pick (u' := undef) h.k rfl rfl (fun _ => rfl) (fun hh => absurd (hB8.symm.trans hh) (by decide))) (fun a h => ?_)
                exact (h.mid 10 rfl).val (by first | rfl | (rw [hB8]; first | rfl | simp))
              · refine g_yes h rfl rfl rfl rfl hB8 ?_
                refine s_move h rfl _ rfl rfl (by decide) rfl (fun a h => ?_)
                refine g_yes h rfl rfl rfl rfl hB8 ?_
                refine s_move h rfl _ rfl rfl (by decide) rfl (fun a h => ?_)
                refine g_yes h rfl rfl rfl rfl hB8 ?_
                have hr184 : r64 (x20.length : Int) := len_r (h.m.rowLen (i := 0) rfl)
                refine s_x h rfl rfl (by decide) (x_len h.k rfl Try.underlying78 rfl) (fun a h => ?_)
                refine g_yes h rfl rfl rfl rfl hB8 ?_
                refine s_x h rfl rfl (by decide) (x_bin h.k rfl rfl rfl (ib_sub rfl)) (fun a h => ?_)
                refine g_yes h rfl rfl rfl rfl hB8 ?_
                refine s_x h rfl rfl (by decide) (x_bin h.k rfl rfl rfl ib_lss) (fun a h => ?_)
                refine g_yes h rfl rfl rfl rfl hB8 ?_
                refine s_move h rfl _ rfl rfl (by decide) rfl (fun a h => ?_)
                refine q_grp h 4 (t := 172) 176 ((decide (x103 < w64 ((x20.length : Int) - 1))) && (decide (x146 ≠ x116.2))) rfl (fun hB14 => ?_) (fun hB14 => ?_) (fun a w h => ?_)
                · refine g_yes h rfl rfl rfl rfl hB14 ?_
                  refine s_move h rfl _ rfl rfl (by decide) rfl (fun a h => ?_)
                  refine g_yes h rfl rfl rfl rfl hB14 ?_
                  refine s_move h rfl _ rfl rfl (by decide) rfl (fun a h => ?_)
                  refine g_yes h rfl rfl rfl rfl hB14 ?_
                  refine s_x h rfl rfl (by decide) (x_bin h.k rfl rfl rfl ib_neq) (fun a h => ?_)
                  refine g_yes h rfl rfl rfl rfl hB8 ?_
                  refine s_x h rfl rfl (by decide) (x_pick (u' := undef) h.k rfl rfl (fun _ => rfl) (fun hh => absurd (hB14.symm.trans hh) (by decide))) (fun a h => ?_)
                  exact (h.mid 3 rfl).val (by first | rfl | (rw [hB14]; first | rfl | simp))
                · refine g_no h rfl rfl rfl rfl hB14 rfl (by decide) (fun a h => ?_)
                  refine g_no h rfl rfl rfl rfl hB14 rfl (by decide) (fun a h => ?_)
                  refine g_no h rfl rfl rfl rfl hB14 rfl (by decide) (fun a h => ?_)
                  refine g_yes h rfl rfl rfl rfl hB8 ?_
                  refine s_x h rfl rfl (by decide) (x_pick (u' := undef) h.k rfl rfl (fun hh => absurd (hB14.symm.trans hh) (by decide)) (fun _ => rfl)) (fun a h => ?_)
                  exact (h.mid 3 rfl).val (by first | rfl | (rw [hB14]; first | rfl | simp))
                refine s_x h rfl rfl (by decide) (x_pick (u' := undef) h.k rfl rfl (fun hh => absurd (hB8.symm.trans hh) (by decide)) (fun _ => rfl)) (fun a h => ?_)
                exact (h.mid 7 rfl).val (by first | rfl | (rw [hB8]; first | rfl | simp))
              refine s_move h rfl _ rfl rfl (by decide) rfl (fun a h => ?_)
              refine q_grp h 12 (t := 178) 190 ((((decide (a1 < x116.1)) || (decide (x116.2 ≤ a1))) || ((decide (x103 < w64 ((x20.length : Int) - 1))) && (decide (x146 ≠ x116.2)))) || ((decide (x103 = w64 ((x20.length : Int) - 1))) && (decide (x116.2 ≠ w64 (x116.1 + 1))))) rfl (fun hB20 => ?_) (fun hB20 => ?_) (fun a w h => ?_)
              · refine g_no h rfl rfl rfl rfl hB20 rfl (by decide) (fun a h => ?_)
                refine g_no h rfl rfl rfl rfl hB20 rfl (by decide) (fun a h => ?_)
                refine g_no h rfl rfl rfl rfl hB20 rfl (by decide) (fun a h => ?_)
                refine g_no h rfl rfl rfl rfl hB20 rfl (by decide) (fun a h => ?_)
                refine g_no h rfl rfl rfl rfl hB20 rfl (by decide) (fun a h => ?_)
                refine g_no h rfl rfl rfl rfl hB20 rfl (by decide) (fun a h => ?_)
                refine g_off h rfl rfl rfl rfl rfl (by decide) (fun a h => ?_)
                refine g_off h rfl rfl rfl rfl rfl (by decide) (fun a h => ?_)
                refine g_off h rfl rfl rfl rfl rfl (by decide) (fun a h => ?_)
                refine g_off h rfl rfl rfl rfl rfl (by decide) (fun a h => ?_)
                refine g_no h rfl rfl rfl rfl hB20 rfl (by decide) (fun a h => ?_)
                refine s_x h rfl rfl (by decide) (x_pick (u' := undef) h.k rfl rfl (fun _ => rfl) (fun hh => absurd (hB20.symm.trans hh) (by decide))) (fun a h => ?_)
                exact (h.mid 11 rfl).val (by first | rfl | (rw [hB20]; first | rfl | simp))
              · refine g_yes h rfl rfl rfl rfl hB20 ?_
                refine s_move h rfl _ rfl rfl (by decide) rfl (fun a h => ?_)
                refine g_yes h rfl rfl rfl rfl hB20 ?_
                refine s_move h rfl _ rfl rfl (by decide) rfl (fun a h => ?_)
                refine g_yes h rfl rfl rfl rfl hB20 ?_
                have hr189 : r64 (x20.length : Int) := len_r (h.m.rowLen (i := 0) rfl)
                refine s_x h rfl rfl (by decide) (x_len h.k rfl Try.underlying78 rfl) (fun a h => ?_)
                refine g_yes h rfl rfl rfl rfl hB20 ?_
                refine s_x h rfl rfl (by decide) (x_bin h.k rfl rfl rfl (ib_sub rfl)) (fun a h => ?_)
                refine g_yes h rfl rfl rfl rfl hB20 ?_
                refine s_x h rfl rfl (by decide) (x_bin h.k rfl rfl rfl ib_eql) (fun a h => ?_)
                refine g_yes h rfl rfl rfl rfl hB20 ?_
                refine s_move h rfl _ rfl rfl (by decide) rfl (fun a h => ?_)
                refine q_grp h 5 (t := 184) 189 ((decide (x103 = w64 ((x20.length : Int) - 1))) && (decide (x116.2 ≠ w64 (x116.1 + 1)))) rfl (fun hB26 => ?_) (fun hB26 => ?_) (fun a w h => ?_)
                · refine g_yes h rfl rfl rfl rfl hB26 ?_
                  refine s_move h rfl _ rfl rfl (by decide) rfl (fun a h => ?_)
                  refine g_yes h rfl rfl rfl rfl hB26 ?_
                  refine s_move h rfl _ rfl rfl (by decide) rfl (fun a h => ?_)
                  refine g_yes h rfl rfl rfl rfl hB26 ?_
                  refine s_x h rfl rfl (by decide) (x_bin h.k rfl rfl rfl (ib_add rfl)) (fun a h => ?_)
                  refine g_yes h rfl rfl rfl rfl hB26 ?_
                  refine s_x h rfl rfl (by decide) (x_bin h.k rfl rfl rfl ib_neq) (fun a h => ?_)
                  refine g_yes h rfl rfl rfl rfl hB20 ?_
                  refine s_x h rfl rfl (by decide) (x_pick (u' := undef) h.k rfl rfl (fun _ => rfl) (fun hh => absurd (hB26.symm.trans hh) (by decide))) (fun a h => ?_)
                  exact (h.mid 4 rfl).val (by first | rfl | (rw [hB26]; first | rfl | simp))
                · refine g_no h rfl rfl rfl rfl hB26 rfl (by decide) (fun a h => ?_)
                  refine g_no h rfl rfl rfl rfl hB26 rfl (by decide) (fun a h => ?_)
                  refine g_no h rfl rfl rfl rfl hB26 rfl (by decide) (fun a h => ?_)
                  refine g_no h rfl rfl rfl rfl hB26 rfl (by decide) (fun a h => ?_)
                  refine g_yes h rfl rfl rfl rfl hB20 ?_
                  refine s_x h rfl rfl (by decide) (x_pick (u' := undef) h.k rfl rfl (fun hh => absurd (hB26.symm.trans hh) (by decide)) (fun _ => rfl)) (fun a h => ?_)
                  exact (h.mid 4 rfl).val (by first | rfl | (rw [hB26]; first | rfl | simp))
                refine s_x h rfl rfl (by decide) (x_pick (u' := undef) h.k rfl rfl (fun hh => absurd (hB20.symm.trans hh) (by decide)) (fun _ => rfl)) (fun a h => ?_)
                exact (h.mid 7 rfl).val (by first | rfl | (rw [hB20]; first | rfl | simp))
              refine l_end ?_
              refine c_cond h rfl (fun hb => ?_) (fun hb => ?_)
              · rw [if_pos hb] at hf
                refine c_rs ?_ -- region 45
                refine s_assign h rfl _ rfl rfl (by decide) rfl (fun a h => ?_)
                refine l_end ?_
                refine wp_ret ?_
                refine e_thenR ?_
                obtain rfl := Option.some.inj hf
                exact r_ret1 h rfl (rv_tmp h rfl) ⟨_, [], _, rfl, ⟨rfl, rfl, trivial⟩, rfl, (Up.refl _ _ _), (h.m.pick [2] _ (by decide) rfl)⟩
              · rw [if_neg (by rw [hb]; decide)] at hf
                refine wp_skip ?_
                refine e_thenN ?_
                refine c_rs ?_ -- region 46
                refine s_move h rfl _ rfl rfl (by decide) rfl (fun a h => ?_)
                refine s_move h rfl _ rfl rfl (by decide) rfl (fun a h => ?_)
                refine s_move h rfl _ rfl rfl (by decide) rfl (fun a h => ?_)
                obtain ⟨x192, h193, hf⟩ := bsome hf
                have hX := path_Children_ok Fu (S0 := snapAll _) a0 hra0 x103 (remI_r h104 (u8_r _)) x112 hr113 _ h193 _ h.startAll
                refine q_callX hX h rfl rfl rfl (by decide) Try.func59 rfl rfl rfl (fun a w v L1 S1 hR hb1 h => ?_)
                obtain ⟨A195, c196, cs197, rfl, rfl, hq198, _⟩ := hR
                have hq199 := hq198.fl (S' := S0) fl_I
                refine s_move h rfl _ rfl rfl (by decide) rfl (fun a h => ?_)
                obtain ⟨x200, h201, hf⟩ := bsome hf
                have hX := chatelaineref01_Ints_ok Fu (S0 := snapAll _) A195 c196 x192 (h.m.rowAll (i := 0) rfl (j := 3) rfl hq199) A142 c143 x141 (h.m.rowAll (i := 2) rfl (j := 3) rfl hq145) _ h201 _ h.startAll
                refine q_callX hX h rfl rfl rfl (by decide) Try.func61 rfl rfl rfl (fun a w v L1 S1 hR hb1 h => ?_)
                obtain ⟨rfl, rfl, _⟩ := hR
                refine s_assign h rfl _ rfl rfl (by decide) rfl (fun a h => ?_)
                refine l_end ?_
                refine wp_ret ?_
                obtain rfl := Option.some.inj hf
                exact r_ret1 h rfl (rv_tmp h rfl) ⟨_, [], _, rfl, ⟨rfl, rfl, trivial⟩, rfl, (Up.refl _ _ _), (h.m.pick [3] _ (by decide) rfl)⟩
def chatelainelaw20_PathOnce_l2 (Fu : Nat) (x55 : (List Int)) : Nat → Int → (List Int) → Option (Sum Bool ((List Int)))
  | 0, _, _ => none
  | k + 1, x66, x68 => if x66 < (x55.length : Int) then ((ix x55.length x66).bind fun m80 => (x55[m80]?).bind fun x86 => if ((decide (x86 < 0)) || (decide ((x68.length : Int) ≤ x86))) = true then (some (.inl false)) else ((ix x68.length x86).bind fun m96 => (x68[m96]?).bind fun x102 => (ix x68.length x86).bind fun m109 => chatelainelaw20_PathOnce_l2 Fu x55 k (w64 (x66 + 1)) (x68.set m109 (w64 (x102 + 1))))) else (some (.inr x68))
def chatelainelaw20_PathOnce_l1 (Fu : Nat) (a0 : Int) (x21 : Int) (x35 : Int) : Nat → Int → (List Int) → Option (Sum Bool ((List Int)))
  | 0, _, _ => none
  | k + 1, x41, x43 => if x41 < x35 then ((path_Children Fu a0 x21 x41).bind fun x55 => (chatelainelaw20_PathOnce_l2 Fu x55 Fu 0 x43).bind fun o => match o with | .inl r118 => some (.inl r118) | .inr x73 => chatelainelaw20_PathOnce_l1 Fu a0 x21 x35 k (w64 (x41 + 1)) x73) else (some (.inr x43))
def chatelainelaw20_PathOnce_l0 (Fu : Nat) (a0 : Int) (x15 : Int) : Nat → Int → (List Int) → Option (Sum Bool ((List Int)))
  | 0, _, _ => none
  | k + 1, x21, x23 => if x21 < x15 then ((path_Count Fu a0 x21).bind fun x35 => (chatelainelaw20_PathOnce_l1 Fu a0 x21 x35 Fu 0 x23).bind fun o => match o with | .inl r119 => some (.inl r119) | .inr x48 => chatelainelaw20_PathOnce_l0 Fu a0 x15 k (w64 (x21 + 1)) x48) else (some (.inr x23))
def chatelainelaw20_PathOnce_l3 (Fu : Nat) (a0 : Int) (x28 : List Int) : Nat → Int → Option (Sum Bool Unit)
  | 0, _ => none
  | k + 1, x123 => if x123 < (x28.length : Int) then ((ix x28.length x123).bind fun m127 => (x28[m127]?).bind fun x133 => (path_Node Fu a0 x123).bind fun x140 => (path_Place Fu a0 x140.1 x140.2.1).bind fun x145 => if ((((decide (x133 ≠ 1)) || (!x140.2.2)) || (!x145.2)) || (decide (x145.1 ≠ x123))) = true then (some (.inl false)) else (chatelainelaw20_PathOnce_l3 Fu a0 x28 k (w64 (x123 + 1)))) else (some (.inr ()))
def chatelainelaw20_PathOnce (Fu : Nat) (a0 : Int) : Option Bool :=
  (chatelainelaw20_awake Fu).bind fun x1 => if (!x1) = true then (some false) else (if ((decide (300 < a0)) && (decide (a0 ≤ 4096))) = true then (some true) else ((path_Total Fu a0).bind fun x6 => (mkN 8 x6).bind fun n10 => (path_Depth Fu a0).bind fun x15 => (chatelainelaw20_PathOnce_l0 Fu a0 x15 Fu 0 (List.replicate n10 (0 : Int))).bind fun o => match o with | .inl r168 => some r168 | .inr x28 => (chatelainelaw20_PathOnce_l3 Fu a0 x28 Fu 0).bind fun o => match o with | .inl r167 => some r167 | .inr _ => (path_Below Fu a0 0 0).bind fun x155 => if ((decide (a0 < 1)) || (decide (4096 < a0))) = true then (some ((decide ((x28.length : Int) = 0)) && (decide (w64 (x155.1 + x155.2) = 0)))) else (some ((decide (x155.1 = 0)) && (decide (x155.2 = a0))))))
set_option maxRecDepth 100000 in
set_option maxHeartbeats 2000000 in
theorem chatelainelaw20_PathOnce_ok (Fu : Nat) {S0 : Snap} (a0 : Int) (hra0 : r64 a0) (r : Bool) (hf : chatelainelaw20_PathOnce Fu a0 = some r) (w0 : World) (hm : Mem w0 (ownL ([] ++ [.sn S0])) ([] ++ [.sn S0]) w0) :
    Calls Try.prog 12 #[.int .i64 a0] w0 (Ret w0 S0 [] (fun v L1 S1 => v = .bool r ∧ L1 = [] ∧ True)) := by
  unfold chatelainelaw20_PathOnce at hf
  refine c_enterM Try.func12 rfl 129 rfl (by simp) _ hm _ rfl (fun a h => ?_)
  refine c_rs ?_ -- region 0
  refine s_assign h rfl _ rfl rfl (by decide) rfl (fun a h => ?_)
  refine l_end ?_
  refine wp_seq ?_
  refine c_rs ?_ -- region 1
  obtain ⟨x1, h2, hf⟩ := bsome hf
  have hX := chatelainelaw20_awake_ok Fu (S0 := snapAll _)  _ h2 _ h.startAll
  refine q_callX hX h rfl rfl rfl (by decide) Try.func41 rfl rfl rfl (fun a w v L1 S1 hR hb1 h => ?_)
  obtain ⟨rfl, rfl, _⟩ := hR
  refine s_x h rfl rfl (by decide) (x_not h.k rfl rfl) (fun a h => ?_)
  refine l_end ?_
  refine c_cond h rfl (fun hb => ?_) (fun hb => ?_)
  · rw [if_pos hb] at hf
    refine c_rs ?_ -- region 2
    refine s_assign h rfl _ rfl rfl (by decide) rfl (fun a h => ?_)
    refine l_end ?_
    refine wp_ret ?_
    refine e_thenR ?_
    obtain rfl := Option.some.inj hf
    exact r_ret1 h rfl (rv_tmp h rfl) ⟨_, [], _, rfl, ⟨rfl, rfl, trivial⟩, rfl, (Up.refl _ _ _), h.m⟩
  · rw [if_neg (by rw [hb]; decide)] at hf
    refine wp_skip ?_
    refine e_thenN ?_
    refine wp_seq ?_
    refine c_rs ?_ -- region 3
    refine s_move h rfl _ rfl rfl (by decide) rfl (fun a h => ?_)
    refine s_x h rfl rfl (by decide) (x_bin h.k rfl rfl rfl ib_gtr) (fun a h => ?_)
    refine s_move h rfl _ rfl rfl (by decide) rfl (fun a h => ?_)
    refine q_grp h 3 (t := 21) 24 ((decide (300 < a0)) && (decide (a0 ≤ 4096))) rfl (fun hB2 => ?_) (fun hB2 => ?_) (fun a w h => ?_)
    · refine g_yes h rfl rfl rfl rfl hB2 ?_
      refine s_move h rfl _ rfl rfl (by decide) rfl (fun a h => ?_)
      refine g_yes h rfl rfl rfl rfl hB2 ?_
      refine s_x h rfl rfl (by decide) (x_bin h.k rfl rfl rfl ib_leq) (fun a h => ?_)
      refine s_x h rfl rfl (by decide) (x_pick (u' := undef) h.k rfl rfl (fun _ => rfl) (fun hh => absurd (hB2.symm.trans hh) (by decide))) (fun a h => ?_)
      exact (h.mid 2 rfl).val (by first | rfl | (rw [hB2]; first | rfl | simp))
    · refine g_no h rfl rfl rfl rfl hB2 rfl (by decide) (fun a h => ?_)
      refine g_no h rfl rfl rfl rfl hB2 rfl (by decide) (fun a h => ?_)
      refine s_x h rfl rfl (by decide) (x_pick (u' := undef) h.k rfl rfl (fun hh => absurd (hB2.symm.trans hh) (by decide)) (fun _ => rfl)) (fun a h => ?_)
      exact (h.mid 2 rfl).val (by first | rfl | (rw [hB2]; first | rfl | simp))
    refine l_end ?_
    refine c_cond h rfl (fun hb => ?_) (fun hb => ?_)
    · rw [if_pos hb] at hf
      refine c_rs ?_ -- region 4
      refine s_assign h rfl _ rfl rfl (by decide) rfl (fun a h => ?_)
      refine l_end ?_
      refine wp_ret ?_
      refine e_thenR ?_
      obtain rfl := Option.some.inj hf
      exact r_ret1 h rfl (rv_tmp h rfl) ⟨_, [], _, rfl, ⟨rfl, rfl, trivial⟩, rfl, (Up.refl _ _ _), h.m⟩
    · rw [if_neg (by rw [hb]; decide)] at hf
      refine wp_skip ?_
      refine e_thenN ?_
      refine c_rs ?_ -- region 5
      refine s_move h rfl _ rfl rfl (by decide) rfl (fun a h => ?_)
      obtain ⟨x6, h7, hf⟩ := bsome hf
      have hX := path_Total_ok Fu (S0 := snapAll _) a0 hra0 _ h7 _ h.startAll
      refine q_callX hX h rfl rfl rfl (by decide) Try.func47 rfl rfl rfl (fun a w v L1 S1 hR hb1 h => ?_)
      obtain ⟨rfl, rfl, hr9, _⟩ := hR
      obtain ⟨n10, h11, hf⟩ := bsome hf
      refine q_make (T := tyI) (S := S0) h rfl rfl rfl (by decide) Try.underlying78 zb_int rfl rfl (q := 0) ⟨rfl, (show r64 0 from ⟨by decide, by decide⟩)⟩ rfl rfl h11 (fun a w A12 cs13 hq14 h => ?_)
      refine s_assign h rfl _ rfl rfl (by decide) rfl (fun a h => ?_)
      refine l_end ?_
      refine wp_seq ?_
      refine c_rs ?_ -- region 6
      refine s_move h rfl _ rfl rfl (by decide) rfl (fun a h => ?_)
      obtain ⟨x15, h16, hf⟩ := bsome hf
      have hX := path_Depth_ok Fu (S0 := snapAll _) a0 hra0 _ h16 _ h.startAll
      refine q_callX hX h rfl rfl rfl (by decide) Try.func46 rfl rfl rfl (fun a w v L1 S1 hR hb1 h => ?_)
      obtain ⟨rfl, rfl, hr18, _⟩ := hR
      refine s_move h rfl _ rfl rfl (by decide) rfl (fun a h => ?_)
      refine l_end ?_
      obtain ⟨o19, hl20, hf⟩ := bsome hf
      refine c_fin (fun a w => ∃ (x28 : List Int), ∃ (A29 : Option Addr), ∃ (c30 : Nat), ∃ (cs31 : List Value), (.inr x28) = o19 ∧ reps tyI S0 cs31 x28 ∧ St 129 w0 (ownL ([] ++ [.sn S0])) [(0, .int .i64 a0), (3, .slice A29 x28.length c30)] [.row (.slice A29 x28.length c30) 3 1 x28.length cs31, .sn S0] a w) ?_ ?_
      · refine wp_block ?_
        refine c_loop (fun m34 a w => ∃ (x21 : Int), ∃ (x23 : List Int), ∃ (A24 : Option Addr), ∃ (c25 : Nat), ∃ (cs26 : List Value), chatelainelaw20_PathOnce_l0 Fu a0 x15 m34 x21 x23 = some o19 ∧ r64 x21 ∧ reps tyI S0 cs26 x23 ∧ St 129 w0 (ownL ([] ++ [.sn S0])) [(0, .int .i64 a0), (3, .slice A24 x23.length c25), (29, .int .i64 x15), (30, .int .i64 x21)] [.row (.slice A24 x23.length c25) 3 1 x23.length cs26, .sn S0] a w) Fu ⟨0, (List.replicate n10 (0 : Int)), A12, n10, cs13, hl20, (show r64 0 from ⟨by decide, by decide⟩), hq14, h.has (by exact ⟨rfl, rfl, rfl, rfl, trivial⟩)⟩ (fun m34 a w hI => ?_)
        obtain ⟨x21, x23, A24, c25, cs26, hl33, hr22, hq27, h⟩ := hI
        obtain _ | m34 := m34
        · rw [chatelainelaw20_PathOnce_l0] at hl33; cases hl33
        rw [chatelainelaw20_PathOnce_l0] at hl33
        refine c_rs ?_ -- region 7
        refine s_x h rfl rfl (by decide) (x_bin h.k rfl rfl rfl ib_lss) (fun a h => ?_)
        refine l_end ?_
        refine c_cs h rfl (fun hb => ?_) (fun hb => ?_)
        · rw [if_pos (of_decide_eq_true hb)] at hl33
          refine wp_skip ?_
          refine e_thenN ?_
          refine wp_seq ?_
          refine wp_block ?_
          refine c_rs ?_ -- region 8
          refine s_move h rfl _ rfl rfl (by decide) rfl (fun a h => ?_)
          refine s_assign h rfl _ rfl rfl (by decide) rfl (fun a h => ?_)
          refine l_end ?_
          refine c_rs ?_ -- region 9
          refine s_move h rfl _ rfl rfl (by decide) rfl (fun a h => ?_)
          refine s_move h rfl _ rfl rfl (by decide) rfl (fun a h => ?_)
          obtain ⟨x35, h36, hl33⟩ := bsome hl33
          have hX := path_Count_ok Fu (S0 := snapAll _) a0 hra0 x21 hr22 _ h36 _ h.startAll
          refine q_callX hX h rfl rfl rfl (by decide) Try.func48 rfl rfl rfl (fun a w v L1 S1 hR hb1 h => ?_)
          obtain ⟨rfl, rfl, hr38, _⟩ := hR
          refine s_move h rfl _ rfl rfl (by decide) rfl (fun a h => ?_)
          refine l_end ?_
          obtain ⟨o39, hl40, hl33⟩ := bsome hl33
          refine c_fin (fun a w => ∃ (x48 : List Int), ∃ (A49 : Option Addr), ∃ (c50 : Nat), ∃ (cs51 : List Value), (.inr x48) = o39 ∧ reps tyI S0 cs51 x48 ∧ St 129 w0 (ownL ([] ++ [.sn S0])) [(0, .int .i64 a0), (3, .slice A49 x48.length c50), (29, .int .i64 x15), (30, .int .i64 x21)] [.row (.slice A49 x48.length c50) 3 1 x48.length cs51, .sn S0] a w) ?_ ?_
          · refine wp_block ?_
            refine c_loop (fun m54 a w => ∃ (x41 : Int), ∃ (x43 : List Int), ∃ (A44 : Option Addr), ∃ (c45 : Nat), ∃ (cs46 : List Value), chatelainelaw20_PathOnce_l1 Fu a0 x21 x35 m54 x41 x43 = some o39 ∧ r64 x41 ∧ reps tyI S0 cs46 x43 ∧ St 129 w0 (ownL ([] ++ [.sn S0])) [(0, .int .i64 a0), (3, .slice A44 x43.length c45), (4, .int .i64 x21), (29, .int .i64 x15), (30, .int .i64 x21), (35, .int .i64 x35), (36, .int .i64 x41)] [.row (.slice A44 x43.length c45) 3 1 x43.length cs46, .sn S0] a w) Fu ⟨0, x23, A24, c25, cs26, hl40, (show r64 0 from ⟨by decide, by decide⟩), hq27, h.has (by exact ⟨rfl, rfl, rfl, rfl, rfl, rfl, rfl, trivial⟩)⟩ (fun m54 a w hI => ?_)
            obtain ⟨x41, x43, A44, c45, cs46, hl53, hr42, hq47, h⟩ := hI
            obtain _ | m54 := m54
            · rw [chatelainelaw20_PathOnce_l1] at hl53; cases hl53
            rw [chatelainelaw20_PathOnce_l1] at hl53
            refine c_rs ?_ -- region 10
            refine s_x h rfl rfl (by decide) (x_bin h.k rfl rfl rfl ib_lss) (fun a h => ?_)
            refine l_end ?_
            refine c_cs h rfl (fun hb => ?_) (fun hb => ?_)
            · rw [if_pos (of_decide_eq_true hb)] at hl53
              refine wp_skip ?_
              refine e_thenN ?_
              refine wp_seq ?_
              refine wp_block ?_
              refine c_rs ?_ -- region 11
              refine s_move h rfl _ rfl rfl (by decide) rfl (fun a h => ?_)
              refine s_assign h rfl _ rfl rfl (by decide) rfl (fun a h => ?_)
              refine l_end ?_
              refine c_rs ?_ -- region 12
              refine s_move h rfl _ rfl rfl (by decide) rfl (fun a h => ?_)
              refine s_move h rfl _ rfl rfl (by decide) rfl (fun a h => ?_)
              refine s_move h rfl _ rfl rfl (by decide) rfl (fun a h => ?_)
              obtain ⟨x55, h56, hl53⟩ := bsome hl53
              have hX := path_Children_ok Fu (S0 := snapAll _) a0 hra0 x21 hr22 x41 hr42 _ h56 _ h.startAll
              refine q_callX hX h rfl rfl rfl (by decide) Try.func59 rfl rfl rfl (fun a w v L1 S1 hR hb1 h => ?_)
              obtain ⟨A58, c59, cs60, rfl, rfl, hq61, _⟩ := hR
              have hq62 := hq61.fl (S' := S0) fl_I
              have hr63 : r64 (x55.length : Int) := len_r (h.m.rowLen (i := 0) rfl)
              refine s_x h rfl rfl (by decide) (x_len h.k rfl Try.underlying78 rfl) (fun a h => ?_)
              refine s_move h rfl _ rfl rfl (by decide) rfl (fun a h => ?_)
              refine l_end ?_
              obtain ⟨o64, hl65, hl53⟩ := bsome hl53
              refine c_fin (fun a w => ∃ (x73 : List Int), ∃ (A74 : Option Addr), ∃ (c75 : Nat), ∃ (cs76 : List Value), (.inr x73) = o64 ∧ reps tyI S0 cs76 x73 ∧ St 129 w0 (ownL ([] ++ [.sn S0])) [(0, .int .i64 a0), (3, .slice A74 x73.length c75), (4, .int .i64 x21), (29, .int .i64 x15), (30, .int .i64 x21), (35, .int .i64 x35), (36, .int .i64 x41)] [.row (.slice A74 x73.length c75) 3 1 x73.length cs76, .sn S0] a w) ?_ ?_
              · refine wp_block ?_
                have h := h.pick [1, 0, 2] (by decide) rfl
                refine c_loop (fun m79 a w => ∃ (x66 : Int), ∃ (x68 : List Int), ∃ (A69 : Option Addr), ∃ (c70 : Nat), ∃ (cs71 : List Value), chatelainelaw20_PathOnce_l2 Fu x55 m79 x66 x68 = some o64 ∧ r64 x66 ∧ reps tyI S0 cs71 x68 ∧ St 129 w0 (ownL ([] ++ [.sn S0])) [(0, .int .i64 a0), (3, .slice A69 x68.length c70), (4, .int .i64 x21), (29, .int .i64 x15), (30, .int .i64 x21), (35, .int .i64 x35), (36, .int .i64 x41), (42, .slice A58 x55.length c59), (43, .int .i64 (x55.length : Int)), (44, .int .i64 x66)] [.row (.slice A69 x68.length c70) 3 1 x68.length cs71, .row (.slice A58 x55.length c59) 3 1 x55.length cs60, .sn S0] a w) Fu ⟨0, x43, A44, c45, cs46, hl65, (show r64 0 from ⟨by decide, by decide⟩), hq47, h.has (by exact ⟨rfl, rfl, rfl, rfl, rfl, rfl, rfl, rfl, rfl, rfl, trivial⟩)⟩ (fun m79 a w hI => ?_)
                obtain ⟨x66, x68, A69, c70, cs71, hl78, hr67, hq72, h⟩ := hI
                obtain _ | m79 := m79
                · rw [chatelainelaw20_PathOnce_l2] at hl78; cases hl78
                rw [chatelainelaw20_PathOnce_l2] at hl78
                refine c_rs ?_ -- region 13
                refine s_x h rfl rfl (by decide) (x_bin h.k rfl rfl rfl ib_lss) (fun a h => ?_)
                refine l_end ?_
                refine c_cs h rfl (fun hb => ?_) (fun hb => ?_)
                · rw [if_pos (of_decide_eq_true hb)] at hl78
                  refine wp_skip ?_
                  refine e_thenN ?_
                  refine wp_seq ?_
                  refine wp_block ?_
                  refine c_rs ?_ -- region 14
                  obtain ⟨m80, h81, hl78⟩ := bsome hl78
                  obtain ⟨hi82, hm83⟩ := ix_some h81
                  obtain ⟨g85, hA84⟩ := h.m.rowHead (i := 1) rfl (Nat.lt_of_le_of_lt (Nat.zero_le _) hm83)
                  refine s_x h rfl rfl (by decide) (x_iaddrE h.k rfl Try.underlying78 sz_int hA84 rfl rfl hi82 hm83) (fun a h => ?_)
                  obtain ⟨x86, h87, hl78⟩ := bsome hl78
                  obtain ⟨u88, hv89, hu90⟩ := (hq62).cell rfl h87
                  obtain ⟨e92, hr91⟩ := hu90
                  cases e92
                  refine s_x h rfl rfl (by decide) (x_ld h.k rfl Try.underlying3 rfl rfl (h.m.cellRowE (i := 1) rfl hA84 _ (by rw [Nat.mul_one]; exact hv89))) (fun a h => ?_)
                  refine s_assign h rfl _ rfl rfl (by decide) rfl (fun a h => ?_)
                  refine l_end ?_
                  refine wp_seq ?_
                  refine c_rs ?_ -- region 15
                  refine s_move h rfl _ rfl rfl (by decide) rfl (fun a h => ?_)
                  refine s_x h rfl rfl (by decide) (x_bin h.k rfl rfl rfl ib_lss) (fun a h => ?_)
                  refine s_move h rfl _ rfl rfl (by decide) rfl (fun a h => ?_)
                  refine q_grp h 5 (t := 50) 55 ((decide (x86 < 0)) || (decide ((x68.length : Int) ≤ x86))) rfl (fun hB2 => ?_) (fun hB2 => ?_) (fun a w h => ?_)
                  · refine g_no h rfl rfl rfl rfl hB2 rfl (by decide) (fun a h => ?_)
                    refine g_no h rfl rfl rfl rfl hB2 rfl (by decide) (fun a h => ?_)
                    refine g_no h rfl rfl rfl rfl hB2 rfl (by decide) (fun a h => ?_)
                    refine g_no h rfl rfl rfl rfl hB2 rfl (by decide) (fun a h => ?_)
                    refine s_x h rfl rfl (by decide) (x_pick (u' := undef) h.k rfl rfl (fun _ => rfl) (fun hh => absurd (hB2.symm.trans hh) (by decide))) (fun a h => ?_)
                    exact (h.mid 4 rfl).val (by first | rfl | (rw [hB2]; first | rfl | simp))
                  · refine g_yes h rfl rfl rfl rfl hB2 ?_
                    refine s_move h rfl _ rfl rfl (by decide) rfl (fun a h => ?_)
                    refine g_yes h rfl rfl rfl rfl hB2 ?_
                    refine s_move h rfl _ rfl rfl (by decide) rfl (fun a h => ?_)
                    refine g_yes h rfl rfl rfl rfl hB2 ?_
                    have hr95 : r64 (x68.length : Int) := len_r (h.m.rowLen (i := 0) rfl)
                    refine s_x h rfl rfl (by decide) (x_len h.k rfl Try.underlying78 rfl) (fun a h => ?_)
                    refine g_yes h rfl rfl rfl rfl hB2 ?_
                    refine s_x h rfl rfl (by decide) (x_bin h.k rfl rfl rfl ib_geq) (fun a h => ?_)
                    refine s_x h rfl rfl (by decide) (x_pick (u' := undef) h.k rfl rfl (fun hh => absurd (hB2.symm.trans hh) (by decide)) (fun _ => rfl)) (fun a h => ?_)
                    exact (h.mid 4 rfl).val (by first | rfl | (rw [hB2]; first | rfl | simp))
                  refine l_end ?_
                  refine c_cond h rfl (fun hb => ?_) (fun hb => ?_)
                  · rw [if_pos hb] at hl78
                    refine c_rs ?_ -- region 16
                    refine s_assign h rfl _ rfl rfl (by decide) rfl (fun a h => ?_)
                    refine l_end ?_
                    refine wp_ret ?_
                    refine e_thenR ?_
                    refine e_blkR ?_
                    refine e_thenR ?_
                    refine e_thenR ?_
                    refine e_blkR ?_
                    refine e_thenR ?_
                    cases hl78
                    try dsimp only at hl53
                    refine e_blkR ?_
                    refine e_thenR ?_
                    refine e_thenR ?_
                    refine e_blkR ?_
                    refine e_thenR ?_
                    cases hl53
                    try dsimp only at hl33
                    refine e_blkR ?_
                    refine e_thenR ?_
                    refine e_thenR ?_
                    refine e_blkR ?_
                    refine e_thenR ?_
                    cases hl33
                    try dsimp only at hf
                    refine e_thenR ?_
                    obtain rfl := Option.some.inj hf
                    exact r_ret1 h rfl (rv_tmp h rfl) ⟨_, [], _, rfl, ⟨rfl, rfl, trivial⟩, rfl, (Up.refl _ _ _), (h.m.pick [2] _ (by decide) rfl)⟩
                  · rw [if_neg (by rw [hb]; decide)] at hl78
                    refine wp_skip ?_
                    refine e_thenN ?_
                    refine c_r ?_ -- region 17
                    refine s_move h rfl _ rfl rfl (by decide) rfl (fun a h => ?_)
                    refine s_move h rfl _ rfl rfl (by decide) rfl (fun a h => ?_)
                    obtain ⟨m96, h97, hl78⟩ := bsome hl78
                    obtain ⟨hi98, hm99⟩ := ix_some h97
                    obtain ⟨g101, hA100⟩ := h.m.rowHead (i := 0) rfl (Nat.lt_of_le_of_lt (Nat.zero_le _) hm99)
                    refine s_x h rfl rfl (by decide) (x_iaddrE h.k rfl Try.underlying78 sz_int hA100 rfl rfl hi98 hm99) (fun a h => ?_)
                    obtain ⟨x102, h103, hl78⟩ := bsome hl78
                    obtain ⟨u104, hv105, hu106⟩ := (hq72).cell rfl h103
                    obtain ⟨e108, hr107⟩ := hu106
                    cases e108
                    refine s_x h rfl rfl (by decide) (x_ld h.k rfl Try.underlying3 rfl rfl (h.m.cellRowE (i := 0) rfl hA100 _ (by rw [Nat.mul_one]; exact hv105))) (fun a h => ?_)
                    refine s_x h rfl rfl (by decide) (x_bin h.k rfl rfl rfl (ib_add rfl)) (fun a h => ?_)
                    obtain ⟨m109, h110, hl78⟩ := bsome hl78
                    obtain ⟨hi111, hm112⟩ := ix_some h110
                    obtain ⟨g114, hA113⟩ := h.m.rowHead (i := 0) rfl (Nat.lt_of_le_of_lt (Nat.zero_le _) hm112)
                    refine s_x h rfl rfl (by decide) (x_iaddrE h.k rfl Try.underlying78 sz_int hA113 rfl rfl hi111 hm112) (fun a h => ?_)
                    refine q_setRow (T := tyI) (q := w64 (x102 + 1)) h rfl rfl rfl sz_int hA113 rfl rfl 0 rfl rfl hq72 ⟨rfl, (w64_r _)⟩ (by first | exact hm112 | simpa using hm112) (fun a w cs115 hq116 h => ?_)
                    have hl117 : x68.length = (x68.set m109 (w64 (x102 + 1))).length := by rw [List.length_set]
                    rw [hl117] at h
                    refine l_nil ?_
                    refine e_blkN ?_
                    refine e_thenN ?_
                    refine c_r ?_ -- region 18
                    refine s_x h rfl rfl (by decide) (x_bin h.k rfl rfl rfl (ib_add rfl)) (fun a h => ?_)
                    refine s_move h rfl _ rfl rfl (by decide) rfl (fun a h => ?_)
                    refine l_nil ?_
                    exact e_thenN ⟨m79, Nat.lt_succ_self _, w64 (x66 + 1), (x68.set m109 (w64 (x102 + 1))), A69, c70, cs115, hl78, (w64_r _), hq116, h.has (by exact ⟨rfl, rfl, rfl, rfl, rfl, rfl, rfl, rfl, rfl, rfl, trivial⟩)⟩
                · rw [if_neg (of_decide_eq_false hb)] at hl78
                  refine wp_exit ?_
                  refine e_thenX ?_
                  refine e_thenX ?_
                  refine e_blkX ?_
                  refine e_thenN ?_
                  have h := h.pick [0, 2] (by decide) rfl
                  exact ⟨x68, A69, c70, cs71, (Option.some.inj hl78), hq72, h.has (by exact ⟨rfl, rfl, rfl, rfl, rfl, rfl, rfl, trivial⟩)⟩
              · rintro a w ⟨x73, A74, c75, cs76, rfl, hq77, h⟩
                try dsimp only at hl53
                refine e_blkN ?_
                refine e_thenN ?_
                refine c_r ?_ -- region 19
                refine s_x h rfl rfl (by decide) (x_bin h.k rfl rfl rfl (ib_add rfl)) (fun a h => ?_)
                refine s_move h rfl _ rfl rfl (by decide) rfl (fun a h => ?_)
                refine l_nil ?_
                exact e_thenN ⟨m54, Nat.lt_succ_self _, w64 (x41 + 1), x73, A74, c75, cs76, hl53, (w64_r _), hq77, h.has (by exact ⟨rfl, rfl, rfl, rfl, rfl, rfl, rfl, trivial⟩)⟩
            · rw [if_neg (of_decide_eq_false hb)] at hl53
              refine wp_exit ?_
              refine e_thenX ?_
              refine e_thenX ?_
              refine e_blkX ?_
              refine e_thenN ?_
              exact ⟨x43, A44, c45, cs46, (Option.some.inj hl53), hq47, h.has (by exact ⟨rfl, rfl, rfl, rfl, trivial⟩)⟩
          · rintro a w ⟨x48, A49, c50, cs51, rfl, hq52, h⟩
            try dsimp only at hl33
            refine e_blkN ?_
            refine e_thenN ?_
            refine c_r ?_ -- region 20
            refine s_x h rfl rfl (by decide) (x_bin h.k rfl rfl rfl (ib_add rfl)) (fun a h => ?_)
            refine s_move h rfl _ rfl rfl (by decide) rfl (fun a h => ?_)
            refine l_nil ?_
            exact e_thenN ⟨m34, Nat.lt_succ_self _, w64 (x21 + 1), x48, A49, c50, cs51, hl33, (w64_r _), hq52, h.has (by exact ⟨rfl, rfl, rfl, rfl, trivial⟩)⟩
        · rw [if_neg (of_decide_eq_false hb)] at hl33
          refine wp_exit ?_
          refine e_thenX ?_
          refine e_thenX ?_
          refine e_blkX ?_
          refine e_thenN ?_
          exact ⟨x23, A24, c25, cs26, (Option.some.inj hl33), hq27, h.has (by exact ⟨rfl, rfl, trivial⟩)⟩
      · rintro a w ⟨x28, A29, c30, cs31, rfl, hq32, h⟩
        try dsimp only at hf
        refine e_thenN ?_
        refine wp_seq ?_
        refine c_rs ?_ -- region 21
        refine s_move h rfl _ rfl rfl (by decide) rfl (fun a h => ?_)
        have hr120 : r64 (x28.length : Int) := len_r (h.m.rowLen (i := 0) rfl)
        refine s_x h rfl rfl (by decide) (x_len h.k rfl Try.underlying78 rfl) (fun a h => ?_)
        refine s_move h rfl _ rfl rfl (by decide) rfl (fun a h => ?_)
        refine l_end ?_
        obtain ⟨o121, hl122, hf⟩ := bsome hf
        refine c_fin (fun a w => (.inr ()) = o121 ∧ St 129 w0 (ownL ([] ++ [.sn S0])) [(0, .int .i64 a0), (3, .slice A29 x28.length c30)] [.row (.slice A29 x28.length c30) 3 1 x28.length cs31, .sn S0] a w) ?_ ?_
        · refine wp_block ?_
          refine c_loop (fun m126 a w => ∃ (x123 : Int), chatelainelaw20_PathOnce_l3 Fu a0 x28 m126 x123 = some o121 ∧ r64 x123 ∧ St 129 w0 (ownL ([] ++ [.sn S0])) [(0, .int .i64 a0), (3, .slice A29 x28.length c30), (65, .slice A29 x28.length c30), (66, .int .i64 (x28.length : Int)), (67, .int .i64 x123)] [.row (.slice A29 x28.length c30) 3 1 x28.length cs31, .sn S0] a w) Fu ⟨0, hl122, (show r64 0 from ⟨by decide, by decide⟩), h.has (by exact ⟨rfl, rfl, rfl, rfl, rfl, trivial⟩)⟩ (fun m126 a w hI => ?_)
          obtain ⟨x123, hl125, hr124, h⟩ := hI
          obtain _ | m126 := m126
          · rw [chatelainelaw20_PathOnce_l3] at hl125; cases hl125
          rw [chatelainelaw20_PathOnce_l3] at hl125
          refine c_rs ?_ -- region 22
          refine s_x h rfl rfl (by decide) (x_bin h.k rfl rfl rfl ib_lss) (fun a h => ?_)
          refine l_end ?_
          refine c_cs h rfl (fun hb => ?_) (fun hb => ?_)
          · rw [if_pos (of_decide_eq_true hb)] at hl125
            refine wp_skip ?_
            refine e_thenN ?_
            refine wp_seq ?_
            refine wp_block ?_
            refine c_rs ?_ -- region 23
            refine s_move h rfl _ rfl rfl (by decide) rfl (fun a h => ?_)
            obtain ⟨m127, h128, hl125⟩ := bsome hl125
            obtain ⟨hi129, hm130⟩ := ix_some h128
            obtain ⟨g132, hA131⟩ := h.m.rowHead (i := 0) rfl (Nat.lt_of_le_of_lt (Nat.zero_le _) hm130)
            refine s_x h rfl rfl (by decide) (x_iaddrE h.k rfl Try.underlying78 sz_int hA131 rfl rfl hi129 hm130) (fun a h => ?_)
            obtain ⟨x133, h134, hl125⟩ := bsome hl125
            obtain ⟨u135, hv136, hu137⟩ := (hq32).cell rfl h134
            obtain ⟨e139, hr138⟩ := hu137
            cases e139
            refine s_x h rfl rfl (by decide) (x_ld h.k rfl Try.underlying3 rfl rfl (h.m.cellRowE (i := 0) rfl hA131 _ (by rw [Nat.mul_one]; exact hv136))) (fun a h => ?_)
            refine s_assign h rfl _ rfl rfl (by decide) rfl (fun a h => ?_)
            refine s_assign h rfl _ rfl rfl (by decide) rfl (fun a h => ?_)
            refine l_end ?_
            refine c_rs ?_ -- region 24
            refine s_move h rfl _ rfl rfl (by decide) rfl (fun a h => ?_)
            refine s_move h rfl _ rfl rfl (by decide) rfl (fun a h => ?_)
            obtain ⟨x140, h141, hl125⟩ := bsome hl125
            have hX := path_Node_ok Fu (S0 := snapAll _) a0 hra0 x123 hr124 _ h141 _ h.startAll
            refine q_callX hX h rfl rfl rfl (by decide) Try.func44 rfl rfl rfl (fun a w v L1 S1 hR hb1 h => ?_)
            obtain ⟨rfl, rfl, hr143, hr144, _⟩ := hR
            refine s_move h rfl _ rfl rfl (by decide) rfl (fun a h => ?_)
            refine s_x h rfl rfl (by decide) (x_ext h.k rfl rfl rfl) (fun a h => ?_)
            refine s_x h rfl rfl (by decide) (x_ext h.k rfl rfl rfl) (fun a h => ?_)
            refine s_x h rfl rfl (by decide) (x_ext h.k rfl rfl rfl) (fun a h => ?_)
            refine s_assign h rfl _ rfl rfl (by decide) rfl (fun a h => ?_)
            refine s_assign h rfl _ rfl rfl (by decide) rfl (fun a h => ?_)
            refine s_assign h rfl _ rfl rfl (by decide) rfl (fun a h => ?_)
            refine l_end ?_
            refine c_rs ?_ -- region 25
            refine s_move h rfl _ rfl rfl (by decide) rfl (fun a h => ?_)
            refine s_move h rfl _ rfl rfl (by decide) rfl (fun a h => ?_)
            refine s_move h rfl _ rfl rfl (by decide) rfl (fun a h => ?_)
            obtain ⟨x145, h146, hl125⟩ := bsome hl125
            have hX := path_Place_ok Fu (S0 := snapAll _) a0 hra0 x140.1 hr143 x140.2.1 hr144 _ h146 _ h.startAll
            refine q_callX hX h rfl rfl rfl (by decide) Try.func42 rfl rfl rfl (fun a w v L1 S1 hR hb1 h => ?_)
            obtain ⟨rfl, rfl, hr148, _⟩ := hR
            refine s_move h rfl _ rfl rfl (by decide) rfl (fun a h => ?_)
            refine s_x h rfl rfl (by decide) (x_ext h.k rfl rfl rfl) (fun a h => ?_)
            refine s_x h rfl rfl (by decide) (x_ext h.k rfl rfl rfl) (fun a h => ?_)
            refine s_assign h rfl _ rfl rfl (by decide) rfl (fun a h => ?_)
            refine s_assign h rfl _ rfl rfl (by decide) rfl (fun a h => ?_)
            refine l_end ?_
            refine c_rs ?_ -- region 26
            refine s_move h rfl _ rfl rfl (by decide) rfl (fun a h => ?_)
            refine s_x h rfl rfl (by decide) (x_bin h.k rfl rfl rfl ib_neq) (fun a h => ?_)
            refine s_move h rfl _ rfl rfl (by decide) rfl (fun a h => ?_)
            refine q_grp h 3 (t := 88) 91 ((decide (x133 ≠ 1)) || (!x140.2.2)) rfl (fun hB2 => ?_) (fun hB2 => ?_) (fun a w h => ?_)
            · refine g_no h rfl rfl rfl rfl hB2 rfl (by decide) (fun a h => ?_)
              refine g_no h rfl rfl rfl rfl hB2 rfl (by decide) (fun a h => ?_)
              refine s_x h rfl rfl (by decide) (x_pick (u' := undef) h.k rfl rfl (fun _ => rfl) (fun hh => absurd (hB2.symm.trans hh) (by decide))) (fun a h => ?_)
              exact (h.mid 2 rfl).val (by first | rfl | (rw [hB2]; first | rfl | simp))
            · refine g_yes h rfl rfl rfl rfl hB2 ?_
              refine s_move h rfl _ rfl rfl (by decide) rfl (fun a h => ?_)
              refine g_yes h rfl rfl rfl rfl hB2 ?_
              refine s_x h rfl rfl (by decide) (x_not h.k rfl rfl) (fun a h => ?_)
              refine s_x h rfl rfl (by decide) (x_pick (u' := undef) h.k rfl rfl (fun hh => absurd (hB2.symm.trans hh) (by decide)) (fun _ => rfl)) (fun a h => ?_)
              exact (h.mid 2 rfl).val (by first | rfl | (rw [hB2]; first | rfl | simp))
            refine s_move h rfl _ rfl rfl (by decide) rfl (fun a h => ?_)
            refine q_grp h 3 (t := 92) 95 (((decide (x133 ≠ 1)) || (!x140.2.2)) || (!x145.2)) rfl (fun hB6 => ?_) (fun hB6 => ?_) (fun a w h => ?_)
            · refine g_no h rfl rfl rfl rfl hB6 rfl (by decide) (fun a h => ?_)
              refine g_no h rfl rfl rfl rfl hB6 rfl (by decide) (fun a h => ?_)
              refine s_x h rfl rfl (by decide) (x_pick (u' := undef) h.k rfl rfl (fun _ => rfl) (fun hh => absurd (hB6.symm.trans hh) (by decide))) (fun a h => ?_)
              exact (h.mid 2 rfl).val (by first | rfl | (rw [hB6]; first | rfl | simp))
            · refine g_yes h rfl rfl rfl rfl hB6 ?_
              refine s_move h rfl _ rfl rfl (by decide) rfl (fun a h => ?_)
              refine g_yes h rfl rfl rfl rfl hB6 ?_
              refine s_x h rfl rfl (by decide) (x_not h.k rfl rfl) (fun a h => ?_)
              refine s_x h rfl rfl (by decide) (x_pick (u' := undef) h.k rfl rfl (fun hh => absurd (hB6.symm.trans hh) (by decide)) (fun _ => rfl)) (fun a h => ?_)
              exact (h.mid 2 rfl).val (by first | rfl | (rw [hB6]; first | rfl | simp))
            refine s_move h rfl _ rfl rfl (by decide) rfl (fun a h => ?_)
            refine q_grp h 4 (t := 96) 100 ((((decide (x133 ≠ 1)) || (!x140.2.2)) || (!x145.2)) || (decide (x145.1 ≠ x123))) rfl (fun hB10 => ?_) (fun hB10 => ?_) (fun a w h => ?_)
            · refine g_no h rfl rfl rfl rfl hB10 rfl (by decide) (fun a h => ?_)
              refine g_no h rfl rfl rfl rfl hB10 rfl (by decide) (fun a h => ?_)
              refine g_no h rfl rfl rfl rfl hB10 rfl (by decide) (fun a h => ?_)
              refine s_x h rfl rfl (by decide) (x_pick (u' := undef) h.k rfl rfl (fun _ => rfl) (fun hh => absurd (hB10.symm.trans hh) (by decide))) (fun a h => ?_)
              exact (h.mid 3 rfl).val (by first | rfl | (rw [hB10]; first | rfl | simp))
            · refine g_yes h rfl rfl rfl rfl hB10 ?_
              refine s_move h rfl _ rfl rfl (by decide) rfl (fun a h => ?_)
              refine g_yes h rfl rfl rfl rfl hB10 ?_
              refine s_move h rfl _ rfl rfl (by decide) rfl (fun a h => ?_)
              refine g_yes h rfl rfl rfl rfl hB10 ?_
              refine s_x h rfl rfl (by decide) (x_bin h.k rfl rfl rfl ib_neq) (fun a h => ?_)
              refine s_x h rfl rfl (by decide) (x_pick (u' := undef) h.k rfl rfl (fun hh => absurd (hB10.symm.trans hh) (by decide)) (fun _ => rfl)) (fun a h => ?_)
              exact (h.mid 3 rfl).val (by first | rfl | (rw [hB10]; first | rfl | simp))
            refine l_end ?_
            refine c_cond h rfl (fun hb => ?_) (fun hb => ?_)
            · rw [if_pos hb] at hl125
              refine c_rs ?_ -- region 27
              refine s_assign h rfl _ rfl rfl (by decide) rfl (fun a h => ?_)
              refine l_end ?_
              refine wp_ret ?_
              refine e_blkR ?_
              refine e_thenR ?_
              refine e_thenR ?_
              refine e_blkR ?_
              refine e_thenR ?_
              cases hl125
              try dsimp only at hf
              refine e_thenR ?_
              obtain rfl := Option.some.inj hf
              exact r_ret1 h rfl (rv_tmp h rfl) ⟨_, [], _, rfl, ⟨rfl, rfl, trivial⟩, rfl, (Up.refl _ _ _), (h.m.pick [1] _ (by decide) rfl)⟩
            · rw [if_neg (by rw [hb]; decide)] at hl125
              refine wp_skip ?_
              refine e_blkN ?_
              refine e_thenN ?_
              refine c_r ?_ -- region 28
              refine s_x h rfl rfl (by decide) (x_bin h.k rfl rfl rfl (ib_add rfl)) (fun a h => ?_)
              refine s_move h rfl _ rfl rfl (by decide) rfl (fun a h => ?_)
              refine l_nil ?_
              exact e_thenN ⟨m126, Nat.lt_succ_self _, w64 (x123 + 1), hl125, (w64_r _), h.has (by exact ⟨rfl, rfl, rfl, rfl, rfl, trivial⟩)⟩
          · rw [if_neg (of_decide_eq_false hb)] at hl125
            refine wp_exit ?_
            refine e_thenX ?_
            refine e_thenX ?_
            refine e_blkX ?_
            refine e_thenN ?_
            exact ⟨(Option.some.inj hl125), h.has (by exact ⟨rfl, rfl, trivial⟩)⟩
        · rintro a w ⟨rfl, h⟩
          try dsimp only at hf
          refine e_thenN ?_
          refine c_rs ?_ -- region 29
          refine s_move h rfl _ rfl rfl (by decide) rfl (fun a h => ?_)
          obtain ⟨x155, h156, hf⟩ := bsome hf
          have hX := path_Below_ok Fu (S0 := snapAll _) a0 hra0 0 (show r64 0 from ⟨by decide, by decide⟩) 0 (show r64 0 from ⟨by decide, by decide⟩) _ h156 _ h.startAll
          refine q_callX hX h rfl rfl rfl (by decide) Try.func60 rfl rfl rfl (fun a w v L1 S1 hR hb1 h => ?_)
          obtain ⟨rfl, rfl, hr158, hr159, _⟩ := hR
          refine s_move h rfl _ rfl rfl (by decide) rfl (fun a h => ?_)
          refine s_x h rfl rfl (by decide) (x_ext h.k rfl rfl rfl) (fun a h => ?_)
          refine s_x h rfl rfl (by decide) (x_ext h.k rfl rfl rfl) (fun a h => ?_)
          refine s_assign h rfl _ rfl rfl (by decide) rfl (fun a h => ?_)
          refine s_assign h rfl _ rfl rfl (by decide) rfl (fun a h => ?_)
          refine l_end ?_
          refine wp_seq ?_
          refine c_rs ?_ -- region 30
          refine s_move h rfl _ rfl rfl (by decide) rfl (fun a h => ?_)
          refine s_x h rfl rfl (by decide) (x_bin h.k rfl rfl rfl ib_lss) (fun a h => ?_)
          refine s_move h rfl _ rfl rfl (by decide) rfl (fun a h => ?_)
          refine q_grp h 3 (t := 109) 112 ((decide (a0 < 1)) || (decide (4096 < a0))) rfl (fun hB2 => ?_) (fun hB2 => ?_) (fun a w h => ?_)
          · refine g_no h rfl rfl rfl rfl hB2 rfl (by decide) (fun a h => ?_)
            refine g_no h rfl rfl rfl rfl hB2 rfl (by decide) (fun a h => ?_)
            refine s_x h rfl rfl (by decide) (x_pick (u' := undef) h.k rfl rfl (fun _ => rfl) (fun hh => absurd (hB2.symm.trans hh) (by decide))) (fun a h => ?_)
            exact (h.mid 2 rfl).val (by first | rfl | (rw [hB2]; first | rfl | simp))
          · refine g_yes h rfl rfl rfl rfl hB2 ?_
            refine s_move h rfl _ rfl rfl (by decide) rfl (fun a h => ?_)
            refine g_yes h rfl rfl rfl rfl hB2 ?_
            refine s_x h rfl rfl (by decide) (x_bin h.k rfl rfl rfl ib_gtr) (fun a h => ?_)
            refine s_x h rfl rfl (by decide) (x_pick (u' := undef) h.k rfl rfl (fun hh => absurd (hB2.symm.trans hh) (by decide)) (fun _ => rfl)) (fun a h => ?_)
            exact (h.mid 2 rfl).val (by first | rfl | (rw [hB2]; first | rfl | simp))
          refine l_end ?_
          refine c_cond h rfl (fun hb => ?_) (fun hb => ?_)
          · rw [if_pos hb] at hf
            refine c_rs ?_ -- region 31
            refine s_move h rfl _ rfl rfl (by decide) rfl (fun a h => ?_)
            have hr162 : r64 (x28.length : Int) := len_r (h.m.rowLen (i := 0) rfl)
            refine s_x h rfl rfl (by decide) (x_len h.k rfl Try.underlying78 rfl) (fun a h => ?_)
            refine s_x h rfl rfl (by decide) (x_bin h.k rfl rfl rfl ib_eql) (fun a h => ?_)
            refine s_move h rfl _ rfl rfl (by decide) rfl (fun a h => ?_)
            refine q_grp h 5 (t := 116) 121 ((decide ((x28.length : Int) = 0)) && (decide (w64 (x155.1 + x155.2) = 0))) rfl (fun hB3 => ?_) (fun hB3 => ?_) (fun a w h => ?_)
            · refine g_yes h rfl rfl rfl rfl hB3 ?_
              refine s_move h rfl _ rfl rfl (by decide) rfl (fun a h => ?_)
              refine g_yes h rfl rfl rfl rfl hB3 ?_
              refine s_move h rfl _ rfl rfl (by decide) rfl (fun a h => ?_)
              refine g_yes h rfl rfl rfl rfl hB3 ?_
              refine s_x h rfl rfl (by decide) (x_bin h.k rfl rfl rfl (ib_add rfl)) (fun a h => ?_)
              refine g_yes h rfl rfl rfl rfl hB3 ?_
              refine s_x h rfl rfl (by decide) (x_bin h.k rfl rfl rfl ib_eql) (fun a h => ?_)
              refine s_x h rfl rfl (by decide) (x_pick (u' := undef) h.k rfl rfl (fun _ => rfl) (fun hh => absurd (hB3.symm.trans hh) (by decide))) (fun a h => ?_)
              exact (h.mid 4 rfl).val (by first | rfl | (rw [hB3]; first | rfl | simp))
            · refine g_no h rfl rfl rfl rfl hB3 rfl (by decide) (fun a h => ?_)
              refine g_no h rfl rfl rfl rfl hB3 rfl (by decide) (fun a h => ?_)
              refine g_no h rfl rfl rfl rfl hB3 rfl (by decide) (fun a h => ?_)
              refine g_no h rfl rfl rfl rfl hB3 rfl (by decide) (fun a h => ?_)
              refine s_x h rfl rfl (by decide) (x_pick (u' := undef) h.k rfl rfl (fun hh => absurd (hB3.symm.trans hh) (by decide)) (fun _ => rfl)) (fun a h => ?_)
              exact (h.mid 4 rfl).val (by first | rfl | (rw [hB3]; first | rfl | simp))
            refine s_assign h rfl _ rfl rfl (by decide) rfl (fun a h => ?_)
            refine l_end ?_
            refine wp_ret ?_
            refine e_thenR ?_
            obtain rfl := Option.some.inj hf
            exact r_ret1 h rfl (rv_tmp h rfl) ⟨_, [], _, rfl, ⟨rfl, rfl, trivial⟩, rfl, (Up.refl _ _ _), (h.m.pick [1] _ (by decide) rfl)⟩
          · rw [if_neg (by rw [hb]; decide)] at hf
            refine wp_skip ?_
            refine e_thenN ?_
            refine c_rs ?_ -- region 32
            refine s_move h rfl _ rfl rfl (by decide) rfl (fun a h => ?_)
            refine s_x h rfl rfl (by decide) (x_bin h.k rfl rfl rfl ib_eql) (fun a h => ?_)
            refine s_move h rfl _ rfl rfl (by decide) rfl (fun a h => ?_)
            refine q_grp h 4 (t := 124) 128 ((decide (x155.1 = 0)) && (decide (x155.2 = a0))) rfl (fun hB2 => ?_) (fun hB2 => ?_) (fun a w h => ?_)
            · refine g_yes h rfl rfl rfl rfl hB2 ?_
              refine s_move h rfl _ rfl rfl (by decide) rfl (fun a h => ?_)
              refine g_yes h rfl rfl rfl rfl hB2 ?_
              refine s_move h rfl _ rfl rfl (by decide) rfl (fun a h => ?_)
              refine g_yes h rfl rfl rfl rfl hB2 ?_
              refine s_x h rfl rfl (by decide) (x_bin h.k rfl rfl rfl ib_eql) (fun a h => ?_)
              refine s_x h rfl rfl (by decide) (x_pick (u' := undef) h.k rfl rfl (fun _ => rfl) (fun hh => absurd (hB2.symm.trans hh) (by decide))) (fun a h => ?_)
              exact (h.mid 3 rfl).val (by first | rfl | (rw [hB2]; first | rfl | simp))
            · refine g_no h rfl rfl rfl rfl hB2 rfl (by decide) (fun a h => ?_)
              refine g_no h rfl rfl rfl rfl hB2 rfl (by decide) (fun a h => ?_)
              refine g_no h rfl rfl rfl rfl hB2 rfl (by decide) (fun a h => ?_)
              refine s_x h rfl rfl (by decide) (x_pick (u' := undef) h.k rfl rfl (fun hh => absurd (hB2.symm.trans hh) (by decide)) (fun _ => rfl)) (fun a h => ?_)
              exact (h.mid 3 rfl).val (by first | rfl | (rw [hB2]; first | rfl | simp))
            refine s_assign h rfl _ rfl rfl (by decide) rfl (fun a h => ?_)
            refine l_end ?_
            refine wp_ret ?_
            obtain rfl := Option.some.inj hf
            exact r_ret1 h rfl (rv_tmp h rfl) ⟨_, [], _, rfl, ⟨rfl, rfl, trivial⟩, rfl, (Up.refl _ _ _), (h.m.pick [1] _ (by decide) rfl)⟩
end Go.Proofs.Ytdahdlidpplllaa
