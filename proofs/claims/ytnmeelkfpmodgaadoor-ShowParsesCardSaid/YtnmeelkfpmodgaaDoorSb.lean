/- Sb: Go functions as plain functions, and that they are so (written by xt.py). -/
import Derived.Test.YtnmeelkfpmodgaaDoorTy
import Derived.Test.YtnmeelkfpmodgaaDoorPe
import Derived.Test.YtnmeelkfpmodgaaDoorPs
import Derived.Test.YtnmeelkfpmodgaaDoorSa
set_option linter.unusedVariables false
set_option linter.unusedSimpArgs false
namespace Go.Proofs.YtnmeelkfpmodgaaDoor
open Go.RowKit
def chatelaineref42_Digits : Nat → Int → Option ((List UInt8))
  | 0, _ => none
  | Fu + 1, a0 => if a0 < (-9223372036854775807) then (some ([45, 57, 50, 50, 51, 51, 55, 50, 48, 51, 54, 56, 53, 52, 55, 55, 53, 56, 48, 56] : List UInt8)) else (if a0 < 0 then ((chatelaineref42_Digits Fu (w64 (0 - a0))).bind fun x1 => (sapp ([45] : List UInt8) x1).bind fun x5 => some x5) else (if a0 < 10 then ((sub ([48, 49, 50, 51, 52, 53, 54, 55, 56, 57] : List UInt8) a0 (w64 (a0 + 1))).bind fun x7 => some x7) else ((chatelaineref42_Digits Fu (w64 (Int.tdiv a0 10))).bind fun x16 => (sub ([48, 49, 50, 51, 52, 53, 54, 55, 56, 57] : List UInt8) (Int.tmod a0 10) (w64 ((Int.tmod a0 10) + 1))).bind fun x20 => (sapp x16 x20).bind fun x29 => some x29)))
set_option maxRecDepth 100000 in
set_option maxHeartbeats 2000000 in
theorem chatelaineref42_Digits_ok (Fu : Nat) : ∀ {S0 : Snap} (a0 : Int) (hra0 : r64 a0) (r : (List UInt8)) (hf : chatelaineref42_Digits Fu a0 = some r) (w0 : World) (hm : Mem w0 (ownL ([] ++ [.sn S0])) ([] ++ [.sn S0]) w0),
    Calls Tryd.prog 21 #[.int .i64 a0] w0 (Ret w0 S0 [] (fun v L1 S1 => v = .string (sb r) ∧ L1 = [] ∧ r.length ≤ maxLen ∧ True)) := by
  induction Fu with
  | zero => intro S0 a0 hra0 r hf w0 hm; rw [chatelaineref42_Digits] at hf; cases hf
  | succ Fu ih =>
    intro S0 a0 hra0 r hf w0 hm
    rw [chatelaineref42_Digits] at hf
    refine c_enterM Tryd.func21 rfl 27 rfl (by simp) _ hm _ rfl (fun a h => ?_)
    refine c_rs ?_ -- region 0
    refine s_assign h rfl _ rfl rfl (by decide) rfl (fun a h => ?_)
    refine l_end ?_
    refine wp_seq ?_
    refine c_rs ?_ -- region 1
    refine s_move h rfl _ rfl rfl (by decide) rfl (fun a h => ?_)
    refine s_x h rfl rfl (by decide) (x_bin h.k rfl rfl rfl ib_lss) (fun a h => ?_)
    refine l_end ?_
    refine c_cond h rfl (fun hb => ?_) (fun hb => ?_)
    · rw [if_pos (of_decide_eq_true hb)] at hf
      refine c_rs ?_ -- region 2
      refine s_assign h rfl _ rfl rfl (by decide) rfl (fun a h => ?_)
      refine l_end ?_
      refine wp_ret ?_
      refine e_thenR ?_
      obtain rfl := Option.some.inj hf
      exact r_ret1 h rfl (rv_tmp h rfl) ⟨_, [], _, rfl, ⟨rfl, rfl, (by decide), trivial⟩, rfl, (Up.refl _ _ _), h.m⟩
    · rw [if_neg (of_decide_eq_false hb)] at hf
      refine wp_skip ?_
      refine e_thenN ?_
      refine wp_seq ?_
      refine c_rs ?_ -- region 3
      refine s_move h rfl _ rfl rfl (by decide) rfl (fun a h => ?_)
      refine s_x h rfl rfl (by decide) (x_bin h.k rfl rfl rfl ib_lss) (fun a h => ?_)
      refine l_end ?_
      refine c_cond h rfl (fun hb => ?_) (fun hb => ?_)
      · rw [if_pos (of_decide_eq_true hb)] at hf
        refine c_rs ?_ -- region 4
        refine s_move h rfl _ rfl rfl (by decide) rfl (fun a h => ?_)
        refine s_x h rfl rfl (by decide) (x_neg h.k rfl rfl rfl) (fun a h => ?_)
        obtain ⟨x1, h2, hf⟩ := bsome hf
        have hX := ih (S0 := snapAll _) (w64 (0 - a0)) (w64_r _) _ h2 _ h.startAll
        refine q_callX hX h rfl rfl rfl (by decide) Tryd.func21 rfl rfl rfl (fun a w v L1 S1 hR hb1 h => ?_)
        obtain ⟨rfl, rfl, hr4, _⟩ := hR
        obtain ⟨x5, h6, hf⟩ := bsome hf
        refine s_x h rfl rfl (by decide) (x_addS h.k rfl rfl rfl h6) (fun a h => ?_)
        refine s_assign h rfl _ rfl rfl (by decide) rfl (fun a h => ?_)
        refine l_end ?_
        refine wp_ret ?_
        refine e_thenR ?_
        rw [← Option.some.inj hf]
        exact r_ret1 h rfl (rv_tmp h rfl) ⟨_, [], _, rfl, ⟨rfl, rfl, (sapp_some h6).2, trivial⟩, rfl, (Up.refl _ _ _), h.m⟩
      · rw [if_neg (of_decide_eq_false hb)] at hf
        refine wp_skip ?_
        refine e_thenN ?_
        refine wp_seq ?_
        refine c_rs ?_ -- region 5
        refine s_move h rfl _ rfl rfl (by decide) rfl (fun a h => ?_)
        refine s_x h rfl rfl (by decide) (x_bin h.k rfl rfl rfl ib_lss) (fun a h => ?_)
        refine l_end ?_
        refine c_cond h rfl (fun hb => ?_) (fun hb => ?_)
        · rw [if_pos (of_decide_eq_true hb)] at hf
          refine c_rs ?_ -- region 6
          refine s_move h rfl _ rfl rfl (by decide) rfl (fun a h => ?_)
          refine s_move h rfl _ rfl rfl (by decide) rfl (fun a h => ?_)
          refine s_x h rfl rfl (by decide) (x_bin h.k rfl rfl rfl (ib_add rfl)) (fun a h => ?_)
          obtain ⟨x7, h8, hf⟩ := bsome hf
          obtain ⟨m9, n10, hi11, hi12, hm13, hm14, hr15⟩ := sub_some h8
          refine s_x h rfl rfl (by decide) (x_sliceStr h.k rfl Tryd.underlying9 rfl hr15 (bd_some rfl hi11) (bd_some rfl hi12) hm13 hm14) (fun a h => ?_)
          refine s_assign h rfl _ rfl rfl (by decide) rfl (fun a h => ?_)
          refine l_end ?_
          refine wp_ret ?_
          refine e_thenR ?_
          rw [← Option.some.inj hf]
          exact r_ret1 h rfl (rv_tmp h rfl) ⟨_, [], _, rfl, ⟨rfl, rfl, (by rw [hr15, List.length_drop, List.length_take]; have : ([48, 49, 50, 51, 52, 53, 54, 55, 56, 57] : List UInt8).length ≤ maxLen := (by decide); omega), trivial⟩, rfl, (Up.refl _ _ _), h.m⟩
        · rw [if_neg (of_decide_eq_false hb)] at hf
          refine wp_skip ?_
          refine e_thenN ?_
          refine wp_seq ?_
          -- region 7 draws
          obtain ⟨x16, h17, hf⟩ := bsome hf
          obtain ⟨x20, h21, hf⟩ := bsome hf
          obtain ⟨x29, h30, hf⟩ := bsome hf
          refine d_start h (Mem _ _ _) 11 11 rfl (by kernel_rfl) (fun _ _ _ _ _ h => h) (fun _ h => h) (fun Q a w HE HN h HS => ?_)
          refine d_takeP h (fun _ => HS) HN 0 rfl (by kernel_rfl) (by kernel_rfl) (by kernel_rfl) (by decide) rfl rfl (by decide) (fun w' => x_move h.k _ rfl rfl) (fun a h => ?_)
          refine d_takeP h (fun _ => HS) HN 1 rfl (by kernel_rfl) (by kernel_rfl) (by kernel_rfl) (by decide) rfl rfl (by decide) (fun w' => x_bin h.k rfl rfl rfl (ib_quow (by decide))) (fun a h => ?_)
          refine d_takeP h (fun _ => HS) HN 3 rfl (by kernel_rfl) (by kernel_rfl) (by kernel_rfl) (by decide) rfl rfl (by decide) (fun w' => x_move h.k _ rfl rfl) (fun a h => ?_)
          refine d_takeP h (fun _ => HS) HN 4 rfl (by kernel_rfl) (by kernel_rfl) (by kernel_rfl) (by decide) rfl rfl (by decide) (fun w' => x_bin h.k rfl rfl rfl (ib_remw (by decide))) (fun a h => ?_)
          refine d_takeP h (fun _ => HS) HN 5 rfl (by kernel_rfl) (by kernel_rfl) (by kernel_rfl) (by decide) rfl rfl (by decide) (fun w' => x_move h.k _ rfl rfl) (fun a h => ?_)
          refine d_takeP h (fun _ => HS) HN 6 rfl (by kernel_rfl) (by kernel_rfl) (by kernel_rfl) (by decide) rfl rfl (by decide) (fun w' => x_bin h.k rfl rfl rfl (ib_remw (by decide))) (fun a h => ?_)
          refine d_takeP h (fun _ => HS) HN 7 rfl (by kernel_rfl) (by kernel_rfl) (by kernel_rfl) (by decide) rfl rfl (by decide) (fun w' => x_bin h.k rfl rfl rfl (ib_add rfl)) (fun a h => ?_)
          obtain ⟨m22, n23, hi24, hi25, hm26, hm27, hr28⟩ := sub_some h21
          refine d_takeP h (fun _ => HS) HN 8 rfl (by kernel_rfl) (by kernel_rfl) (by kernel_rfl) (by decide) rfl rfl (by decide) (fun w' => x_sliceStr h.k rfl Tryd.underlying9 rfl hr28 (bd_some rfl hi24) (bd_some rfl hi25) hm26 hm27) (fun a h => ?_)
          refine d_alone 2 rfl (by kernel_rfl) (fun K hK => ?_)
          have hX := ih (S0 := snapAll _) (w64 (Int.tdiv a0 10)) (w64_r _) _ h17 _ h.startAll
          refine q_callX hX h rfl rfl rfl (by decide) Tryd.func21 rfl rfl rfl (fun a w v L1 S1 hR hb1 h => ?_)
          obtain ⟨rfl, rfl, hr19, _⟩ := hR
          refine hK _ _ (fun _ _ => HS.ext hb1) ?_
          replace HS := HS.ext hb1
          clear hK
          refine d_takeP h (fun _ => HS) HN 9 rfl (by kernel_rfl) (by kernel_rfl) (by kernel_rfl) (by decide) rfl rfl (by decide) (fun w' => x_addS h.k rfl rfl rfl h30) (fun a h => ?_)
          refine d_takeP h (fun _ => HS) HN 10 rfl (by kernel_rfl) (by kernel_rfl) (by kernel_rfl) (by decide) rfl rfl (by decide) (fun w' => x_assign h.k _ rfl rfl) (fun a h => ?_)
          refine d_done (by kernel_rfl) (HE _ _ ?_) _
          refine e_thenN ?_
          refine wp_ret ?_
          rw [← Option.some.inj hf]
          exact r_ret1 h rfl (rv_tmp h rfl) ⟨_, [], _, rfl, ⟨rfl, rfl, (sapp_some h30).2, trivial⟩, rfl, (Up.refl _ _ _), h.m⟩
def chatelaineref42_May (Fu : Nat) (a0 : Int × Int) : Option Bool :=
  some (((((decide (0 ≤ a0.1)) && (decide (a0.1 ≤ 1048576))) && (decide (1 ≤ a0.2))) && (decide (a0.2 ≤ 1048576))) && (decide (w64 (a0.1 + a0.2) ≤ 1048576)))
set_option maxRecDepth 100000 in
set_option maxHeartbeats 2000000 in
theorem chatelaineref42_May_ok (Fu : Nat) {S0 : Snap} (csa0 : List Value) (a0 : Int × Int) (hsa0 : (tyP tyI tyI).rep S0 csa0 a0) (r : Bool) (hf : chatelaineref42_May Fu a0 = some r) (w0 : World) (hm : Mem w0 (ownL ([] ++ [.sn S0])) ([] ++ [.sn S0]) w0) :
    Calls Tryd.prog 16 #[.agg csa0.toArray] w0 (Ret w0 S0 [] (fun v L1 S1 => v = .bool r ∧ L1 = [] ∧ True)) := by
  unfold chatelaineref42_May at hf
  obtain ⟨k1, k2, rfl, ⟨rfl, hr3⟩, ⟨rfl, hr4⟩⟩ := hsa0
  refine c_enterM Tryd.func16 rfl 29 rfl (by simp) _ hm _ rfl (fun a h => ?_)
  refine c_rs ?_ -- region 0
  refine s_box h rfl rfl rfl (by decide) rfl (cs := [.int .i64 a0.1, .int .i64 a0.2]) (by rfl) (fun a w g5 h => ?_)
  refine s_assign h rfl _ rfl rfl (by decide) rfl (fun a h => ?_)
  refine l_end ?_
  refine c_rs ?_ -- region 1
  refine s_x h rfl rfl (by decide) (x_faddr h.k rfl Tryd.underlying46 rfl sz_int rfl) (fun a h => ?_)
  refine s_x h rfl rfl (by decide) (x_ld h.k rfl Tryd.underlying3 rfl rfl ((h.m.cell (i := 0) rfl 0).trans rfl)) (fun a h => ?_)
  refine s_x h rfl rfl (by decide) (x_bin h.k rfl rfl rfl ib_geq) (fun a h => ?_)
  refine s_move h rfl _ rfl rfl (by decide) rfl (fun a h => ?_)
  refine q_grp h 4 (t := 6) 10 ((decide (0 ≤ a0.1)) && (decide (a0.1 ≤ 1048576))) rfl (fun hB3 => ?_) (fun hB3 => ?_) (fun a w h => ?_)
  · refine g_yes h rfl rfl rfl rfl hB3 ?_
    refine s_x h rfl rfl (by decide) (x_faddr h.k rfl Tryd.underlying46 rfl sz_int rfl) (fun a h => ?_)
    refine g_yes h rfl rfl rfl rfl hB3 ?_
    refine s_x h rfl rfl (by decide) (x_ld h.k rfl Tryd.underlying3 rfl rfl ((h.m.cell (i := 0) rfl 0).trans rfl)) (fun a h => ?_)
    refine g_yes h rfl rfl rfl rfl hB3 ?_
    refine s_x h rfl rfl (by decide) (x_bin h.k rfl rfl rfl ib_leq) (fun a h => ?_)
    refine s_x h rfl rfl (by decide) (x_pick (u' := undef) h.k rfl rfl (fun _ => rfl) (fun hh => absurd (hB3.symm.trans hh) (by decide))) (fun a h => ?_)
    exact (h.mid 3 rfl).val (by first | rfl | (rw [hB3]; first | rfl | simp))
  · refine g_no h rfl rfl rfl rfl hB3 rfl (by decide) (fun a h => ?_)
    refine g_no h rfl rfl rfl rfl hB3 rfl (by decide) (fun a h => ?_)
    refine g_no h rfl rfl rfl rfl hB3 rfl (by decide) (fun a h => ?_)
    refine s_x h rfl rfl (by decide) (x_pick (u' := undef) h.k rfl rfl (fun hh => absurd (hB3.symm.trans hh) (by decide)) (fun _ => rfl)) (fun a h => ?_)
    exact (h.mid 3 rfl).val (by first | rfl | (rw [hB3]; first | rfl | simp))
  refine s_move h rfl _ rfl rfl (by decide) rfl (fun a h => ?_)
  refine q_grp h 4 (t := 11) 15 (((decide (0 ≤ a0.1)) && (decide (a0.1 ≤ 1048576))) && (decide (1 ≤ a0.2))) rfl (fun hB8 => ?_) (fun hB8 => ?_) (fun a w h => ?_)
  · refine g_yes h rfl rfl rfl rfl hB8 ?_
    refine s_x h rfl rfl (by decide) (x_faddr h.k rfl Tryd.underlying46 rfl sz_int rfl) (fun a h => ?_)
    refine g_yes h rfl rfl rfl rfl hB8 ?_
    refine s_x h rfl rfl (by decide) (x_ld h.k rfl Tryd.underlying3 rfl rfl ((h.m.cell (i := 0) rfl 1).trans rfl)) (fun a h => ?_)
    refine g_yes h rfl rfl rfl rfl hB8 ?_
    refine s_x h rfl rfl (by decide) (x_bin h.k rfl rfl rfl ib_geq) (fun a h => ?_)
    refine s_x h rfl rfl (by decide) (x_pick (u' := undef) h.k rfl rfl (fun _ => rfl) (fun hh => absurd (hB8.symm.trans hh) (by decide))) (fun a h => ?_)
    exact (h.mid 3 rfl).val (by first | rfl | (rw [hB8]; first | rfl | simp))
  · refine g_no h rfl rfl rfl rfl hB8 rfl (by decide) (fun a h => ?_)
    refine g_no h rfl rfl rfl rfl hB8 rfl (by decide) (fun a h => ?_)
    refine g_no h rfl rfl rfl rfl hB8 rfl (by decide) (fun a h => ?_)
    refine s_x h rfl rfl (by decide) (x_pick (u' := undef) h.k rfl rfl (fun hh => absurd (hB8.symm.trans hh) (by decide)) (fun _ => rfl)) (fun a h => ?_)
    exact (h.mid 3 rfl).val (by first | rfl | (rw [hB8]; first | rfl | simp))
  refine s_move h rfl _ rfl rfl (by decide) rfl (fun a h => ?_)
  refine q_grp h 4 (t := 16) 20 ((((decide (0 ≤ a0.1)) && (decide (a0.1 ≤ 1048576))) && (decide (1 ≤ a0.2))) && (decide (a0.2 ≤ 1048576))) rfl (fun hB13 => ?_) (fun hB13 => ?_) (fun a w h => ?_)
  · refine g_yes h rfl rfl rfl rfl hB13 ?_
    refine s_x h rfl rfl (by decide) (x_faddr h.k rfl Tryd.underlying46 rfl sz_int rfl) (fun a h => ?_)
    refine g_yes h rfl rfl rfl rfl hB13 ?_
    refine s_x h rfl rfl (by decide) (x_ld h.k rfl Tryd.underlying3 rfl rfl ((h.m.cell (i := 0) rfl 1).trans rfl)) (fun a h => ?_)
    refine g_yes h rfl rfl rfl rfl hB13 ?_
    refine s_x h rfl rfl (by decide) (x_bin h.k rfl rfl rfl ib_leq) (fun a h => ?_)
    refine s_x h rfl rfl (by decide) (x_pick (u' := undef) h.k rfl rfl (fun _ => rfl) (fun hh => absurd (hB13.symm.trans hh) (by decide))) (fun a h => ?_)
    exact (h.mid 3 rfl).val (by first | rfl | (rw [hB13]; first | rfl | simp))
  · refine g_no h rfl rfl rfl rfl hB13 rfl (by decide) (fun a h => ?_)
    refine g_no h rfl rfl rfl rfl hB13 rfl (by decide) (fun a h => ?_)
    refine g_no h rfl rfl rfl rfl hB13 rfl (by decide) (fun a h => ?_)
    refine s_x h rfl rfl (by decide) (x_pick (u' := undef) h.k rfl rfl (fun hh => absurd (hB13.symm.trans hh) (by decide)) (fun _ => rfl)) (fun a h => ?_)
    exact (h.mid 3 rfl).val (by first | rfl | (rw [hB13]; first | rfl | simp))
  refine s_move h rfl _ rfl rfl (by decide) rfl (fun a h => ?_)
  refine q_grp h 7 (t := 21) 28 (((((decide (0 ≤ a0.1)) && (decide (a0.1 ≤ 1048576))) && (decide (1 ≤ a0.2))) && (decide (a0.2 ≤ 1048576))) && (decide (w64 (a0.1 + a0.2) ≤ 1048576))) rfl (fun hB18 => ?_) (fun hB18 => ?_) (fun a w h => ?_)
  · refine g_yes h rfl rfl rfl rfl hB18 ?_
    refine s_x h rfl rfl (by decide) (x_faddr h.k rfl Tryd.underlying46 rfl sz_int rfl) (fun a h => ?_)
    refine g_yes h rfl rfl rfl rfl hB18 ?_
    refine s_x h rfl rfl (by decide) (x_ld h.k rfl Tryd.underlying3 rfl rfl ((h.m.cell (i := 0) rfl 0).trans rfl)) (fun a h => ?_)
    refine g_yes h rfl rfl rfl rfl hB18 ?_
    refine s_x h rfl rfl (by decide) (x_faddr h.k rfl Tryd.underlying46 rfl sz_int rfl) (fun a h => ?_)
    refine g_yes h rfl rfl rfl rfl hB18 ?_
    refine s_x h rfl rfl (by decide) (x_ld h.k rfl Tryd.underlying3 rfl rfl ((h.m.cell (i := 0) rfl 1).trans rfl)) (fun a h => ?_)
    refine g_yes h rfl rfl rfl rfl hB18 ?_
    refine s_x h rfl rfl (by decide) (x_bin h.k rfl rfl rfl (ib_add rfl)) (fun a h => ?_)
    refine g_yes h rfl rfl rfl rfl hB18 ?_
    refine s_x h rfl rfl (by decide) (x_bin h.k rfl rfl rfl ib_leq) (fun a h => ?_)
    refine s_x h rfl rfl (by decide) (x_pick (u' := undef) h.k rfl rfl (fun _ => rfl) (fun hh => absurd (hB18.symm.trans hh) (by decide))) (fun a h => ?_)
    exact (h.mid 6 rfl).val (by first | rfl | (rw [hB18]; first | rfl | simp))
  · refine g_no h rfl rfl rfl rfl hB18 rfl (by decide) (fun a h => ?_)
    refine g_no h rfl rfl rfl rfl hB18 rfl (by decide) (fun a h => ?_)
    refine g_no h rfl rfl rfl rfl hB18 rfl (by decide) (fun a h => ?_)
    refine g_no h rfl rfl rfl rfl hB18 rfl (by decide) (fun a h => ?_)
    refine g_no h rfl rfl rfl rfl hB18 rfl (by decide) (fun a h => ?_)
    refine g_no h rfl rfl rfl rfl hB18 rfl (by decide) (fun a h => ?_)
    refine s_x h rfl rfl (by decide) (x_pick (u' := undef) h.k rfl rfl (fun hh => absurd (hB18.symm.trans hh) (by decide)) (fun _ => rfl)) (fun a h => ?_)
    exact (h.mid 6 rfl).val (by first | rfl | (rw [hB18]; first | rfl | simp))
  refine s_assign h rfl _ rfl rfl (by decide) rfl (fun a h => ?_)
  refine l_end ?_
  refine wp_ret ?_
  obtain rfl := Option.some.inj hf
  exact r_ret1 h rfl (rv_tmp h rfl) ⟨_, [], _, rfl, ⟨rfl, rfl, trivial⟩, rfl, (Up.refl _ _ _), (h.m.pick [1] _ (by decide) rfl)⟩
def chatelaineref42_Extents_l0 (Fu : Nat) (a0 : List (Int × Int)) : Nat → (List UInt8) → Int → Option ((List UInt8))
  | 0, _, _ => none
  | k + 1, x3, x5 => if x5 < (a0.length : Int) then (((idx a0 x5).bind fun x15 => (chatelaineref42_May Fu x15).bind fun x31 => if (!x31) = true then (some x3) else ((if 0 < (x3.length : Int) then ((sapp x3 ([32] : List UInt8)).bind fun x38 => some x38) else (some x3)).bind fun x36 => (idx a0 x5).bind fun x40 => (chatelaineref42_Digits Fu x40.1).bind fun x56 => (sapp x36 x56).bind fun x60 => (idx a0 x5).bind fun x62 => if 1 < x62.2 then ((sapp x60 ([45] : List UInt8)).bind fun x78 => (idx a0 x5).bind fun x80 => (idx a0 x5).bind fun x96 => (chatelaineref42_Digits Fu (w64 ((w64 (x80.1 + x96.2)) - 1))).bind fun x112 => (sapp x78 x112).bind fun x116 => some x116) else (some x60))).bind fun x13 => chatelaineref42_Extents_l0 Fu a0 k x13 (w64 (x5 + 1))) else (some x3)
def chatelaineref42_Extents (Fu : Nat) (a0 : List (Int × Int)) : Option ((List UInt8)) :=
  (chatelaineref42_Extents_l0 Fu a0 Fu ([] : List UInt8) 0).bind fun x7 => some x7
set_option maxRecDepth 100000 in
set_option maxHeartbeats 2000000 in
theorem chatelaineref42_Extents_ok (Fu : Nat) {S0 : Snap} (Aa0 : Option Addr) (ca0 : Nat) (a0 : List (Int × Int)) (hsa0 : slS (tyP tyI tyI) S0 Aa0 ca0 a0) (r : (List UInt8)) (hf : chatelaineref42_Extents Fu a0 = some r) (w0 : World) (hm : Mem w0 (ownL ([] ++ [.sn S0])) ([] ++ [.sn S0]) w0) :
    Calls Tryd.prog 10 #[.slice Aa0 a0.length ca0] w0 (Ret w0 S0 [] (fun v L1 S1 => v = .string (sb r) ∧ L1 = [] ∧ r.length ≤ maxLen ∧ True)) := by
  unfold chatelaineref42_Extents at hf
  refine c_enterM Tryd.func10 rfl 53 rfl (by simp) _ hm _ rfl (fun a h => ?_)
  refine c_rs ?_ -- region 0
  refine s_assign h rfl _ rfl rfl (by decide) rfl (fun a h => ?_)
  refine l_end ?_
  refine c_rs ?_ -- region 1
  refine s_assign h rfl _ rfl rfl (by decide) rfl (fun a h => ?_)
  refine l_end ?_
  refine wp_seq ?_
  refine c_rs ?_ -- region 2
  refine s_assign h rfl _ rfl rfl (by decide) rfl (fun a h => ?_)
  refine l_end ?_
  obtain ⟨o1, hl2, hf⟩ := bsome hf
  refine c_fin (fun a w => ∃ (x7 : List UInt8), x7 = o1 ∧ x7.length ≤ maxLen ∧ St 53 w0 (ownL ([] ++ [.sn S0])) [(3, .string (sb x7))] [.sn S0] a w) ?_ ?_
  · refine wp_block ?_
    refine c_loop (fun m10 a w => ∃ (x3 : List UInt8), ∃ (x5 : Int), chatelaineref42_Extents_l0 Fu a0 m10 x3 x5 = some o1 ∧ x3.length ≤ maxLen ∧ r64 x5 ∧ St 53 w0 (ownL ([] ++ [.sn S0])) [(0, .slice Aa0 a0.length ca0), (3, .string (sb x3)), (4, .int .i64 x5)] [.sn S0] a w) Fu ⟨([] : List UInt8), 0, hl2, (by decide), (show r64 0 from ⟨by decide, by decide⟩), h.has (by exact ⟨rfl, rfl, rfl, trivial⟩)⟩ (fun m10 a w hI => ?_)
    obtain ⟨x3, x5, hl9, hr4, hr6, h⟩ := hI
    obtain _ | m10 := m10
    · rw [chatelaineref42_Extents_l0] at hl9; cases hl9
    rw [chatelaineref42_Extents_l0] at hl9
    refine wp_seq ?_
    refine c_rs ?_ -- region 3
    refine s_move h rfl _ rfl rfl (by decide) rfl (fun a h => ?_)
    refine s_move h rfl _ rfl rfl (by decide) rfl (fun a h => ?_)
    refine s_x h rfl rfl (by decide) (x_len h.k rfl Tryd.underlying29 rfl) (fun a h => ?_)
    refine s_x h rfl rfl (by decide) (x_bin h.k rfl rfl rfl ib_lss) (fun a h => ?_)
    refine l_end ?_
    refine c_cond h rfl (fun hb => ?_) (fun hb => ?_)
    · rw [if_pos (of_decide_eq_true hb)] at hl9
      refine wp_skip ?_
      refine e_thenN ?_
      obtain ⟨o11, hc12, hl9⟩ := bsome hl9
      refine c_cut (fun a w => ∃ (x13 : List UInt8), x13 = o11 ∧ x13.length ≤ maxLen ∧ St 53 w0 (ownL ([] ++ [.sn S0])) [(0, .slice Aa0 a0.length ca0), (3, .string (sb x13)), (4, .int .i64 x5)] [.sn S0] a w) ?_ ?_
      · refine wp_block ?_
        refine wp_seq ?_
        refine c_rs ?_ -- region 5
        refine s_move h rfl _ rfl rfl (by decide) rfl (fun a h => ?_)
        refine s_move h rfl _ rfl rfl (by decide) rfl (fun a h => ?_)
        obtain ⟨x15, h19, hc12⟩ := bsome hc12
        obtain ⟨m16, hi20, hm21, hx22⟩ := idx_some h19
        obtain ⟨b17, off18, k23, hA24, hu25, hc26⟩ := (hsa0).at (by decide) hx22 (h.m.snOK (i := 0) rfl)
        obtain ⟨k27, k28, rfl, ⟨rfl, hr29⟩, ⟨rfl, hr30⟩⟩ := hu25
        refine s_x h rfl rfl (by decide) (x_iaddrE h.k rfl Tryd.underlying29 sz_api_Extent hA24 rfl rfl hi20 hm21) (fun a h => ?_)
        refine s_x h rfl rfl (by decide) (x_ldR h.k rfl ag_api_Extent rfl ([.int .i64 x15.1, .int .i64 x15.2]) rfl (hc26 _ (h.m.snOK (i := 0) rfl))) (fun a h => ?_)
        obtain ⟨x31, h32, hc12⟩ := bsome hc12
        have hX := chatelaineref42_May_ok Fu (S0 := snapAll _) ([.int .i64 x15.1, .int .i64 x15.2]) x15 ((tyP tyI tyI).mono (h.m.leAll (i := 0) rfl) (show (tyP tyI tyI).rep S0 ([.int .i64 x15.1, .int .i64 x15.2]) x15 from ⟨[.int .i64 x15.1], [.int .i64 x15.2], rfl, ⟨rfl, hr29⟩, ⟨rfl, hr30⟩⟩)) _ h32 _ h.startAll
        refine q_callX hX h rfl rfl rfl (by decide) Tryd.func16 rfl rfl rfl (fun a w v L1 S1 hR hb1 h => ?_)
        obtain ⟨rfl, rfl, _⟩ := hR
        refine s_x h rfl rfl (by decide) (x_not h.k rfl rfl) (fun a h => ?_)
        refine l_end ?_
        refine c_cond h rfl (fun hb => ?_) (fun hb => ?_)
        · rw [if_pos hb] at hc12
          refine wp_exit ?_
          refine e_thenX ?_
          refine e_blkX ?_
          refine e_thenN ?_
          exact ⟨x3, (Option.some.inj hc12), hr4, h.has (by exact ⟨rfl, rfl, rfl, trivial⟩)⟩
        · rw [if_neg (by rw [hb]; decide)] at hc12
          refine wp_skip ?_
          refine e_thenN ?_
          obtain ⟨o34, hc35, hc12⟩ := bsome hc12
          refine c_cut (fun a w => ∃ (x36 : List UInt8), x36 = o34 ∧ x36.length ≤ maxLen ∧ St 53 w0 (ownL ([] ++ [.sn S0])) [(0, .slice Aa0 a0.length ca0), (3, .string (sb x36)), (4, .int .i64 x5)] [.sn S0] a w) ?_ ?_
          · refine c_rs ?_ -- region 6
            refine s_move h rfl _ rfl rfl (by decide) rfl (fun a h => ?_)
            refine s_x h rfl rfl (by decide) (x_lenStr h.k rfl Tryd.underlying9 rfl) (fun a h => ?_)
            refine s_x h rfl rfl (by decide) (x_bin h.k rfl rfl rfl ib_gtr) (fun a h => ?_)
            refine l_end ?_
            refine c_cond h rfl (fun hb => ?_) (fun hb => ?_)
            · rw [if_pos (of_decide_eq_true hb)] at hc35
              refine c_r ?_ -- region 7
              refine s_move h rfl _ rfl rfl (by decide) rfl (fun a h => ?_)
              obtain ⟨x38, h39, hc35⟩ := bsome hc35
              refine s_x h rfl rfl (by decide) (x_addS h.k rfl rfl rfl h39) (fun a h => ?_)
              refine s_assign h rfl _ rfl rfl (by decide) rfl (fun a h => ?_)
              refine l_nil ?_
              refine e_thenN ?_
              exact ⟨x38, (Option.some.inj hc35), (sapp_some h39).2, h.has (by exact ⟨rfl, rfl, rfl, trivial⟩)⟩
            · rw [if_neg (of_decide_eq_false hb)] at hc35
              refine wp_skip ?_
              refine e_thenN ?_
              exact ⟨x3, (Option.some.inj hc35), hr4, h.has (by exact ⟨rfl, rfl, rfl, trivial⟩)⟩
          · rintro a w ⟨x36, rfl, hr37, h⟩
            refine c_rs ?_ -- region 8
            refine s_move h rfl _ rfl rfl (by decide) rfl (fun a h => ?_)
            refine s_move h rfl _ rfl rfl (by decide) rfl (fun a h => ?_)
            refine s_move h rfl _ rfl rfl (by decide) rfl (fun a h => ?_)
            obtain ⟨x40, h44, hc12⟩ := bsome hc12
            obtain ⟨m41, hi45, hm46, hx47⟩ := idx_some h44
            obtain ⟨b42, off43, k48, hA49, hu50, hc51⟩ := (hsa0).at (by decide) hx47 (h.m.snOK (i := 0) rfl)
            obtain ⟨k52, k53, rfl, ⟨rfl, hr54⟩, ⟨rfl, hr55⟩⟩ := hu50
            refine s_x h rfl rfl (by decide) (x_iaddrE h.k rfl Tryd.underlying29 sz_api_Extent hA49 rfl rfl hi45 hm46) (fun a h => ?_)
            refine s_x h rfl rfl (by decide) (x_faddr h.k rfl Tryd.underlying46 rfl sz_int rfl) (fun a h => ?_)
            refine s_x h rfl rfl (by decide) (x_ld h.k rfl Tryd.underlying3 rfl rfl (hc51 _ (h.m.snOK (i := 0) rfl) 0 _ rfl)) (fun a h => ?_)
            obtain ⟨x56, h57, hc12⟩ := bsome hc12
            have hX := chatelaineref42_Digits_ok Fu (S0 := snapAll _) x40.1 hr54 _ h57 _ h.startAll
            refine q_callX hX h rfl rfl rfl (by decide) Tryd.func21 rfl rfl rfl (fun a w v L1 S1 hR hb1 h => ?_)
            obtain ⟨rfl, rfl, hr59, _⟩ := hR
            obtain ⟨x60, h61, hc12⟩ := bsome hc12
            refine s_x h rfl rfl (by decide) (x_addS h.k rfl rfl rfl h61) (fun a h => ?_)
            refine s_assign h rfl _ rfl rfl (by decide) rfl (fun a h => ?_)
            refine l_end ?_
            refine c_rs ?_ -- region 9
            refine s_move h rfl _ rfl rfl (by decide) rfl (fun a h => ?_)
            refine s_move h rfl _ rfl rfl (by decide) rfl (fun a h => ?_)
            obtain ⟨x62, h66, hc12⟩ := bsome hc12
            obtain ⟨m63, hi67, hm68, hx69⟩ := idx_some h66
            obtain ⟨b64, off65, k70, hA71, hu72, hc73⟩ := (hsa0).at (by decide) hx69 (h.m.snOK (i := 0) rfl)
            obtain ⟨k74, k75, rfl, ⟨rfl, hr76⟩, ⟨rfl, hr77⟩⟩ := hu72
            refine s_x h rfl rfl (by decide) (x_iaddrE h.k rfl Tryd.underlying29 sz_api_Extent hA71 rfl rfl hi67 hm68) (fun a h => ?_)
            refine s_x h rfl rfl (by decide) (x_faddr h.k rfl Tryd.underlying46 rfl sz_int rfl) (fun a h => ?_)
            refine s_x h rfl rfl (by decide) (x_ld h.k rfl Tryd.underlying3 rfl rfl (hc73 _ (h.m.snOK (i := 0) rfl) 1 _ rfl)) (fun a h => ?_)
            refine s_x h rfl rfl (by decide) (x_bin h.k rfl rfl rfl ib_gtr) (fun a h => ?_)
            refine l_end ?_
            refine c_cond h rfl (fun hb => ?_) (fun hb => ?_)
            · rw [if_pos (of_decide_eq_true hb)] at hc12
              -- region 10 draws
              obtain ⟨x78, h79, hc12⟩ := bsome hc12
              obtain ⟨x80, h84, hc12⟩ := bsome hc12
              obtain ⟨x96, h100, hc12⟩ := bsome hc12
              obtain ⟨x112, h113, hc12⟩ := bsome hc12
              obtain ⟨x116, h117, hc12⟩ := bsome hc12
              refine d_start h (Mem _ _ _) 17 17 rfl (by kernel_rfl) (fun _ _ _ _ _ h => h) (fun _ h => h) (fun Q a w HE HN h HS => ?_)
              refine d_takeP h (fun _ => HS) HN 0 rfl (by kernel_rfl) (by kernel_rfl) (by kernel_rfl) (by decide) rfl rfl (by decide) (fun w' => x_move h.k _ rfl rfl) (fun a h => ?_)
              refine d_takeP h (fun _ => HS) HN 1 rfl (by kernel_rfl) (by kernel_rfl) (by kernel_rfl) (by decide) rfl rfl (by decide) (fun w' => x_addS h.k rfl rfl rfl h79) (fun a h => ?_)
              refine d_takeP h (fun _ => HS) HN 2 rfl (by kernel_rfl) (by kernel_rfl) (by kernel_rfl) (by decide) rfl rfl (by decide) (fun w' => x_move h.k _ rfl rfl) (fun a h => ?_)
              refine d_takeP h (fun _ => HS) HN 3 rfl (by kernel_rfl) (by kernel_rfl) (by kernel_rfl) (by decide) rfl rfl (by decide) (fun w' => x_move h.k _ rfl rfl) (fun a h => ?_)
              obtain ⟨m81, hi85, hm86, hx87⟩ := idx_some h84
              obtain ⟨b82, off83, k88, hA89, hu90, hc91⟩ := (hsa0).at (by decide) hx87 (h.m.snOK (i := 0) rfl)
              obtain ⟨k92, k93, rfl, ⟨rfl, hr94⟩, ⟨rfl, hr95⟩⟩ := hu90
              refine d_takeP h (fun _ => HS) HN 4 rfl (by kernel_rfl) (by kernel_rfl) (by kernel_rfl) (by decide) rfl rfl (by decide) (fun w' => x_iaddrE h.k rfl Tryd.underlying29 sz_api_Extent hA89 rfl rfl hi85 hm86) (fun a h => ?_)
              refine d_takeP h (fun _ => HS) HN 5 rfl (by kernel_rfl) (by kernel_rfl) (by kernel_rfl) (by decide) rfl rfl (by decide) (fun w' => x_faddr h.k rfl Tryd.underlying46 rfl sz_int rfl) (fun a h => ?_)
              refine d_take h HS HN 6 rfl (by kernel_rfl) (by kernel_rfl) (by kernel_rfl) (by kernel_rfl) (by kernel_rfl) rfl rfl (by decide) (fun w' hw => x_ld h.k rfl Tryd.underlying3 rfl rfl (hc91 _ (hw.snOK (i := 0) rfl) 0 _ rfl)) (fun a h => ?_)
              refine d_takeP h (fun _ => HS) HN 7 rfl (by kernel_rfl) (by kernel_rfl) (by kernel_rfl) (by decide) rfl rfl (by decide) (fun w' => x_move h.k _ rfl rfl) (fun a h => ?_)
              refine d_takeP h (fun _ => HS) HN 8 rfl (by kernel_rfl) (by kernel_rfl) (by kernel_rfl) (by decide) rfl rfl (by decide) (fun w' => x_move h.k _ rfl rfl) (fun a h => ?_)
              obtain ⟨m97, hi101, hm102, hx103⟩ := idx_some h100
              obtain ⟨b98, off99, k104, hA105, hu106, hc107⟩ := (hsa0).at (by decide) hx103 (h.m.snOK (i := 0) rfl)
              obtain ⟨k108, k109, rfl, ⟨rfl, hr110⟩, ⟨rfl, hr111⟩⟩ := hu106
              refine d_takeP h (fun _ => HS) HN 9 rfl (by kernel_rfl) (by kernel_rfl) (by kernel_rfl) (by decide) rfl rfl (by decide) (fun w' => x_iaddrE h.k rfl Tryd.underlying29 sz_api_Extent hA105 rfl rfl hi101 hm102) (fun a h => ?_)
              refine d_takeP h (fun _ => HS) HN 10 rfl (by kernel_rfl) (by kernel_rfl) (by kernel_rfl) (by decide) rfl rfl (by decide) (fun w' => x_faddr h.k rfl Tryd.underlying46 rfl sz_int rfl) (fun a h => ?_)
              refine d_take h HS HN 11 rfl (by kernel_rfl) (by kernel_rfl) (by kernel_rfl) (by kernel_rfl) (by kernel_rfl) rfl rfl (by decide) (fun w' hw => x_ld h.k rfl Tryd.underlying3 rfl rfl (hc107 _ (hw.snOK (i := 0) rfl) 1 _ rfl)) (fun a h => ?_)
              refine d_takeP h (fun _ => HS) HN 12 rfl (by kernel_rfl) (by kernel_rfl) (by kernel_rfl) (by decide) rfl rfl (by decide) (fun w' => x_bin h.k rfl rfl rfl (ib_add rfl)) (fun a h => ?_)
              refine d_takeP h (fun _ => HS) HN 13 rfl (by kernel_rfl) (by kernel_rfl) (by kernel_rfl) (by decide) rfl rfl (by decide) (fun w' => x_bin h.k rfl rfl rfl (ib_sub rfl)) (fun a h => ?_)
              refine d_alone 14 rfl (by kernel_rfl) (fun K hK => ?_)
              have hX := chatelaineref42_Digits_ok Fu (S0 := snapAll _) (w64 ((w64 (x80.1 + x96.2)) - 1)) (w64_r _) _ h113 _ h.startAll
              refine q_callX hX h rfl rfl rfl (by decide) Tryd.func21 rfl rfl rfl (fun a w v L1 S1 hR hb1 h => ?_)
              obtain ⟨rfl, rfl, hr115, _⟩ := hR
              refine hK _ _ (fun _ _ => HS.ext hb1) ?_
              replace HS := HS.ext hb1
              clear hK
              refine d_takeP h (fun _ => HS) HN 15 rfl (by kernel_rfl) (by kernel_rfl) (by kernel_rfl) (by decide) rfl rfl (by decide) (fun w' => x_addS h.k rfl rfl rfl h117) (fun a h => ?_)
              refine d_takeP h (fun _ => HS) HN 16 rfl (by kernel_rfl) (by kernel_rfl) (by kernel_rfl) (by decide) rfl rfl (by decide) (fun w' => x_assign h.k _ rfl rfl) (fun a h => ?_)
              refine d_done (by kernel_rfl) (HE _ _ ?_) _
              refine e_blkN ?_
              refine e_thenN ?_
              exact ⟨x116, (Option.some.inj hc12), (sapp_some h117).2, h.has (by exact ⟨rfl, rfl, rfl, trivial⟩)⟩
            · rw [if_neg (of_decide_eq_false hb)] at hc12
              refine wp_skip ?_
              refine e_blkN ?_
              refine e_thenN ?_
              exact ⟨x60, (Option.some.inj hc12), (sapp_some h61).2, h.has (by exact ⟨rfl, rfl, rfl, trivial⟩)⟩
      · rintro a w ⟨x13, rfl, hr14, h⟩
        refine c_r ?_ -- region 4
        refine s_move h rfl _ rfl rfl (by decide) rfl (fun a h => ?_)
        refine s_x h rfl rfl (by decide) (x_bin h.k rfl rfl rfl (ib_add rfl)) (fun a h => ?_)
        refine s_assign h rfl _ rfl rfl (by decide) rfl (fun a h => ?_)
        refine l_nil ?_
        exact e_thenN ⟨m10, Nat.lt_succ_self _, x13, w64 (x5 + 1), hl9, hr14, (w64_r _), h.has (by exact ⟨rfl, rfl, rfl, trivial⟩)⟩
    · rw [if_neg (of_decide_eq_false hb)] at hl9
      refine wp_exit ?_
      refine e_thenX ?_
      refine e_thenX ?_
      refine e_blkX ?_
      refine e_thenN ?_
      exact ⟨x3, (Option.some.inj hl9), hr4, h.has (by exact ⟨rfl, trivial⟩)⟩
  · rintro a w ⟨x7, rfl, hr8, h⟩
    refine e_thenN ?_
    refine c_rs ?_ -- region 11
    refine s_move h rfl _ rfl rfl (by decide) rfl (fun a h => ?_)
    refine s_assign h rfl _ rfl rfl (by decide) rfl (fun a h => ?_)
    refine l_end ?_
    refine wp_ret ?_
    rw [← Option.some.inj hf]
    exact r_ret1 h rfl (rv_tmp h rfl) ⟨_, [], _, rfl, ⟨rfl, rfl, hr8, trivial⟩, rfl, (Up.refl _ _ _), h.m⟩
end Go.Proofs.YtnmeelkfpmodgaaDoor
