/- Lq: Go functions as plain functions, and that they are so (written by xt.py). -/
import Derived.Test.YtcjleeclpmgbjaaLo
import Derived.Test.YtcjleeclpmgbjaaOp
import Derived.Test.YtcjleeclpmgbjaaOr
set_option linter.unusedVariables false
set_option linter.unusedSimpArgs false
namespace Go.Proofs.Ytcjleeclpmgbjaa
open Go.RowKit
def lot_wide (Fu : Nat) (a0 : Int) : Option Bool :=
  (lot_within Fu a0 64 256).bind fun x1 => some (x1 && (decide (Int.tmod a0 16 = 0)))
set_option maxRecDepth 100000 in
set_option maxHeartbeats 2000000 in
theorem lot_wide_ok (Fu : Nat) {S0 : Snap} (a0 : Int) (hra0 : r64 a0) (r : Bool) (hf : lot_wide Fu a0 = some r) (w0 : World) (hm : Mem w0 (ownL ([] ++ [.sn S0])) ([] ++ [.sn S0]) w0) :
    Calls Try.prog 37 #[.int .i64 a0] w0 (Ret w0 S0 [] (fun v L1 S1 => v = .bool r ∧ L1 = [] ∧ True)) := by
  unfold lot_wide at hf
  refine c_enterM Try.func37 rfl 10 rfl (by simp) _ hm _ rfl (fun a h => ?_)
  refine c_rs ?_ -- region 0
  refine s_assign h rfl _ rfl rfl (by decide) rfl (fun a h => ?_)
  refine l_end ?_
  refine c_rs ?_ -- region 1
  refine s_move h rfl _ rfl rfl (by decide) rfl (fun a h => ?_)
  obtain ⟨x1, h2, hf⟩ := bsome hf
  have hX := lot_within_ok Fu (S0 := snapAll _) a0 hra0 64 (show r64 64 from ⟨by decide, by decide⟩) 256 (show r64 256 from ⟨by decide, by decide⟩) _ h2 _ h.startAll
  refine q_callX hX h rfl rfl rfl (by decide) Try.func33 rfl rfl rfl (fun a w v L1 S1 hR hb1 h => ?_)
  obtain ⟨rfl, rfl, _⟩ := hR
  refine s_move h rfl _ rfl rfl (by decide) rfl (fun a h => ?_)
  refine q_grp h 4 (t := 5) 9 (x1 && (decide (Int.tmod a0 16 = 0))) rfl (fun hB2 => ?_) (fun hB2 => ?_) (fun a w h => ?_)
  · refine g_yes h rfl rfl rfl rfl hB2 ?_
    refine s_move h rfl _ rfl rfl (by decide) rfl (fun a h => ?_)
    refine g_yes h rfl rfl rfl rfl hB2 ?_
    refine s_x h rfl rfl (by decide) (x_bin h.k rfl rfl rfl (ib_remw (by decide))) (fun a h => ?_)
    refine g_yes h rfl rfl rfl rfl hB2 ?_
    refine s_x h rfl rfl (by decide) (x_bin h.k rfl rfl rfl ib_eql) (fun a h => ?_)
    refine s_x h rfl rfl (by decide) (x_pick (u' := undef) h.k rfl rfl (fun _ => rfl) (fun hh => absurd (hB2.symm.trans hh) (by decide))) (fun a h => ?_)
    exact (h.mid 3 rfl).val (by first | rfl | (rw [hB2]; first | rfl | simp))
  · refine g_no h rfl rfl rfl rfl hB2 rfl (by decide) (fun a h => ?_)
    refine g_no h rfl rfl rfl rfl hB2 rfl (by decide) (fun a h => ?_)
    refine g_no h rfl rfl rfl rfl hB2 rfl (by decide) (fun a h => ?_)
    refine s_x h rfl rfl (by decide) (x_pick (u' := undef) h.k rfl rfl (fun hh => absurd (hB2.symm.trans hh) (by decide)) (fun _ => rfl)) (fun a h => ?_)
    exact (h.mid 3 rfl).val (by first | rfl | (rw [hB2]; first | rfl | simp))
  refine s_assign h rfl _ rfl rfl (by decide) rfl (fun a h => ?_)
  refine l_end ?_
  refine wp_ret ?_
  obtain rfl := Option.some.inj hf
  exact r_ret1 h rfl (rv_tmp h rfl) ⟨_, [], _, rfl, ⟨rfl, rfl, trivial⟩, rfl, (Up.refl _ _ _), h.m⟩
def lot_Geom (Fu : Nat) (a0 : Int × Int × Int × Int × Int × Int) (a1 : Int) : Option ((Int × Int × Int × Int) × Int) :=
  (lot_Check Fu a0).bind fun x19 => (if x19 ≠ 0 then some true else (lot_wide Fu a1).bind fun x26 => some (!x26)).bind fun z24 => if z24 = true then (some ((0, 0, 0, 0), 2)) else (if 4096 < w64 (a0.2.1 * a0.2.2.1) then (some ((0, 0, 0, 0), 3)) else (some ((a1, a0.2.1, a0.2.1, w64 (a0.2.1 * a0.2.2.1)), 0)))
set_option maxRecDepth 100000 in
set_option maxHeartbeats 2000000 in
theorem lot_Geom_ok (Fu : Nat) {S0 : Snap} (csa0 : List Value) (a0 : Int × Int × Int × Int × Int × Int) (hsa0 : (tyP tyI (tyP tyI (tyP tyI (tyP tyI (tyP tyI tyI))))).rep S0 csa0 a0) (a1 : Int) (hra1 : r64 a1) (r : (Int × Int × Int × Int) × Int) (hf : lot_Geom Fu a0 a1 = some r) (w0 : World) (hm : Mem w0 (ownL ([] ++ [.sn S0])) ([] ++ [.sn S0]) w0) :
    Calls Try.prog 18 #[.agg csa0.toArray, .int .i64 a1] w0 (Ret w0 S0 [] (fun v L1 S1 => ∃ (k29 : List Value), v = .tuple #[.agg k29.toArray, .int .i64 r.2] ∧ L1 = [] ∧ (tyP tyI (tyP tyI (tyP tyI tyI))).rep S1 k29 r.1 ∧ r64 r.2 ∧ True)) := by
  unfold lot_Geom at hf
  obtain ⟨k1, k2, rfl, ⟨rfl, hr3⟩, ⟨k4, k5, rfl, ⟨rfl, hr6⟩, ⟨k7, k8, rfl, ⟨rfl, hr9⟩, ⟨k10, k11, rfl, ⟨rfl, hr12⟩, ⟨k13, k14, rfl, ⟨rfl, hr15⟩, ⟨rfl, hr16⟩⟩⟩⟩⟩⟩ := hsa0
  refine c_enterM Try.func18 rfl 35 rfl (by simp) _ hm _ rfl (fun a h => ?_)
  refine c_rs ?_ -- region 0
  refine s_box h rfl rfl rfl (by decide) rfl (cs := [.int .i64 a0.1, .int .i64 a0.2.1, .int .i64 a0.2.2.1, .int .i64 a0.2.2.2.1, .int .i64 a0.2.2.2.2.1, .int .i64 a0.2.2.2.2.2]) (by rfl) (fun a w g17 h => ?_)
  refine s_alloc h rfl rfl rfl (by decide) zi_api_Geom rfl (fun a w g18 h => ?_)
  refine s_assign h rfl _ rfl rfl (by decide) rfl (fun a h => ?_)
  refine l_end ?_
  refine wp_seq ?_
  refine wp_block ?_
  refine c_rs ?_ -- region 1
  refine s_x h rfl rfl (by decide) (x_ldR h.k rfl ag_api_Load rfl ([.int .i64 a0.1, .int .i64 a0.2.1, .int .i64 a0.2.2.1, .int .i64 a0.2.2.2.1, .int .i64 a0.2.2.2.2.1, .int .i64 a0.2.2.2.2.2]) rfl (h.m.range0 (i := 1) rfl)) (fun a h => ?_)
  obtain ⟨x19, h20, hf⟩ := bsome hf
  have hX := lot_Check_ok Fu (S0 := snapAll _) ([.int .i64 a0.1, .int .i64 a0.2.1, .int .i64 a0.2.2.1, .int .i64 a0.2.2.2.1, .int .i64 a0.2.2.2.2.1, .int .i64 a0.2.2.2.2.2]) a0 ((tyP tyI (tyP tyI (tyP tyI (tyP tyI (tyP tyI tyI))))).mono (h.m.leAll (i := 2) rfl) (show (tyP tyI (tyP tyI (tyP tyI (tyP tyI (tyP tyI tyI))))).rep S0 ([.int .i64 a0.1, .int .i64 a0.2.1, .int .i64 a0.2.2.1, .int .i64 a0.2.2.2.1, .int .i64 a0.2.2.2.2.1, .int .i64 a0.2.2.2.2.2]) a0 from ⟨[.int .i64 a0.1], [.int .i64 a0.2.1, .int .i64 a0.2.2.1, .int .i64 a0.2.2.2.1, .int .i64 a0.2.2.2.2.1, .int .i64 a0.2.2.2.2.2], rfl, ⟨rfl, hr3⟩, ⟨[.int .i64 a0.2.1], [.int .i64 a0.2.2.1, .int .i64 a0.2.2.2.1, .int .i64 a0.2.2.2.2.1, .int .i64 a0.2.2.2.2.2], rfl, ⟨rfl, hr6⟩, ⟨[.int .i64 a0.2.2.1], [.int .i64 a0.2.2.2.1, .int .i64 a0.2.2.2.2.1, .int .i64 a0.2.2.2.2.2], rfl, ⟨rfl, hr9⟩, ⟨[.int .i64 a0.2.2.2.1], [.int .i64 a0.2.2.2.2.1, .int .i64 a0.2.2.2.2.2], rfl, ⟨rfl, hr12⟩, ⟨[.int .i64 a0.2.2.2.2.1], [.int .i64 a0.2.2.2.2.2], rfl, ⟨rfl, hr15⟩, ⟨rfl, hr16⟩⟩⟩⟩⟩⟩)) _ h20 _ h.startAll
  refine q_callX hX h rfl rfl rfl (by decide) Try.func15 rfl rfl rfl (fun a w v L1 S1 hR hb1 h => ?_)
  obtain ⟨rfl, rfl, hr22, _⟩ := hR
  refine s_x h rfl rfl (by decide) (x_bin h.k rfl rfl rfl ib_neq) (fun a h => ?_)
  refine s_move h rfl _ rfl rfl (by decide) rfl (fun a h => ?_)
  obtain ⟨z24, hz23, hf⟩ := bsome hf
  refine q_grp h 4 (t := 10) 14 z24 rfl (fun hB3 => ?_) (fun hB3 => ?_) (fun a w h => ?_)
  · refine g_no h rfl rfl rfl rfl hB3 rfl (by decide) (fun a h => ?_)
    refine g_no h rfl rfl rfl rfl hB3 rfl (by decide) (fun a h => ?_)
    refine g_no h rfl rfl rfl rfl hB3 rfl (by decide) (fun a h => ?_)
    rw [if_pos (of_decide_eq_true hB3)] at hz23
    refine s_x h rfl rfl (by decide) (x_pick (u' := undef) h.k rfl rfl (fun _ => rfl) (fun hh => absurd (hB3.symm.trans hh) (by decide))) (fun a h => ?_)
    exact (h.mid 3 rfl).val (by rw [Option.some.inj hz23])
  · rw [if_neg (of_decide_eq_false hB3)] at hz23
    refine g_yes h rfl rfl rfl rfl hB3 ?_
    refine s_move h rfl _ rfl rfl (by decide) rfl (fun a h => ?_)
    refine g_yes h rfl rfl rfl rfl hB3 ?_
    obtain ⟨x26, h27, hz23⟩ := bsome hz23
    have hX := lot_wide_ok Fu (S0 := snapAll _) a1 hra1 _ h27 _ h.startAll
    refine q_callX hX h rfl rfl rfl (by decide) Try.func37 rfl rfl rfl (fun a w v L1 S1 hR hb1 h => ?_)
    obtain ⟨rfl, rfl, _⟩ := hR
    refine g_yes h rfl rfl rfl rfl hB3 ?_
    refine s_x h rfl rfl (by decide) (x_not h.k rfl rfl) (fun a h => ?_)
    refine s_x h rfl rfl (by decide) (x_pick (u' := undef) h.k rfl rfl (fun hh => absurd (hB3.symm.trans hh) (by decide)) (fun _ => rfl)) (fun a h => ?_)
    exact (h.mid 3 rfl).val (by rw [Option.some.inj hz23])
  refine s_assign h rfl _ rfl rfl (by decide) rfl (fun a h => ?_)
  refine l_end ?_
  refine c_cond h rfl (fun hb => ?_) (fun hb => ?_)
  · rw [if_pos hb] at hf
    refine c_rs ?_ -- region 2
    refine s_x h rfl rfl (by decide) (x_build h.k rfl [] rfl ([.int .i64 0, .int .i64 0, .int .i64 0, .int .i64 0]) (by kernel_rfl)) (fun a h => ?_)
    refine s_stW h rfl rfl rfl ag_api_Geom rfl (es := [.int .i64 0, .int .i64 0, .int .i64 0, .int .i64 0]) rfl rfl (by simp [Value.oneCell']) 0 rfl rfl (fun a w h => ?_)
    refine s_assign h rfl _ rfl rfl (by decide) rfl (fun a h => ?_)
    refine l_end ?_
    refine wp_ret ?_
    refine e_blkR ?_
    refine e_thenR ?_
    obtain rfl := Option.some.inj hf
    exact r_ret2 h rfl (rv_cellA h rfl 0 rfl ag_api_Geom rfl) (rv_tmp h rfl) ⟨_, [], _, rfl, ⟨[.int .i64 0, .int .i64 0, .int .i64 0, .int .i64 0], rfl, rfl, ⟨[.int .i64 0], [.int .i64 0, .int .i64 0, .int .i64 0], rfl, ⟨rfl, (show r64 0 from ⟨by decide, by decide⟩)⟩, ⟨[.int .i64 0], [.int .i64 0, .int .i64 0], rfl, ⟨rfl, (show r64 0 from ⟨by decide, by decide⟩)⟩, ⟨[.int .i64 0], [.int .i64 0], rfl, ⟨rfl, (show r64 0 from ⟨by decide, by decide⟩)⟩, ⟨rfl, (show r64 0 from ⟨by decide, by decide⟩)⟩⟩⟩⟩, (show r64 2 from ⟨by decide, by decide⟩), trivial⟩, rfl, (Up.refl _ _ _), (h.m.pick [2] _ (by decide) rfl)⟩
  · rw [if_neg (by rw [hb]; decide)] at hf
    refine c_rs ?_ -- region 3
    refine s_x h rfl rfl (by decide) (x_faddr h.k rfl Try.underlying25 rfl sz_int rfl) (fun a h => ?_)
    refine s_x h rfl rfl (by decide) (x_ld h.k rfl Try.underlying3 rfl rfl ((h.m.cell (i := 1) rfl 1).trans rfl)) (fun a h => ?_)
    refine s_x h rfl rfl (by decide) (x_faddr h.k rfl Try.underlying25 rfl sz_int rfl) (fun a h => ?_)
    refine s_x h rfl rfl (by decide) (x_ld h.k rfl Try.underlying3 rfl rfl ((h.m.cell (i := 1) rfl 2).trans rfl)) (fun a h => ?_)
    refine s_x h rfl rfl (by decide) (x_bin h.k rfl rfl rfl (ib_mul rfl)) (fun a h => ?_)
    refine s_x h rfl rfl (by decide) (x_bin h.k rfl rfl rfl ib_gtr) (fun a h => ?_)
    refine s_assign h rfl _ rfl rfl (by decide) rfl (fun a h => ?_)
    refine l_end ?_
    refine c_cond h rfl (fun hb => ?_) (fun hb => ?_)
    · rw [if_pos (of_decide_eq_true hb)] at hf
      refine c_rs ?_ -- region 4
      refine s_x h rfl rfl (by decide) (x_build h.k rfl [] rfl ([.int .i64 0, .int .i64 0, .int .i64 0, .int .i64 0]) (by kernel_rfl)) (fun a h => ?_)
      refine s_stW h rfl rfl rfl ag_api_Geom rfl (es := [.int .i64 0, .int .i64 0, .int .i64 0, .int .i64 0]) rfl rfl (by simp [Value.oneCell']) 0 rfl rfl (fun a w h => ?_)
      refine s_assign h rfl _ rfl rfl (by decide) rfl (fun a h => ?_)
      refine l_end ?_
      refine wp_ret ?_
      refine e_blkR ?_
      refine e_thenR ?_
      obtain rfl := Option.some.inj hf
      exact r_ret2 h rfl (rv_cellA h rfl 0 rfl ag_api_Geom rfl) (rv_tmp h rfl) ⟨_, [], _, rfl, ⟨[.int .i64 0, .int .i64 0, .int .i64 0, .int .i64 0], rfl, rfl, ⟨[.int .i64 0], [.int .i64 0, .int .i64 0, .int .i64 0], rfl, ⟨rfl, (show r64 0 from ⟨by decide, by decide⟩)⟩, ⟨[.int .i64 0], [.int .i64 0, .int .i64 0], rfl, ⟨rfl, (show r64 0 from ⟨by decide, by decide⟩)⟩, ⟨[.int .i64 0], [.int .i64 0], rfl, ⟨rfl, (show r64 0 from ⟨by decide, by decide⟩)⟩, ⟨rfl, (show r64 0 from ⟨by decide, by decide⟩)⟩⟩⟩⟩, (show r64 3 from ⟨by decide, by decide⟩), trivial⟩, rfl, (Up.refl _ _ _), (h.m.pick [2] _ (by decide) rfl)⟩
    · rw [if_neg (of_decide_eq_false hb)] at hf
      refine wp_skip ?_
      refine e_blkN ?_
      refine e_thenN ?_
      refine c_rs ?_ -- region 5
      refine s_move h rfl _ rfl rfl (by decide) rfl (fun a h => ?_)
      refine s_x h rfl rfl (by decide) (x_faddr h.k rfl Try.underlying25 rfl sz_int rfl) (fun a h => ?_)
      refine s_x h rfl rfl (by decide) (x_ld h.k rfl Try.underlying3 rfl rfl ((h.m.cell (i := 1) rfl 1).trans rfl)) (fun a h => ?_)
      refine s_x h rfl rfl (by decide) (x_faddr h.k rfl Try.underlying25 rfl sz_int rfl) (fun a h => ?_)
      refine s_x h rfl rfl (by decide) (x_ld h.k rfl Try.underlying3 rfl rfl ((h.m.cell (i := 1) rfl 1).trans rfl)) (fun a h => ?_)
      refine s_x h rfl rfl (by decide) (x_faddr h.k rfl Try.underlying25 rfl sz_int rfl) (fun a h => ?_)
      refine s_x h rfl rfl (by decide) (x_ld h.k rfl Try.underlying3 rfl rfl ((h.m.cell (i := 1) rfl 1).trans rfl)) (fun a h => ?_)
      refine s_x h rfl rfl (by decide) (x_faddr h.k rfl Try.underlying25 rfl sz_int rfl) (fun a h => ?_)
      refine s_x h rfl rfl (by decide) (x_ld h.k rfl Try.underlying3 rfl rfl ((h.m.cell (i := 1) rfl 2).trans rfl)) (fun a h => ?_)
      refine s_x h rfl rfl (by decide) (x_bin h.k rfl rfl rfl (ib_mul rfl)) (fun a h => ?_)
      refine s_x h rfl rfl (by decide) (x_build h.k rfl [(0, .int .i64 a1), (1, .int .i64 a0.2.1), (2, .int .i64 a0.2.1), (3, .int .i64 (w64 (a0.2.1 * a0.2.2.1)))] rfl ([.int .i64 a1, .int .i64 a0.2.1, .int .i64 a0.2.1, .int .i64 (w64 (a0.2.1 * a0.2.2.1))]) (by kernel_rfl)) (fun a h => ?_)
      refine s_stW h rfl rfl rfl ag_api_Geom rfl (es := [.int .i64 a1, .int .i64 a0.2.1, .int .i64 a0.2.1, .int .i64 (w64 (a0.2.1 * a0.2.2.1))]) rfl rfl (by simp [Value.oneCell']) 0 rfl rfl (fun a w h => ?_)
      refine s_assign h rfl _ rfl rfl (by decide) rfl (fun a h => ?_)
      refine l_end ?_
      refine wp_ret ?_
      obtain rfl := Option.some.inj hf
      exact r_ret2 h rfl (rv_cellA h rfl 0 rfl ag_api_Geom rfl) (rv_tmp h rfl) ⟨_, [], _, rfl, ⟨[.int .i64 a1, .int .i64 a0.2.1, .int .i64 a0.2.1, .int .i64 (w64 (a0.2.1 * a0.2.2.1))], rfl, rfl, ⟨[.int .i64 a1], [.int .i64 a0.2.1, .int .i64 a0.2.1, .int .i64 (w64 (a0.2.1 * a0.2.2.1))], rfl, ⟨rfl, hra1⟩, ⟨[.int .i64 a0.2.1], [.int .i64 a0.2.1, .int .i64 (w64 (a0.2.1 * a0.2.2.1))], rfl, ⟨rfl, hr6⟩, ⟨[.int .i64 a0.2.1], [.int .i64 (w64 (a0.2.1 * a0.2.2.1))], rfl, ⟨rfl, hr6⟩, ⟨rfl, (w64_r _)⟩⟩⟩⟩, (show r64 0 from ⟨by decide, by decide⟩), trivial⟩, rfl, (Up.refl _ _ _), (h.m.pick [2] _ (by decide) rfl)⟩
def lot_first_l0 (Fu : Nat) (a0 : Int × Int × Int × Int × Int × Int) (a1 : List UInt8) : Nat → (List (Int × Int × Int × Int × Int × (List UInt8) × (List UInt8))) → Int → Option ((List (Int × Int × Int × Int × Int × (List UInt8) × (List UInt8))))
  | 0, _, _ => none
  | k + 1, x23, x28 => if x28 ≤ a0.2.1 then ((lot_Cred Fu x28).bind fun x41 => (app 88 x23 ([(1, x28, 0, a0.2.2.1, 0, a1, x41)])).bind fun x55 => lot_first_l0 Fu a0 a1 k x55 (w64 (x28 + 1))) else (some x23)
def lot_first_l1 (Fu : Nat) (a0 : Int × Int × Int × Int × Int × Int) : Nat → Int → (List (Int × Int × Int × Int × Int × (List UInt8) × (List UInt8))) → Option ((List (Int × Int × Int × Int × Int × (List UInt8) × (List UInt8))))
  | 0, _, _ => none
  | k + 1, x66, x68 => if x66 ≤ a0.2.1 then ((lot_Cred Fu x66).bind fun x83 => (app 88 x68 ([(2, x66, x66, a0.2.2.1, 0, x83, [])])).bind fun x97 => lot_first_l1 Fu a0 k (w64 (x66 + 1)) x97) else (some x68)
def lot_first (Fu : Nat) (a0 : Int × Int × Int × Int × Int × Int) (a1 : List UInt8) : Option ((List (Int × Int × Int × Int × Int × (List UInt8) × (List UInt8)))) :=
  (lot_first_l0 Fu a0 a1 Fu ([]) 1).bind fun x33 => (lot_first_l1 Fu a0 Fu 1 x33).bind fun x76 => some x76
set_option maxRecDepth 100000 in
set_option maxHeartbeats 2000000 in
theorem lot_first_ok (Fu : Nat) {S0 : Snap} (csa0 : List Value) (a0 : Int × Int × Int × Int × Int × Int) (hsa0 : (tyP tyI (tyP tyI (tyP tyI (tyP tyI (tyP tyI tyI))))).rep S0 csa0 a0) (Aa1 : Option Addr) (ca1 : Nat) (a1 : List UInt8) (hsa1 : slS ty8 S0 Aa1 ca1 a1) (r : (List (Int × Int × Int × Int × Int × (List UInt8) × (List UInt8)))) (hf : lot_first Fu a0 a1 = some r) (w0 : World) (hm : Mem w0 (ownL ([] ++ [.sn S0])) ([] ++ [.sn S0]) w0) :
    Calls Try.prog 39 #[.agg csa0.toArray, .slice Aa1 a1.length ca1] w0 (Ret w0 S0 [] (fun v L1 S1 => ∃ (A105 : Option Addr), ∃ (c106 : Nat), ∃ (cs107 : List Value), v = .slice A105 r.length c106 ∧ L1 = [.row (.slice A105 r.length c106) 51 7 r.length cs107] ∧ reps (tyP tyI (tyP tyI (tyP tyI (tyP tyI (tyP tyI (tyP (tyL ty8) (tyL ty8))))))) S1 cs107 r ∧ True)) := by
  unfold lot_first at hf
  obtain ⟨k1, k2, rfl, ⟨rfl, hr3⟩, ⟨k4, k5, rfl, ⟨rfl, hr6⟩, ⟨k7, k8, rfl, ⟨rfl, hr9⟩, ⟨k10, k11, rfl, ⟨rfl, hr12⟩, ⟨k13, k14, rfl, ⟨rfl, hr15⟩, ⟨rfl, hr16⟩⟩⟩⟩⟩⟩ := hsa0
  refine c_enterM Try.func39 rfl 41 rfl (by simp) _ hm _ rfl (fun a h => ?_)
  refine c_rs ?_ -- region 0
  refine s_box h rfl rfl rfl (by decide) rfl (cs := [.int .i64 a0.1, .int .i64 a0.2.1, .int .i64 a0.2.2.1, .int .i64 a0.2.2.2.1, .int .i64 a0.2.2.2.2.1, .int .i64 a0.2.2.2.2.2]) (by rfl) (fun a w g17 h => ?_)
  refine s_assign h rfl _ rfl rfl (by decide) rfl (fun a h => ?_)
  refine l_end ?_
  refine c_rs ?_ -- region 1
  refine s_assign h rfl _ rfl rfl (by decide) rfl (fun a h => ?_)
  refine l_end ?_
  refine wp_seq ?_
  refine c_rs ?_ -- region 2
  refine s_assign h rfl _ rfl rfl (by decide) rfl (fun a h => ?_)
  refine l_end ?_
  obtain ⟨o18, hl19, hf⟩ := bsome hf
  refine c_fin (fun a w => ∃ (S30 : Snap), ∃ (x33 : List (Int × Int × Int × Int × Int × (List UInt8) × (List UInt8))), ∃ (A34 : Option Addr), ∃ (c35 : Nat), ∃ (cs36 : List Value), x33 = o18 ∧ Snap.le S0 S30 ∧ Up (ownL ([] ++ [.sn S0])) w0 S0 S30 ∧ reps (tyP tyI (tyP tyI (tyP tyI (tyP tyI (tyP tyI (tyP (tyL ty8) (tyL ty8))))))) S30 cs36 x33 ∧ St 41 w0 (ownL ([] ++ [.sn S0])) [(2, .pointer (some ⟨g17, 0, none⟩)), (5, .slice A34 x33.length c35)] [.box g17 25 ([.int .i64 a0.1, .int .i64 a0.2.1, .int .i64 a0.2.2.1, .int .i64 a0.2.2.2.1, .int .i64 a0.2.2.2.2.1, .int .i64 a0.2.2.2.2.2]), .row (.slice A34 x33.length c35) 51 7 x33.length cs36, .sn S30] a w) ?_ ?_
  · refine wp_block ?_
    have h := h.mem (h.m.nilrow 51 7)
    have h := h.pick [1, 0, 2] (by decide) rfl
    refine c_loop (fun m39 a w => ∃ (S20 : Snap), ∃ (x23 : List (Int × Int × Int × Int × Int × (List UInt8) × (List UInt8))), ∃ (A24 : Option Addr), ∃ (c25 : Nat), ∃ (cs26 : List Value), ∃ (x28 : Int), lot_first_l0 Fu a0 a1 m39 x23 x28 = some o18 ∧ Snap.le S0 S20 ∧ Up (ownL ([] ++ [.sn S0])) w0 S0 S20 ∧ reps (tyP tyI (tyP tyI (tyP tyI (tyP tyI (tyP tyI (tyP (tyL ty8) (tyL ty8))))))) S20 cs26 x23 ∧ r64 x28 ∧ St 41 w0 (ownL ([] ++ [.sn S0])) [(1, .slice Aa1 a1.length ca1), (2, .pointer (some ⟨g17, 0, none⟩)), (5, .slice A24 x23.length c25), (6, .int .i64 x28)] [.box g17 25 ([.int .i64 a0.1, .int .i64 a0.2.1, .int .i64 a0.2.2.1, .int .i64 a0.2.2.2.1, .int .i64 a0.2.2.2.2.1, .int .i64 a0.2.2.2.2.2]), .row (.slice A24 x23.length c25) 51 7 x23.length cs26, .sn S20] a w) Fu ⟨S0, [], none, 0, [], 1, hl19, (Snap.le.refl _), (Up.refl _ _ _), (show reps (tyP tyI (tyP tyI (tyP tyI (tyP tyI (tyP tyI (tyP (tyL ty8) (tyL ty8))))))) S0 [] [] from rfl), (show r64 1 from ⟨by decide, by decide⟩), h.has (by exact ⟨rfl, rfl, rfl, rfl, trivial⟩)⟩ (fun m39 a w hI => ?_)
    obtain ⟨S20, x23, A24, c25, cs26, x28, hl38, le21, up22, hq27, hr29, h⟩ := hI
    obtain _ | m39 := m39
    · rw [lot_first_l0] at hl38; cases hl38
    rw [lot_first_l0] at hl38
    refine wp_seq ?_
    refine c_rs ?_ -- region 3
    refine s_move h rfl _ rfl rfl (by decide) rfl (fun a h => ?_)
    refine s_x h rfl rfl (by decide) (x_faddr h.k rfl Try.underlying25 rfl sz_int rfl) (fun a h => ?_)
    refine s_x h rfl rfl (by decide) (x_ld h.k rfl Try.underlying3 rfl rfl ((h.m.cell (i := 0) rfl 1).trans rfl)) (fun a h => ?_)
    refine s_x h rfl rfl (by decide) (x_bin h.k rfl rfl rfl ib_leq) (fun a h => ?_)
    refine l_end ?_
    refine c_cond h rfl (fun hb => ?_) (fun hb => ?_)
    · rw [if_pos (of_decide_eq_true hb)] at hl38
      refine wp_skip ?_
      refine e_thenN ?_
      refine wp_seq ?_
      refine wp_block ?_
      -- region 5 draws
      obtain ⟨x41, h42, hl38⟩ := bsome hl38
      obtain ⟨x55, h56, hl38⟩ := bsome hl38
      refine d_start h (Mem _ _ _) 9 11 rfl (by kernel_rfl) (fun _ _ _ _ _ h => h) (fun _ h => h) (fun Q a w HE HN h HS => ?_)
      refine d_takeP h (fun _ => HS) HN 0 rfl (by kernel_rfl) (by kernel_rfl) (by kernel_rfl) (by decide) rfl rfl (by decide) (fun w' => x_move h.k _ rfl rfl) (fun a h => ?_)
      refine d_takeP h (fun _ => HS) HN 1 rfl (by kernel_rfl) (by kernel_rfl) (by kernel_rfl) (by decide) rfl rfl (by decide) (fun w' => x_move h.k _ rfl rfl) (fun a h => ?_)
      refine d_takeP h (fun _ => HS) HN 2 rfl (by kernel_rfl) (by kernel_rfl) (by kernel_rfl) (by decide) rfl rfl (by decide) (fun w' => x_faddr h.k rfl Try.underlying25 rfl sz_int rfl) (fun a h => ?_)
      refine d_takeD h HS HN 3 [7, 8, 9, 10] rfl (by kernel_rfl) (by kernel_rfl) (by kernel_rfl) (by kernel_rfl) (by kernel_rfl) (by kernel_rfl) rfl rfl (by decide) (fun w' hw => x_ld h.k rfl Try.underlying3 rfl rfl ((hw.cell (i := 0) rfl 2).trans rfl)) (fun a h => ?_)
      refine d_takeP h (fun _ => HS) HN 4 rfl (by kernel_rfl) (by kernel_rfl) (by kernel_rfl) (by decide) rfl rfl (by decide) (fun w' => x_move h.k _ rfl rfl) (fun a h => ?_)
      refine d_takeP h (fun _ => HS) HN 5 rfl (by kernel_rfl) (by kernel_rfl) (by kernel_rfl) (by decide) rfl rfl (by decide) (fun w' => x_move h.k _ rfl rfl) (fun a h => ?_)
      refine d_alone 6 rfl (by kernel_rfl) (fun K hK => ?_)
      have hX := lot_Cred_ok Fu (S0 := snapAll _) x28 hr29 _ h42 _ h.startAll
      refine q_callX hX h rfl rfl rfl (by decide) Try.func11 rfl rfl rfl (fun a w v L1 S1 hR hb1 h => ?_)
      obtain ⟨A44, c45, cs46, rfl, rfl, hq47, _⟩ := hR
      have hq48 := hq47.fl (S' := S20) fl_8
      refine hK _ _ (fun _ _ => HS.ext hb1) ?_
      replace HS := HS.ext hb1
      clear hK
      refine d_takeP h (fun _ => HS) HN 7 rfl (by kernel_rfl) (by kernel_rfl) (by kernel_rfl) (by decide) rfl rfl (by decide) (fun w' => x_build h.k rfl [(0, .int .i64 1), (1, .int .i64 x28), (3, .int .i64 a0.2.2.1), (5, .slice Aa1 a1.length ca1), (6, .slice A44 x41.length c45)] rfl ([.int .i64 1, .int .i64 x28, .int .i64 0, .int .i64 a0.2.2.1, .int .i64 0, .slice Aa1 a1.length ca1, .slice A44 x41.length c45]) (by kernel_rfl)) (fun a h => ?_)
      refine d_alone 8 rfl (by kernel_rfl) (fun K hK => ?_)
      have h := h.pick [0, 3, 1, 2] (by decide) rfl
      obtain ⟨S49, le50, up51, hs52, h⟩ := q_freeze (T := ty8) h up22 hq48
      refine q_bslice (T := tyP tyI (tyP tyI (tyP tyI (tyP tyI (tyP tyI (tyP (tyL ty8) (tyL ty8))))))) (S := S49) h rfl rfl rfl (by decide) Try.underlying40 zi_api_Op (by decide) (by decide) (by decide) (by decide) [.agg ([.int .i64 1, .int .i64 x28, .int .i64 0, .int .i64 a0.2.2.1, .int .i64 0, .slice Aa1 a1.length ca1, .slice A44 x41.length c45]).toArray] rfl rfl (C := [[.int .i64 1, .int .i64 x28, .int .i64 0, .int .i64 a0.2.2.1, .int .i64 0, .slice Aa1 a1.length ca1, .slice A44 x41.length c45]]) rfl (xs := [(1, x28, 0, a0.2.2.1, 0, a1, x41)]) ⟨[.int .i64 1, .int .i64 x28, .int .i64 0, .int .i64 a0.2.2.1, .int .i64 0, .slice Aa1 a1.length ca1, .slice A44 x41.length c45], _, rfl, ⟨[.int .i64 1], [.int .i64 x28, .int .i64 0, .int .i64 a0.2.2.1, .int .i64 0, .slice Aa1 a1.length ca1, .slice A44 x41.length c45], rfl, ⟨rfl, (show r64 1 from ⟨by decide, by decide⟩)⟩, ⟨[.int .i64 x28], [.int .i64 0, .int .i64 a0.2.2.1, .int .i64 0, .slice Aa1 a1.length ca1, .slice A44 x41.length c45], rfl, ⟨rfl, hr29⟩, ⟨[.int .i64 0], [.int .i64 a0.2.2.1, .int .i64 0, .slice Aa1 a1.length ca1, .slice A44 x41.length c45], rfl, ⟨rfl, (show r64 0 from ⟨by decide, by decide⟩)⟩, ⟨[.int .i64 a0.2.2.1], [.int .i64 0, .slice Aa1 a1.length ca1, .slice A44 x41.length c45], rfl, ⟨rfl, hr9⟩, ⟨[.int .i64 0], [.slice Aa1 a1.length ca1, .slice A44 x41.length c45], rfl, ⟨rfl, (show r64 0 from ⟨by decide, by decide⟩)⟩, ⟨[.slice Aa1 a1.length ca1], [.slice A44 x41.length c45], rfl, ⟨_, _, rfl, (hsa1.mono (le21.trans le50))⟩, ⟨_, _, rfl, hs52⟩⟩⟩⟩⟩⟩⟩, rfl⟩ (by intro c hc; simp only [List.mem_cons, List.not_mem_nil, or_false] at hc; subst hc; rfl) (fun a w A53 h => ?_)
      have hb54 : reps (tyP tyI (tyP tyI (tyP tyI (tyP tyI (tyP tyI (tyP (tyL ty8) (tyL ty8))))))) S49 ([[.int .i64 1, .int .i64 x28, .int .i64 0, .int .i64 a0.2.2.1, .int .i64 0, .slice Aa1 a1.length ca1, .slice A44 x41.length c45]] : List (List Value)).flatten [(1, x28, 0, a0.2.2.1, 0, a1, x41)] := ⟨[.int .i64 1, .int .i64 x28, .int .i64 0, .int .i64 a0.2.2.1, .int .i64 0, .slice Aa1 a1.length ca1, .slice A44 x41.length c45], _, rfl, ⟨[.int .i64 1], [.int .i64 x28, .int .i64 0, .int .i64 a0.2.2.1, .int .i64 0, .slice Aa1 a1.length ca1, .slice A44 x41.length c45], rfl, ⟨rfl, (show r64 1 from ⟨by decide, by decide⟩)⟩, ⟨[.int .i64 x28], [.int .i64 0, .int .i64 a0.2.2.1, .int .i64 0, .slice Aa1 a1.length ca1, .slice A44 x41.length c45], rfl, ⟨rfl, hr29⟩, ⟨[.int .i64 0], [.int .i64 a0.2.2.1, .int .i64 0, .slice Aa1 a1.length ca1, .slice A44 x41.length c45], rfl, ⟨rfl, (show r64 0 from ⟨by decide, by decide⟩)⟩, ⟨[.int .i64 a0.2.2.1], [.int .i64 0, .slice Aa1 a1.length ca1, .slice A44 x41.length c45], rfl, ⟨rfl, hr9⟩, ⟨[.int .i64 0], [.slice Aa1 a1.length ca1, .slice A44 x41.length c45], rfl, ⟨rfl, (show r64 0 from ⟨by decide, by decide⟩)⟩, ⟨[.slice Aa1 a1.length ca1], [.slice A44 x41.length c45], rfl, ⟨_, _, rfl, (hsa1.mono (le21.trans le50))⟩, ⟨_, _, rfl, hs52⟩⟩⟩⟩⟩⟩⟩, rfl⟩
      replace HS := (h.m.pick [2, 3, 1] [.box g17 25 ([.int .i64 a0.1, .int .i64 a0.2.1, .int .i64 a0.2.2.1, .int .i64 a0.2.2.2.1, .int .i64 a0.2.2.2.2.1, .int .i64 a0.2.2.2.2.2]), .row (.slice A24 x23.length c25) 51 7 x23.length cs26, .sn S49] (by decide) rfl).snLe 2 rfl le50
      refine hK _ _ (fun _ _ => HS) ?_
      clear hK
      refine d_alone 9 rfl (by kernel_rfl) (fun K hK => ?_)
      refine q_append (T := tyP tyI (tyP tyI (tyP tyI (tyP tyI (tyP tyI (tyP (tyL ty8) (tyL ty8))))))) (S := S49) h rfl rfl rfl (by decide) Try.underlying40 zb_api_Op rfl (by decide) rfl 3 rfl (hq27.mono le50) rfl hb54 (h.m.rdRowA (i := 0) rfl) h56 (fun a w A57 c58 cs59 hq60 h => ?_)
      refine hK _ _ (fun hne _ => absurd rfl hne) ?_
      clear hK
      refine d_takeP h (fun hl => absurd hl (by decide)) HN 10 rfl (by kernel_rfl) (by kernel_rfl) (by kernel_rfl) (by decide) rfl rfl (by decide) (fun w' => x_assign h.k _ rfl rfl) (fun a h => ?_)
      refine d_done (by kernel_rfl) (HE _ _ ?_) _
      refine e_blkN ?_
      refine e_thenN ?_
      refine c_r ?_ -- region 4
      refine s_move h rfl _ rfl rfl (by decide) rfl (fun a h => ?_)
      refine s_x h rfl rfl (by decide) (x_bin h.k rfl rfl rfl (ib_add rfl)) (fun a h => ?_)
      refine s_assign h rfl _ rfl rfl (by decide) rfl (fun a h => ?_)
      refine l_nil ?_
      have h := h.pick [2, 3, 1] (by decide) rfl
      exact e_thenN ⟨m39, Nat.lt_succ_self _, S49, x55, A57, c58, cs59, w64 (x28 + 1), hl38, (le21.trans le50), up51, hq60, (w64_r _), h.has (by exact ⟨rfl, rfl, rfl, rfl, trivial⟩)⟩
    · rw [if_neg (of_decide_eq_false hb)] at hl38
      refine wp_exit ?_
      refine e_thenX ?_
      refine e_thenX ?_
      refine e_blkX ?_
      refine e_thenN ?_
      exact ⟨S20, x23, A24, c25, cs26, (Option.some.inj hl38), le21, up22, hq27, h.has (by exact ⟨rfl, rfl, trivial⟩)⟩
  · rintro a w ⟨S30, x33, A34, c35, cs36, rfl, le31, up32, hq37, h⟩
    refine e_thenN ?_
    refine wp_seq ?_
    refine c_rs ?_ -- region 6
    refine s_assign h rfl _ rfl rfl (by decide) rfl (fun a h => ?_)
    refine l_end ?_
    obtain ⟨o61, hl62, hf⟩ := bsome hf
    refine c_fin (fun a w => ∃ (S73 : Snap), ∃ (x76 : List (Int × Int × Int × Int × Int × (List UInt8) × (List UInt8))), ∃ (A77 : Option Addr), ∃ (c78 : Nat), ∃ (cs79 : List Value), x76 = o61 ∧ Snap.le S30 S73 ∧ Up (ownL ([] ++ [.sn S0])) w0 S0 S73 ∧ reps (tyP tyI (tyP tyI (tyP tyI (tyP tyI (tyP tyI (tyP (tyL ty8) (tyL ty8))))))) S73 cs79 x76 ∧ St 41 w0 (ownL ([] ++ [.sn S0])) [(5, .slice A77 x76.length c78)] [.row (.slice A77 x76.length c78) 51 7 x76.length cs79, .sn S73] a w) ?_ ?_
    · refine wp_block ?_
      refine c_loop (fun m82 a w => ∃ (S63 : Snap), ∃ (x66 : Int), ∃ (x68 : List (Int × Int × Int × Int × Int × (List UInt8) × (List UInt8))), ∃ (A69 : Option Addr), ∃ (c70 : Nat), ∃ (cs71 : List Value), lot_first_l1 Fu a0 m82 x66 x68 = some o61 ∧ Snap.le S30 S63 ∧ Up (ownL ([] ++ [.sn S0])) w0 S0 S63 ∧ r64 x66 ∧ reps (tyP tyI (tyP tyI (tyP tyI (tyP tyI (tyP tyI (tyP (tyL ty8) (tyL ty8))))))) S63 cs71 x68 ∧ St 41 w0 (ownL ([] ++ [.sn S0])) [(2, .pointer (some ⟨g17, 0, none⟩)), (5, .slice A69 x68.length c70), (7, .int .i64 x66)] [.box g17 25 ([.int .i64 a0.1, .int .i64 a0.2.1, .int .i64 a0.2.2.1, .int .i64 a0.2.2.2.1, .int .i64 a0.2.2.2.2.1, .int .i64 a0.2.2.2.2.2]), .row (.slice A69 x68.length c70) 51 7 x68.length cs71, .sn S63] a w) Fu ⟨S30, 1, x33, A34, c35, cs36, hl62, (Snap.le.refl _), up32, (show r64 1 from ⟨by decide, by decide⟩), hq37, h.has (by exact ⟨rfl, rfl, rfl, trivial⟩)⟩ (fun m82 a w hI => ?_)
      obtain ⟨S63, x66, x68, A69, c70, cs71, hl81, le64, up65, hr67, hq72, h⟩ := hI
      obtain _ | m82 := m82
      · rw [lot_first_l1] at hl81; cases hl81
      rw [lot_first_l1] at hl81
      refine wp_seq ?_
      refine c_rs ?_ -- region 7
      refine s_move h rfl _ rfl rfl (by decide) rfl (fun a h => ?_)
      refine s_x h rfl rfl (by decide) (x_faddr h.k rfl Try.underlying25 rfl sz_int rfl) (fun a h => ?_)
      refine s_x h rfl rfl (by decide) (x_ld h.k rfl Try.underlying3 rfl rfl ((h.m.cell (i := 0) rfl 1).trans rfl)) (fun a h => ?_)
      refine s_x h rfl rfl (by decide) (x_bin h.k rfl rfl rfl ib_leq) (fun a h => ?_)
      refine l_end ?_
      refine c_cond h rfl (fun hb => ?_) (fun hb => ?_)
      · rw [if_pos (of_decide_eq_true hb)] at hl81
        refine wp_skip ?_
        refine e_thenN ?_
        refine wp_seq ?_
        refine wp_block ?_
        -- region 9 draws
        obtain ⟨x83, h84, hl81⟩ := bsome hl81
        obtain ⟨x97, h98, hl81⟩ := bsome hl81
        refine d_start h (Mem _ _ _) 9 11 rfl (by kernel_rfl) (fun _ _ _ _ _ h => h) (fun _ h => h) (fun Q a w HE HN h HS => ?_)
        refine d_takeP h (fun _ => HS) HN 0 rfl (by kernel_rfl) (by kernel_rfl) (by kernel_rfl) (by decide) rfl rfl (by decide) (fun w' => x_move h.k _ rfl rfl) (fun a h => ?_)
        refine d_takeP h (fun _ => HS) HN 1 rfl (by kernel_rfl) (by kernel_rfl) (by kernel_rfl) (by decide) rfl rfl (by decide) (fun w' => x_move h.k _ rfl rfl) (fun a h => ?_)
        refine d_takeP h (fun _ => HS) HN 2 rfl (by kernel_rfl) (by kernel_rfl) (by kernel_rfl) (by decide) rfl rfl (by decide) (fun w' => x_move h.k _ rfl rfl) (fun a h => ?_)
        refine d_takeP h (fun _ => HS) HN 3 rfl (by kernel_rfl) (by kernel_rfl) (by kernel_rfl) (by decide) rfl rfl (by decide) (fun w' => x_faddr h.k rfl Try.underlying25 rfl sz_int rfl) (fun a h => ?_)
        refine d_takeD h HS HN 4 [7, 8, 9, 10] rfl (by kernel_rfl) (by kernel_rfl) (by kernel_rfl) (by kernel_rfl) (by kernel_rfl) (by kernel_rfl) rfl rfl (by decide) (fun w' hw => x_ld h.k rfl Try.underlying3 rfl rfl ((hw.cell (i := 0) rfl 2).trans rfl)) (fun a h => ?_)
        refine d_takeP h (fun _ => HS) HN 5 rfl (by kernel_rfl) (by kernel_rfl) (by kernel_rfl) (by decide) rfl rfl (by decide) (fun w' => x_move h.k _ rfl rfl) (fun a h => ?_)
        refine d_alone 6 rfl (by kernel_rfl) (fun K hK => ?_)
        have hX := lot_Cred_ok Fu (S0 := snapAll _) x66 hr67 _ h84 _ h.startAll
        refine q_callX hX h rfl rfl rfl (by decide) Try.func11 rfl rfl rfl (fun a w v L1 S1 hR hb1 h => ?_)
        obtain ⟨A86, c87, cs88, rfl, rfl, hq89, _⟩ := hR
        have hq90 := hq89.fl (S' := S63) fl_8
        refine hK _ _ (fun _ _ => HS.ext hb1) ?_
        replace HS := HS.ext hb1
        clear hK
        have h := h.pick [0, 3, 1, 2] (by decide) rfl
        obtain ⟨S91, le92, up93, hs94, h⟩ := q_freeze (T := ty8) h up65 hq90
        refine d_takeP h (fun _ => HS) HN 7 rfl (by kernel_rfl) (by kernel_rfl) (by kernel_rfl) (by decide) rfl rfl (by decide) (fun w' => x_build h.k rfl [(0, .int .i64 2), (1, .int .i64 x66), (2, .int .i64 x66), (3, .int .i64 a0.2.2.1), (5, .slice A86 x83.length c87)] rfl ([.int .i64 2, .int .i64 x66, .int .i64 x66, .int .i64 a0.2.2.1, .int .i64 0, .slice A86 x83.length c87, .slice none 0 0]) (by kernel_rfl)) (fun a h => ?_)
        refine d_alone 8 rfl (by kernel_rfl) (fun K hK => ?_)
        refine q_bslice (T := tyP tyI (tyP tyI (tyP tyI (tyP tyI (tyP tyI (tyP (tyL ty8) (tyL ty8))))))) (S := S91) h rfl rfl rfl (by decide) Try.underlying40 zi_api_Op (by decide) (by decide) (by decide) (by decide) [.agg ([.int .i64 2, .int .i64 x66, .int .i64 x66, .int .i64 a0.2.2.1, .int .i64 0, .slice A86 x83.length c87, .slice none 0 0]).toArray] rfl rfl (C := [[.int .i64 2, .int .i64 x66, .int .i64 x66, .int .i64 a0.2.2.1, .int .i64 0, .slice A86 x83.length c87, .slice none 0 0]]) rfl (xs := [(2, x66, x66, a0.2.2.1, 0, x83, [])]) ⟨[.int .i64 2, .int .i64 x66, .int .i64 x66, .int .i64 a0.2.2.1, .int .i64 0, .slice A86 x83.length c87, .slice none 0 0], _, rfl, ⟨[.int .i64 2], [.int .i64 x66, .int .i64 x66, .int .i64 a0.2.2.1, .int .i64 0, .slice A86 x83.length c87, .slice none 0 0], rfl, ⟨rfl, (show r64 2 from ⟨by decide, by decide⟩)⟩, ⟨[.int .i64 x66], [.int .i64 x66, .int .i64 a0.2.2.1, .int .i64 0, .slice A86 x83.length c87, .slice none 0 0], rfl, ⟨rfl, hr67⟩, ⟨[.int .i64 x66], [.int .i64 a0.2.2.1, .int .i64 0, .slice A86 x83.length c87, .slice none 0 0], rfl, ⟨rfl, hr67⟩, ⟨[.int .i64 a0.2.2.1], [.int .i64 0, .slice A86 x83.length c87, .slice none 0 0], rfl, ⟨rfl, hr9⟩, ⟨[.int .i64 0], [.slice A86 x83.length c87, .slice none 0 0], rfl, ⟨rfl, (show r64 0 from ⟨by decide, by decide⟩)⟩, ⟨[.slice A86 x83.length c87], [.slice none 0 0], rfl, ⟨_, _, rfl, hs94⟩, ⟨_, _, rfl, (slS.nil ty8 _)⟩⟩⟩⟩⟩⟩⟩, rfl⟩ (by intro c hc; simp only [List.mem_cons, List.not_mem_nil, or_false] at hc; subst hc; rfl) (fun a w A95 h => ?_)
        have hb96 : reps (tyP tyI (tyP tyI (tyP tyI (tyP tyI (tyP tyI (tyP (tyL ty8) (tyL ty8))))))) S91 ([[.int .i64 2, .int .i64 x66, .int .i64 x66, .int .i64 a0.2.2.1, .int .i64 0, .slice A86 x83.length c87, .slice none 0 0]] : List (List Value)).flatten [(2, x66, x66, a0.2.2.1, 0, x83, [])] := ⟨[.int .i64 2, .int .i64 x66, .int .i64 x66, .int .i64 a0.2.2.1, .int .i64 0, .slice A86 x83.length c87, .slice none 0 0], _, rfl, ⟨[.int .i64 2], [.int .i64 x66, .int .i64 x66, .int .i64 a0.2.2.1, .int .i64 0, .slice A86 x83.length c87, .slice none 0 0], rfl, ⟨rfl, (show r64 2 from ⟨by decide, by decide⟩)⟩, ⟨[.int .i64 x66], [.int .i64 x66, .int .i64 a0.2.2.1, .int .i64 0, .slice A86 x83.length c87, .slice none 0 0], rfl, ⟨rfl, hr67⟩, ⟨[.int .i64 x66], [.int .i64 a0.2.2.1, .int .i64 0, .slice A86 x83.length c87, .slice none 0 0], rfl, ⟨rfl, hr67⟩, ⟨[.int .i64 a0.2.2.1], [.int .i64 0, .slice A86 x83.length c87, .slice none 0 0], rfl, ⟨rfl, hr9⟩, ⟨[.int .i64 0], [.slice A86 x83.length c87, .slice none 0 0], rfl, ⟨rfl, (show r64 0 from ⟨by decide, by decide⟩)⟩, ⟨[.slice A86 x83.length c87], [.slice none 0 0], rfl, ⟨_, _, rfl, hs94⟩, ⟨_, _, rfl, (slS.nil ty8 _)⟩⟩⟩⟩⟩⟩⟩, rfl⟩
        replace HS := (h.m.pick [2, 3, 1] [.box g17 25 ([.int .i64 a0.1, .int .i64 a0.2.1, .int .i64 a0.2.2.1, .int .i64 a0.2.2.2.1, .int .i64 a0.2.2.2.2.1, .int .i64 a0.2.2.2.2.2]), .row (.slice A69 x68.length c70) 51 7 x68.length cs71, .sn S91] (by decide) rfl).snLe 2 rfl le92
        refine hK _ _ (fun _ _ => HS) ?_
        clear hK
        refine d_alone 9 rfl (by kernel_rfl) (fun K hK => ?_)
        refine q_append (T := tyP tyI (tyP tyI (tyP tyI (tyP tyI (tyP tyI (tyP (tyL ty8) (tyL ty8))))))) (S := S91) h rfl rfl rfl (by decide) Try.underlying40 zb_api_Op rfl (by decide) rfl 3 rfl (hq72.mono le92) rfl hb96 (h.m.rdRowA (i := 0) rfl) h98 (fun a w A99 c100 cs101 hq102 h => ?_)
        refine hK _ _ (fun hne _ => absurd rfl hne) ?_
        clear hK
        refine d_takeP h (fun hl => absurd hl (by decide)) HN 10 rfl (by kernel_rfl) (by kernel_rfl) (by kernel_rfl) (by decide) rfl rfl (by decide) (fun w' => x_assign h.k _ rfl rfl) (fun a h => ?_)
        refine d_done (by kernel_rfl) (HE _ _ ?_) _
        refine e_blkN ?_
        refine e_thenN ?_
        refine c_r ?_ -- region 8
        refine s_move h rfl _ rfl rfl (by decide) rfl (fun a h => ?_)
        refine s_x h rfl rfl (by decide) (x_bin h.k rfl rfl rfl (ib_add rfl)) (fun a h => ?_)
        refine s_assign h rfl _ rfl rfl (by decide) rfl (fun a h => ?_)
        refine l_nil ?_
        have h := h.pick [2, 3, 1] (by decide) rfl
        exact e_thenN ⟨m82, Nat.lt_succ_self _, S91, w64 (x66 + 1), x97, A99, c100, cs101, hl81, (le64.trans le92), up93, (w64_r _), hq102, h.has (by exact ⟨rfl, rfl, rfl, trivial⟩)⟩
      · rw [if_neg (of_decide_eq_false hb)] at hl81
        refine wp_exit ?_
        refine e_thenX ?_
        refine e_thenX ?_
        refine e_blkX ?_
        refine e_thenN ?_
        have h := h.pick [1, 2] (by decide) rfl
        exact ⟨S63, x68, A69, c70, cs71, (Option.some.inj hl81), le64, up65, hq72, h.has (by exact ⟨rfl, trivial⟩)⟩
    · rintro a w ⟨S73, x76, A77, c78, cs79, rfl, le74, up75, hq80, h⟩
      refine e_thenN ?_
      refine c_rs ?_ -- region 10
      refine s_move h rfl _ rfl rfl (by decide) rfl (fun a h => ?_)
      refine s_assign h rfl _ rfl rfl (by decide) rfl (fun a h => ?_)
      refine l_end ?_
      refine wp_ret ?_
      rw [← Option.some.inj hf]
      exact r_ret1 h rfl (rv_tmp h rfl) ⟨_, [.row (.slice A77 x76.length c78) 51 7 x76.length cs79], _, rfl, ⟨A77, c78, cs79, rfl, rfl, hq80, trivial⟩, rfl, up75, h.m⟩
def lot_kind_clo1_8_1_0 (Fu : Nat) (a0 : Int × Int × Int × Int × Int × Int) (a1b0 : (List UInt8) × UInt64 × Bool) : Option (Int × ((List UInt8) × UInt64 × Bool)) :=
  (lot_Lot_Below Fu a1b0 100).bind fun x22 => if x22.1 < a0.2.2.2.1 then (some (8, x22.2)) else (if x22.1 < w64 (a0.2.2.2.1 + a0.2.2.2.2.1) then (some (7, x22.2)) else (if x22.1 < w64 ((w64 (a0.2.2.2.1 + a0.2.2.2.2.1)) + a0.2.2.2.2.2) then (some (10, x22.2)) else ((lot_Lot_Below Fu x22.2 3).bind fun x32 => if x32.1 = 0 then (some (9, x32.2)) else (if x32.1 = 1 then (some (6, x32.2)) else (some (3, x32.2))))))
set_option maxRecDepth 100000 in
set_option maxHeartbeats 2000000 in
theorem lot_kind_clo1_8_1_0_ok (Fu : Nat) {S0 : Snap} (csa0 : List Value) (a0 : Int × Int × Int × Int × Int × Int) (hsa0 : (tyP tyI (tyP tyI (tyP tyI (tyP tyI (tyP tyI tyI))))).rep S0 csa0 a0) (a1b0 : (List UInt8) × UInt64 × Bool) (g17 : Nat) (A18 : Option Addr) (c19 : Nat) (hs20 : slS ty8 S0 A18 c19 a1b0.1) (r : Int × ((List UInt8) × UInt64 × Bool)) (hf : lot_kind_clo1_8_1_0 Fu a0 a1b0 = some r) (w0 : World) (hm : Mem w0 (ownL ([.box g17 65 ([.slice A18 a1b0.1.length c19, .int .u64 (a1b0.2.1.toNat : Int), .bool a1b0.2.2])] ++ [.sn S0])) ([.box g17 65 ([.slice A18 a1b0.1.length c19, .int .u64 (a1b0.2.1.toNat : Int), .bool a1b0.2.2])] ++ [.sn S0]) w0) :
    Calls Try.prog 56 #[.agg csa0.toArray, .func (.func 8) [.pointer (some ⟨g17, 0, none⟩)].toArray [].toArray] w0 (Ret w0 S0 [.box g17 65 ([.slice A18 a1b0.1.length c19, .int .u64 (a1b0.2.1.toNat : Int), .bool a1b0.2.2])] (fun v L1 S1 => ∃ (A43 : Option Addr), ∃ (c44 : Nat), v = .int .i64 r.1 ∧ L1 = [.box g17 65 ([.slice A43 r.2.1.length c44, .int .u64 (r.2.2.1.toNat : Int), .bool r.2.2.2])] ∧ r64 r.1 ∧ slS ty8 S1 A43 c44 r.2.1 ∧ True)) := by
  unfold lot_kind_clo1_8_1_0 at hf
  obtain ⟨k1, k2, rfl, ⟨rfl, hr3⟩, ⟨k4, k5, rfl, ⟨rfl, hr6⟩, ⟨k7, k8, rfl, ⟨rfl, hr9⟩, ⟨k10, k11, rfl, ⟨rfl, hr12⟩, ⟨k13, k14, rfl, ⟨rfl, hr15⟩, ⟨rfl, hr16⟩⟩⟩⟩⟩⟩ := hsa0
  obtain ⟨B0, hB0⟩ : ∃ B0, B0 = (ownL ([.box g17 65 ([.slice A18 a1b0.1.length c19, .int .u64 (a1b0.2.1.toNat : Int), .bool a1b0.2.2])] ++ [.sn S0])) := ⟨_, rfl⟩
  rw [← hB0] at hm
  refine c_enterM Try.func56 rfl 38 rfl (by simp) _ hm _ rfl (fun a h => ?_)
  refine c_rs ?_ -- region 0
  refine s_box h rfl rfl rfl (by decide) rfl (cs := [.int .i64 a0.1, .int .i64 a0.2.1, .int .i64 a0.2.2.1, .int .i64 a0.2.2.2.1, .int .i64 a0.2.2.2.2.1, .int .i64 a0.2.2.2.2.2]) (by rfl) (fun a w g21 h => ?_)
  refine s_assign h rfl _ rfl rfl (by decide) rfl (fun a h => ?_)
  refine l_end ?_
  refine wp_seq ?_
  refine c_rs ?_ -- region 1
  refine s_move h rfl _ rfl rfl (by decide) rfl (fun a h => ?_)
  obtain ⟨x22, h23, hf⟩ := bsome hf
  have h := h.pick [1, 2, 0] (by decide) rfl
  have hX := lot_Lot_Below_ok Fu (S0 := S0) a1b0 g17 A18 c19 hs20 100 (show r64 100 from ⟨by decide, by decide⟩) _ h23 _ (h.sub (Ls := [.box g17 65 ([.slice A18 a1b0.1.length c19, .int .u64 (a1b0.2.1.toNat : Int), .bool a1b0.2.2])]))
  refine q_callYV (Ls := [.box g17 65 ([.slice A18 a1b0.1.length c19, .int .u64 (a1b0.2.1.toNat : Int), .bool a1b0.2.2])]) hX h (Up.refl _ _ _) rfl rfl rfl (by decide) rfl Try.func8 rfl rfl [.int .i64 100] rfl rfl (fun a w v L1 S25 hR le27 up26 h => ?_)
  obtain ⟨A29, c30, rfl, rfl, hr28, hs31, _⟩ := hR
  refine s_assign h rfl _ rfl rfl (by decide) rfl (fun a h => ?_)
  refine l_end ?_
  refine wp_block ?_
  refine c_rs ?_ -- region 2
  refine s_move h rfl _ rfl rfl (by decide) rfl (fun a h => ?_)
  refine s_x h rfl rfl (by decide) (x_faddr h.k rfl Try.underlying25 rfl sz_int rfl) (fun a h => ?_)
  refine s_x h rfl rfl (by decide) (x_ld h.k rfl Try.underlying3 rfl rfl ((h.m.cell (i := 2) rfl 3).trans rfl)) (fun a h => ?_)
  refine s_x h rfl rfl (by decide) (x_bin h.k rfl rfl rfl ib_lss) (fun a h => ?_)
  refine s_assign h rfl _ rfl rfl (by decide) rfl (fun a h => ?_)
  refine l_end ?_
  refine c_cond h rfl (fun hb => ?_) (fun hb => ?_)
  · rw [if_pos (of_decide_eq_true hb)] at hf
    refine c_rs ?_ -- region 3
    refine s_assign h rfl _ rfl rfl (by decide) rfl (fun a h => ?_)
    refine l_end ?_
    refine wp_ret ?_
    refine e_blkR ?_
    refine e_thenR ?_
    obtain rfl := Option.some.inj hf
    subst hB0
    exact r_ret1 h rfl (rv_tmp h rfl) ⟨_, [.box g17 65 ([.slice A29 x22.2.1.length c30, .int .u64 (x22.2.2.1.toNat : Int), .bool x22.2.2.2])], _, rfl, ⟨A29, c30, rfl, rfl, (show r64 8 from ⟨by decide, by decide⟩), hs31, trivial⟩, rfl, up26, (h.m.pick [0, 1] _ (by decide) rfl)⟩
  · rw [if_neg (of_decide_eq_false hb)] at hf
    refine c_rs ?_ -- region 4
    refine s_move h rfl _ rfl rfl (by decide) rfl (fun a h => ?_)
    refine s_x h rfl rfl (by decide) (x_faddr h.k rfl Try.underlying25 rfl sz_int rfl) (fun a h => ?_)
    refine s_x h rfl rfl (by decide) (x_ld h.k rfl Try.underlying3 rfl rfl ((h.m.cell (i := 2) rfl 3).trans rfl)) (fun a h => ?_)
    refine s_x h rfl rfl (by decide) (x_faddr h.k rfl Try.underlying25 rfl sz_int rfl) (fun a h => ?_)
    refine s_x h rfl rfl (by decide) (x_ld h.k rfl Try.underlying3 rfl rfl ((h.m.cell (i := 2) rfl 4).trans rfl)) (fun a h => ?_)
    refine s_x h rfl rfl (by decide) (x_bin h.k rfl rfl rfl (ib_add rfl)) (fun a h => ?_)
    refine s_x h rfl rfl (by decide) (x_bin h.k rfl rfl rfl ib_lss) (fun a h => ?_)
    refine s_assign h rfl _ rfl rfl (by decide) rfl (fun a h => ?_)
    refine l_end ?_
    refine c_cond h rfl (fun hb => ?_) (fun hb => ?_)
    · rw [if_pos (of_decide_eq_true hb)] at hf
      refine c_rs ?_ -- region 5
      refine s_assign h rfl _ rfl rfl (by decide) rfl (fun a h => ?_)
      refine l_end ?_
      refine wp_ret ?_
      refine e_blkR ?_
      refine e_thenR ?_
      obtain rfl := Option.some.inj hf
      subst hB0
      exact r_ret1 h rfl (rv_tmp h rfl) ⟨_, [.box g17 65 ([.slice A29 x22.2.1.length c30, .int .u64 (x22.2.2.1.toNat : Int), .bool x22.2.2.2])], _, rfl, ⟨A29, c30, rfl, rfl, (show r64 7 from ⟨by decide, by decide⟩), hs31, trivial⟩, rfl, up26, (h.m.pick [0, 1] _ (by decide) rfl)⟩
    · rw [if_neg (of_decide_eq_false hb)] at hf
      refine c_rs ?_ -- region 6
      refine s_move h rfl _ rfl rfl (by decide) rfl (fun a h => ?_)
      refine s_x h rfl rfl (by decide) (x_faddr h.k rfl Try.underlying25 rfl sz_int rfl) (fun a h => ?_)
      refine s_x h rfl rfl (by decide) (x_ld h.k rfl Try.underlying3 rfl rfl ((h.m.cell (i := 2) rfl 3).trans rfl)) (fun a h => ?_)
      refine s_x h rfl rfl (by decide) (x_faddr h.k rfl Try.underlying25 rfl sz_int rfl) (fun a h => ?_)
      refine s_x h rfl rfl (by decide) (x_ld h.k rfl Try.underlying3 rfl rfl ((h.m.cell (i := 2) rfl 4).trans rfl)) (fun a h => ?_)
      refine s_x h rfl rfl (by decide) (x_bin h.k rfl rfl rfl (ib_add rfl)) (fun a h => ?_)
      refine s_x h rfl rfl (by decide) (x_faddr h.k rfl Try.underlying25 rfl sz_int rfl) (fun a h => ?_)
      refine s_x h rfl rfl (by decide) (x_ld h.k rfl Try.underlying3 rfl rfl ((h.m.cell (i := 2) rfl 5).trans rfl)) (fun a h => ?_)
      refine s_x h rfl rfl (by decide) (x_bin h.k rfl rfl rfl (ib_add rfl)) (fun a h => ?_)
      refine s_x h rfl rfl (by decide) (x_bin h.k rfl rfl rfl ib_lss) (fun a h => ?_)
      refine s_assign h rfl _ rfl rfl (by decide) rfl (fun a h => ?_)
      refine l_end ?_
      refine c_cond h rfl (fun hb => ?_) (fun hb => ?_)
      · rw [if_pos (of_decide_eq_true hb)] at hf
        refine c_rs ?_ -- region 7
        refine s_assign h rfl _ rfl rfl (by decide) rfl (fun a h => ?_)
        refine l_end ?_
        refine wp_ret ?_
        refine e_blkR ?_
        refine e_thenR ?_
        obtain rfl := Option.some.inj hf
        subst hB0
        exact r_ret1 h rfl (rv_tmp h rfl) ⟨_, [.box g17 65 ([.slice A29 x22.2.1.length c30, .int .u64 (x22.2.2.1.toNat : Int), .bool x22.2.2.2])], _, rfl, ⟨A29, c30, rfl, rfl, (show r64 10 from ⟨by decide, by decide⟩), hs31, trivial⟩, rfl, up26, (h.m.pick [0, 1] _ (by decide) rfl)⟩
      · rw [if_neg (of_decide_eq_false hb)] at hf
        refine wp_skip ?_
        refine e_blkN ?_
        refine e_thenN ?_
        refine wp_seq ?_
        refine c_rs ?_ -- region 8
        refine s_move h rfl _ rfl rfl (by decide) rfl (fun a h => ?_)
        obtain ⟨x32, h33, hf⟩ := bsome hf
        have hX := lot_Lot_Below_ok Fu (S0 := S25) x22.2 g17 A29 c30 hs31 3 (show r64 3 from ⟨by decide, by decide⟩) _ h33 _ (h.sub (Ls := [.box g17 65 ([.slice A29 x22.2.1.length c30, .int .u64 (x22.2.2.1.toNat : Int), .bool x22.2.2.2])]))
        refine q_callYV (Ls := [.box g17 65 ([.slice A29 x22.2.1.length c30, .int .u64 (x22.2.2.1.toNat : Int), .bool x22.2.2.2])]) hX h up26 rfl rfl rfl (by decide) rfl Try.func8 rfl rfl [.int .i64 3] rfl rfl (fun a w v L1 S35 hR le37 up36 h => ?_)
        obtain ⟨A39, c40, rfl, rfl, hr38, hs41, _⟩ := hR
        refine l_end ?_
        refine wp_block ?_
        refine c_rs ?_ -- region 9
        refine s_x h rfl rfl (by decide) (x_bin h.k rfl rfl rfl ib_eql) (fun a h => ?_)
        refine s_assign h rfl _ rfl rfl (by decide) rfl (fun a h => ?_)
        refine l_end ?_
        refine c_cond h rfl (fun hb => ?_) (fun hb => ?_)
        · rw [if_pos (of_decide_eq_true hb)] at hf
          refine c_rs ?_ -- region 10
          refine s_assign h rfl _ rfl rfl (by decide) rfl (fun a h => ?_)
          refine l_end ?_
          refine wp_ret ?_
          refine e_blkR ?_
          refine e_thenR ?_
          obtain rfl := Option.some.inj hf
          subst hB0
          exact r_ret1 h rfl (rv_tmp h rfl) ⟨_, [.box g17 65 ([.slice A39 x32.2.1.length c40, .int .u64 (x32.2.2.1.toNat : Int), .bool x32.2.2.2])], _, rfl, ⟨A39, c40, rfl, rfl, (show r64 9 from ⟨by decide, by decide⟩), hs41, trivial⟩, rfl, up36, (h.m.pick [0, 1] _ (by decide) rfl)⟩
        · rw [if_neg (of_decide_eq_false hb)] at hf
          refine c_rs ?_ -- region 11
          refine s_x h rfl rfl (by decide) (x_bin h.k rfl rfl rfl ib_eql) (fun a h => ?_)
          refine s_assign h rfl _ rfl rfl (by decide) rfl (fun a h => ?_)
          refine l_end ?_
          refine c_cond h rfl (fun hb => ?_) (fun hb => ?_)
          · rw [if_pos (of_decide_eq_true hb)] at hf
            refine c_rs ?_ -- region 12
            refine s_assign h rfl _ rfl rfl (by decide) rfl (fun a h => ?_)
            refine l_end ?_
            refine wp_ret ?_
            refine e_blkR ?_
            refine e_thenR ?_
            obtain rfl := Option.some.inj hf
            subst hB0
            exact r_ret1 h rfl (rv_tmp h rfl) ⟨_, [.box g17 65 ([.slice A39 x32.2.1.length c40, .int .u64 (x32.2.2.1.toNat : Int), .bool x32.2.2.2])], _, rfl, ⟨A39, c40, rfl, rfl, (show r64 6 from ⟨by decide, by decide⟩), hs41, trivial⟩, rfl, up36, (h.m.pick [0, 1] _ (by decide) rfl)⟩
          · rw [if_neg (of_decide_eq_false hb)] at hf
            refine wp_skip ?_
            refine e_blkN ?_
            refine e_thenN ?_
            refine c_rs ?_ -- region 13
            refine s_assign h rfl _ rfl rfl (by decide) rfl (fun a h => ?_)
            refine l_end ?_
            refine wp_ret ?_
            obtain rfl := Option.some.inj hf
            subst hB0
            exact r_ret1 h rfl (rv_tmp h rfl) ⟨_, [.box g17 65 ([.slice A39 x32.2.1.length c40, .int .u64 (x32.2.2.1.toNat : Int), .bool x32.2.2.2])], _, rfl, ⟨A39, c40, rfl, rfl, (show r64 3 from ⟨by decide, by decide⟩), hs41, trivial⟩, rfl, up36, (h.m.pick [0, 1] _ (by decide) rfl)⟩
def lot_draw_clo2_8_1_0_l0 (Fu : Nat) (a1 : Int) : Nat → Int → ((List UInt8) × UInt64 × Bool) → (Int × Int × Int × Int × Int × (List UInt8) × (List UInt8)) → Option (((List UInt8) × UInt64 × Bool) × (Int × Int × Int × Int × Int × (List UInt8) × (List UInt8)))
  | 0, _, _, _ => none
  | k + 1, x135, x137, x141 => if x135 < a1 then ((lot_Lot_Below Fu x137 256).bind fun x176 => (app 1 x141.2.2.2.2.2.2 ([i8 x176.1])).bind fun x188 => lot_draw_clo2_8_1_0_l0 Fu a1 k (w64 (x135 + 1)) x176.2 (x141.1, x141.2.1, x141.2.2.1, x141.2.2.2.1, x141.2.2.2.2.1, x141.2.2.2.2.2.1, x188)) else (some (x137, x141))
def lot_draw_clo2_8_1_0 (Fu : Nat) (a0 : Int × Int × Int × Int × Int × Int) (a1 : Int) (a2b0 : (List UInt8) × UInt64 × Bool) : Option ((Int × Int × Int × Int × Int × (List UInt8) × (List UInt8)) × ((List UInt8) × UInt64 × Bool)) :=
  (lot_Lot_Below Fu a2b0 a0.2.1).bind fun x23 => (lot_kind_clo1_8_1_0 Fu a0 x23.2).bind fun x33 => (lot_Cred Fu (w64 (1 + x23.1))).bind fun x43 => (if x33.1 = 6 then (some (x33.2, (x33.1, w64 (1 + x23.1), 0, 0, 0, x43, []))) else (if x33.1 = 3 then (some (x33.2, (x33.1, w64 (1 + x23.1), w64 (1 + x23.1), a0.2.2.1, 0, x43, []))) else ((lot_Lot_Below Fu x33.2 a0.2.2.1).bind fun x80 => some (x80.2, (x33.1, w64 (1 + x23.1), w64 (1 + x23.1), x80.1, 0, x43, []))))).bind fun (x61, x65) => (if ((decide (x65.1 = 9)) || (decide (x65.1 = 10))) = true then (some (x65.1, x65.2.1, x65.2.2.1, x65.2.2.2.1, 1, x65.2.2.2.2.2.1, x65.2.2.2.2.2.2)) else (some x65)).bind fun x93 => (if x93.1 = 8 then ((lot_draw_clo2_8_1_0_l0 Fu a1 Fu 0 x61 x93).bind fun (x157, x161) => some (x157, x161)) else (some (x61, x93))).bind fun (x113, x117) => some (x117, x113)
set_option maxRecDepth 100000 in
set_option maxHeartbeats 2000000 in
theorem lot_draw_clo2_8_1_0_ok (Fu : Nat) {S0 : Snap} (csa0 : List Value) (a0 : Int × Int × Int × Int × Int × Int) (hsa0 : (tyP tyI (tyP tyI (tyP tyI (tyP tyI (tyP tyI tyI))))).rep S0 csa0 a0) (a1 : Int) (hra1 : r64 a1) (a2b0 : (List UInt8) × UInt64 × Bool) (g17 : Nat) (A18 : Option Addr) (c19 : Nat) (hs20 : slS ty8 S0 A18 c19 a2b0.1) (r : (Int × Int × Int × Int × Int × (List UInt8) × (List UInt8)) × ((List UInt8) × UInt64 × Bool)) (hf : lot_draw_clo2_8_1_0 Fu a0 a1 a2b0 = some r) (w0 : World) (hm : Mem w0 (ownL ([.box g17 65 ([.slice A18 a2b0.1.length c19, .int .u64 (a2b0.2.1.toNat : Int), .bool a2b0.2.2])] ++ [.sn S0])) ([.box g17 65 ([.slice A18 a2b0.1.length c19, .int .u64 (a2b0.2.1.toNat : Int), .bool a2b0.2.2])] ++ [.sn S0]) w0) :
    Calls Try.prog 40 #[.agg csa0.toArray, .int .i64 a1, .func (.func 8) [.pointer (some ⟨g17, 0, none⟩)].toArray [].toArray] w0 (Ret w0 S0 [.box g17 65 ([.slice A18 a2b0.1.length c19, .int .u64 (a2b0.2.1.toNat : Int), .bool a2b0.2.2])] (fun v L1 S1 => ∃ (k220 : List Value), ∃ (A245 : Option Addr), ∃ (c246 : Nat), v = .agg k220.toArray ∧ L1 = [.box g17 65 ([.slice A245 r.2.1.length c246, .int .u64 (r.2.2.1.toNat : Int), .bool r.2.2.2])] ∧ (tyP tyI (tyP tyI (tyP tyI (tyP tyI (tyP tyI (tyP (tyL ty8) (tyL ty8))))))).rep S1 k220 r.1 ∧ slS ty8 S1 A245 c246 r.2.1 ∧ True)) := by
  unfold lot_draw_clo2_8_1_0 at hf
  obtain ⟨k1, k2, rfl, ⟨rfl, hr3⟩, ⟨k4, k5, rfl, ⟨rfl, hr6⟩, ⟨k7, k8, rfl, ⟨rfl, hr9⟩, ⟨k10, k11, rfl, ⟨rfl, hr12⟩, ⟨k13, k14, rfl, ⟨rfl, hr15⟩, ⟨rfl, hr16⟩⟩⟩⟩⟩⟩ := hsa0
  obtain ⟨B0, hB0⟩ : ∃ B0, B0 = (ownL ([.box g17 65 ([.slice A18 a2b0.1.length c19, .int .u64 (a2b0.2.1.toNat : Int), .bool a2b0.2.2])] ++ [.sn S0])) := ⟨_, rfl⟩
  rw [← hB0] at hm
  refine c_enterM Try.func40 rfl 62 rfl (by simp) _ hm _ rfl (fun a h => ?_)
  refine c_rs ?_ -- region 0
  refine s_box h rfl rfl rfl (by decide) rfl (cs := [.int .i64 a0.1, .int .i64 a0.2.1, .int .i64 a0.2.2.1, .int .i64 a0.2.2.2.1, .int .i64 a0.2.2.2.2.1, .int .i64 a0.2.2.2.2.2]) (by rfl) (fun a w g21 h => ?_)
  refine s_alloc h rfl rfl rfl (by decide) zi_api_Op rfl (fun a w g22 h => ?_)
  refine l_end ?_
  refine c_rs ?_ -- region 1
  refine s_move h rfl _ rfl rfl (by decide) rfl (fun a h => ?_)
  refine s_x h rfl rfl (by decide) (x_faddr h.k rfl Try.underlying25 rfl sz_int rfl) (fun a h => ?_)
  refine s_x h rfl rfl (by decide) (x_ld h.k rfl Try.underlying3 rfl rfl ((h.m.cell (i := 1) rfl 1).trans rfl)) (fun a h => ?_)
  obtain ⟨x23, h24, hf⟩ := bsome hf
  have h := h.pick [2, 3, 0, 1] (by decide) rfl
  have hX := lot_Lot_Below_ok Fu (S0 := S0) a2b0 g17 A18 c19 hs20 a0.2.1 hr6 _ h24 _ (h.sub (Ls := [.box g17 65 ([.slice A18 a2b0.1.length c19, .int .u64 (a2b0.2.1.toNat : Int), .bool a2b0.2.2])]))
  refine q_callYV (Ls := [.box g17 65 ([.slice A18 a2b0.1.length c19, .int .u64 (a2b0.2.1.toNat : Int), .bool a2b0.2.2])]) hX h (Up.refl _ _ _) rfl rfl rfl (by decide) rfl Try.func8 rfl rfl [.int .i64 a0.2.1] rfl rfl (fun a w v L1 S26 hR le28 up27 h => ?_)
  obtain ⟨A30, c31, rfl, rfl, hr29, hs32, _⟩ := hR
  refine s_x h rfl rfl (by decide) (x_bin h.k rfl rfl rfl (ib_add rfl)) (fun a h => ?_)
  refine s_assign h rfl _ rfl rfl (by decide) rfl (fun a h => ?_)
  refine l_end ?_
  refine c_rs ?_ -- region 2
  refine s_x h rfl rfl (by decide) (x_ldR h.k rfl ag_api_Load rfl ([.int .i64 a0.1, .int .i64 a0.2.1, .int .i64 a0.2.2.1, .int .i64 a0.2.2.2.1, .int .i64 a0.2.2.2.2.1, .int .i64 a0.2.2.2.2.2]) rfl (h.m.range0 (i := 3) rfl)) (fun a h => ?_)
  refine s_move h rfl _ rfl rfl (by decide) rfl (fun a h => ?_)
  obtain ⟨x33, h34, hf⟩ := bsome hf
  have hX := lot_kind_clo1_8_1_0_ok Fu (S0 := S26) ([.int .i64 a0.1, .int .i64 a0.2.1, .int .i64 a0.2.2.1, .int .i64 a0.2.2.2.1, .int .i64 a0.2.2.2.2.1, .int .i64 a0.2.2.2.2.2]) a0 (⟨[.int .i64 a0.1], [.int .i64 a0.2.1, .int .i64 a0.2.2.1, .int .i64 a0.2.2.2.1, .int .i64 a0.2.2.2.2.1, .int .i64 a0.2.2.2.2.2], rfl, ⟨rfl, hr3⟩, ⟨[.int .i64 a0.2.1], [.int .i64 a0.2.2.1, .int .i64 a0.2.2.2.1, .int .i64 a0.2.2.2.2.1, .int .i64 a0.2.2.2.2.2], rfl, ⟨rfl, hr6⟩, ⟨[.int .i64 a0.2.2.1], [.int .i64 a0.2.2.2.1, .int .i64 a0.2.2.2.2.1, .int .i64 a0.2.2.2.2.2], rfl, ⟨rfl, hr9⟩, ⟨[.int .i64 a0.2.2.2.1], [.int .i64 a0.2.2.2.2.1, .int .i64 a0.2.2.2.2.2], rfl, ⟨rfl, hr12⟩, ⟨[.int .i64 a0.2.2.2.2.1], [.int .i64 a0.2.2.2.2.2], rfl, ⟨rfl, hr15⟩, ⟨rfl, hr16⟩⟩⟩⟩⟩⟩) x23.2 g17 A30 c31 hs32 _ h34 _ (h.sub (Ls := [.box g17 65 ([.slice A30 x23.2.1.length c31, .int .u64 (x23.2.2.1.toNat : Int), .bool x23.2.2.2])]))
  refine q_callY (Ls := [.box g17 65 ([.slice A30 x23.2.1.length c31, .int .u64 (x23.2.2.1.toNat : Int), .bool x23.2.2.2])]) hX h up27 rfl rfl rfl (by decide) Try.func56 rfl rfl rfl (fun a w v L1 S36 hR le38 up37 h => ?_)
  obtain ⟨A40, c41, rfl, rfl, hr39, hs42, _⟩ := hR
  refine s_move h rfl _ rfl rfl (by decide) rfl (fun a h => ?_)
  refine s_move h rfl _ rfl rfl (by decide) rfl (fun a h => ?_)
  refine s_move h rfl _ rfl rfl (by decide) rfl (fun a h => ?_)
  obtain ⟨x43, h44, hf⟩ := bsome hf
  have hX := lot_Cred_ok Fu (S0 := snapAll _) (w64 (1 + x23.1)) (w64_r _) _ h44 _ h.startAll
  refine q_callX hX h rfl rfl rfl (by decide) Try.func11 rfl rfl rfl (fun a w v L1 S1 hR hb1 h => ?_)
  obtain ⟨A46, c47, cs48, rfl, rfl, hq49, _⟩ := hR
  have hq50 := hq49.fl (S' := S36) fl_8
  have h := h.pick [0, 2, 1, 3, 4] (by decide) rfl
  obtain ⟨S51, le52, up53, hs54, h⟩ := q_freeze (T := ty8) h up37 hq50
  refine s_x h rfl rfl (by decide) (x_build h.k rfl [(0, .int .i64 x33.1), (1, .int .i64 (w64 (1 + x23.1))), (2, .int .i64 (w64 (1 + x23.1))), (5, .slice A46 x43.length c47)] rfl ([.int .i64 x33.1, .int .i64 (w64 (1 + x23.1)), .int .i64 (w64 (1 + x23.1)), .int .i64 0, .int .i64 0, .slice A46 x43.length c47, .slice none 0 0]) (by kernel_rfl)) (fun a h => ?_)
  refine s_alloc h rfl rfl rfl (by decide) zi_api_Op rfl (fun a w g55 h => ?_)
  refine s_stW h rfl rfl rfl ag_api_Op rfl (es := [.int .i64 x33.1, .int .i64 (w64 (1 + x23.1)), .int .i64 (w64 (1 + x23.1)), .int .i64 0, .int .i64 0, .slice A46 x43.length c47, .slice none 0 0]) rfl rfl (by simp [Value.oneCell']) 0 rfl rfl (fun a w h => ?_)
  refine l_end ?_
  obtain ⟨o56, hc57, hf⟩ := bsome hf
  refine c_cut (fun a w => ∃ (S58 : Snap), ∃ (x61 : (List UInt8) × UInt64 × Bool), ∃ (A62 : Option Addr), ∃ (c63 : Nat), ∃ (x65 : Int × Int × Int × Int × Int × (List UInt8) × (List UInt8)), ∃ (A71 : Option Addr), ∃ (c72 : Nat), ∃ (A74 : Option Addr), ∃ (c75 : Nat), ∃ (cs76 : List Value), (x61, x65) = o56 ∧ Snap.le S51 S58 ∧ Up B0 w0 S0 S58 ∧ slS ty8 S58 A62 c63 x61.1 ∧ r64 x65.1 ∧ r64 x65.2.1 ∧ r64 x65.2.2.1 ∧ r64 x65.2.2.2.1 ∧ r64 x65.2.2.2.2.1 ∧ slS ty8 S58 A71 c72 x65.2.2.2.2.2.1 ∧ reps ty8 S58 cs76 x65.2.2.2.2.2.2 ∧ St 62 w0 B0 [(1, .int .i64 a1), (2, .func (.func 8) [.pointer (some ⟨g17, 0, none⟩)].toArray [].toArray), (6, .pointer (some ⟨g22, 0, none⟩)), (8, .pointer (some ⟨g55, 0, none⟩))] [.box g17 65 ([.slice A62 x61.1.length c63, .int .u64 (x61.2.1.toNat : Int), .bool x61.2.2]), .box g22 51 ([.int .i64 0, .int .i64 0, .int .i64 0, .int .i64 0, .int .i64 0, .slice none 0 0, .slice none 0 0]), .box g55 51 ([.int .i64 x65.1, .int .i64 x65.2.1, .int .i64 x65.2.2.1, .int .i64 x65.2.2.2.1, .int .i64 x65.2.2.2.2.1, .slice A71 x65.2.2.2.2.2.1.length c72, .slice A74 x65.2.2.2.2.2.2.length c75]), .row (.slice A74 x65.2.2.2.2.2.2.length c75) 5 1 x65.2.2.2.2.2.2.length cs76, .sn S58] a w) ?_ ?_
  · refine c_rs ?_ -- region 3
    refine s_x h rfl rfl (by decide) (x_faddr h.k rfl Try.underlying51 rfl sz_int rfl) (fun a h => ?_)
    refine s_x h rfl rfl (by decide) (x_ld h.k rfl Try.underlying3 rfl rfl ((h.m.cell (i := 0) rfl 0).trans rfl)) (fun a h => ?_)
    refine l_end ?_
    refine wp_block ?_
    refine c_rs ?_ -- region 5
    refine s_x h rfl rfl (by decide) (x_bin h.k rfl rfl rfl ib_eql) (fun a h => ?_)
    refine s_assign h rfl _ rfl rfl (by decide) rfl (fun a h => ?_)
    refine l_end ?_
    refine c_cond h rfl (fun hb => ?_) (fun hb => ?_)
    · rw [if_pos (of_decide_eq_true hb)] at hc57
      refine c_r ?_ -- region 6
      refine s_x h rfl rfl (by decide) (x_faddr h.k rfl Try.underlying51 rfl sz_int rfl) (fun a h => ?_)
      refine s_stb h rfl rfl rfl sz_int rfl rfl rfl 0 rfl (by first | decide | simp) (fun a w h => ?_)
      refine l_nil ?_
      refine e_blkN ?_
      refine e_thenN ?_
      have h := h.mem (h.m.nilrow 5 1)
      have h := h.pick [3, 4, 1, 0, 2] (by decide) rfl
      exact ⟨S51, x33.2, A40, c41, (x33.1, w64 (1 + x23.1), 0, 0, 0, x43, []), A46, c47, none, 0, [], (Option.some.inj hc57), (Snap.le.refl _), up53, (hs42.mono le52), hr39, (w64_r _), (show r64 0 from ⟨by decide, by decide⟩), (show r64 0 from ⟨by decide, by decide⟩), (show r64 0 from ⟨by decide, by decide⟩), hs54, (show reps ty8 S51 [] [] from rfl), h.has (by exact ⟨rfl, rfl, rfl, rfl, trivial⟩)⟩
    · rw [if_neg (of_decide_eq_false hb)] at hc57
      refine c_rs ?_ -- region 7
      refine s_x h rfl rfl (by decide) (x_bin h.k rfl rfl rfl ib_eql) (fun a h => ?_)
      refine s_assign h rfl _ rfl rfl (by decide) rfl (fun a h => ?_)
      refine l_end ?_
      refine c_cond h rfl (fun hb => ?_) (fun hb => ?_)
      · rw [if_pos (of_decide_eq_true hb)] at hc57
        refine c_r ?_ -- region 8
        refine s_x h rfl rfl (by decide) (x_faddr h.k rfl Try.underlying25 rfl sz_int rfl) (fun a h => ?_)
        refine s_x h rfl rfl (by decide) (x_ld h.k rfl Try.underlying3 rfl rfl ((h.m.cell (i := 4) rfl 2).trans rfl)) (fun a h => ?_)
        refine s_x h rfl rfl (by decide) (x_faddr h.k rfl Try.underlying51 rfl sz_int rfl) (fun a h => ?_)
        refine s_stb h rfl rfl rfl sz_int rfl rfl rfl 0 rfl (by first | decide | simp) (fun a w h => ?_)
        refine l_nil ?_
        refine e_blkN ?_
        refine e_thenN ?_
        have h := h.mem (h.m.nilrow 5 1)
        have h := h.pick [3, 4, 1, 0, 2] (by decide) rfl
        exact ⟨S51, x33.2, A40, c41, (x33.1, w64 (1 + x23.1), w64 (1 + x23.1), a0.2.2.1, 0, x43, []), A46, c47, none, 0, [], (Option.some.inj hc57), (Snap.le.refl _), up53, (hs42.mono le52), hr39, (w64_r _), (w64_r _), hr9, (show r64 0 from ⟨by decide, by decide⟩), hs54, (show reps ty8 S51 [] [] from rfl), h.has (by exact ⟨rfl, rfl, rfl, rfl, trivial⟩)⟩
      · rw [if_neg (of_decide_eq_false hb)] at hc57
        refine c_r ?_ -- region 4
        refine s_move h rfl _ rfl rfl (by decide) rfl (fun a h => ?_)
        refine s_x h rfl rfl (by decide) (x_faddr h.k rfl Try.underlying25 rfl sz_int rfl) (fun a h => ?_)
        refine s_x h rfl rfl (by decide) (x_ld h.k rfl Try.underlying3 rfl rfl ((h.m.cell (i := 4) rfl 2).trans rfl)) (fun a h => ?_)
        obtain ⟨x80, h81, hc57⟩ := bsome hc57
        have h := h.pick [2, 1, 0, 3, 4] (by decide) rfl
        have hX := lot_Lot_Below_ok Fu (S0 := S51) x33.2 g17 A40 c41 (hs42.mono le52) a0.2.2.1 hr9 _ h81 _ (h.sub (Ls := [.box g17 65 ([.slice A40 x33.2.1.length c41, .int .u64 (x33.2.2.1.toNat : Int), .bool x33.2.2.2])]))
        refine q_callYV (Ls := [.box g17 65 ([.slice A40 x33.2.1.length c41, .int .u64 (x33.2.2.1.toNat : Int), .bool x33.2.2.2])]) hX h up53 rfl rfl rfl (by decide) rfl Try.func8 rfl rfl [.int .i64 a0.2.2.1] rfl rfl (fun a w v L1 S83 hR le85 up84 h => ?_)
        obtain ⟨A87, c88, rfl, rfl, hr86, hs89, _⟩ := hR
        refine s_x h rfl rfl (by decide) (x_faddr h.k rfl Try.underlying51 rfl sz_int rfl) (fun a h => ?_)
        refine s_stb h rfl rfl rfl sz_int rfl rfl rfl 2 rfl (by first | decide | simp) (fun a w h => ?_)
        refine l_nil ?_
        refine e_blkN ?_
        refine e_thenN ?_
        have h := h.mem (h.m.nilrow 5 1)
        have h := h.pick [1, 4, 3, 0, 2] (by decide) rfl
        exact ⟨S83, x80.2, A87, c88, (x33.1, w64 (1 + x23.1), w64 (1 + x23.1), x80.1, 0, x43, []), A46, c47, none, 0, [], (Option.some.inj hc57), le85, up84, hs89, hr39, (w64_r _), (w64_r _), hr86, (show r64 0 from ⟨by decide, by decide⟩), (hs54.mono le85), (show reps ty8 S83 [] [] from rfl), h.has (by exact ⟨rfl, rfl, rfl, rfl, trivial⟩)⟩
  · rintro a w ⟨S58, x61, A62, c63, x65, A71, c72, A74, c75, cs76, rfl, le59, up60, hs64, hr66, hr67, hr68, hr69, hr70, hs73, hq77, h⟩
    try dsimp only at hf
    obtain ⟨o91, hc92, hf⟩ := bsome hf
    refine c_cut (fun a w => ∃ (x93 : Int × Int × Int × Int × Int × (List UInt8) × (List UInt8)), ∃ (A99 : Option Addr), ∃ (c100 : Nat), ∃ (A102 : Option Addr), ∃ (c103 : Nat), ∃ (cs104 : List Value), x93 = o91 ∧ r64 x93.1 ∧ r64 x93.2.1 ∧ r64 x93.2.2.1 ∧ r64 x93.2.2.2.1 ∧ r64 x93.2.2.2.2.1 ∧ slS ty8 S58 A99 c100 x93.2.2.2.2.2.1 ∧ reps ty8 S58 cs104 x93.2.2.2.2.2.2 ∧ St 62 w0 B0 [(1, .int .i64 a1), (2, .func (.func 8) [.pointer (some ⟨g17, 0, none⟩)].toArray [].toArray), (6, .pointer (some ⟨g22, 0, none⟩)), (8, .pointer (some ⟨g55, 0, none⟩))] [.box g17 65 ([.slice A62 x61.1.length c63, .int .u64 (x61.2.1.toNat : Int), .bool x61.2.2]), .box g22 51 ([.int .i64 0, .int .i64 0, .int .i64 0, .int .i64 0, .int .i64 0, .slice none 0 0, .slice none 0 0]), .box g55 51 ([.int .i64 x93.1, .int .i64 x93.2.1, .int .i64 x93.2.2.1, .int .i64 x93.2.2.2.1, .int .i64 x93.2.2.2.2.1, .slice A99 x93.2.2.2.2.2.1.length c100, .slice A102 x93.2.2.2.2.2.2.length c103]), .row (.slice A102 x93.2.2.2.2.2.2.length c103) 5 1 x93.2.2.2.2.2.2.length cs104, .sn S58] a w) ?_ ?_
    · refine c_rs ?_ -- region 9
      refine s_x h rfl rfl (by decide) (x_faddr h.k rfl Try.underlying51 rfl sz_int rfl) (fun a h => ?_)
      refine s_x h rfl rfl (by decide) (x_ld h.k rfl Try.underlying3 rfl rfl ((h.m.cell (i := 2) rfl 0).trans rfl)) (fun a h => ?_)
      refine s_x h rfl rfl (by decide) (x_bin h.k rfl rfl rfl ib_eql) (fun a h => ?_)
      refine s_move h rfl _ rfl rfl (by decide) rfl (fun a h => ?_)
      refine q_grp h 4 (t := 40) 44 ((decide (x65.1 = 9)) || (decide (x65.1 = 10))) rfl (fun hB3 => ?_) (fun hB3 => ?_) (fun a w h => ?_)
      · refine g_no h rfl rfl rfl rfl hB3 rfl (by decide) (fun a h => ?_)
        refine g_no h rfl rfl rfl rfl hB3 rfl (by decide) (fun a h => ?_)
        refine g_no h rfl rfl rfl rfl hB3 rfl (by decide) (fun a h => ?_)
        refine s_x h rfl rfl (by decide) (x_pick (u' := undef) h.k rfl rfl (fun _ => rfl) (fun hh => absurd (hB3.symm.trans hh) (by decide))) (fun a h => ?_)
        exact (h.mid 3 rfl).val (by first | rfl | (rw [hB3]; first | rfl | simp))
      · refine g_yes h rfl rfl rfl rfl hB3 ?_
        refine s_x h rfl rfl (by decide) (x_faddr h.k rfl Try.underlying51 rfl sz_int rfl) (fun a h => ?_)
        refine g_yes h rfl rfl rfl rfl hB3 ?_
        refine s_x h rfl rfl (by decide) (x_ld h.k rfl Try.underlying3 rfl rfl ((h.m.cell (i := 2) rfl 0).trans rfl)) (fun a h => ?_)
        refine g_yes h rfl rfl rfl rfl hB3 ?_
        refine s_x h rfl rfl (by decide) (x_bin h.k rfl rfl rfl ib_eql) (fun a h => ?_)
        refine s_x h rfl rfl (by decide) (x_pick (u' := undef) h.k rfl rfl (fun hh => absurd (hB3.symm.trans hh) (by decide)) (fun _ => rfl)) (fun a h => ?_)
        exact (h.mid 3 rfl).val (by first | rfl | (rw [hB3]; first | rfl | simp))
      refine l_end ?_
      refine c_cond h rfl (fun hb => ?_) (fun hb => ?_)
      · rw [if_pos hb] at hc92
        refine c_r ?_ -- region 10
        refine s_x h rfl rfl (by decide) (x_faddr h.k rfl Try.underlying51 rfl sz_int rfl) (fun a h => ?_)
        refine s_stb h rfl rfl rfl sz_int rfl rfl rfl 2 rfl (by first | decide | simp) (fun a w h => ?_)
        refine l_nil ?_
        refine e_thenN ?_
        exact ⟨(x65.1, x65.2.1, x65.2.2.1, x65.2.2.2.1, 1, x65.2.2.2.2.2.1, x65.2.2.2.2.2.2), A71, c72, A74, c75, cs76, (Option.some.inj hc92), hr66, hr67, hr68, hr69, (show r64 1 from ⟨by decide, by decide⟩), hs73, hq77, h.has (by exact ⟨rfl, rfl, rfl, rfl, trivial⟩)⟩
      · rw [if_neg (by rw [hb]; decide)] at hc92
        refine wp_skip ?_
        refine e_thenN ?_
        exact ⟨x65, A71, c72, A74, c75, cs76, (Option.some.inj hc92), hr66, hr67, hr68, hr69, hr70, hs73, hq77, h.has (by exact ⟨rfl, rfl, rfl, rfl, trivial⟩)⟩
    · rintro a w ⟨x93, A99, c100, A102, c103, cs104, rfl, hr94, hr95, hr96, hr97, hr98, hs101, hq105, h⟩
      obtain ⟨o108, hc109, hf⟩ := bsome hf
      refine c_cut (fun a w => ∃ (S110 : Snap), ∃ (x113 : (List UInt8) × UInt64 × Bool), ∃ (A114 : Option Addr), ∃ (c115 : Nat), ∃ (x117 : Int × Int × Int × Int × Int × (List UInt8) × (List UInt8)), ∃ (A123 : Option Addr), ∃ (c124 : Nat), ∃ (A126 : Option Addr), ∃ (c127 : Nat), ∃ (cs128 : List Value), (x113, x117) = o108 ∧ Snap.le S58 S110 ∧ Up B0 w0 S0 S110 ∧ slS ty8 S110 A114 c115 x113.1 ∧ r64 x117.1 ∧ r64 x117.2.1 ∧ r64 x117.2.2.1 ∧ r64 x117.2.2.2.1 ∧ r64 x117.2.2.2.2.1 ∧ slS ty8 S110 A123 c124 x117.2.2.2.2.2.1 ∧ reps ty8 S110 cs128 x117.2.2.2.2.2.2 ∧ St 62 w0 B0 [(6, .pointer (some ⟨g22, 0, none⟩)), (8, .pointer (some ⟨g55, 0, none⟩))] [.box g17 65 ([.slice A114 x113.1.length c115, .int .u64 (x113.2.1.toNat : Int), .bool x113.2.2]), .box g22 51 ([.int .i64 0, .int .i64 0, .int .i64 0, .int .i64 0, .int .i64 0, .slice none 0 0, .slice none 0 0]), .box g55 51 ([.int .i64 x117.1, .int .i64 x117.2.1, .int .i64 x117.2.2.1, .int .i64 x117.2.2.2.1, .int .i64 x117.2.2.2.2.1, .slice A123 x117.2.2.2.2.2.1.length c124, .slice A126 x117.2.2.2.2.2.2.length c127]), .row (.slice A126 x117.2.2.2.2.2.2.length c127) 5 1 x117.2.2.2.2.2.2.length cs128, .sn S110] a w) ?_ ?_
      · refine c_rs ?_ -- region 11
        refine s_x h rfl rfl (by decide) (x_faddr h.k rfl Try.underlying51 rfl sz_int rfl) (fun a h => ?_)
        refine s_x h rfl rfl (by decide) (x_ld h.k rfl Try.underlying3 rfl rfl ((h.m.cell (i := 2) rfl 0).trans rfl)) (fun a h => ?_)
        refine s_x h rfl rfl (by decide) (x_bin h.k rfl rfl rfl ib_eql) (fun a h => ?_)
        refine l_end ?_
        refine c_cond h rfl (fun hb => ?_) (fun hb => ?_)
        · rw [if_pos (of_decide_eq_true hb)] at hc109
          refine c_rs ?_ -- region 12
          refine s_move h rfl _ rfl rfl (by decide) rfl (fun a h => ?_)
          refine s_move h rfl _ rfl rfl (by decide) rfl (fun a h => ?_)
          refine l_end ?_
          obtain ⟨o130, hl131, hc109⟩ := bsome hc109
          refine c_fin (fun a w => ∃ (S154 : Snap), ∃ (x157 : (List UInt8) × UInt64 × Bool), ∃ (A158 : Option Addr), ∃ (c159 : Nat), ∃ (x161 : Int × Int × Int × Int × Int × (List UInt8) × (List UInt8)), ∃ (A167 : Option Addr), ∃ (c168 : Nat), ∃ (A170 : Option Addr), ∃ (c171 : Nat), ∃ (cs172 : List Value), (x157, x161) = o130 ∧ Snap.le S58 S154 ∧ Up B0 w0 S0 S154 ∧ slS ty8 S154 A158 c159 x157.1 ∧ r64 x161.1 ∧ r64 x161.2.1 ∧ r64 x161.2.2.1 ∧ r64 x161.2.2.2.1 ∧ r64 x161.2.2.2.2.1 ∧ slS ty8 S154 A167 c168 x161.2.2.2.2.2.1 ∧ reps ty8 S154 cs172 x161.2.2.2.2.2.2 ∧ St 62 w0 B0 [(6, .pointer (some ⟨g22, 0, none⟩)), (8, .pointer (some ⟨g55, 0, none⟩))] [.box g17 65 ([.slice A158 x157.1.length c159, .int .u64 (x157.2.1.toNat : Int), .bool x157.2.2]), .box g22 51 ([.int .i64 0, .int .i64 0, .int .i64 0, .int .i64 0, .int .i64 0, .slice none 0 0, .slice none 0 0]), .box g55 51 ([.int .i64 x161.1, .int .i64 x161.2.1, .int .i64 x161.2.2.1, .int .i64 x161.2.2.2.1, .int .i64 x161.2.2.2.2.1, .slice A167 x161.2.2.2.2.2.1.length c168, .slice A170 x161.2.2.2.2.2.2.length c171]), .row (.slice A170 x161.2.2.2.2.2.2.length c171) 5 1 x161.2.2.2.2.2.2.length cs172, .sn S154] a w) ?_ ?_
          · refine wp_block ?_
            refine c_loop (fun m175 a w => ∃ (S132 : Snap), ∃ (x135 : Int), ∃ (x137 : (List UInt8) × UInt64 × Bool), ∃ (A138 : Option Addr), ∃ (c139 : Nat), ∃ (x141 : Int × Int × Int × Int × Int × (List UInt8) × (List UInt8)), ∃ (A147 : Option Addr), ∃ (c148 : Nat), ∃ (A150 : Option Addr), ∃ (c151 : Nat), ∃ (cs152 : List Value), lot_draw_clo2_8_1_0_l0 Fu a1 m175 x135 x137 x141 = some o130 ∧ Snap.le S58 S132 ∧ Up B0 w0 S0 S132 ∧ r64 x135 ∧ slS ty8 S132 A138 c139 x137.1 ∧ r64 x141.1 ∧ r64 x141.2.1 ∧ r64 x141.2.2.1 ∧ r64 x141.2.2.2.1 ∧ r64 x141.2.2.2.2.1 ∧ slS ty8 S132 A147 c148 x141.2.2.2.2.2.1 ∧ reps ty8 S132 cs152 x141.2.2.2.2.2.2 ∧ St 62 w0 B0 [(2, .func (.func 8) [.pointer (some ⟨g17, 0, none⟩)].toArray [].toArray), (6, .pointer (some ⟨g22, 0, none⟩)), (8, .pointer (some ⟨g55, 0, none⟩)), (49, .int .i64 a1), (50, .int .i64 x135)] [.box g17 65 ([.slice A138 x137.1.length c139, .int .u64 (x137.2.1.toNat : Int), .bool x137.2.2]), .box g22 51 ([.int .i64 0, .int .i64 0, .int .i64 0, .int .i64 0, .int .i64 0, .slice none 0 0, .slice none 0 0]), .box g55 51 ([.int .i64 x141.1, .int .i64 x141.2.1, .int .i64 x141.2.2.1, .int .i64 x141.2.2.2.1, .int .i64 x141.2.2.2.2.1, .slice A147 x141.2.2.2.2.2.1.length c148, .slice A150 x141.2.2.2.2.2.2.length c151]), .row (.slice A150 x141.2.2.2.2.2.2.length c151) 5 1 x141.2.2.2.2.2.2.length cs152, .sn S132] a w) Fu ⟨S58, 0, x61, A62, c63, x93, A99, c100, A102, c103, cs104, hl131, (Snap.le.refl _), up60, (show r64 0 from ⟨by decide, by decide⟩), hs64, hr94, hr95, hr96, hr97, hr98, hs101, hq105, h.has (by exact ⟨rfl, rfl, rfl, rfl, rfl, trivial⟩)⟩ (fun m175 a w hI => ?_)
            obtain ⟨S132, x135, x137, A138, c139, x141, A147, c148, A150, c151, cs152, hl174, le133, up134, hr136, hs140, hr142, hr143, hr144, hr145, hr146, hs149, hq153, h⟩ := hI
            obtain _ | m175 := m175
            · rw [lot_draw_clo2_8_1_0_l0] at hl174; cases hl174
            rw [lot_draw_clo2_8_1_0_l0] at hl174
            refine c_rs ?_ -- region 13
            refine s_x h rfl rfl (by decide) (x_bin h.k rfl rfl rfl ib_lss) (fun a h => ?_)
            refine l_end ?_
            refine c_cs h rfl (fun hb => ?_) (fun hb => ?_)
            · rw [if_pos (of_decide_eq_true hb)] at hl174
              refine wp_skip ?_
              refine e_thenN ?_
              refine wp_seq ?_
              refine wp_block ?_
              -- region 14 draws
              obtain ⟨x176, h177, hl174⟩ := bsome hl174
              obtain ⟨x188, h189, hl174⟩ := bsome hl174
              refine c_fin (fun a w => ∃ (S194 : Snap), ∃ (A197 : Option Addr), ∃ (c198 : Nat), ∃ (A205 : Option Addr), ∃ (c206 : Nat), ∃ (A208 : Option Addr), ∃ (c209 : Nat), ∃ (cs210 : List Value), Snap.le S132 S194 ∧ Up B0 w0 S0 S194 ∧ slS ty8 S194 A197 c198 x176.2.1 ∧ r64 ((x141.1, x141.2.1, x141.2.2.1, x141.2.2.2.1, x141.2.2.2.2.1, x141.2.2.2.2.2.1, x188).1) ∧ r64 ((x141.1, x141.2.1, x141.2.2.1, x141.2.2.2.1, x141.2.2.2.2.1, x141.2.2.2.2.2.1, x188).2.1) ∧ r64 ((x141.1, x141.2.1, x141.2.2.1, x141.2.2.2.1, x141.2.2.2.2.1, x141.2.2.2.2.2.1, x188).2.2.1) ∧ r64 ((x141.1, x141.2.1, x141.2.2.1, x141.2.2.2.1, x141.2.2.2.2.1, x141.2.2.2.2.2.1, x188).2.2.2.1) ∧ r64 ((x141.1, x141.2.1, x141.2.2.1, x141.2.2.2.1, x141.2.2.2.2.1, x141.2.2.2.2.2.1, x188).2.2.2.2.1) ∧ slS ty8 S194 A205 c206 ((x141.1, x141.2.1, x141.2.2.1, x141.2.2.2.1, x141.2.2.2.2.1, x141.2.2.2.2.2.1, x188).2.2.2.2.2.1) ∧ reps ty8 S194 cs210 ((x141.1, x141.2.1, x141.2.2.1, x141.2.2.2.1, x141.2.2.2.2.1, x141.2.2.2.2.2.1, x188).2.2.2.2.2.2) ∧ St 62 w0 B0 [(2, .func (.func 8) [.pointer (some ⟨g17, 0, none⟩)].toArray [].toArray), (6, .pointer (some ⟨g22, 0, none⟩)), (8, .pointer (some ⟨g55, 0, none⟩)), (49, .int .i64 a1), (50, .int .i64 x135)] [.box g17 65 ([.slice A197 x176.2.1.length c198, .int .u64 (x176.2.2.1.toNat : Int), .bool x176.2.2.2]), .box g22 51 ([.int .i64 0, .int .i64 0, .int .i64 0, .int .i64 0, .int .i64 0, .slice none 0 0, .slice none 0 0]), .box g55 51 ([.int .i64 ((x141.1, x141.2.1, x141.2.2.1, x141.2.2.2.1, x141.2.2.2.2.1, x141.2.2.2.2.2.1, x188).1), .int .i64 ((x141.1, x141.2.1, x141.2.2.1, x141.2.2.2.1, x141.2.2.2.2.1, x141.2.2.2.2.2.1, x188).2.1), .int .i64 ((x141.1, x141.2.1, x141.2.2.1, x141.2.2.2.1, x141.2.2.2.2.1, x141.2.2.2.2.2.1, x188).2.2.1), .int .i64 ((x141.1, x141.2.1, x141.2.2.1, x141.2.2.2.1, x141.2.2.2.2.1, x141.2.2.2.2.2.1, x188).2.2.2.1), .int .i64 ((x141.1, x141.2.1, x141.2.2.1, x141.2.2.2.1, x141.2.2.2.2.1, x141.2.2.2.2.2.1, x188).2.2.2.2.1), .slice A205 ((x141.1, x141.2.1, x141.2.2.1, x141.2.2.2.1, x141.2.2.2.2.1, x141.2.2.2.2.2.1, x188).2.2.2.2.2.1).length c206, .slice A208 ((x141.1, x141.2.1, x141.2.2.1, x141.2.2.2.1, x141.2.2.2.2.1, x141.2.2.2.2.2.1, x188).2.2.2.2.2.2).length c209]), .row (.slice A208 ((x141.1, x141.2.1, x141.2.2.1, x141.2.2.2.1, x141.2.2.2.2.1, x141.2.2.2.2.2.1, x188).2.2.2.2.2.2).length c209) 5 1 ((x141.1, x141.2.1, x141.2.2.1, x141.2.2.2.1, x141.2.2.2.2.1, x141.2.2.2.2.2.1, x188).2.2.2.2.2.2).length cs210, .sn S194] a w) ?_ (fun a w h => ?_)
              · refine d_start h (Mem _ _ _) 9 9 rfl (by kernel_rfl) (fun _ _ _ _ _ h => h) (fun _ h => h.pick [1] [.box g22 51 ([.int .i64 0, .int .i64 0, .int .i64 0, .int .i64 0, .int .i64 0, .slice none 0 0, .slice none 0 0])] (by decide) rfl) (fun Q a w HE HN h HS => ?_)
                refine d_takeP h (fun _ => HS) HN 0 rfl (by kernel_rfl) (by kernel_rfl) (by kernel_rfl) (by decide) rfl rfl (by decide) (fun w' => x_faddr h.k rfl Try.underlying51 rfl sz_Suint8 rfl) (fun a h => ?_)
                refine d_takeP h (fun _ => HS) HN 2 rfl (by kernel_rfl) (by kernel_rfl) (by kernel_rfl) (by decide) rfl rfl (by decide) (fun w' => x_move h.k _ rfl rfl) (fun a h => ?_)
                refine d_two 1 3 (by kernel_rfl) (d_one 1 rfl _ (fun K hK => ?_)) (d_one 3 rfl _ (fun K hK => ?_))
                · refine s_x h rfl rfl (by decide) (x_ld h.k rfl Try.underlying22 rfl rfl ((h.m.cell (i := 2) rfl 6).trans rfl)) (fun a h => ?_)
                  refine hK _ _ ⟨fun _ _ => HS, ?_⟩
                  clear hK
                  refine d_alone 3 rfl (by kernel_rfl) (fun K hK => ?_)
                  have h := h.pick [0, 4, 1, 2, 3] (by decide) rfl
                  have hX := lot_Lot_Below_ok Fu (S0 := S132) x137 g17 A138 c139 hs140 256 (show r64 256 from ⟨by decide, by decide⟩) _ h177 _ (h.sub (Ls := [.box g17 65 ([.slice A138 x137.1.length c139, .int .u64 (x137.2.1.toNat : Int), .bool x137.2.2])]))
                  refine q_callYV (Ls := [.box g17 65 ([.slice A138 x137.1.length c139, .int .u64 (x137.2.1.toNat : Int), .bool x137.2.2])]) hX h up134 rfl rfl rfl (by decide) rfl Try.func8 rfl rfl [.int .i64 256] rfl rfl (fun a w v L1 S179 hR le181 up180 h => ?_)
                  obtain ⟨A183, c184, rfl, rfl, hr182, hs185, _⟩ := hR
                  replace HS := h.m.pick [2] [.box g22 51 ([.int .i64 0, .int .i64 0, .int .i64 0, .int .i64 0, .int .i64 0, .slice none 0 0, .slice none 0 0])] (by decide) rfl
                  refine hK _ _ (fun _ _ => HS) ?_
                  clear hK
                  refine d_takeP h (fun _ => HS) HN 4 rfl (by kernel_rfl) (by kernel_rfl) (by kernel_rfl) (by decide) rfl rfl (by decide) (fun w' => x_convE h.k rfl Try.underlying3 Try.underlying5 rfl (i8_wrap _).symm) (fun a h => ?_)
                  refine d_alone 5 rfl (by kernel_rfl) (fun K hK => ?_)
                  refine q_bslice (T := ty8) (S := S179) h rfl rfl rfl (by decide) Try.underlying22 zi_uint8 (by decide) (by decide) (by decide) (by decide) [.int .u8 ((i8 x176.1).toNat : Int)] rfl rfl (C := [[.int .u8 ((i8 x176.1).toNat : Int)]]) rfl (xs := [i8 x176.1]) ⟨[.int .u8 ((i8 x176.1).toNat : Int)], _, rfl, rfl, rfl⟩ (by intro c hc; simp only [List.mem_cons, List.not_mem_nil, or_false] at hc; subst hc; rfl) (fun a w A186 h => ?_)
                  have hb187 : reps ty8 S179 ([[.int .u8 ((i8 x176.1).toNat : Int)]] : List (List Value)).flatten [i8 x176.1] := ⟨[.int .u8 ((i8 x176.1).toNat : Int)], _, rfl, rfl, rfl⟩
                  replace HS := h.m.pick [3] [.box g22 51 ([.int .i64 0, .int .i64 0, .int .i64 0, .int .i64 0, .int .i64 0, .slice none 0 0, .slice none 0 0])] (by decide) rfl
                  refine hK _ _ (fun _ _ => HS) ?_
                  clear hK
                  refine d_alone 6 rfl (by kernel_rfl) (fun K hK => ?_)
                  refine q_append (T := ty8) (S := S179) h rfl rfl rfl (by decide) Try.underlying22 zb_uint8 rfl (by decide) rfl 5 rfl (hq153.mono le181) rfl hb187 (h.m.rdRowA (i := 0) rfl) h189 (fun a w A190 c191 cs192 hq193 h => ?_)
                  replace HS := h.m.pick [3] [.box g22 51 ([.int .i64 0, .int .i64 0, .int .i64 0, .int .i64 0, .int .i64 0, .slice none 0 0, .slice none 0 0])] (by decide) rfl
                  refine hK _ _ (fun _ _ => HS) ?_
                  clear hK
                  refine d_takeP h (fun _ => HS) HN 7 rfl (by kernel_rfl) (by kernel_rfl) (by kernel_rfl) (by decide) rfl rfl (by decide) (fun w' => x_faddr h.k rfl Try.underlying51 rfl sz_Suint8 rfl) (fun a h => ?_)
                  refine d_alone 8 rfl (by kernel_rfl) (fun K hK => ?_)
                  refine s_stb h rfl rfl rfl sz_Suint8 rfl rfl rfl 4 rfl (by first | decide | simp) (fun a w h => ?_)
                  replace HS := h.m.pick [3] [.box g22 51 ([.int .i64 0, .int .i64 0, .int .i64 0, .int .i64 0, .int .i64 0, .slice none 0 0, .slice none 0 0])] (by decide) rfl
                  refine hK _ _ (fun _ _ => HS) ?_
                  clear hK
                  refine d_done (by kernel_rfl) (HE _ _ ?_) _
                  refine e_thenN ?_
                  have h := h.pick [1, 3, 4, 5, 2] (by decide) rfl
                  exact ⟨S179, A183, c184, A147, c148, A190, c191, cs192, le181, up180, hs185, hr142, hr143, hr144, hr145, hr146, (hs149.mono le181), hq193, h.has (by exact ⟨rfl, rfl, rfl, rfl, rfl, trivial⟩)⟩
                · have h := h.pick [0, 4, 1, 2, 3] (by decide) rfl
                  have hX := lot_Lot_Below_ok Fu (S0 := S132) x137 g17 A138 c139 hs140 256 (show r64 256 from ⟨by decide, by decide⟩) _ h177 _ (h.sub (Ls := [.box g17 65 ([.slice A138 x137.1.length c139, .int .u64 (x137.2.1.toNat : Int), .bool x137.2.2])]))
                  refine q_callYV (Ls := [.box g17 65 ([.slice A138 x137.1.length c139, .int .u64 (x137.2.1.toNat : Int), .bool x137.2.2])]) hX h up134 rfl rfl rfl (by decide) rfl Try.func8 rfl rfl [.int .i64 256] rfl rfl (fun a w v L1 S179 hR le181 up180 h => ?_)
                  obtain ⟨A183, c184, rfl, rfl, hr182, hs185, _⟩ := hR
                  replace HS := h.m.pick [2] [.box g22 51 ([.int .i64 0, .int .i64 0, .int .i64 0, .int .i64 0, .int .i64 0, .slice none 0 0, .slice none 0 0])] (by decide) rfl
                  refine hK _ _ ⟨fun _ _ => HS, ?_⟩
                  clear hK
                  refine d_takeP h (fun _ => HS) HN 4 rfl (by kernel_rfl) (by kernel_rfl) (by kernel_rfl) (by decide) rfl rfl (by decide) (fun w' => x_convE h.k rfl Try.underlying3 Try.underlying5 rfl (i8_wrap _).symm) (fun a h => ?_)
                  refine d_two 1 5 (by kernel_rfl) (d_one 1 rfl _ (fun K hK => ?_)) (d_one 5 rfl _ (fun K hK => ?_))
                  · refine s_x h rfl rfl (by decide) (x_ld h.k rfl Try.underlying22 rfl rfl ((h.m.cell (i := 3) rfl 6).trans rfl)) (fun a h => ?_)
                    refine hK _ _ ⟨fun _ _ => HS, ?_⟩
                    clear hK
                    refine d_alone 5 rfl (by kernel_rfl) (fun K hK => ?_)
                    refine q_bslice (T := ty8) (S := S179) h rfl rfl rfl (by decide) Try.underlying22 zi_uint8 (by decide) (by decide) (by decide) (by decide) [.int .u8 ((i8 x176.1).toNat : Int)] rfl rfl (C := [[.int .u8 ((i8 x176.1).toNat : Int)]]) rfl (xs := [i8 x176.1]) ⟨[.int .u8 ((i8 x176.1).toNat : Int)], _, rfl, rfl, rfl⟩ (by intro c hc; simp only [List.mem_cons, List.not_mem_nil, or_false] at hc; subst hc; rfl) (fun a w A186 h => ?_)
                    have hb187 : reps ty8 S179 ([[.int .u8 ((i8 x176.1).toNat : Int)]] : List (List Value)).flatten [i8 x176.1] := ⟨[.int .u8 ((i8 x176.1).toNat : Int)], _, rfl, rfl, rfl⟩
                    replace HS := h.m.pick [3] [.box g22 51 ([.int .i64 0, .int .i64 0, .int .i64 0, .int .i64 0, .int .i64 0, .slice none 0 0, .slice none 0 0])] (by decide) rfl
                    refine hK _ _ (fun _ _ => HS) ?_
                    clear hK
                    refine d_alone 6 rfl (by kernel_rfl) (fun K hK => ?_)
                    refine q_append (T := ty8) (S := S179) h rfl rfl rfl (by decide) Try.underlying22 zb_uint8 rfl (by decide) rfl 5 rfl (hq153.mono le181) rfl hb187 (h.m.rdRowA (i := 0) rfl) h189 (fun a w A190 c191 cs192 hq193 h => ?_)
                    replace HS := h.m.pick [3] [.box g22 51 ([.int .i64 0, .int .i64 0, .int .i64 0, .int .i64 0, .int .i64 0, .slice none 0 0, .slice none 0 0])] (by decide) rfl
                    refine hK _ _ (fun _ _ => HS) ?_
                    clear hK
                    refine d_takeP h (fun _ => HS) HN 7 rfl (by kernel_rfl) (by kernel_rfl) (by kernel_rfl) (by decide) rfl rfl (by decide) (fun w' => x_faddr h.k rfl Try.underlying51 rfl sz_Suint8 rfl) (fun a h => ?_)
                    refine d_alone 8 rfl (by kernel_rfl) (fun K hK => ?_)
                    refine s_stb h rfl rfl rfl sz_Suint8 rfl rfl rfl 4 rfl (by first | decide | simp) (fun a w h => ?_)
                    replace HS := h.m.pick [3] [.box g22 51 ([.int .i64 0, .int .i64 0, .int .i64 0, .int .i64 0, .int .i64 0, .slice none 0 0, .slice none 0 0])] (by decide) rfl
                    refine hK _ _ (fun _ _ => HS) ?_
                    clear hK
                    refine d_done (by kernel_rfl) (HE _ _ ?_) _
                    refine e_thenN ?_
                    have h := h.pick [1, 3, 4, 5, 2] (by decide) rfl
                    exact ⟨S179, A183, c184, A147, c148, A190, c191, cs192, le181, up180, hs185, hr142, hr143, hr144, hr145, hr146, (hs149.mono le181), hq193, h.has (by exact ⟨rfl, rfl, rfl, rfl, rfl, trivial⟩)⟩
                  · refine q_bslice (T := ty8) (S := S179) h rfl rfl rfl (by decide) Try.underlying22 zi_uint8 (by decide) (by decide) (by decide) (by decide) [.int .u8 ((i8 x176.1).toNat : Int)] rfl rfl (C := [[.int .u8 ((i8 x176.1).toNat : Int)]]) rfl (xs := [i8 x176.1]) ⟨[.int .u8 ((i8 x176.1).toNat : Int)], _, rfl, rfl, rfl⟩ (by intro c hc; simp only [List.mem_cons, List.not_mem_nil, or_false] at hc; subst hc; rfl) (fun a w A186 h => ?_)
                    have hb187 : reps ty8 S179 ([[.int .u8 ((i8 x176.1).toNat : Int)]] : List (List Value)).flatten [i8 x176.1] := ⟨[.int .u8 ((i8 x176.1).toNat : Int)], _, rfl, rfl, rfl⟩
                    replace HS := h.m.pick [3] [.box g22 51 ([.int .i64 0, .int .i64 0, .int .i64 0, .int .i64 0, .int .i64 0, .slice none 0 0, .slice none 0 0])] (by decide) rfl
                    refine hK _ _ ⟨fun _ _ => HS, ?_⟩
                    clear hK
                    refine d_alone 1 rfl (by kernel_rfl) (fun K hK => ?_)
                    refine s_x h rfl rfl (by decide) (x_ld h.k rfl Try.underlying22 rfl rfl ((h.m.cell (i := 4) rfl 6).trans rfl)) (fun a h => ?_)
                    refine hK _ _ (fun _ _ => HS) ?_
                    clear hK
                    refine d_alone 6 rfl (by kernel_rfl) (fun K hK => ?_)
                    refine q_append (T := ty8) (S := S179) h rfl rfl rfl (by decide) Try.underlying22 zb_uint8 rfl (by decide) rfl 5 rfl (hq153.mono le181) rfl hb187 (h.m.rdRowA (i := 0) rfl) h189 (fun a w A190 c191 cs192 hq193 h => ?_)
                    replace HS := h.m.pick [3] [.box g22 51 ([.int .i64 0, .int .i64 0, .int .i64 0, .int .i64 0, .int .i64 0, .slice none 0 0, .slice none 0 0])] (by decide) rfl
                    refine hK _ _ (fun _ _ => HS) ?_
                    clear hK
                    refine d_takeP h (fun _ => HS) HN 7 rfl (by kernel_rfl) (by kernel_rfl) (by kernel_rfl) (by decide) rfl rfl (by decide) (fun w' => x_faddr h.k rfl Try.underlying51 rfl sz_Suint8 rfl) (fun a h => ?_)
                    refine d_alone 8 rfl (by kernel_rfl) (fun K hK => ?_)
                    refine s_stb h rfl rfl rfl sz_Suint8 rfl rfl rfl 4 rfl (by first | decide | simp) (fun a w h => ?_)
                    replace HS := h.m.pick [3] [.box g22 51 ([.int .i64 0, .int .i64 0, .int .i64 0, .int .i64 0, .int .i64 0, .slice none 0 0, .slice none 0 0])] (by decide) rfl
                    refine hK _ _ (fun _ _ => HS) ?_
                    clear hK
                    refine d_done (by kernel_rfl) (HE _ _ ?_) _
                    refine e_thenN ?_
                    have h := h.pick [1, 3, 4, 5, 2] (by decide) rfl
                    exact ⟨S179, A183, c184, A147, c148, A190, c191, cs192, le181, up180, hs185, hr142, hr143, hr144, hr145, hr146, (hs149.mono le181), hq193, h.has (by exact ⟨rfl, rfl, rfl, rfl, rfl, trivial⟩)⟩
              obtain ⟨S194, A197, c198, A205, c206, A208, c209, cs210, le195, up196, hs199, hr200, hr201, hr202, hr203, hr204, hs207, hq211, h⟩ := h
              refine e_blkN ?_
              refine e_thenN ?_
              refine c_r ?_ -- region 15
              refine s_x h rfl rfl (by decide) (x_bin h.k rfl rfl rfl (ib_add rfl)) (fun a h => ?_)
              refine s_move h rfl _ rfl rfl (by decide) rfl (fun a h => ?_)
              refine l_nil ?_
              exact e_thenN ⟨m175, Nat.lt_succ_self _, S194, w64 (x135 + 1), x176.2, A197, c198, (x141.1, x141.2.1, x141.2.2.1, x141.2.2.2.1, x141.2.2.2.2.1, x141.2.2.2.2.2.1, x188), A205, c206, A208, c209, cs210, hl174, (le133.trans le195), up196, (w64_r _), hs199, hr200, hr201, hr202, hr203, hr204, hs207, hq211, h.has (by exact ⟨rfl, rfl, rfl, rfl, rfl, trivial⟩)⟩
            · rw [if_neg (of_decide_eq_false hb)] at hl174
              refine wp_exit ?_
              refine e_thenX ?_
              refine e_thenX ?_
              refine e_blkX ?_
              refine e_thenN ?_
              exact ⟨S132, x137, A138, c139, x141, A147, c148, A150, c151, cs152, (Option.some.inj hl174), le133, up134, hs140, hr142, hr143, hr144, hr145, hr146, hs149, hq153, h.has (by exact ⟨rfl, rfl, trivial⟩)⟩
          · rintro a w ⟨S154, x157, A158, c159, x161, A167, c168, A170, c171, cs172, rfl, le155, up156, hs160, hr162, hr163, hr164, hr165, hr166, hs169, hq173, h⟩
            try dsimp only at hc109
            refine e_thenN ?_
            exact ⟨S154, x157, A158, c159, x161, A167, c168, A170, c171, cs172, (Option.some.inj hc109), le155, up156, hs160, hr162, hr163, hr164, hr165, hr166, hs169, hq173, h.has (by exact ⟨rfl, rfl, trivial⟩)⟩
        · rw [if_neg (of_decide_eq_false hb)] at hc109
          refine wp_skip ?_
          refine e_thenN ?_
          exact ⟨S58, x61, A62, c63, x93, A99, c100, A102, c103, cs104, (Option.some.inj hc109), (Snap.le.refl _), up60, hs64, hr94, hr95, hr96, hr97, hr98, hs101, hq105, h.has (by exact ⟨rfl, rfl, trivial⟩)⟩
      · rintro a w ⟨S110, x113, A114, c115, x117, A123, c124, A126, c127, cs128, rfl, le111, up112, hs116, hr118, hr119, hr120, hr121, hr122, hs125, hq129, h⟩
        try dsimp only at hf
        refine c_rs ?_ -- region 16
        refine s_x h rfl rfl (by decide) (x_ldR h.k rfl ag_api_Op rfl ([.int .i64 x117.1, .int .i64 x117.2.1, .int .i64 x117.2.2.1, .int .i64 x117.2.2.2.1, .int .i64 x117.2.2.2.2.1, .slice A123 x117.2.2.2.2.2.1.length c124, .slice A126 x117.2.2.2.2.2.2.length c127]) rfl (h.m.range0 (i := 2) rfl)) (fun a h => ?_)
        refine s_stW h rfl rfl rfl ag_api_Op rfl (es := [.int .i64 x117.1, .int .i64 x117.2.1, .int .i64 x117.2.2.1, .int .i64 x117.2.2.2.1, .int .i64 x117.2.2.2.2.1, .slice A123 x117.2.2.2.2.2.1.length c124, .slice A126 x117.2.2.2.2.2.2.length c127]) rfl rfl (by simp [Value.oneCell']) 1 rfl rfl (fun a w h => ?_)
        refine l_end ?_
        refine wp_ret ?_
        obtain rfl := Option.some.inj hf
        have h := h.pick [3, 4, 0, 1, 2] (by decide) rfl
        obtain ⟨S213, le214, up215, hs216, h⟩ := q_freeze (T := ty8) h up112 hq129
        subst hB0
        exact r_ret1 h rfl (rv_cellA h rfl 2 rfl ag_api_Op rfl) ⟨_, [.box g17 65 ([.slice A114 x113.1.length c115, .int .u64 (x113.2.1.toNat : Int), .bool x113.2.2])], _, rfl, ⟨[.int .i64 x117.1, .int .i64 x117.2.1, .int .i64 x117.2.2.1, .int .i64 x117.2.2.2.1, .int .i64 x117.2.2.2.2.1, .slice A123 x117.2.2.2.2.2.1.length c124, .slice A126 x117.2.2.2.2.2.2.length c127], A114, c115, rfl, rfl, ⟨[.int .i64 x117.1], [.int .i64 x117.2.1, .int .i64 x117.2.2.1, .int .i64 x117.2.2.2.1, .int .i64 x117.2.2.2.2.1, .slice A123 x117.2.2.2.2.2.1.length c124, .slice A126 x117.2.2.2.2.2.2.length c127], rfl, ⟨rfl, hr118⟩, ⟨[.int .i64 x117.2.1], [.int .i64 x117.2.2.1, .int .i64 x117.2.2.2.1, .int .i64 x117.2.2.2.2.1, .slice A123 x117.2.2.2.2.2.1.length c124, .slice A126 x117.2.2.2.2.2.2.length c127], rfl, ⟨rfl, hr119⟩, ⟨[.int .i64 x117.2.2.1], [.int .i64 x117.2.2.2.1, .int .i64 x117.2.2.2.2.1, .slice A123 x117.2.2.2.2.2.1.length c124, .slice A126 x117.2.2.2.2.2.2.length c127], rfl, ⟨rfl, hr120⟩, ⟨[.int .i64 x117.2.2.2.1], [.int .i64 x117.2.2.2.2.1, .slice A123 x117.2.2.2.2.2.1.length c124, .slice A126 x117.2.2.2.2.2.2.length c127], rfl, ⟨rfl, hr121⟩, ⟨[.int .i64 x117.2.2.2.2.1], [.slice A123 x117.2.2.2.2.2.1.length c124, .slice A126 x117.2.2.2.2.2.2.length c127], rfl, ⟨rfl, hr122⟩, ⟨[.slice A123 x117.2.2.2.2.2.1.length c124], [.slice A126 x117.2.2.2.2.2.2.length c127], rfl, ⟨_, _, rfl, (hs125.mono le214)⟩, ⟨_, _, rfl, hs216⟩⟩⟩⟩⟩⟩⟩, (hs116.mono le214), trivial⟩, rfl, up215, (h.m.pick [1, 0] _ (by decide) rfl)⟩
def lot_Ops_l0 (Fu : Nat) (a1 : Int × Int × Int × Int × Int × Int) (a3 : Int) : Nat → Int → ((List UInt8) × UInt64 × Bool) → (List (Int × Int × Int × Int × Int × (List UInt8) × (List UInt8))) → Option ((List (Int × Int × Int × Int × Int × (List UInt8) × (List UInt8))))
  | 0, _, _, _ => none
  | k + 1, x58, x60, x64 => if x58 < a1.1 then ((lot_draw_clo2_8_1_0 Fu a1 a3 x60).bind fun x79 => (app 88 x64 ([x79.1])).bind fun x115 => lot_Ops_l0 Fu a1 a3 k (w64 (x58 + 1)) x79.2 x115) else (some x64)
def lot_Ops (Fu : Nat) (a0 : List UInt8) (a1 : Int × Int × Int × Int × Int × Int) (a2 : List UInt8) (a3 : Int) : Option ((List (Int × Int × Int × Int × Int × (List UInt8) × (List UInt8))) × Int) :=
  (lot_Check Fu a1).bind fun x18 => (if x18 ≠ 0 then some true else (lot_wide Fu a3).bind fun x25 => some (!x25)).bind fun z23 => if z23 = true then (some ([], 2)) else ((cred_Right Fu a2).bind fun x29 => if (!x29) = true then (some ([], 30)) else ((lot_New Fu a0).bind fun x33 => (lot_first Fu a1 a2).bind fun x43 => (lot_Ops_l0 Fu a1 a3 Fu 0 x33 x43).bind fun x72 => some (x72, 0)))
set_option maxRecDepth 100000 in
set_option maxHeartbeats 2000000 in
theorem lot_Ops_ok (Fu : Nat) {S0 : Snap} (Aa0 : Option Addr) (ca0 : Nat) (a0 : List UInt8) (hsa0 : slS ty8 S0 Aa0 ca0 a0) (csa1 : List Value) (a1 : Int × Int × Int × Int × Int × Int) (hsa1 : (tyP tyI (tyP tyI (tyP tyI (tyP tyI (tyP tyI tyI))))).rep S0 csa1 a1) (Aa2 : Option Addr) (ca2 : Nat) (a2 : List UInt8) (hsa2 : slS ty8 S0 Aa2 ca2 a2) (a3 : Int) (hra3 : r64 a3) (r : (List (Int × Int × Int × Int × Int × (List UInt8) × (List UInt8))) × Int) (hf : lot_Ops Fu a0 a1 a2 a3 = some r) (w0 : World) (hm : Mem w0 (ownL ([] ++ [.sn S0])) ([] ++ [.sn S0]) w0) :
    Calls Try.prog 17 #[.slice Aa0 a0.length ca0, .agg csa1.toArray, .slice Aa2 a2.length ca2, .int .i64 a3] w0 (Ret w0 S0 [] (fun v L1 S1 => ∃ (A122 : Option Addr), ∃ (c123 : Nat), ∃ (cs124 : List Value), v = .tuple #[.slice A122 r.1.length c123, .int .i64 r.2] ∧ L1 = [.row (.slice A122 r.1.length c123) 51 7 r.1.length cs124] ∧ reps (tyP tyI (tyP tyI (tyP tyI (tyP tyI (tyP tyI (tyP (tyL ty8) (tyL ty8))))))) S1 cs124 r.1 ∧ r64 r.2 ∧ True)) := by
  unfold lot_Ops at hf
  obtain ⟨k1, k2, rfl, ⟨rfl, hr3⟩, ⟨k4, k5, rfl, ⟨rfl, hr6⟩, ⟨k7, k8, rfl, ⟨rfl, hr9⟩, ⟨k10, k11, rfl, ⟨rfl, hr12⟩, ⟨k13, k14, rfl, ⟨rfl, hr15⟩, ⟨rfl, hr16⟩⟩⟩⟩⟩⟩ := hsa1
  refine c_enterM Try.func17 rfl 42 rfl (by simp) _ hm _ rfl (fun a h => ?_)
  refine c_rs ?_ -- region 0
  refine s_box h rfl rfl rfl (by decide) rfl (cs := [.int .i64 a1.1, .int .i64 a1.2.1, .int .i64 a1.2.2.1, .int .i64 a1.2.2.2.1, .int .i64 a1.2.2.2.2.1, .int .i64 a1.2.2.2.2.2]) (by rfl) (fun a w g17 h => ?_)
  refine s_assign h rfl _ rfl rfl (by decide) rfl (fun a h => ?_)
  refine s_assign h rfl _ rfl rfl (by decide) rfl (fun a h => ?_)
  refine l_end ?_
  refine wp_seq ?_
  refine c_rs ?_ -- region 1
  refine s_x h rfl rfl (by decide) (x_ldR h.k rfl ag_api_Load rfl ([.int .i64 a1.1, .int .i64 a1.2.1, .int .i64 a1.2.2.1, .int .i64 a1.2.2.2.1, .int .i64 a1.2.2.2.2.1, .int .i64 a1.2.2.2.2.2]) rfl (h.m.range0 (i := 0) rfl)) (fun a h => ?_)
  obtain ⟨x18, h19, hf⟩ := bsome hf
  have hX := lot_Check_ok Fu (S0 := snapAll _) ([.int .i64 a1.1, .int .i64 a1.2.1, .int .i64 a1.2.2.1, .int .i64 a1.2.2.2.1, .int .i64 a1.2.2.2.2.1, .int .i64 a1.2.2.2.2.2]) a1 ((tyP tyI (tyP tyI (tyP tyI (tyP tyI (tyP tyI tyI))))).mono (h.m.leAll (i := 1) rfl) (show (tyP tyI (tyP tyI (tyP tyI (tyP tyI (tyP tyI tyI))))).rep S0 ([.int .i64 a1.1, .int .i64 a1.2.1, .int .i64 a1.2.2.1, .int .i64 a1.2.2.2.1, .int .i64 a1.2.2.2.2.1, .int .i64 a1.2.2.2.2.2]) a1 from ⟨[.int .i64 a1.1], [.int .i64 a1.2.1, .int .i64 a1.2.2.1, .int .i64 a1.2.2.2.1, .int .i64 a1.2.2.2.2.1, .int .i64 a1.2.2.2.2.2], rfl, ⟨rfl, hr3⟩, ⟨[.int .i64 a1.2.1], [.int .i64 a1.2.2.1, .int .i64 a1.2.2.2.1, .int .i64 a1.2.2.2.2.1, .int .i64 a1.2.2.2.2.2], rfl, ⟨rfl, hr6⟩, ⟨[.int .i64 a1.2.2.1], [.int .i64 a1.2.2.2.1, .int .i64 a1.2.2.2.2.1, .int .i64 a1.2.2.2.2.2], rfl, ⟨rfl, hr9⟩, ⟨[.int .i64 a1.2.2.2.1], [.int .i64 a1.2.2.2.2.1, .int .i64 a1.2.2.2.2.2], rfl, ⟨rfl, hr12⟩, ⟨[.int .i64 a1.2.2.2.2.1], [.int .i64 a1.2.2.2.2.2], rfl, ⟨rfl, hr15⟩, ⟨rfl, hr16⟩⟩⟩⟩⟩⟩)) _ h19 _ h.startAll
  refine q_callX hX h rfl rfl rfl (by decide) Try.func15 rfl rfl rfl (fun a w v L1 S1 hR hb1 h => ?_)
  obtain ⟨rfl, rfl, hr21, _⟩ := hR
  refine s_x h rfl rfl (by decide) (x_bin h.k rfl rfl rfl ib_neq) (fun a h => ?_)
  refine s_move h rfl _ rfl rfl (by decide) rfl (fun a h => ?_)
  obtain ⟨z23, hz22, hf⟩ := bsome hf
  refine q_grp h 4 (t := 15) 19 z23 rfl (fun hB3 => ?_) (fun hB3 => ?_) (fun a w h => ?_)
  · refine g_no h rfl rfl rfl rfl hB3 rfl (by decide) (fun a h => ?_)
    refine g_no h rfl rfl rfl rfl hB3 rfl (by decide) (fun a h => ?_)
    refine g_no h rfl rfl rfl rfl hB3 rfl (by decide) (fun a h => ?_)
    rw [if_pos (of_decide_eq_true hB3)] at hz22
    refine s_x h rfl rfl (by decide) (x_pick (u' := undef) h.k rfl rfl (fun _ => rfl) (fun hh => absurd (hB3.symm.trans hh) (by decide))) (fun a h => ?_)
    exact (h.mid 3 rfl).val (by rw [Option.some.inj hz22])
  · rw [if_neg (of_decide_eq_false hB3)] at hz22
    refine g_yes h rfl rfl rfl rfl hB3 ?_
    refine s_move h rfl _ rfl rfl (by decide) rfl (fun a h => ?_)
    refine g_yes h rfl rfl rfl rfl hB3 ?_
    obtain ⟨x25, h26, hz22⟩ := bsome hz22
    have hX := lot_wide_ok Fu (S0 := snapAll _) a3 hra3 _ h26 _ h.startAll
    refine q_callX hX h rfl rfl rfl (by decide) Try.func37 rfl rfl rfl (fun a w v L1 S1 hR hb1 h => ?_)
    obtain ⟨rfl, rfl, _⟩ := hR
    refine g_yes h rfl rfl rfl rfl hB3 ?_
    refine s_x h rfl rfl (by decide) (x_not h.k rfl rfl) (fun a h => ?_)
    refine s_x h rfl rfl (by decide) (x_pick (u' := undef) h.k rfl rfl (fun hh => absurd (hB3.symm.trans hh) (by decide)) (fun _ => rfl)) (fun a h => ?_)
    exact (h.mid 3 rfl).val (by rw [Option.some.inj hz22])
  refine l_end ?_
  refine c_cond h rfl (fun hb => ?_) (fun hb => ?_)
  · rw [if_pos hb] at hf
    refine c_rs ?_ -- region 2
    refine s_assign h rfl _ rfl rfl (by decide) rfl (fun a h => ?_)
    refine s_assign h rfl _ rfl rfl (by decide) rfl (fun a h => ?_)
    refine l_end ?_
    refine wp_ret ?_
    refine e_thenR ?_
    obtain rfl := Option.some.inj hf
    have h := h.mem (h.m.nilrow 51 7)
    exact r_ret2 h rfl (rv_tmp h rfl) (rv_tmp h rfl) ⟨_, [.row (.slice none ([]).length 0) 51 7 ([]).length []], _, rfl, ⟨none, 0, [], rfl, rfl, (show reps (tyP tyI (tyP tyI (tyP tyI (tyP tyI (tyP tyI (tyP (tyL ty8) (tyL ty8))))))) S0 [] [] from rfl), (show r64 2 from ⟨by decide, by decide⟩), trivial⟩, rfl, (Up.refl _ _ _), (h.m.pick [0, 2] _ (by decide) rfl)⟩
  · rw [if_neg (by rw [hb]; decide)] at hf
    refine wp_skip ?_
    refine e_thenN ?_
    refine wp_seq ?_
    refine c_rs ?_ -- region 3
    refine s_move h rfl _ rfl rfl (by decide) rfl (fun a h => ?_)
    obtain ⟨x29, h30, hf⟩ := bsome hf
    have hX := cred_Right_ok Fu (S0 := snapAll _) Aa2 ca2 a2 (hsa2.mono (h.m.leAll (i := 1) rfl)) _ h30 _ h.startAll
    refine q_callX hX h rfl rfl rfl (by decide) Try.func38 rfl rfl rfl (fun a w v L1 S1 hR hb1 h => ?_)
    obtain ⟨rfl, rfl, _⟩ := hR
    refine s_x h rfl rfl (by decide) (x_not h.k rfl rfl) (fun a h => ?_)
    refine l_end ?_
    refine c_cond h rfl (fun hb => ?_) (fun hb => ?_)
    · rw [if_pos hb] at hf
      refine c_rs ?_ -- region 4
      refine s_assign h rfl _ rfl rfl (by decide) rfl (fun a h => ?_)
      refine s_assign h rfl _ rfl rfl (by decide) rfl (fun a h => ?_)
      refine l_end ?_
      refine wp_ret ?_
      refine e_thenR ?_
      obtain rfl := Option.some.inj hf
      have h := h.mem (h.m.nilrow 51 7)
      exact r_ret2 h rfl (rv_tmp h rfl) (rv_tmp h rfl) ⟨_, [.row (.slice none ([]).length 0) 51 7 ([]).length []], _, rfl, ⟨none, 0, [], rfl, rfl, (show reps (tyP tyI (tyP tyI (tyP tyI (tyP tyI (tyP tyI (tyP (tyL ty8) (tyL ty8))))))) S0 [] [] from rfl), (show r64 30 from ⟨by decide, by decide⟩), trivial⟩, rfl, (Up.refl _ _ _), (h.m.pick [0, 2] _ (by decide) rfl)⟩
    · rw [if_neg (by rw [hb]; decide)] at hf
      refine wp_skip ?_
      refine e_thenN ?_
      refine c_rs ?_ -- region 5
      refine s_move h rfl _ rfl rfl (by decide) rfl (fun a h => ?_)
      obtain ⟨x33, h34, hf⟩ := bsome hf
      have h := h.pick [1, 0] (by decide) rfl
      have hX := lot_New_ok Fu (S0 := S0) Aa0 ca0 a0 hsa0 _ h34 _ (h.sub (Ls := []))
      refine q_callY (Ls := []) hX h (Up.refl _ _ _) rfl rfl rfl (by decide) Try.func9 rfl rfl rfl (fun a w v L1 S36 hR le38 up37 h => ?_)
      obtain ⟨g39, A40, c41, rfl, rfl, hs42, _⟩ := hR
      refine s_assign h rfl _ rfl rfl (by decide) rfl (fun a h => ?_)
      refine l_end ?_
      refine c_rs ?_ -- region 6
      refine s_x h rfl rfl (by decide) (x_ldR h.k rfl ag_api_Load rfl ([.int .i64 a1.1, .int .i64 a1.2.1, .int .i64 a1.2.2.1, .int .i64 a1.2.2.2.1, .int .i64 a1.2.2.2.2.1, .int .i64 a1.2.2.2.2.2]) rfl (h.m.range0 (i := 2) rfl)) (fun a h => ?_)
      refine s_move h rfl _ rfl rfl (by decide) rfl (fun a h => ?_)
      obtain ⟨x43, h44, hf⟩ := bsome hf
      have h := h.pick [1, 0, 2] (by decide) rfl
      have hX := lot_first_ok Fu (S0 := S36) ([.int .i64 a1.1, .int .i64 a1.2.1, .int .i64 a1.2.2.1, .int .i64 a1.2.2.2.1, .int .i64 a1.2.2.2.2.1, .int .i64 a1.2.2.2.2.2]) a1 (⟨[.int .i64 a1.1], [.int .i64 a1.2.1, .int .i64 a1.2.2.1, .int .i64 a1.2.2.2.1, .int .i64 a1.2.2.2.2.1, .int .i64 a1.2.2.2.2.2], rfl, ⟨rfl, hr3⟩, ⟨[.int .i64 a1.2.1], [.int .i64 a1.2.2.1, .int .i64 a1.2.2.2.1, .int .i64 a1.2.2.2.2.1, .int .i64 a1.2.2.2.2.2], rfl, ⟨rfl, hr6⟩, ⟨[.int .i64 a1.2.2.1], [.int .i64 a1.2.2.2.1, .int .i64 a1.2.2.2.2.1, .int .i64 a1.2.2.2.2.2], rfl, ⟨rfl, hr9⟩, ⟨[.int .i64 a1.2.2.2.1], [.int .i64 a1.2.2.2.2.1, .int .i64 a1.2.2.2.2.2], rfl, ⟨rfl, hr12⟩, ⟨[.int .i64 a1.2.2.2.2.1], [.int .i64 a1.2.2.2.2.2], rfl, ⟨rfl, hr15⟩, ⟨rfl, hr16⟩⟩⟩⟩⟩⟩) Aa2 ca2 a2 (hsa2.mono le38) _ h44 _ (h.sub (Ls := []))
      refine q_callY (Ls := []) hX h up37 rfl rfl rfl (by decide) Try.func39 rfl rfl rfl (fun a w v L1 S46 hR le48 up47 h => ?_)
      obtain ⟨A49, c50, cs51, rfl, rfl, hq52, _⟩ := hR
      refine s_assign h rfl _ rfl rfl (by decide) rfl (fun a h => ?_)
      refine l_end ?_
      refine wp_seq ?_
      refine c_rs ?_ -- region 7
      refine s_x h rfl rfl (by decide) (x_faddr h.k rfl Try.underlying25 rfl sz_int rfl) (fun a h => ?_)
      refine s_x h rfl rfl (by decide) (x_ld h.k rfl Try.underlying3 rfl rfl ((h.m.cell (i := 3) rfl 0).trans rfl)) (fun a h => ?_)
      refine s_move h rfl _ rfl rfl (by decide) rfl (fun a h => ?_)
      refine l_end ?_
      obtain ⟨o53, hl54, hf⟩ := bsome hf
      refine c_fin (fun a w => ∃ (S69 : Snap), ∃ (x72 : List (Int × Int × Int × Int × Int × (List UInt8) × (List UInt8))), ∃ (A73 : Option Addr), ∃ (c74 : Nat), ∃ (cs75 : List Value), x72 = o53 ∧ Snap.le S46 S69 ∧ Up (ownL ([] ++ [.sn S0])) w0 S0 S69 ∧ reps (tyP tyI (tyP tyI (tyP tyI (tyP tyI (tyP tyI (tyP (tyL ty8) (tyL ty8))))))) S69 cs75 x72 ∧ St 42 w0 (ownL ([] ++ [.sn S0])) [(11, .slice A73 x72.length c74)] [.row (.slice A73 x72.length c74) 51 7 x72.length cs75, .sn S69] a w) ?_ ?_
      · refine wp_block ?_
        have h := h.pick [3, 2, 0, 1] (by decide) rfl
        refine c_loop (fun m78 a w => ∃ (S55 : Snap), ∃ (x58 : Int), ∃ (x60 : (List UInt8) × UInt64 × Bool), ∃ (A61 : Option Addr), ∃ (c62 : Nat), ∃ (x64 : List (Int × Int × Int × Int × Int × (List UInt8) × (List UInt8))), ∃ (A65 : Option Addr), ∃ (c66 : Nat), ∃ (cs67 : List Value), lot_Ops_l0 Fu a1 a3 m78 x58 x60 x64 = some o53 ∧ Snap.le S46 S55 ∧ Up (ownL ([] ++ [.sn S0])) w0 S0 S55 ∧ r64 x58 ∧ slS ty8 S55 A61 c62 x60.1 ∧ reps (tyP tyI (tyP tyI (tyP tyI (tyP tyI (tyP tyI (tyP (tyL ty8) (tyL ty8))))))) S55 cs67 x64 ∧ St 42 w0 (ownL ([] ++ [.sn S0])) [(3, .int .i64 a3), (5, .pointer (some ⟨g17, 0, none⟩)), (10, .pointer (some ⟨g39, 0, none⟩)), (11, .slice A65 x64.length c66), (29, .int .i64 a1.1), (30, .int .i64 x58)] [.box g17 25 ([.int .i64 a1.1, .int .i64 a1.2.1, .int .i64 a1.2.2.1, .int .i64 a1.2.2.2.1, .int .i64 a1.2.2.2.2.1, .int .i64 a1.2.2.2.2.2]), .box g39 65 ([.slice A61 x60.1.length c62, .int .u64 (x60.2.1.toNat : Int), .bool x60.2.2]), .row (.slice A65 x64.length c66) 51 7 x64.length cs67, .sn S55] a w) Fu ⟨S46, 0, x33, A40, c41, x43, A49, c50, cs51, hl54, (Snap.le.refl _), up47, (show r64 0 from ⟨by decide, by decide⟩), (hs42.mono le48), hq52, h.has (by exact ⟨rfl, rfl, rfl, rfl, rfl, rfl, trivial⟩)⟩ (fun m78 a w hI => ?_)
        obtain ⟨S55, x58, x60, A61, c62, x64, A65, c66, cs67, hl77, le56, up57, hr59, hs63, hq68, h⟩ := hI
        obtain _ | m78 := m78
        · rw [lot_Ops_l0] at hl77; cases hl77
        rw [lot_Ops_l0] at hl77
        refine c_rs ?_ -- region 8
        refine s_x h rfl rfl (by decide) (x_bin h.k rfl rfl rfl ib_lss) (fun a h => ?_)
        refine l_end ?_
        refine c_cs h rfl (fun hb => ?_) (fun hb => ?_)
        · rw [if_pos (of_decide_eq_true hb)] at hl77
          refine wp_skip ?_
          refine e_thenN ?_
          refine wp_seq ?_
          refine wp_block ?_
          refine c_r ?_ -- region 9
          refine s_move h rfl _ rfl rfl (by decide) rfl (fun a h => ?_)
          refine s_x h rfl rfl (by decide) (x_ldR h.k rfl ag_api_Load rfl ([.int .i64 a1.1, .int .i64 a1.2.1, .int .i64 a1.2.2.1, .int .i64 a1.2.2.2.1, .int .i64 a1.2.2.2.2.1, .int .i64 a1.2.2.2.2.2]) rfl (h.m.range0 (i := 0) rfl)) (fun a h => ?_)
          refine s_move h rfl _ rfl rfl (by decide) rfl (fun a h => ?_)
          refine s_move h rfl _ rfl rfl (by decide) rfl (fun a h => ?_)
          refine s_makeFunc h rfl rfl rfl (by decide) (us := [.pointer (some ⟨g39, 0, none⟩)]) (vs := []) rfl rfl (fun a h => ?_)
          obtain ⟨x79, h80, hl77⟩ := bsome hl77
          have h := h.pick [1, 3, 0, 2] (by decide) rfl
          have hX := lot_draw_clo2_8_1_0_ok Fu (S0 := S55) ([.int .i64 a1.1, .int .i64 a1.2.1, .int .i64 a1.2.2.1, .int .i64 a1.2.2.2.1, .int .i64 a1.2.2.2.2.1, .int .i64 a1.2.2.2.2.2]) a1 (⟨[.int .i64 a1.1], [.int .i64 a1.2.1, .int .i64 a1.2.2.1, .int .i64 a1.2.2.2.1, .int .i64 a1.2.2.2.2.1, .int .i64 a1.2.2.2.2.2], rfl, ⟨rfl, hr3⟩, ⟨[.int .i64 a1.2.1], [.int .i64 a1.2.2.1, .int .i64 a1.2.2.2.1, .int .i64 a1.2.2.2.2.1, .int .i64 a1.2.2.2.2.2], rfl, ⟨rfl, hr6⟩, ⟨[.int .i64 a1.2.2.1], [.int .i64 a1.2.2.2.1, .int .i64 a1.2.2.2.2.1, .int .i64 a1.2.2.2.2.2], rfl, ⟨rfl, hr9⟩, ⟨[.int .i64 a1.2.2.2.1], [.int .i64 a1.2.2.2.2.1, .int .i64 a1.2.2.2.2.2], rfl, ⟨rfl, hr12⟩, ⟨[.int .i64 a1.2.2.2.2.1], [.int .i64 a1.2.2.2.2.2], rfl, ⟨rfl, hr15⟩, ⟨rfl, hr16⟩⟩⟩⟩⟩⟩) a3 hra3 x60 g39 A61 c62 hs63 _ h80 _ (h.sub (Ls := [.box g39 65 ([.slice A61 x60.1.length c62, .int .u64 (x60.2.1.toNat : Int), .bool x60.2.2])]))
          refine q_callY (Ls := [.box g39 65 ([.slice A61 x60.1.length c62, .int .u64 (x60.2.1.toNat : Int), .bool x60.2.2])]) hX h up57 rfl rfl rfl (by decide) Try.func40 rfl rfl rfl (fun a w v L1 S82 hR le84 up83 h => ?_)
          obtain ⟨k85, A110, c111, rfl, rfl, hv86, hs112, _⟩ := hR
          obtain ⟨k87, k88, rfl, ⟨rfl, hr89⟩, ⟨k90, k91, rfl, ⟨rfl, hr92⟩, ⟨k93, k94, rfl, ⟨rfl, hr95⟩, ⟨k96, k97, rfl, ⟨rfl, hr98⟩, ⟨k99, k100, rfl, ⟨rfl, hr101⟩, ⟨k102, k103, rfl, ⟨A104, c105, rfl, hs106⟩, ⟨A107, c108, rfl, hs109⟩⟩⟩⟩⟩⟩⟩ := hv86
          refine q_bslice (T := tyP tyI (tyP tyI (tyP tyI (tyP tyI (tyP tyI (tyP (tyL ty8) (tyL ty8))))))) (S := S82) h rfl rfl rfl (by decide) Try.underlying40 zi_api_Op (by decide) (by decide) (by decide) (by decide) [.agg ([.int .i64 x79.1.1, .int .i64 x79.1.2.1, .int .i64 x79.1.2.2.1, .int .i64 x79.1.2.2.2.1, .int .i64 x79.1.2.2.2.2.1, .slice A104 x79.1.2.2.2.2.2.1.length c105, .slice A107 x79.1.2.2.2.2.2.2.length c108]).toArray] rfl rfl (C := [[.int .i64 x79.1.1, .int .i64 x79.1.2.1, .int .i64 x79.1.2.2.1, .int .i64 x79.1.2.2.2.1, .int .i64 x79.1.2.2.2.2.1, .slice A104 x79.1.2.2.2.2.2.1.length c105, .slice A107 x79.1.2.2.2.2.2.2.length c108]]) rfl (xs := [x79.1]) ⟨[.int .i64 x79.1.1, .int .i64 x79.1.2.1, .int .i64 x79.1.2.2.1, .int .i64 x79.1.2.2.2.1, .int .i64 x79.1.2.2.2.2.1, .slice A104 x79.1.2.2.2.2.2.1.length c105, .slice A107 x79.1.2.2.2.2.2.2.length c108], _, rfl, ⟨[.int .i64 x79.1.1], [.int .i64 x79.1.2.1, .int .i64 x79.1.2.2.1, .int .i64 x79.1.2.2.2.1, .int .i64 x79.1.2.2.2.2.1, .slice A104 x79.1.2.2.2.2.2.1.length c105, .slice A107 x79.1.2.2.2.2.2.2.length c108], rfl, ⟨rfl, hr89⟩, ⟨[.int .i64 x79.1.2.1], [.int .i64 x79.1.2.2.1, .int .i64 x79.1.2.2.2.1, .int .i64 x79.1.2.2.2.2.1, .slice A104 x79.1.2.2.2.2.2.1.length c105, .slice A107 x79.1.2.2.2.2.2.2.length c108], rfl, ⟨rfl, hr92⟩, ⟨[.int .i64 x79.1.2.2.1], [.int .i64 x79.1.2.2.2.1, .int .i64 x79.1.2.2.2.2.1, .slice A104 x79.1.2.2.2.2.2.1.length c105, .slice A107 x79.1.2.2.2.2.2.2.length c108], rfl, ⟨rfl, hr95⟩, ⟨[.int .i64 x79.1.2.2.2.1], [.int .i64 x79.1.2.2.2.2.1, .slice A104 x79.1.2.2.2.2.2.1.length c105, .slice A107 x79.1.2.2.2.2.2.2.length c108], rfl, ⟨rfl, hr98⟩, ⟨[.int .i64 x79.1.2.2.2.2.1], [.slice A104 x79.1.2.2.2.2.2.1.length c105, .slice A107 x79.1.2.2.2.2.2.2.length c108], rfl, ⟨rfl, hr101⟩, ⟨[.slice A104 x79.1.2.2.2.2.2.1.length c105], [.slice A107 x79.1.2.2.2.2.2.2.length c108], rfl, ⟨_, _, rfl, hs106⟩, ⟨_, _, rfl, hs109⟩⟩⟩⟩⟩⟩⟩, rfl⟩ (by intro c hc; simp only [List.mem_cons, List.not_mem_nil, or_false] at hc; subst hc; rfl) (fun a w A113 h => ?_)
          have hb114 : reps (tyP tyI (tyP tyI (tyP tyI (tyP tyI (tyP tyI (tyP (tyL ty8) (tyL ty8))))))) S82 ([[.int .i64 x79.1.1, .int .i64 x79.1.2.1, .int .i64 x79.1.2.2.1, .int .i64 x79.1.2.2.2.1, .int .i64 x79.1.2.2.2.2.1, .slice A104 x79.1.2.2.2.2.2.1.length c105, .slice A107 x79.1.2.2.2.2.2.2.length c108]] : List (List Value)).flatten [x79.1] := ⟨[.int .i64 x79.1.1, .int .i64 x79.1.2.1, .int .i64 x79.1.2.2.1, .int .i64 x79.1.2.2.2.1, .int .i64 x79.1.2.2.2.2.1, .slice A104 x79.1.2.2.2.2.2.1.length c105, .slice A107 x79.1.2.2.2.2.2.2.length c108], _, rfl, ⟨[.int .i64 x79.1.1], [.int .i64 x79.1.2.1, .int .i64 x79.1.2.2.1, .int .i64 x79.1.2.2.2.1, .int .i64 x79.1.2.2.2.2.1, .slice A104 x79.1.2.2.2.2.2.1.length c105, .slice A107 x79.1.2.2.2.2.2.2.length c108], rfl, ⟨rfl, hr89⟩, ⟨[.int .i64 x79.1.2.1], [.int .i64 x79.1.2.2.1, .int .i64 x79.1.2.2.2.1, .int .i64 x79.1.2.2.2.2.1, .slice A104 x79.1.2.2.2.2.2.1.length c105, .slice A107 x79.1.2.2.2.2.2.2.length c108], rfl, ⟨rfl, hr92⟩, ⟨[.int .i64 x79.1.2.2.1], [.int .i64 x79.1.2.2.2.1, .int .i64 x79.1.2.2.2.2.1, .slice A104 x79.1.2.2.2.2.2.1.length c105, .slice A107 x79.1.2.2.2.2.2.2.length c108], rfl, ⟨rfl, hr95⟩, ⟨[.int .i64 x79.1.2.2.2.1], [.int .i64 x79.1.2.2.2.2.1, .slice A104 x79.1.2.2.2.2.2.1.length c105, .slice A107 x79.1.2.2.2.2.2.2.length c108], rfl, ⟨rfl, hr98⟩, ⟨[.int .i64 x79.1.2.2.2.2.1], [.slice A104 x79.1.2.2.2.2.2.1.length c105, .slice A107 x79.1.2.2.2.2.2.2.length c108], rfl, ⟨rfl, hr101⟩, ⟨[.slice A104 x79.1.2.2.2.2.2.1.length c105], [.slice A107 x79.1.2.2.2.2.2.2.length c108], rfl, ⟨_, _, rfl, hs106⟩, ⟨_, _, rfl, hs109⟩⟩⟩⟩⟩⟩⟩, rfl⟩
          obtain ⟨x115, h116, hl77⟩ := bsome hl77
          refine q_append (T := tyP tyI (tyP tyI (tyP tyI (tyP tyI (tyP tyI (tyP (tyL ty8) (tyL ty8))))))) (S := S82) h rfl rfl rfl (by decide) Try.underlying40 zb_api_Op rfl (by decide) rfl 4 rfl (hq68.mono le84) rfl hb114 (h.m.rdRowA (i := 0) rfl) h116 (fun a w A117 c118 cs119 hq120 h => ?_)
          refine s_assign h rfl _ rfl rfl (by decide) rfl (fun a h => ?_)
          refine l_nil ?_
          refine e_blkN ?_
          refine e_thenN ?_
          refine c_r ?_ -- region 10
          refine s_x h rfl rfl (by decide) (x_bin h.k rfl rfl rfl (ib_add rfl)) (fun a h => ?_)
          refine s_move h rfl _ rfl rfl (by decide) rfl (fun a h => ?_)
          refine l_nil ?_
          have h := h.pick [3, 1, 4, 2] (by decide) rfl
          exact e_thenN ⟨m78, Nat.lt_succ_self _, S82, w64 (x58 + 1), x79.2, A110, c111, x115, A117, c118, cs119, hl77, (le56.trans le84), up83, (w64_r _), hs112, hq120, h.has (by exact ⟨rfl, rfl, rfl, rfl, rfl, rfl, trivial⟩)⟩
        · rw [if_neg (of_decide_eq_false hb)] at hl77
          refine wp_exit ?_
          refine e_thenX ?_
          refine e_thenX ?_
          refine e_blkX ?_
          refine e_thenN ?_
          have h := h.pick [2, 3] (by decide) rfl
          exact ⟨S55, x64, A65, c66, cs67, (Option.some.inj hl77), le56, up57, hq68, h.has (by exact ⟨rfl, trivial⟩)⟩
      · rintro a w ⟨S69, x72, A73, c74, cs75, rfl, le70, up71, hq76, h⟩
        refine e_thenN ?_
        refine c_rs ?_ -- region 11
        refine s_move h rfl _ rfl rfl (by decide) rfl (fun a h => ?_)
        refine s_assign h rfl _ rfl rfl (by decide) rfl (fun a h => ?_)
        refine s_assign h rfl _ rfl rfl (by decide) rfl (fun a h => ?_)
        refine l_end ?_
        refine wp_ret ?_
        obtain rfl := Option.some.inj hf
        exact r_ret2 h rfl (rv_tmp h rfl) (rv_tmp h rfl) ⟨_, [.row (.slice A73 x72.length c74) 51 7 x72.length cs75], _, rfl, ⟨A73, c74, cs75, rfl, rfl, hq76, (show r64 0 from ⟨by decide, by decide⟩), trivial⟩, rfl, up71, h.m⟩
def chatelaineref17_Wide (Fu : Nat) (a0 : Int) : Option Bool :=
  some (((decide (64 ≤ a0)) && (decide (a0 ≤ 256))) && (decide (Int.tmod a0 16 = 0)))
set_option maxRecDepth 100000 in
set_option maxHeartbeats 2000000 in
theorem chatelaineref17_Wide_ok (Fu : Nat) {S0 : Snap} (a0 : Int) (hra0 : r64 a0) (r : Bool) (hf : chatelaineref17_Wide Fu a0 = some r) (w0 : World) (hm : Mem w0 (ownL ([] ++ [.sn S0])) ([] ++ [.sn S0]) w0) :
    Calls Try.prog 41 #[.int .i64 a0] w0 (Ret w0 S0 [] (fun v L1 S1 => v = .bool r ∧ L1 = [] ∧ True)) := by
  unfold chatelaineref17_Wide at hf
  refine c_enterM Try.func41 rfl 14 rfl (by simp) _ hm _ rfl (fun a h => ?_)
  refine c_rs ?_ -- region 0
  refine s_assign h rfl _ rfl rfl (by decide) rfl (fun a h => ?_)
  refine l_end ?_
  refine c_rs ?_ -- region 1
  refine s_move h rfl _ rfl rfl (by decide) rfl (fun a h => ?_)
  refine s_x h rfl rfl (by decide) (x_bin h.k rfl rfl rfl ib_geq) (fun a h => ?_)
  refine s_move h rfl _ rfl rfl (by decide) rfl (fun a h => ?_)
  refine q_grp h 3 (t := 5) 8 ((decide (64 ≤ a0)) && (decide (a0 ≤ 256))) rfl (fun hB2 => ?_) (fun hB2 => ?_) (fun a w h => ?_)
  · refine g_yes h rfl rfl rfl rfl hB2 ?_
    refine s_move h rfl _ rfl rfl (by decide) rfl (fun a h => ?_)
    refine g_yes h rfl rfl rfl rfl hB2 ?_
    refine s_x h rfl rfl (by decide) (x_bin h.k rfl rfl rfl ib_leq) (fun a h => ?_)
    refine s_x h rfl rfl (by decide) (x_pick (u' := undef) h.k rfl rfl (fun _ => rfl) (fun hh => absurd (hB2.symm.trans hh) (by decide))) (fun a h => ?_)
    exact (h.mid 2 rfl).val (by first | rfl | (rw [hB2]; first | rfl | simp))
  · refine g_no h rfl rfl rfl rfl hB2 rfl (by decide) (fun a h => ?_)
    refine g_no h rfl rfl rfl rfl hB2 rfl (by decide) (fun a h => ?_)
    refine s_x h rfl rfl (by decide) (x_pick (u' := undef) h.k rfl rfl (fun hh => absurd (hB2.symm.trans hh) (by decide)) (fun _ => rfl)) (fun a h => ?_)
    exact (h.mid 2 rfl).val (by first | rfl | (rw [hB2]; first | rfl | simp))
  refine s_move h rfl _ rfl rfl (by decide) rfl (fun a h => ?_)
  refine q_grp h 4 (t := 9) 13 (((decide (64 ≤ a0)) && (decide (a0 ≤ 256))) && (decide (Int.tmod a0 16 = 0))) rfl (fun hB6 => ?_) (fun hB6 => ?_) (fun a w h => ?_)
  · refine g_yes h rfl rfl rfl rfl hB6 ?_
    refine s_move h rfl _ rfl rfl (by decide) rfl (fun a h => ?_)
    refine g_yes h rfl rfl rfl rfl hB6 ?_
    refine s_x h rfl rfl (by decide) (x_bin h.k rfl rfl rfl (ib_remw (by decide))) (fun a h => ?_)
    refine g_yes h rfl rfl rfl rfl hB6 ?_
    refine s_x h rfl rfl (by decide) (x_bin h.k rfl rfl rfl ib_eql) (fun a h => ?_)
    refine s_x h rfl rfl (by decide) (x_pick (u' := undef) h.k rfl rfl (fun _ => rfl) (fun hh => absurd (hB6.symm.trans hh) (by decide))) (fun a h => ?_)
    exact (h.mid 3 rfl).val (by first | rfl | (rw [hB6]; first | rfl | simp))
  · refine g_no h rfl rfl rfl rfl hB6 rfl (by decide) (fun a h => ?_)
    refine g_no h rfl rfl rfl rfl hB6 rfl (by decide) (fun a h => ?_)
    refine g_no h rfl rfl rfl rfl hB6 rfl (by decide) (fun a h => ?_)
    refine s_x h rfl rfl (by decide) (x_pick (u' := undef) h.k rfl rfl (fun hh => absurd (hB6.symm.trans hh) (by decide)) (fun _ => rfl)) (fun a h => ?_)
    exact (h.mid 3 rfl).val (by first | rfl | (rw [hB6]; first | rfl | simp))
  refine s_assign h rfl _ rfl rfl (by decide) rfl (fun a h => ?_)
  refine l_end ?_
  refine wp_ret ?_
  obtain rfl := Option.some.inj hf
  exact r_ret1 h rfl (rv_tmp h rfl) ⟨_, [], _, rfl, ⟨rfl, rfl, trivial⟩, rfl, (Up.refl _ _ _), h.m⟩
def chatelaineref43_Wide (Fu : Nat) (a0 : Int) : Option Bool :=
  (chatelaineref17_Wide Fu a0).bind fun x1 => some x1
set_option maxRecDepth 100000 in
set_option maxHeartbeats 2000000 in
theorem chatelaineref43_Wide_ok (Fu : Nat) {S0 : Snap} (a0 : Int) (hra0 : r64 a0) (r : Bool) (hf : chatelaineref43_Wide Fu a0 = some r) (w0 : World) (hm : Mem w0 (ownL ([] ++ [.sn S0])) ([] ++ [.sn S0]) w0) :
    Calls Try.prog 19 #[.int .i64 a0] w0 (Ret w0 S0 [] (fun v L1 S1 => v = .bool r ∧ L1 = [] ∧ True)) := by
  unfold chatelaineref43_Wide at hf
  refine c_enterM Try.func19 rfl 5 rfl (by simp) _ hm _ rfl (fun a h => ?_)
  refine c_rs ?_ -- region 0
  refine s_assign h rfl _ rfl rfl (by decide) rfl (fun a h => ?_)
  refine l_end ?_
  refine c_rs ?_ -- region 1
  refine s_move h rfl _ rfl rfl (by decide) rfl (fun a h => ?_)
  obtain ⟨x1, h2, hf⟩ := bsome hf
  have hX := chatelaineref17_Wide_ok Fu (S0 := snapAll _) a0 hra0 _ h2 _ h.startAll
  refine q_callX hX h rfl rfl rfl (by decide) Try.func41 rfl rfl rfl (fun a w v L1 S1 hR hb1 h => ?_)
  obtain ⟨rfl, rfl, _⟩ := hR
  refine s_assign h rfl _ rfl rfl (by decide) rfl (fun a h => ?_)
  refine l_end ?_
  refine wp_ret ?_
  rw [← Option.some.inj hf]
  exact r_ret1 h rfl (rv_tmp h rfl) ⟨_, [], _, rfl, ⟨rfl, rfl, trivial⟩, rfl, (Up.refl _ _ _), h.m⟩
def chatelaineref43_First_l0 (Fu : Nat) (a0 : Int × Int × Int × Int × Int × Int) (a1 : List UInt8) : Nat → (List (Int × Int × Int × Int × Int × (List UInt8) × (List UInt8))) → Int → Option ((List (Int × Int × Int × Int × Int × (List UInt8) × (List UInt8))))
  | 0, _, _ => none
  | k + 1, x23, x28 => if x28 ≤ a0.2.1 then ((chatelaineref43_Cred Fu x28).bind fun x41 => (app 88 x23 ([(1, x28, 0, a0.2.2.1, 0, a1, x41)])).bind fun x55 => chatelaineref43_First_l0 Fu a0 a1 k x55 (w64 (x28 + 1))) else (some x23)
def chatelaineref43_First_l1 (Fu : Nat) (a0 : Int × Int × Int × Int × Int × Int) : Nat → Int → (List (Int × Int × Int × Int × Int × (List UInt8) × (List UInt8))) → Option ((List (Int × Int × Int × Int × Int × (List UInt8) × (List UInt8))))
  | 0, _, _ => none
  | k + 1, x66, x68 => if x66 ≤ a0.2.1 then ((chatelaineref43_Cred Fu x66).bind fun x83 => (app 88 x68 ([(2, x66, x66, a0.2.2.1, 0, x83, [])])).bind fun x97 => chatelaineref43_First_l1 Fu a0 k (w64 (x66 + 1)) x97) else (some x68)
def chatelaineref43_First (Fu : Nat) (a0 : Int × Int × Int × Int × Int × Int) (a1 : List UInt8) : Option ((List (Int × Int × Int × Int × Int × (List UInt8) × (List UInt8)))) :=
  (chatelaineref43_First_l0 Fu a0 a1 Fu ([]) 1).bind fun x33 => (chatelaineref43_First_l1 Fu a0 Fu 1 x33).bind fun x76 => some x76
set_option maxRecDepth 100000 in
set_option maxHeartbeats 2000000 in
theorem chatelaineref43_First_ok (Fu : Nat) {S0 : Snap} (csa0 : List Value) (a0 : Int × Int × Int × Int × Int × Int) (hsa0 : (tyP tyI (tyP tyI (tyP tyI (tyP tyI (tyP tyI tyI))))).rep S0 csa0 a0) (Aa1 : Option Addr) (ca1 : Nat) (a1 : List UInt8) (hsa1 : slS ty8 S0 Aa1 ca1 a1) (r : (List (Int × Int × Int × Int × Int × (List UInt8) × (List UInt8)))) (hf : chatelaineref43_First Fu a0 a1 = some r) (w0 : World) (hm : Mem w0 (ownL ([] ++ [.sn S0])) ([] ++ [.sn S0]) w0) :
    Calls Try.prog 21 #[.agg csa0.toArray, .slice Aa1 a1.length ca1] w0 (Ret w0 S0 [] (fun v L1 S1 => ∃ (A105 : Option Addr), ∃ (c106 : Nat), ∃ (cs107 : List Value), v = .slice A105 r.length c106 ∧ L1 = [.row (.slice A105 r.length c106) 51 7 r.length cs107] ∧ reps (tyP tyI (tyP tyI (tyP tyI (tyP tyI (tyP tyI (tyP (tyL ty8) (tyL ty8))))))) S1 cs107 r ∧ True)) := by
  unfold chatelaineref43_First at hf
  obtain ⟨k1, k2, rfl, ⟨rfl, hr3⟩, ⟨k4, k5, rfl, ⟨rfl, hr6⟩, ⟨k7, k8, rfl, ⟨rfl, hr9⟩, ⟨k10, k11, rfl, ⟨rfl, hr12⟩, ⟨k13, k14, rfl, ⟨rfl, hr15⟩, ⟨rfl, hr16⟩⟩⟩⟩⟩⟩ := hsa0
  refine c_enterM Try.func21 rfl 41 rfl (by simp) _ hm _ rfl (fun a h => ?_)
  refine c_rs ?_ -- region 0
  refine s_box h rfl rfl rfl (by decide) rfl (cs := [.int .i64 a0.1, .int .i64 a0.2.1, .int .i64 a0.2.2.1, .int .i64 a0.2.2.2.1, .int .i64 a0.2.2.2.2.1, .int .i64 a0.2.2.2.2.2]) (by rfl) (fun a w g17 h => ?_)
  refine s_assign h rfl _ rfl rfl (by decide) rfl (fun a h => ?_)
  refine l_end ?_
  refine c_rs ?_ -- region 1
  refine s_assign h rfl _ rfl rfl (by decide) rfl (fun a h => ?_)
  refine l_end ?_
  refine wp_seq ?_
  refine c_rs ?_ -- region 2
  refine s_assign h rfl _ rfl rfl (by decide) rfl (fun a h => ?_)
  refine l_end ?_
  obtain ⟨o18, hl19, hf⟩ := bsome hf
  refine c_fin (fun a w => ∃ (S30 : Snap), ∃ (x33 : List (Int × Int × Int × Int × Int × (List UInt8) × (List UInt8))), ∃ (A34 : Option Addr), ∃ (c35 : Nat), ∃ (cs36 : List Value), x33 = o18 ∧ Snap.le S0 S30 ∧ Up (ownL ([] ++ [.sn S0])) w0 S0 S30 ∧ reps (tyP tyI (tyP tyI (tyP tyI (tyP tyI (tyP tyI (tyP (tyL ty8) (tyL ty8))))))) S30 cs36 x33 ∧ St 41 w0 (ownL ([] ++ [.sn S0])) [(2, .pointer (some ⟨g17, 0, none⟩)), (5, .slice A34 x33.length c35)] [.box g17 25 ([.int .i64 a0.1, .int .i64 a0.2.1, .int .i64 a0.2.2.1, .int .i64 a0.2.2.2.1, .int .i64 a0.2.2.2.2.1, .int .i64 a0.2.2.2.2.2]), .row (.slice A34 x33.length c35) 51 7 x33.length cs36, .sn S30] a w) ?_ ?_
  · refine wp_block ?_
    have h := h.mem (h.m.nilrow 51 7)
    have h := h.pick [1, 0, 2] (by decide) rfl
    refine c_loop (fun m39 a w => ∃ (S20 : Snap), ∃ (x23 : List (Int × Int × Int × Int × Int × (List UInt8) × (List UInt8))), ∃ (A24 : Option Addr), ∃ (c25 : Nat), ∃ (cs26 : List Value), ∃ (x28 : Int), chatelaineref43_First_l0 Fu a0 a1 m39 x23 x28 = some o18 ∧ Snap.le S0 S20 ∧ Up (ownL ([] ++ [.sn S0])) w0 S0 S20 ∧ reps (tyP tyI (tyP tyI (tyP tyI (tyP tyI (tyP tyI (tyP (tyL ty8) (tyL ty8))))))) S20 cs26 x23 ∧ r64 x28 ∧ St 41 w0 (ownL ([] ++ [.sn S0])) [(1, .slice Aa1 a1.length ca1), (2, .pointer (some ⟨g17, 0, none⟩)), (5, .slice A24 x23.length c25), (6, .int .i64 x28)] [.box g17 25 ([.int .i64 a0.1, .int .i64 a0.2.1, .int .i64 a0.2.2.1, .int .i64 a0.2.2.2.1, .int .i64 a0.2.2.2.2.1, .int .i64 a0.2.2.2.2.2]), .row (.slice A24 x23.length c25) 51 7 x23.length cs26, .sn S20] a w) Fu ⟨S0, [], none, 0, [], 1, hl19, (Snap.le.refl _), (Up.refl _ _ _), (show reps (tyP tyI (tyP tyI (tyP tyI (tyP tyI (tyP tyI (tyP (tyL ty8) (tyL ty8))))))) S0 [] [] from rfl), (show r64 1 from ⟨by decide, by decide⟩), h.has (by exact ⟨rfl, rfl, rfl, rfl, trivial⟩)⟩ (fun m39 a w hI => ?_)
    obtain ⟨S20, x23, A24, c25, cs26, x28, hl38, le21, up22, hq27, hr29, h⟩ := hI
    obtain _ | m39 := m39
    · rw [chatelaineref43_First_l0] at hl38; cases hl38
    rw [chatelaineref43_First_l0] at hl38
    refine wp_seq ?_
    refine c_rs ?_ -- region 3
    refine s_move h rfl _ rfl rfl (by decide) rfl (fun a h => ?_)
    refine s_x h rfl rfl (by decide) (x_faddr h.k rfl Try.underlying25 rfl sz_int rfl) (fun a h => ?_)
    refine s_x h rfl rfl (by decide) (x_ld h.k rfl Try.underlying3 rfl rfl ((h.m.cell (i := 0) rfl 1).trans rfl)) (fun a h => ?_)
    refine s_x h rfl rfl (by decide) (x_bin h.k rfl rfl rfl ib_leq) (fun a h => ?_)
    refine l_end ?_
    refine c_cond h rfl (fun hb => ?_) (fun hb => ?_)
    · rw [if_pos (of_decide_eq_true hb)] at hl38
      refine wp_skip ?_
      refine e_thenN ?_
      refine wp_seq ?_
      refine wp_block ?_
      -- region 5 draws
      obtain ⟨x41, h42, hl38⟩ := bsome hl38
      obtain ⟨x55, h56, hl38⟩ := bsome hl38
      refine d_start h (Mem _ _ _) 9 11 rfl (by kernel_rfl) (fun _ _ _ _ _ h => h) (fun _ h => h) (fun Q a w HE HN h HS => ?_)
      refine d_takeP h (fun _ => HS) HN 0 rfl (by kernel_rfl) (by kernel_rfl) (by kernel_rfl) (by decide) rfl rfl (by decide) (fun w' => x_move h.k _ rfl rfl) (fun a h => ?_)
      refine d_takeP h (fun _ => HS) HN 1 rfl (by kernel_rfl) (by kernel_rfl) (by kernel_rfl) (by decide) rfl rfl (by decide) (fun w' => x_move h.k _ rfl rfl) (fun a h => ?_)
      refine d_takeP h (fun _ => HS) HN 2 rfl (by kernel_rfl) (by kernel_rfl) (by kernel_rfl) (by decide) rfl rfl (by decide) (fun w' => x_faddr h.k rfl Try.underlying25 rfl sz_int rfl) (fun a h => ?_)
      refine d_takeD h HS HN 3 [7, 8, 9, 10] rfl (by kernel_rfl) (by kernel_rfl) (by kernel_rfl) (by kernel_rfl) (by kernel_rfl) (by kernel_rfl) rfl rfl (by decide) (fun w' hw => x_ld h.k rfl Try.underlying3 rfl rfl ((hw.cell (i := 0) rfl 2).trans rfl)) (fun a h => ?_)
      refine d_takeP h (fun _ => HS) HN 4 rfl (by kernel_rfl) (by kernel_rfl) (by kernel_rfl) (by decide) rfl rfl (by decide) (fun w' => x_move h.k _ rfl rfl) (fun a h => ?_)
      refine d_takeP h (fun _ => HS) HN 5 rfl (by kernel_rfl) (by kernel_rfl) (by kernel_rfl) (by decide) rfl rfl (by decide) (fun w' => x_move h.k _ rfl rfl) (fun a h => ?_)
      refine d_alone 6 rfl (by kernel_rfl) (fun K hK => ?_)
      have hX := chatelaineref43_Cred_ok Fu (S0 := snapAll _) x28 hr29 _ h42 _ h.startAll
      refine q_callX hX h rfl rfl rfl (by decide) Try.func13 rfl rfl rfl (fun a w v L1 S1 hR hb1 h => ?_)
      obtain ⟨A44, c45, cs46, rfl, rfl, hq47, _⟩ := hR
      have hq48 := hq47.fl (S' := S20) fl_8
      refine hK _ _ (fun _ _ => HS.ext hb1) ?_
      replace HS := HS.ext hb1
      clear hK
      refine d_takeP h (fun _ => HS) HN 7 rfl (by kernel_rfl) (by kernel_rfl) (by kernel_rfl) (by decide) rfl rfl (by decide) (fun w' => x_build h.k rfl [(0, .int .i64 1), (1, .int .i64 x28), (3, .int .i64 a0.2.2.1), (5, .slice Aa1 a1.length ca1), (6, .slice A44 x41.length c45)] rfl ([.int .i64 1, .int .i64 x28, .int .i64 0, .int .i64 a0.2.2.1, .int .i64 0, .slice Aa1 a1.length ca1, .slice A44 x41.length c45]) (by kernel_rfl)) (fun a h => ?_)
      refine d_alone 8 rfl (by kernel_rfl) (fun K hK => ?_)
      have h := h.pick [0, 3, 1, 2] (by decide) rfl
      obtain ⟨S49, le50, up51, hs52, h⟩ := q_freeze (T := ty8) h up22 hq48
      refine q_bslice (T := tyP tyI (tyP tyI (tyP tyI (tyP tyI (tyP tyI (tyP (tyL ty8) (tyL ty8))))))) (S := S49) h rfl rfl rfl (by decide) Try.underlying40 zi_api_Op (by decide) (by decide) (by decide) (by decide) [.agg ([.int .i64 1, .int .i64 x28, .int .i64 0, .int .i64 a0.2.2.1, .int .i64 0, .slice Aa1 a1.length ca1, .slice A44 x41.length c45]).toArray] rfl rfl (C := [[.int .i64 1, .int .i64 x28, .int .i64 0, .int .i64 a0.2.2.1, .int .i64 0, .slice Aa1 a1.length ca1, .slice A44 x41.length c45]]) rfl (xs := [(1, x28, 0, a0.2.2.1, 0, a1, x41)]) ⟨[.int .i64 1, .int .i64 x28, .int .i64 0, .int .i64 a0.2.2.1, .int .i64 0, .slice Aa1 a1.length ca1, .slice A44 x41.length c45], _, rfl, ⟨[.int .i64 1], [.int .i64 x28, .int .i64 0, .int .i64 a0.2.2.1, .int .i64 0, .slice Aa1 a1.length ca1, .slice A44 x41.length c45], rfl, ⟨rfl, (show r64 1 from ⟨by decide, by decide⟩)⟩, ⟨[.int .i64 x28], [.int .i64 0, .int .i64 a0.2.2.1, .int .i64 0, .slice Aa1 a1.length ca1, .slice A44 x41.length c45], rfl, ⟨rfl, hr29⟩, ⟨[.int .i64 0], [.int .i64 a0.2.2.1, .int .i64 0, .slice Aa1 a1.length ca1, .slice A44 x41.length c45], rfl, ⟨rfl, (show r64 0 from ⟨by decide, by decide⟩)⟩, ⟨[.int .i64 a0.2.2.1], [.int .i64 0, .slice Aa1 a1.length ca1, .slice A44 x41.length c45], rfl, ⟨rfl, hr9⟩, ⟨[.int .i64 0], [.slice Aa1 a1.length ca1, .slice A44 x41.length c45], rfl, ⟨rfl, (show r64 0 from ⟨by decide, by decide⟩)⟩, ⟨[.slice Aa1 a1.length ca1], [.slice A44 x41.length c45], rfl, ⟨_, _, rfl, (hsa1.mono (le21.trans le50))⟩, ⟨_, _, rfl, hs52⟩⟩⟩⟩⟩⟩⟩, rfl⟩ (by intro c hc; simp only [List.mem_cons, List.not_mem_nil, or_false] at hc; subst hc; rfl) (fun a w A53 h => ?_)
      have hb54 : reps (tyP tyI (tyP tyI (tyP tyI (tyP tyI (tyP tyI (tyP (tyL ty8) (tyL ty8))))))) S49 ([[.int .i64 1, .int .i64 x28, .int .i64 0, .int .i64 a0.2.2.1, .int .i64 0, .slice Aa1 a1.length ca1, .slice A44 x41.length c45]] : List (List Value)).flatten [(1, x28, 0, a0.2.2.1, 0, a1, x41)] := ⟨[.int .i64 1, .int .i64 x28, .int .i64 0, .int .i64 a0.2.2.1, .int .i64 0, .slice Aa1 a1.length ca1, .slice A44 x41.length c45], _, rfl, ⟨[.int .i64 1], [.int .i64 x28, .int .i64 0, .int .i64 a0.2.2.1, .int .i64 0, .slice Aa1 a1.length ca1, .slice A44 x41.length c45], rfl, ⟨rfl, (show r64 1 from ⟨by decide, by decide⟩)⟩, ⟨[.int .i64 x28], [.int .i64 0, .int .i64 a0.2.2.1, .int .i64 0, .slice Aa1 a1.length ca1, .slice A44 x41.length c45], rfl, ⟨rfl, hr29⟩, ⟨[.int .i64 0], [.int .i64 a0.2.2.1, .int .i64 0, .slice Aa1 a1.length ca1, .slice A44 x41.length c45], rfl, ⟨rfl, (show r64 0 from ⟨by decide, by decide⟩)⟩, ⟨[.int .i64 a0.2.2.1], [.int .i64 0, .slice Aa1 a1.length ca1, .slice A44 x41.length c45], rfl, ⟨rfl, hr9⟩, ⟨[.int .i64 0], [.slice Aa1 a1.length ca1, .slice A44 x41.length c45], rfl, ⟨rfl, (show r64 0 from ⟨by decide, by decide⟩)⟩, ⟨[.slice Aa1 a1.length ca1], [.slice A44 x41.length c45], rfl, ⟨_, _, rfl, (hsa1.mono (le21.trans le50))⟩, ⟨_, _, rfl, hs52⟩⟩⟩⟩⟩⟩⟩, rfl⟩
      replace HS := (h.m.pick [2, 3, 1] [.box g17 25 ([.int .i64 a0.1, .int .i64 a0.2.1, .int .i64 a0.2.2.1, .int .i64 a0.2.2.2.1, .int .i64 a0.2.2.2.2.1, .int .i64 a0.2.2.2.2.2]), .row (.slice A24 x23.length c25) 51 7 x23.length cs26, .sn S49] (by decide) rfl).snLe 2 rfl le50
      refine hK _ _ (fun _ _ => HS) ?_
      clear hK
      refine d_alone 9 rfl (by kernel_rfl) (fun K hK => ?_)
      refine q_append (T := tyP tyI (tyP tyI (tyP tyI (tyP tyI (tyP tyI (tyP (tyL ty8) (tyL ty8))))))) (S := S49) h rfl rfl rfl (by decide) Try.underlying40 zb_api_Op rfl (by decide) rfl 3 rfl (hq27.mono le50) rfl hb54 (h.m.rdRowA (i := 0) rfl) h56 (fun a w A57 c58 cs59 hq60 h => ?_)
      refine hK _ _ (fun hne _ => absurd rfl hne) ?_
      clear hK
      refine d_takeP h (fun hl => absurd hl (by decide)) HN 10 rfl (by kernel_rfl) (by kernel_rfl) (by kernel_rfl) (by decide) rfl rfl (by decide) (fun w' => x_assign h.k _ rfl rfl) (fun a h => ?_)
      refine d_done (by kernel_rfl) (HE _ _ ?_) _
      refine e_blkN ?_
      refine e_thenN ?_
      refine c_r ?_ -- region 4
      refine s_move h rfl _ rfl rfl (by decide) rfl (fun a h => ?_)
      refine s_x h rfl rfl (by decide) (x_bin h.k rfl rfl rfl (ib_add rfl)) (fun a h => ?_)
      refine s_assign h rfl _ rfl rfl (by decide) rfl (fun a h => ?_)
      refine l_nil ?_
      have h := h.pick [2, 3, 1] (by decide) rfl
      exact e_thenN ⟨m39, Nat.lt_succ_self _, S49, x55, A57, c58, cs59, w64 (x28 + 1), hl38, (le21.trans le50), up51, hq60, (w64_r _), h.has (by exact ⟨rfl, rfl, rfl, rfl, trivial⟩)⟩
    · rw [if_neg (of_decide_eq_false hb)] at hl38
      refine wp_exit ?_
      refine e_thenX ?_
      refine e_thenX ?_
      refine e_blkX ?_
      refine e_thenN ?_
      exact ⟨S20, x23, A24, c25, cs26, (Option.some.inj hl38), le21, up22, hq27, h.has (by exact ⟨rfl, rfl, trivial⟩)⟩
  · rintro a w ⟨S30, x33, A34, c35, cs36, rfl, le31, up32, hq37, h⟩
    refine e_thenN ?_
    refine wp_seq ?_
    refine c_rs ?_ -- region 6
    refine s_assign h rfl _ rfl rfl (by decide) rfl (fun a h => ?_)
    refine l_end ?_
    obtain ⟨o61, hl62, hf⟩ := bsome hf
    refine c_fin (fun a w => ∃ (S73 : Snap), ∃ (x76 : List (Int × Int × Int × Int × Int × (List UInt8) × (List UInt8))), ∃ (A77 : Option Addr), ∃ (c78 : Nat), ∃ (cs79 : List Value), x76 = o61 ∧ Snap.le S30 S73 ∧ Up (ownL ([] ++ [.sn S0])) w0 S0 S73 ∧ reps (tyP tyI (tyP tyI (tyP tyI (tyP tyI (tyP tyI (tyP (tyL ty8) (tyL ty8))))))) S73 cs79 x76 ∧ St 41 w0 (ownL ([] ++ [.sn S0])) [(5, .slice A77 x76.length c78)] [.row (.slice A77 x76.length c78) 51 7 x76.length cs79, .sn S73] a w) ?_ ?_
    · refine wp_block ?_
      refine c_loop (fun m82 a w => ∃ (S63 : Snap), ∃ (x66 : Int), ∃ (x68 : List (Int × Int × Int × Int × Int × (List UInt8) × (List UInt8))), ∃ (A69 : Option Addr), ∃ (c70 : Nat), ∃ (cs71 : List Value), chatelaineref43_First_l1 Fu a0 m82 x66 x68 = some o61 ∧ Snap.le S30 S63 ∧ Up (ownL ([] ++ [.sn S0])) w0 S0 S63 ∧ r64 x66 ∧ reps (tyP tyI (tyP tyI (tyP tyI (tyP tyI (tyP tyI (tyP (tyL ty8) (tyL ty8))))))) S63 cs71 x68 ∧ St 41 w0 (ownL ([] ++ [.sn S0])) [(2, .pointer (some ⟨g17, 0, none⟩)), (5, .slice A69 x68.length c70), (7, .int .i64 x66)] [.box g17 25 ([.int .i64 a0.1, .int .i64 a0.2.1, .int .i64 a0.2.2.1, .int .i64 a0.2.2.2.1, .int .i64 a0.2.2.2.2.1, .int .i64 a0.2.2.2.2.2]), .row (.slice A69 x68.length c70) 51 7 x68.length cs71, .sn S63] a w) Fu ⟨S30, 1, x33, A34, c35, cs36, hl62, (Snap.le.refl _), up32, (show r64 1 from ⟨by decide, by decide⟩), hq37, h.has (by exact ⟨rfl, rfl, rfl, trivial⟩)⟩ (fun m82 a w hI => ?_)
      obtain ⟨S63, x66, x68, A69, c70, cs71, hl81, le64, up65, hr67, hq72, h⟩ := hI
      obtain _ | m82 := m82
      · rw [chatelaineref43_First_l1] at hl81; cases hl81
      rw [chatelaineref43_First_l1] at hl81
      refine wp_seq ?_
      refine c_rs ?_ -- region 7
      refine s_move h rfl _ rfl rfl (by decide) rfl (fun a h => ?_)
      refine s_x h rfl rfl (by decide) (x_faddr h.k rfl Try.underlying25 rfl sz_int rfl) (fun a h => ?_)
      refine s_x h rfl rfl (by decide) (x_ld h.k rfl Try.underlying3 rfl rfl ((h.m.cell (i := 0) rfl 1).trans rfl)) (fun a h => ?_)
      refine s_x h rfl rfl (by decide) (x_bin h.k rfl rfl rfl ib_leq) (fun a h => ?_)
      refine l_end ?_
      refine c_cond h rfl (fun hb => ?_) (fun hb => ?_)
      · rw [if_pos (of_decide_eq_true hb)] at hl81
        refine wp_skip ?_
        refine e_thenN ?_
        refine wp_seq ?_
        refine wp_block ?_
        -- region 9 draws
        obtain ⟨x83, h84, hl81⟩ := bsome hl81
        obtain ⟨x97, h98, hl81⟩ := bsome hl81
        refine d_start h (Mem _ _ _) 9 11 rfl (by kernel_rfl) (fun _ _ _ _ _ h => h) (fun _ h => h) (fun Q a w HE HN h HS => ?_)
        refine d_takeP h (fun _ => HS) HN 0 rfl (by kernel_rfl) (by kernel_rfl) (by kernel_rfl) (by decide) rfl rfl (by decide) (fun w' => x_move h.k _ rfl rfl) (fun a h => ?_)
        refine d_takeP h (fun _ => HS) HN 1 rfl (by kernel_rfl) (by kernel_rfl) (by kernel_rfl) (by decide) rfl rfl (by decide) (fun w' => x_move h.k _ rfl rfl) (fun a h => ?_)
        refine d_takeP h (fun _ => HS) HN 2 rfl (by kernel_rfl) (by kernel_rfl) (by kernel_rfl) (by decide) rfl rfl (by decide) (fun w' => x_move h.k _ rfl rfl) (fun a h => ?_)
        refine d_takeP h (fun _ => HS) HN 3 rfl (by kernel_rfl) (by kernel_rfl) (by kernel_rfl) (by decide) rfl rfl (by decide) (fun w' => x_faddr h.k rfl Try.underlying25 rfl sz_int rfl) (fun a h => ?_)
        refine d_takeD h HS HN 4 [7, 8, 9, 10] rfl (by kernel_rfl) (by kernel_rfl) (by kernel_rfl) (by kernel_rfl) (by kernel_rfl) (by kernel_rfl) rfl rfl (by decide) (fun w' hw => x_ld h.k rfl Try.underlying3 rfl rfl ((hw.cell (i := 0) rfl 2).trans rfl)) (fun a h => ?_)
        refine d_takeP h (fun _ => HS) HN 5 rfl (by kernel_rfl) (by kernel_rfl) (by kernel_rfl) (by decide) rfl rfl (by decide) (fun w' => x_move h.k _ rfl rfl) (fun a h => ?_)
        refine d_alone 6 rfl (by kernel_rfl) (fun K hK => ?_)
        have hX := chatelaineref43_Cred_ok Fu (S0 := snapAll _) x66 hr67 _ h84 _ h.startAll
        refine q_callX hX h rfl rfl rfl (by decide) Try.func13 rfl rfl rfl (fun a w v L1 S1 hR hb1 h => ?_)
        obtain ⟨A86, c87, cs88, rfl, rfl, hq89, _⟩ := hR
        have hq90 := hq89.fl (S' := S63) fl_8
        refine hK _ _ (fun _ _ => HS.ext hb1) ?_
        replace HS := HS.ext hb1
        clear hK
        have h := h.pick [0, 3, 1, 2] (by decide) rfl
        obtain ⟨S91, le92, up93, hs94, h⟩ := q_freeze (T := ty8) h up65 hq90
        refine d_takeP h (fun _ => HS) HN 7 rfl (by kernel_rfl) (by kernel_rfl) (by kernel_rfl) (by decide) rfl rfl (by decide) (fun w' => x_build h.k rfl [(0, .int .i64 2), (1, .int .i64 x66), (2, .int .i64 x66), (3, .int .i64 a0.2.2.1), (5, .slice A86 x83.length c87)] rfl ([.int .i64 2, .int .i64 x66, .int .i64 x66, .int .i64 a0.2.2.1, .int .i64 0, .slice A86 x83.length c87, .slice none 0 0]) (by kernel_rfl)) (fun a h => ?_)
        refine d_alone 8 rfl (by kernel_rfl) (fun K hK => ?_)
        refine q_bslice (T := tyP tyI (tyP tyI (tyP tyI (tyP tyI (tyP tyI (tyP (tyL ty8) (tyL ty8))))))) (S := S91) h rfl rfl rfl (by decide) Try.underlying40 zi_api_Op (by decide) (by decide) (by decide) (by decide) [.agg ([.int .i64 2, .int .i64 x66, .int .i64 x66, .int .i64 a0.2.2.1, .int .i64 0, .slice A86 x83.length c87, .slice none 0 0]).toArray] rfl rfl (C := [[.int .i64 2, .int .i64 x66, .int .i64 x66, .int .i64 a0.2.2.1, .int .i64 0, .slice A86 x83.length c87, .slice none 0 0]]) rfl (xs := [(2, x66, x66, a0.2.2.1, 0, x83, [])]) ⟨[.int .i64 2, .int .i64 x66, .int .i64 x66, .int .i64 a0.2.2.1, .int .i64 0, .slice A86 x83.length c87, .slice none 0 0], _, rfl, ⟨[.int .i64 2], [.int .i64 x66, .int .i64 x66, .int .i64 a0.2.2.1, .int .i64 0, .slice A86 x83.length c87, .slice none 0 0], rfl, ⟨rfl, (show r64 2 from ⟨by decide, by decide⟩)⟩, ⟨[.int .i64 x66], [.int .i64 x66, .int .i64 a0.2.2.1, .int .i64 0, .slice A86 x83.length c87, .slice none 0 0], rfl, ⟨rfl, hr67⟩, ⟨[.int .i64 x66], [.int .i64 a0.2.2.1, .int .i64 0, .slice A86 x83.length c87, .slice none 0 0], rfl, ⟨rfl, hr67⟩, ⟨[.int .i64 a0.2.2.1], [.int .i64 0, .slice A86 x83.length c87, .slice none 0 0], rfl, ⟨rfl, hr9⟩, ⟨[.int .i64 0], [.slice A86 x83.length c87, .slice none 0 0], rfl, ⟨rfl, (show r64 0 from ⟨by decide, by decide⟩)⟩, ⟨[.slice A86 x83.length c87], [.slice none 0 0], rfl, ⟨_, _, rfl, hs94⟩, ⟨_, _, rfl, (slS.nil ty8 _)⟩⟩⟩⟩⟩⟩⟩, rfl⟩ (by intro c hc; simp only [List.mem_cons, List.not_mem_nil, or_false] at hc; subst hc; rfl) (fun a w A95 h => ?_)
        have hb96 : reps (tyP tyI (tyP tyI (tyP tyI (tyP tyI (tyP tyI (tyP (tyL ty8) (tyL ty8))))))) S91 ([[.int .i64 2, .int .i64 x66, .int .i64 x66, .int .i64 a0.2.2.1, .int .i64 0, .slice A86 x83.length c87, .slice none 0 0]] : List (List Value)).flatten [(2, x66, x66, a0.2.2.1, 0, x83, [])] := ⟨[.int .i64 2, .int .i64 x66, .int .i64 x66, .int .i64 a0.2.2.1, .int .i64 0, .slice A86 x83.length c87, .slice none 0 0], _, rfl, ⟨[.int .i64 2], [.int .i64 x66, .int .i64 x66, .int .i64 a0.2.2.1, .int .i64 0, .slice A86 x83.length c87, .slice none 0 0], rfl, ⟨rfl, (show r64 2 from ⟨by decide, by decide⟩)⟩, ⟨[.int .i64 x66], [.int .i64 x66, .int .i64 a0.2.2.1, .int .i64 0, .slice A86 x83.length c87, .slice none 0 0], rfl, ⟨rfl, hr67⟩, ⟨[.int .i64 x66], [.int .i64 a0.2.2.1, .int .i64 0, .slice A86 x83.length c87, .slice none 0 0], rfl, ⟨rfl, hr67⟩, ⟨[.int .i64 a0.2.2.1], [.int .i64 0, .slice A86 x83.length c87, .slice none 0 0], rfl, ⟨rfl, hr9⟩, ⟨[.int .i64 0], [.slice A86 x83.length c87, .slice none 0 0], rfl, ⟨rfl, (show r64 0 from ⟨by decide, by decide⟩)⟩, ⟨[.slice A86 x83.length c87], [.slice none 0 0], rfl, ⟨_, _, rfl, hs94⟩, ⟨_, _, rfl, (slS.nil ty8 _)⟩⟩⟩⟩⟩⟩⟩, rfl⟩
        replace HS := (h.m.pick [2, 3, 1] [.box g17 25 ([.int .i64 a0.1, .int .i64 a0.2.1, .int .i64 a0.2.2.1, .int .i64 a0.2.2.2.1, .int .i64 a0.2.2.2.2.1, .int .i64 a0.2.2.2.2.2]), .row (.slice A69 x68.length c70) 51 7 x68.length cs71, .sn S91] (by decide) rfl).snLe 2 rfl le92
        refine hK _ _ (fun _ _ => HS) ?_
        clear hK
        refine d_alone 9 rfl (by kernel_rfl) (fun K hK => ?_)
        refine q_append (T := tyP tyI (tyP tyI (tyP tyI (tyP tyI (tyP tyI (tyP (tyL ty8) (tyL ty8))))))) (S := S91) h rfl rfl rfl (by decide) Try.underlying40 zb_api_Op rfl (by decide) rfl 3 rfl (hq72.mono le92) rfl hb96 (h.m.rdRowA (i := 0) rfl) h98 (fun a w A99 c100 cs101 hq102 h => ?_)
        refine hK _ _ (fun hne _ => absurd rfl hne) ?_
        clear hK
        refine d_takeP h (fun hl => absurd hl (by decide)) HN 10 rfl (by kernel_rfl) (by kernel_rfl) (by kernel_rfl) (by decide) rfl rfl (by decide) (fun w' => x_assign h.k _ rfl rfl) (fun a h => ?_)
        refine d_done (by kernel_rfl) (HE _ _ ?_) _
        refine e_blkN ?_
        refine e_thenN ?_
        refine c_r ?_ -- region 8
        refine s_move h rfl _ rfl rfl (by decide) rfl (fun a h => ?_)
        refine s_x h rfl rfl (by decide) (x_bin h.k rfl rfl rfl (ib_add rfl)) (fun a h => ?_)
        refine s_assign h rfl _ rfl rfl (by decide) rfl (fun a h => ?_)
        refine l_nil ?_
        have h := h.pick [2, 3, 1] (by decide) rfl
        exact e_thenN ⟨m82, Nat.lt_succ_self _, S91, w64 (x66 + 1), x97, A99, c100, cs101, hl81, (le64.trans le92), up93, (w64_r _), hq102, h.has (by exact ⟨rfl, rfl, rfl, trivial⟩)⟩
      · rw [if_neg (of_decide_eq_false hb)] at hl81
        refine wp_exit ?_
        refine e_thenX ?_
        refine e_thenX ?_
        refine e_blkX ?_
        refine e_thenN ?_
        have h := h.pick [1, 2] (by decide) rfl
        exact ⟨S63, x68, A69, c70, cs71, (Option.some.inj hl81), le64, up65, hq72, h.has (by exact ⟨rfl, trivial⟩)⟩
    · rintro a w ⟨S73, x76, A77, c78, cs79, rfl, le74, up75, hq80, h⟩
      refine e_thenN ?_
      refine c_rs ?_ -- region 10
      refine s_move h rfl _ rfl rfl (by decide) rfl (fun a h => ?_)
      refine s_assign h rfl _ rfl rfl (by decide) rfl (fun a h => ?_)
      refine l_end ?_
      refine wp_ret ?_
      rw [← Option.some.inj hf]
      exact r_ret1 h rfl (rv_tmp h rfl) ⟨_, [.row (.slice A77 x76.length c78) 51 7 x76.length cs79], _, rfl, ⟨A77, c78, cs79, rfl, rfl, hq80, trivial⟩, rfl, up75, h.m⟩
def chatelaineref43_Lot_Op_l0 (Fu : Nat) (a2 : Int) : Nat → Int → ((List UInt8) × Int) → (Int × Int × Int × Int × Int × (List UInt8) × (List UInt8)) → Option (((List UInt8) × Int) × (Int × Int × Int × Int × Int × (List UInt8) × (List UInt8)))
  | 0, _, _, _ => none
  | k + 1, x136, x138, x143 => if x136 < a2 then ((chatelaineref43_Lot_Below Fu x138 256).bind fun x179 => (app 1 x143.2.2.2.2.2.2 ([i8 x179.1])).bind fun x192 => chatelaineref43_Lot_Op_l0 Fu a2 k (w64 (x136 + 1)) x179.2 (x143.1, x143.2.1, x143.2.2.1, x143.2.2.2.1, x143.2.2.2.2.1, x143.2.2.2.2.2.1, x192)) else (some (x138, x143))
def chatelaineref43_Lot_Op (Fu : Nat) (a0 : (List UInt8) × Int) (a1 : Int × Int × Int × Int × Int × Int) (a2 : Int) : Option ((Int × Int × Int × Int × Int × (List UInt8) × (List UInt8)) × ((List UInt8) × Int)) :=
  (chatelaineref43_Lot_Below Fu a0 a1.2.1).bind fun x24 => (chatelaineref43_Lot_Below Fu x24.2 100).bind fun x35 => (chatelaineref43_Cred Fu (w64 (1 + x24.1))).bind fun x46 => (if x35.1 < a1.2.2.2.1 then (some (.inr (x35.2, (8, w64 (1 + x24.1), w64 (1 + x24.1), 0, 0, x46, [])))) else (if x35.1 < w64 (a1.2.2.2.1 + a1.2.2.2.2.1) then (some (.inr (x35.2, (7, w64 (1 + x24.1), w64 (1 + x24.1), 0, 0, x46, [])))) else (if x35.1 < w64 ((w64 (a1.2.2.2.1 + a1.2.2.2.2.1)) + a1.2.2.2.2.2) then (some (.inr (x35.2, (10, w64 (1 + x24.1), w64 (1 + x24.1), 0, 1, x46, [])))) else ((chatelaineref43_Lot_Below Fu x35.2 3).bind fun x85 => if x85.1 = 1 then (some (.inl ((6, w64 (1 + x24.1), 0, 0, 0, x46, []), x85.2))) else (if x85.1 = 2 then (some (.inl ((3, w64 (1 + x24.1), w64 (1 + x24.1), a1.2.2.1, 0, x46, []), x85.2))) else (some (.inr (x85.2, (9, w64 (1 + x24.1), w64 (1 + x24.1), 0, 1, x46, [])))))))) : Option (Sum ((Int × Int × Int × Int × Int × (List UInt8) × (List UInt8)) × ((List UInt8) × Int)) (((List UInt8) × Int) × (Int × Int × Int × Int × Int × (List UInt8) × (List UInt8))))).bind fun o => match o with | .inl r223 => some r223 | .inr (x64, x69) => (chatelaineref43_Lot_Below Fu x64 a1.2.2.1).bind fun x97 => (if x69.1 = 8 then ((chatelaineref43_Lot_Op_l0 Fu a2 Fu 0 x97.2 (x69.1, x69.2.1, x69.2.2.1, x97.1, x69.2.2.2.2.1, x69.2.2.2.2.2.1, x69.2.2.2.2.2.2)).bind fun (x159, x164) => some (x159, x164)) else (some (x97.2, (x69.1, x69.2.1, x69.2.2.1, x97.1, x69.2.2.2.2.1, x69.2.2.2.2.2.1, x69.2.2.2.2.2.2)))).bind fun (x113, x118) => some (x118, x113)
set_option maxRecDepth 100000 in
set_option maxHeartbeats 2000000 in
theorem chatelaineref43_Lot_Op_ok (Fu : Nat) {S0 : Snap} (a0 : (List UInt8) × Int) (g1 : Nat) (A2 : Option Addr) (c3 : Nat) (hs4 : slS ty8 S0 A2 c3 a0.1) (hr5 : r64 a0.2) (csa1 : List Value) (a1 : Int × Int × Int × Int × Int × Int) (hsa1 : (tyP tyI (tyP tyI (tyP tyI (tyP tyI (tyP tyI tyI))))).rep S0 csa1 a1) (a2 : Int) (hra2 : r64 a2) (r : (Int × Int × Int × Int × Int × (List UInt8) × (List UInt8)) × ((List UInt8) × Int)) (hf : chatelaineref43_Lot_Op Fu a0 a1 a2 = some r) (w0 : World) (hm : Mem w0 (ownL ([.box g1 33 ([.slice A2 a0.1.length c3, .int .i64 a0.2])] ++ [.sn S0])) ([.box g1 33 ([.slice A2 a0.1.length c3, .int .i64 a0.2])] ++ [.sn S0]) w0) :
    Calls Try.prog 23 #[.pointer (some ⟨g1, 0, none⟩), .agg csa1.toArray, .int .i64 a2] w0 (Ret w0 S0 [.box g1 33 ([.slice A2 a0.1.length c3, .int .i64 a0.2])] (fun v L1 S1 => ∃ (k224 : List Value), ∃ (A249 : Option Addr), ∃ (c250 : Nat), v = .agg k224.toArray ∧ L1 = [.box g1 33 ([.slice A249 r.2.1.length c250, .int .i64 r.2.2])] ∧ (tyP tyI (tyP tyI (tyP tyI (tyP tyI (tyP tyI (tyP (tyL ty8) (tyL ty8))))))).rep S1 k224 r.1 ∧ slS ty8 S1 A249 c250 r.2.1 ∧ r64 r.2.2 ∧ True)) := by
  unfold chatelaineref43_Lot_Op at hf
  obtain ⟨k6, k7, rfl, ⟨rfl, hr8⟩, ⟨k9, k10, rfl, ⟨rfl, hr11⟩, ⟨k12, k13, rfl, ⟨rfl, hr14⟩, ⟨k15, k16, rfl, ⟨rfl, hr17⟩, ⟨k18, k19, rfl, ⟨rfl, hr20⟩, ⟨rfl, hr21⟩⟩⟩⟩⟩⟩ := hsa1
  obtain ⟨B0, hB0⟩ : ∃ B0, B0 = (ownL ([.box g1 33 ([.slice A2 a0.1.length c3, .int .i64 a0.2])] ++ [.sn S0])) := ⟨_, rfl⟩
  rw [← hB0] at hm
  refine c_enterM Try.func23 rfl 87 rfl (by simp) _ hm _ rfl (fun a h => ?_)
  refine c_rs ?_ -- region 0
  refine s_box h rfl rfl rfl (by decide) rfl (cs := [.int .i64 a1.1, .int .i64 a1.2.1, .int .i64 a1.2.2.1, .int .i64 a1.2.2.2.1, .int .i64 a1.2.2.2.2.1, .int .i64 a1.2.2.2.2.2]) (by rfl) (fun a w g22 h => ?_)
  refine s_alloc h rfl rfl rfl (by decide) zi_api_Op rfl (fun a w g23 h => ?_)
  refine l_end ?_
  refine c_rs ?_ -- region 1
  refine s_move h rfl _ rfl rfl (by decide) rfl (fun a h => ?_)
  refine s_x h rfl rfl (by decide) (x_faddr h.k rfl Try.underlying25 rfl sz_int rfl) (fun a h => ?_)
  refine s_x h rfl rfl (by decide) (x_ld h.k rfl Try.underlying3 rfl rfl ((h.m.cell (i := 1) rfl 1).trans rfl)) (fun a h => ?_)
  obtain ⟨x24, h25, hf⟩ := bsome hf
  have h := h.pick [2, 3, 0, 1] (by decide) rfl
  have hX := chatelaineref43_Lot_Below_ok Fu (S0 := S0) a0 g1 A2 c3 hs4 hr5 a1.2.1 hr11 _ h25 _ (h.sub (Ls := [.box g1 33 ([.slice A2 a0.1.length c3, .int .i64 a0.2])]))
  refine q_callY (Ls := [.box g1 33 ([.slice A2 a0.1.length c3, .int .i64 a0.2])]) hX h (Up.refl _ _ _) rfl rfl rfl (by decide) Try.func10 rfl rfl rfl (fun a w v L1 S27 hR le29 up28 h => ?_)
  obtain ⟨A31, c32, rfl, rfl, hr30, hs33, hr34, _⟩ := hR
  refine s_x h rfl rfl (by decide) (x_bin h.k rfl rfl rfl (ib_add rfl)) (fun a h => ?_)
  refine s_assign h rfl _ rfl rfl (by decide) rfl (fun a h => ?_)
  refine l_end ?_
  refine c_rs ?_ -- region 2
  refine s_move h rfl _ rfl rfl (by decide) rfl (fun a h => ?_)
  obtain ⟨x35, h36, hf⟩ := bsome hf
  have hX := chatelaineref43_Lot_Below_ok Fu (S0 := S27) x24.2 g1 A31 c32 hs33 hr34 100 (show r64 100 from ⟨by decide, by decide⟩) _ h36 _ (h.sub (Ls := [.box g1 33 ([.slice A31 x24.2.1.length c32, .int .i64 x24.2.2])]))
  refine q_callY (Ls := [.box g1 33 ([.slice A31 x24.2.1.length c32, .int .i64 x24.2.2])]) hX h up28 rfl rfl rfl (by decide) Try.func10 rfl rfl rfl (fun a w v L1 S38 hR le40 up39 h => ?_)
  obtain ⟨A42, c43, rfl, rfl, hr41, hs44, hr45, _⟩ := hR
  refine s_assign h rfl _ rfl rfl (by decide) rfl (fun a h => ?_)
  refine l_end ?_
  refine c_rs ?_ -- region 3
  refine s_move h rfl _ rfl rfl (by decide) rfl (fun a h => ?_)
  refine s_move h rfl _ rfl rfl (by decide) rfl (fun a h => ?_)
  refine s_move h rfl _ rfl rfl (by decide) rfl (fun a h => ?_)
  obtain ⟨x46, h47, hf⟩ := bsome hf
  have hX := chatelaineref43_Cred_ok Fu (S0 := snapAll _) (w64 (1 + x24.1)) (w64_r _) _ h47 _ h.startAll
  refine q_callX hX h rfl rfl rfl (by decide) Try.func13 rfl rfl rfl (fun a w v L1 S1 hR hb1 h => ?_)
  obtain ⟨A49, c50, cs51, rfl, rfl, hq52, _⟩ := hR
  have hq53 := hq52.fl (S' := S38) fl_8
  have h := h.pick [0, 2, 1, 3, 4] (by decide) rfl
  obtain ⟨S54, le55, up56, hs57, h⟩ := q_freeze (T := ty8) h up39 hq53
  refine s_x h rfl rfl (by decide) (x_build h.k rfl [(1, .int .i64 (w64 (1 + x24.1))), (2, .int .i64 (w64 (1 + x24.1))), (5, .slice A49 x46.length c50)] rfl ([.int .i64 0, .int .i64 (w64 (1 + x24.1)), .int .i64 (w64 (1 + x24.1)), .int .i64 0, .int .i64 0, .slice A49 x46.length c50, .slice none 0 0]) (by kernel_rfl)) (fun a h => ?_)
  refine s_alloc h rfl rfl rfl (by decide) zi_api_Op rfl (fun a w g58 h => ?_)
  refine s_stW h rfl rfl rfl ag_api_Op rfl (es := [.int .i64 0, .int .i64 (w64 (1 + x24.1)), .int .i64 (w64 (1 + x24.1)), .int .i64 0, .int .i64 0, .slice A49 x46.length c50, .slice none 0 0]) rfl rfl (by simp [Value.oneCell']) 0 rfl rfl (fun a w h => ?_)
  refine l_end ?_
  obtain ⟨o59, hc60, hf⟩ := bsome hf
  refine c_cut (fun a w => ∃ (S61 : Snap), ∃ (x64 : (List UInt8) × Int), ∃ (A65 : Option Addr), ∃ (c66 : Nat), ∃ (x69 : Int × Int × Int × Int × Int × (List UInt8) × (List UInt8)), ∃ (A75 : Option Addr), ∃ (c76 : Nat), ∃ (A78 : Option Addr), ∃ (c79 : Nat), ∃ (cs80 : List Value), (.inr (x64, x69)) = o59 ∧ Snap.le S54 S61 ∧ Up B0 w0 S0 S61 ∧ slS ty8 S61 A65 c66 x64.1 ∧ r64 x64.2 ∧ r64 x69.1 ∧ r64 x69.2.1 ∧ r64 x69.2.2.1 ∧ r64 x69.2.2.2.1 ∧ r64 x69.2.2.2.2.1 ∧ slS ty8 S61 A75 c76 x69.2.2.2.2.2.1 ∧ reps ty8 S61 cs80 x69.2.2.2.2.2.2 ∧ St 87 w0 B0 [(0, .pointer (some ⟨g1, 0, none⟩)), (2, .int .i64 a2), (4, .pointer (some ⟨g22, 0, none⟩)), (6, .pointer (some ⟨g23, 0, none⟩)), (9, .pointer (some ⟨g58, 0, none⟩))] [.box g1 33 ([.slice A65 x64.1.length c66, .int .i64 x64.2]), .box g22 25 ([.int .i64 a1.1, .int .i64 a1.2.1, .int .i64 a1.2.2.1, .int .i64 a1.2.2.2.1, .int .i64 a1.2.2.2.2.1, .int .i64 a1.2.2.2.2.2]), .box g23 51 ([.int .i64 0, .int .i64 0, .int .i64 0, .int .i64 0, .int .i64 0, .slice none 0 0, .slice none 0 0]), .box g58 51 ([.int .i64 x69.1, .int .i64 x69.2.1, .int .i64 x69.2.2.1, .int .i64 x69.2.2.2.1, .int .i64 x69.2.2.2.2.1, .slice A75 x69.2.2.2.2.2.1.length c76, .slice A78 x69.2.2.2.2.2.2.length c79]), .row (.slice A78 x69.2.2.2.2.2.2.length c79) 5 1 x69.2.2.2.2.2.2.length cs80, .sn S61] a w) ?_ ?_
  · refine c_rs ?_ -- region 4
    refine s_move h rfl _ rfl rfl (by decide) rfl (fun a h => ?_)
    refine s_x h rfl rfl (by decide) (x_faddr h.k rfl Try.underlying25 rfl sz_int rfl) (fun a h => ?_)
    refine s_x h rfl rfl (by decide) (x_ld h.k rfl Try.underlying3 rfl rfl ((h.m.cell (i := 4) rfl 3).trans rfl)) (fun a h => ?_)
    refine s_x h rfl rfl (by decide) (x_bin h.k rfl rfl rfl ib_lss) (fun a h => ?_)
    refine l_end ?_
    refine c_cond h rfl (fun hb => ?_) (fun hb => ?_)
    · rw [if_pos (of_decide_eq_true hb)] at hc60
      refine c_r ?_ -- region 5
      refine s_x h rfl rfl (by decide) (x_faddr h.k rfl Try.underlying51 rfl sz_int rfl) (fun a h => ?_)
      refine s_stb h rfl rfl rfl sz_int rfl rfl rfl 0 rfl (by first | decide | simp) (fun a w h => ?_)
      refine l_nil ?_
      refine e_thenN ?_
      have h := h.mem (h.m.nilrow 5 1)
      have h := h.pick [3, 5, 4, 1, 0, 2] (by decide) rfl
      exact ⟨S54, x35.2, A42, c43, (8, w64 (1 + x24.1), w64 (1 + x24.1), 0, 0, x46, []), A49, c50, none, 0, [], (Option.some.inj hc60), (Snap.le.refl _), up56, (hs44.mono le55), hr45, (show r64 8 from ⟨by decide, by decide⟩), (w64_r _), (w64_r _), (show r64 0 from ⟨by decide, by decide⟩), (show r64 0 from ⟨by decide, by decide⟩), hs57, (show reps ty8 S54 [] [] from rfl), h.has (by exact ⟨rfl, rfl, rfl, rfl, rfl, trivial⟩)⟩
    · rw [if_neg (of_decide_eq_false hb)] at hc60
      refine c_rs ?_ -- region 6
      refine s_move h rfl _ rfl rfl (by decide) rfl (fun a h => ?_)
      refine s_x h rfl rfl (by decide) (x_faddr h.k rfl Try.underlying25 rfl sz_int rfl) (fun a h => ?_)
      refine s_x h rfl rfl (by decide) (x_ld h.k rfl Try.underlying3 rfl rfl ((h.m.cell (i := 4) rfl 3).trans rfl)) (fun a h => ?_)
      refine s_x h rfl rfl (by decide) (x_faddr h.k rfl Try.underlying25 rfl sz_int rfl) (fun a h => ?_)
      refine s_x h rfl rfl (by decide) (x_ld h.k rfl Try.underlying3 rfl rfl ((h.m.cell (i := 4) rfl 4).trans rfl)) (fun a h => ?_)
      refine s_x h rfl rfl (by decide) (x_bin h.k rfl rfl rfl (ib_add rfl)) (fun a h => ?_)
      refine s_x h rfl rfl (by decide) (x_bin h.k rfl rfl rfl ib_lss) (fun a h => ?_)
      refine l_end ?_
      refine c_cond h rfl (fun hb => ?_) (fun hb => ?_)
      · rw [if_pos (of_decide_eq_true hb)] at hc60
        refine c_r ?_ -- region 7
        refine s_x h rfl rfl (by decide) (x_faddr h.k rfl Try.underlying51 rfl sz_int rfl) (fun a h => ?_)
        refine s_stb h rfl rfl rfl sz_int rfl rfl rfl 0 rfl (by first | decide | simp) (fun a w h => ?_)
        refine l_nil ?_
        refine e_thenN ?_
        have h := h.mem (h.m.nilrow 5 1)
        have h := h.pick [3, 5, 4, 1, 0, 2] (by decide) rfl
        exact ⟨S54, x35.2, A42, c43, (7, w64 (1 + x24.1), w64 (1 + x24.1), 0, 0, x46, []), A49, c50, none, 0, [], (Option.some.inj hc60), (Snap.le.refl _), up56, (hs44.mono le55), hr45, (show r64 7 from ⟨by decide, by decide⟩), (w64_r _), (w64_r _), (show r64 0 from ⟨by decide, by decide⟩), (show r64 0 from ⟨by decide, by decide⟩), hs57, (show reps ty8 S54 [] [] from rfl), h.has (by exact ⟨rfl, rfl, rfl, rfl, rfl, trivial⟩)⟩
      · rw [if_neg (of_decide_eq_false hb)] at hc60
        refine c_rs ?_ -- region 8
        refine s_move h rfl _ rfl rfl (by decide) rfl (fun a h => ?_)
        refine s_x h rfl rfl (by decide) (x_faddr h.k rfl Try.underlying25 rfl sz_int rfl) (fun a h => ?_)
        refine s_x h rfl rfl (by decide) (x_ld h.k rfl Try.underlying3 rfl rfl ((h.m.cell (i := 4) rfl 3).trans rfl)) (fun a h => ?_)
        refine s_x h rfl rfl (by decide) (x_faddr h.k rfl Try.underlying25 rfl sz_int rfl) (fun a h => ?_)
        refine s_x h rfl rfl (by decide) (x_ld h.k rfl Try.underlying3 rfl rfl ((h.m.cell (i := 4) rfl 4).trans rfl)) (fun a h => ?_)
        refine s_x h rfl rfl (by decide) (x_bin h.k rfl rfl rfl (ib_add rfl)) (fun a h => ?_)
        refine s_x h rfl rfl (by decide) (x_faddr h.k rfl Try.underlying25 rfl sz_int rfl) (fun a h => ?_)
        refine s_x h rfl rfl (by decide) (x_ld h.k rfl Try.underlying3 rfl rfl ((h.m.cell (i := 4) rfl 5).trans rfl)) (fun a h => ?_)
        refine s_x h rfl rfl (by decide) (x_bin h.k rfl rfl rfl (ib_add rfl)) (fun a h => ?_)
        refine s_x h rfl rfl (by decide) (x_bin h.k rfl rfl rfl ib_lss) (fun a h => ?_)
        refine l_end ?_
        refine c_cond h rfl (fun hb => ?_) (fun hb => ?_)
        · rw [if_pos (of_decide_eq_true hb)] at hc60
          refine c_rs ?_ -- region 9
          refine s_x h rfl rfl (by decide) (x_faddr h.k rfl Try.underlying51 rfl sz_int rfl) (fun a h => ?_)
          refine s_stb h rfl rfl rfl sz_int rfl rfl rfl 0 rfl (by first | decide | simp) (fun a w h => ?_)
          refine l_end ?_
          refine c_r ?_ -- region 10
          refine s_x h rfl rfl (by decide) (x_faddr h.k rfl Try.underlying51 rfl sz_int rfl) (fun a h => ?_)
          refine s_stb h rfl rfl rfl sz_int rfl rfl rfl 0 rfl (by first | decide | simp) (fun a w h => ?_)
          refine l_nil ?_
          refine e_thenN ?_
          have h := h.mem (h.m.nilrow 5 1)
          have h := h.pick [3, 5, 4, 1, 0, 2] (by decide) rfl
          exact ⟨S54, x35.2, A42, c43, (10, w64 (1 + x24.1), w64 (1 + x24.1), 0, 1, x46, []), A49, c50, none, 0, [], (Option.some.inj hc60), (Snap.le.refl _), up56, (hs44.mono le55), hr45, (show r64 10 from ⟨by decide, by decide⟩), (w64_r _), (w64_r _), (show r64 0 from ⟨by decide, by decide⟩), (show r64 1 from ⟨by decide, by decide⟩), hs57, (show reps ty8 S54 [] [] from rfl), h.has (by exact ⟨rfl, rfl, rfl, rfl, rfl, trivial⟩)⟩
        · rw [if_neg (of_decide_eq_false hb)] at hc60
          refine c_rs ?_ -- region 11
          refine s_move h rfl _ rfl rfl (by decide) rfl (fun a h => ?_)
          obtain ⟨x85, h86, hc60⟩ := bsome hc60
          have h := h.pick [2, 1, 0, 3, 4] (by decide) rfl
          have hX := chatelaineref43_Lot_Below_ok Fu (S0 := S54) x35.2 g1 A42 c43 (hs44.mono le55) hr45 3 (show r64 3 from ⟨by decide, by decide⟩) _ h86 _ (h.sub (Ls := [.box g1 33 ([.slice A42 x35.2.1.length c43, .int .i64 x35.2.2])]))
          refine q_callY (Ls := [.box g1 33 ([.slice A42 x35.2.1.length c43, .int .i64 x35.2.2])]) hX h up56 rfl rfl rfl (by decide) Try.func10 rfl rfl rfl (fun a w v L1 S88 hR le90 up89 h => ?_)
          obtain ⟨A92, c93, rfl, rfl, hr91, hs94, hr95, _⟩ := hR
          refine s_assign h rfl _ rfl rfl (by decide) rfl (fun a h => ?_)
          refine l_end ?_
          refine wp_seq ?_
          refine c_rs ?_ -- region 12
          refine s_move h rfl _ rfl rfl (by decide) rfl (fun a h => ?_)
          refine s_x h rfl rfl (by decide) (x_bin h.k rfl rfl rfl ib_eql) (fun a h => ?_)
          refine l_end ?_
          refine c_cond h rfl (fun hb => ?_) (fun hb => ?_)
          · rw [if_pos (of_decide_eq_true hb)] at hc60
            refine c_rs ?_ -- region 13
            refine s_x h rfl rfl (by decide) (x_faddr h.k rfl Try.underlying51 rfl sz_int rfl) (fun a h => ?_)
            refine s_stb h rfl rfl rfl sz_int rfl rfl rfl 2 rfl (by first | decide | simp) (fun a w h => ?_)
            refine l_end ?_
            refine c_rs ?_ -- region 14
            refine s_x h rfl rfl (by decide) (x_faddr h.k rfl Try.underlying51 rfl sz_int rfl) (fun a h => ?_)
            refine s_stb h rfl rfl rfl sz_int rfl rfl rfl 2 rfl (by first | decide | simp) (fun a w h => ?_)
            refine l_end ?_
            refine c_rs ?_ -- region 15
            refine s_x h rfl rfl (by decide) (x_ldR h.k rfl ag_api_Op rfl ([.int .i64 6, .int .i64 (w64 (1 + x24.1)), .int .i64 0, .int .i64 0, .int .i64 0, .slice A49 x46.length c50, .slice none 0 0]) rfl (h.m.range0 (i := 2) rfl)) (fun a h => ?_)
            refine s_stW h rfl rfl rfl ag_api_Op rfl (es := [.int .i64 6, .int .i64 (w64 (1 + x24.1)), .int .i64 0, .int .i64 0, .int .i64 0, .slice A49 x46.length c50, .slice none 0 0]) rfl rfl (by simp [Value.oneCell']) 3 rfl rfl (fun a w h => ?_)
            refine l_end ?_
            refine wp_ret ?_
            refine e_thenR ?_
            refine e_thenR ?_
            cases hc60
            try dsimp only at hf
            obtain rfl := Option.some.inj hf
            subst hB0
            exact r_ret1 h rfl (rv_cellA h rfl 3 rfl ag_api_Op rfl) ⟨_, [.box g1 33 ([.slice A92 x85.2.1.length c93, .int .i64 x85.2.2])], _, rfl, ⟨[.int .i64 6, .int .i64 (w64 (1 + x24.1)), .int .i64 0, .int .i64 0, .int .i64 0, .slice A49 x46.length c50, .slice none 0 0], A92, c93, rfl, rfl, ⟨[.int .i64 6], [.int .i64 (w64 (1 + x24.1)), .int .i64 0, .int .i64 0, .int .i64 0, .slice A49 x46.length c50, .slice none 0 0], rfl, ⟨rfl, (show r64 6 from ⟨by decide, by decide⟩)⟩, ⟨[.int .i64 (w64 (1 + x24.1))], [.int .i64 0, .int .i64 0, .int .i64 0, .slice A49 x46.length c50, .slice none 0 0], rfl, ⟨rfl, (w64_r _)⟩, ⟨[.int .i64 0], [.int .i64 0, .int .i64 0, .slice A49 x46.length c50, .slice none 0 0], rfl, ⟨rfl, (show r64 0 from ⟨by decide, by decide⟩)⟩, ⟨[.int .i64 0], [.int .i64 0, .slice A49 x46.length c50, .slice none 0 0], rfl, ⟨rfl, (show r64 0 from ⟨by decide, by decide⟩)⟩, ⟨[.int .i64 0], [.slice A49 x46.length c50, .slice none 0 0], rfl, ⟨rfl, (show r64 0 from ⟨by decide, by decide⟩)⟩, ⟨[.slice A49 x46.length c50], [.slice none 0 0], rfl, ⟨_, _, rfl, (hs57.mono le90)⟩, ⟨_, _, rfl, (slS.nil ty8 _)⟩⟩⟩⟩⟩⟩⟩, hs94, hr95, trivial⟩, rfl, up89, (h.m.pick [0, 1] _ (by decide) rfl)⟩
          · rw [if_neg (of_decide_eq_false hb)] at hc60
            refine wp_skip ?_
            refine e_thenN ?_
            refine wp_seq ?_
            refine c_rs ?_ -- region 16
            refine s_move h rfl _ rfl rfl (by decide) rfl (fun a h => ?_)
            refine s_x h rfl rfl (by decide) (x_bin h.k rfl rfl rfl ib_eql) (fun a h => ?_)
            refine l_end ?_
            refine c_cond h rfl (fun hb => ?_) (fun hb => ?_)
            · rw [if_pos (of_decide_eq_true hb)] at hc60
              refine c_rs ?_ -- region 17
              refine s_x h rfl rfl (by decide) (x_faddr h.k rfl Try.underlying51 rfl sz_int rfl) (fun a h => ?_)
              refine s_stb h rfl rfl rfl sz_int rfl rfl rfl 2 rfl (by first | decide | simp) (fun a w h => ?_)
              refine l_end ?_
              refine c_rs ?_ -- region 18
              refine s_x h rfl rfl (by decide) (x_faddr h.k rfl Try.underlying25 rfl sz_int rfl) (fun a h => ?_)
              refine s_x h rfl rfl (by decide) (x_ld h.k rfl Try.underlying3 rfl rfl ((h.m.cell (i := 4) rfl 2).trans rfl)) (fun a h => ?_)
              refine s_x h rfl rfl (by decide) (x_faddr h.k rfl Try.underlying51 rfl sz_int rfl) (fun a h => ?_)
              refine s_stb h rfl rfl rfl sz_int rfl rfl rfl 2 rfl (by first | decide | simp) (fun a w h => ?_)
              refine l_end ?_
              refine c_rs ?_ -- region 19
              refine s_x h rfl rfl (by decide) (x_ldR h.k rfl ag_api_Op rfl ([.int .i64 3, .int .i64 (w64 (1 + x24.1)), .int .i64 (w64 (1 + x24.1)), .int .i64 a1.2.2.1, .int .i64 0, .slice A49 x46.length c50, .slice none 0 0]) rfl (h.m.range0 (i := 2) rfl)) (fun a h => ?_)
              refine s_stW h rfl rfl rfl ag_api_Op rfl (es := [.int .i64 3, .int .i64 (w64 (1 + x24.1)), .int .i64 (w64 (1 + x24.1)), .int .i64 a1.2.2.1, .int .i64 0, .slice A49 x46.length c50, .slice none 0 0]) rfl rfl (by simp [Value.oneCell']) 3 rfl rfl (fun a w h => ?_)
              refine l_end ?_
              refine wp_ret ?_
              refine e_thenR ?_
              refine e_thenR ?_
              cases hc60
              try dsimp only at hf
              obtain rfl := Option.some.inj hf
              subst hB0
              exact r_ret1 h rfl (rv_cellA h rfl 3 rfl ag_api_Op rfl) ⟨_, [.box g1 33 ([.slice A92 x85.2.1.length c93, .int .i64 x85.2.2])], _, rfl, ⟨[.int .i64 3, .int .i64 (w64 (1 + x24.1)), .int .i64 (w64 (1 + x24.1)), .int .i64 a1.2.2.1, .int .i64 0, .slice A49 x46.length c50, .slice none 0 0], A92, c93, rfl, rfl, ⟨[.int .i64 3], [.int .i64 (w64 (1 + x24.1)), .int .i64 (w64 (1 + x24.1)), .int .i64 a1.2.2.1, .int .i64 0, .slice A49 x46.length c50, .slice none 0 0], rfl, ⟨rfl, (show r64 3 from ⟨by decide, by decide⟩)⟩, ⟨[.int .i64 (w64 (1 + x24.1))], [.int .i64 (w64 (1 + x24.1)), .int .i64 a1.2.2.1, .int .i64 0, .slice A49 x46.length c50, .slice none 0 0], rfl, ⟨rfl, (w64_r _)⟩, ⟨[.int .i64 (w64 (1 + x24.1))], [.int .i64 a1.2.2.1, .int .i64 0, .slice A49 x46.length c50, .slice none 0 0], rfl, ⟨rfl, (w64_r _)⟩, ⟨[.int .i64 a1.2.2.1], [.int .i64 0, .slice A49 x46.length c50, .slice none 0 0], rfl, ⟨rfl, hr14⟩, ⟨[.int .i64 0], [.slice A49 x46.length c50, .slice none 0 0], rfl, ⟨rfl, (show r64 0 from ⟨by decide, by decide⟩)⟩, ⟨[.slice A49 x46.length c50], [.slice none 0 0], rfl, ⟨_, _, rfl, (hs57.mono le90)⟩, ⟨_, _, rfl, (slS.nil ty8 _)⟩⟩⟩⟩⟩⟩⟩, hs94, hr95, trivial⟩, rfl, up89, (h.m.pick [0, 1] _ (by decide) rfl)⟩
            · rw [if_neg (of_decide_eq_false hb)] at hc60
              refine wp_skip ?_
              refine e_thenN ?_
              refine c_rs ?_ -- region 20
              refine s_x h rfl rfl (by decide) (x_faddr h.k rfl Try.underlying51 rfl sz_int rfl) (fun a h => ?_)
              refine s_stb h rfl rfl rfl sz_int rfl rfl rfl 2 rfl (by first | decide | simp) (fun a w h => ?_)
              refine l_end ?_
              refine c_r ?_ -- region 21
              refine s_x h rfl rfl (by decide) (x_faddr h.k rfl Try.underlying51 rfl sz_int rfl) (fun a h => ?_)
              refine s_stb h rfl rfl rfl sz_int rfl rfl rfl 2 rfl (by first | decide | simp) (fun a w h => ?_)
              refine l_nil ?_
              refine e_thenN ?_
              have h := h.mem (h.m.nilrow 5 1)
              have h := h.pick [1, 5, 4, 3, 0, 2] (by decide) rfl
              exact ⟨S88, x85.2, A92, c93, (9, w64 (1 + x24.1), w64 (1 + x24.1), 0, 1, x46, []), A49, c50, none, 0, [], (Option.some.inj hc60), le90, up89, hs94, hr95, (show r64 9 from ⟨by decide, by decide⟩), (w64_r _), (w64_r _), (show r64 0 from ⟨by decide, by decide⟩), (show r64 1 from ⟨by decide, by decide⟩), (hs57.mono le90), (show reps ty8 S88 [] [] from rfl), h.has (by exact ⟨rfl, rfl, rfl, rfl, rfl, trivial⟩)⟩
  · rintro a w ⟨S61, x64, A65, c66, x69, A75, c76, A78, c79, cs80, rfl, le62, up63, hs67, hr68, hr70, hr71, hr72, hr73, hr74, hs77, hq81, h⟩
    try dsimp only at hf
    refine c_rs ?_ -- region 22
    refine s_move h rfl _ rfl rfl (by decide) rfl (fun a h => ?_)
    refine s_x h rfl rfl (by decide) (x_faddr h.k rfl Try.underlying25 rfl sz_int rfl) (fun a h => ?_)
    refine s_x h rfl rfl (by decide) (x_ld h.k rfl Try.underlying3 rfl rfl ((h.m.cell (i := 1) rfl 2).trans rfl)) (fun a h => ?_)
    obtain ⟨x97, h98, hf⟩ := bsome hf
    have h := h.pick [0, 5, 1, 2, 3, 4] (by decide) rfl
    have hX := chatelaineref43_Lot_Below_ok Fu (S0 := S61) x64 g1 A65 c66 hs67 hr68 a1.2.2.1 hr14 _ h98 _ (h.sub (Ls := [.box g1 33 ([.slice A65 x64.1.length c66, .int .i64 x64.2])]))
    refine q_callY (Ls := [.box g1 33 ([.slice A65 x64.1.length c66, .int .i64 x64.2])]) hX h up63 rfl rfl rfl (by decide) Try.func10 rfl rfl rfl (fun a w v L1 S100 hR le102 up101 h => ?_)
    obtain ⟨A104, c105, rfl, rfl, hr103, hs106, hr107, _⟩ := hR
    refine s_x h rfl rfl (by decide) (x_faddr h.k rfl Try.underlying51 rfl sz_int rfl) (fun a h => ?_)
    refine s_stb h rfl rfl rfl sz_int rfl rfl rfl 4 rfl (by first | decide | simp) (fun a w h => ?_)
    refine l_end ?_
    obtain ⟨o108, hc109, hf⟩ := bsome hf
    refine c_cut (fun a w => ∃ (S110 : Snap), ∃ (x113 : (List UInt8) × Int), ∃ (A114 : Option Addr), ∃ (c115 : Nat), ∃ (x118 : Int × Int × Int × Int × Int × (List UInt8) × (List UInt8)), ∃ (A124 : Option Addr), ∃ (c125 : Nat), ∃ (A127 : Option Addr), ∃ (c128 : Nat), ∃ (cs129 : List Value), (x113, x118) = o108 ∧ Snap.le S100 S110 ∧ Up B0 w0 S0 S110 ∧ slS ty8 S110 A114 c115 x113.1 ∧ r64 x113.2 ∧ r64 x118.1 ∧ r64 x118.2.1 ∧ r64 x118.2.2.1 ∧ r64 x118.2.2.2.1 ∧ r64 x118.2.2.2.2.1 ∧ slS ty8 S110 A124 c125 x118.2.2.2.2.2.1 ∧ reps ty8 S110 cs129 x118.2.2.2.2.2.2 ∧ St 87 w0 B0 [(6, .pointer (some ⟨g23, 0, none⟩)), (9, .pointer (some ⟨g58, 0, none⟩))] [.box g1 33 ([.slice A114 x113.1.length c115, .int .i64 x113.2]), .box g23 51 ([.int .i64 0, .int .i64 0, .int .i64 0, .int .i64 0, .int .i64 0, .slice none 0 0, .slice none 0 0]), .box g58 51 ([.int .i64 x118.1, .int .i64 x118.2.1, .int .i64 x118.2.2.1, .int .i64 x118.2.2.2.1, .int .i64 x118.2.2.2.2.1, .slice A124 x118.2.2.2.2.2.1.length c125, .slice A127 x118.2.2.2.2.2.2.length c128]), .row (.slice A127 x118.2.2.2.2.2.2.length c128) 5 1 x118.2.2.2.2.2.2.length cs129, .sn S110] a w) ?_ ?_
    · refine c_rs ?_ -- region 23
      refine s_x h rfl rfl (by decide) (x_faddr h.k rfl Try.underlying51 rfl sz_int rfl) (fun a h => ?_)
      refine s_x h rfl rfl (by decide) (x_ld h.k rfl Try.underlying3 rfl rfl ((h.m.cell (i := 4) rfl 0).trans rfl)) (fun a h => ?_)
      refine s_x h rfl rfl (by decide) (x_bin h.k rfl rfl rfl ib_eql) (fun a h => ?_)
      refine l_end ?_
      refine c_cond h rfl (fun hb => ?_) (fun hb => ?_)
      · rw [if_pos (of_decide_eq_true hb)] at hc109
        refine c_rs ?_ -- region 24
        refine s_assign h rfl _ rfl rfl (by decide) rfl (fun a h => ?_)
        refine l_end ?_
        obtain ⟨o131, hl132, hc109⟩ := bsome hc109
        refine c_fin (fun a w => ∃ (S156 : Snap), ∃ (x159 : (List UInt8) × Int), ∃ (A160 : Option Addr), ∃ (c161 : Nat), ∃ (x164 : Int × Int × Int × Int × Int × (List UInt8) × (List UInt8)), ∃ (A170 : Option Addr), ∃ (c171 : Nat), ∃ (A173 : Option Addr), ∃ (c174 : Nat), ∃ (cs175 : List Value), (x159, x164) = o131 ∧ Snap.le S100 S156 ∧ Up B0 w0 S0 S156 ∧ slS ty8 S156 A160 c161 x159.1 ∧ r64 x159.2 ∧ r64 x164.1 ∧ r64 x164.2.1 ∧ r64 x164.2.2.1 ∧ r64 x164.2.2.2.1 ∧ r64 x164.2.2.2.2.1 ∧ slS ty8 S156 A170 c171 x164.2.2.2.2.2.1 ∧ reps ty8 S156 cs175 x164.2.2.2.2.2.2 ∧ St 87 w0 B0 [(6, .pointer (some ⟨g23, 0, none⟩)), (9, .pointer (some ⟨g58, 0, none⟩))] [.box g1 33 ([.slice A160 x159.1.length c161, .int .i64 x159.2]), .box g23 51 ([.int .i64 0, .int .i64 0, .int .i64 0, .int .i64 0, .int .i64 0, .slice none 0 0, .slice none 0 0]), .box g58 51 ([.int .i64 x164.1, .int .i64 x164.2.1, .int .i64 x164.2.2.1, .int .i64 x164.2.2.2.1, .int .i64 x164.2.2.2.2.1, .slice A170 x164.2.2.2.2.2.1.length c171, .slice A173 x164.2.2.2.2.2.2.length c174]), .row (.slice A173 x164.2.2.2.2.2.2.length c174) 5 1 x164.2.2.2.2.2.2.length cs175, .sn S156] a w) ?_ ?_
        · refine wp_block ?_
          have h := h.pick [0, 3, 4, 5, 1] (by decide) rfl
          refine c_loop (fun m178 a w => ∃ (S133 : Snap), ∃ (x136 : Int), ∃ (x138 : (List UInt8) × Int), ∃ (A139 : Option Addr), ∃ (c140 : Nat), ∃ (x143 : Int × Int × Int × Int × Int × (List UInt8) × (List UInt8)), ∃ (A149 : Option Addr), ∃ (c150 : Nat), ∃ (A152 : Option Addr), ∃ (c153 : Nat), ∃ (cs154 : List Value), chatelaineref43_Lot_Op_l0 Fu a2 m178 x136 x138 x143 = some o131 ∧ Snap.le S100 S133 ∧ Up B0 w0 S0 S133 ∧ r64 x136 ∧ slS ty8 S133 A139 c140 x138.1 ∧ r64 x138.2 ∧ r64 x143.1 ∧ r64 x143.2.1 ∧ r64 x143.2.2.1 ∧ r64 x143.2.2.2.1 ∧ r64 x143.2.2.2.2.1 ∧ slS ty8 S133 A149 c150 x143.2.2.2.2.2.1 ∧ reps ty8 S133 cs154 x143.2.2.2.2.2.2 ∧ St 87 w0 B0 [(0, .pointer (some ⟨g1, 0, none⟩)), (2, .int .i64 a2), (6, .pointer (some ⟨g23, 0, none⟩)), (9, .pointer (some ⟨g58, 0, none⟩)), (11, .int .i64 x136)] [.box g1 33 ([.slice A139 x138.1.length c140, .int .i64 x138.2]), .box g23 51 ([.int .i64 0, .int .i64 0, .int .i64 0, .int .i64 0, .int .i64 0, .slice none 0 0, .slice none 0 0]), .box g58 51 ([.int .i64 x143.1, .int .i64 x143.2.1, .int .i64 x143.2.2.1, .int .i64 x143.2.2.2.1, .int .i64 x143.2.2.2.2.1, .slice A149 x143.2.2.2.2.2.1.length c150, .slice A152 x143.2.2.2.2.2.2.length c153]), .row (.slice A152 x143.2.2.2.2.2.2.length c153) 5 1 x143.2.2.2.2.2.2.length cs154, .sn S133] a w) Fu ⟨S100, 0, x97.2, A104, c105, (x69.1, x69.2.1, x69.2.2.1, x97.1, x69.2.2.2.2.1, x69.2.2.2.2.2.1, x69.2.2.2.2.2.2), A75, c76, A78, c79, cs80, hl132, (Snap.le.refl _), up101, (show r64 0 from ⟨by decide, by decide⟩), hs106, hr107, hr70, hr71, hr72, hr103, hr74, (hs77.mono le102), (hq81.mono le102), h.has (by exact ⟨rfl, rfl, rfl, rfl, rfl, trivial⟩)⟩ (fun m178 a w hI => ?_)
          obtain ⟨S133, x136, x138, A139, c140, x143, A149, c150, A152, c153, cs154, hl177, le134, up135, hr137, hs141, hr142, hr144, hr145, hr146, hr147, hr148, hs151, hq155, h⟩ := hI
          obtain _ | m178 := m178
          · rw [chatelaineref43_Lot_Op_l0] at hl177; cases hl177
          rw [chatelaineref43_Lot_Op_l0] at hl177
          refine wp_seq ?_
          refine c_rs ?_ -- region 25
          refine s_move h rfl _ rfl rfl (by decide) rfl (fun a h => ?_)
          refine s_move h rfl _ rfl rfl (by decide) rfl (fun a h => ?_)
          refine s_x h rfl rfl (by decide) (x_bin h.k rfl rfl rfl ib_lss) (fun a h => ?_)
          refine l_end ?_
          refine c_cond h rfl (fun hb => ?_) (fun hb => ?_)
          · rw [if_pos (of_decide_eq_true hb)] at hl177
            refine wp_skip ?_
            refine e_thenN ?_
            refine wp_seq ?_
            refine wp_block ?_
            -- region 27 draws
            obtain ⟨x179, h180, hl177⟩ := bsome hl177
            obtain ⟨x192, h193, hl177⟩ := bsome hl177
            refine c_fin (fun a w => ∃ (S198 : Snap), ∃ (A201 : Option Addr), ∃ (c202 : Nat), ∃ (A210 : Option Addr), ∃ (c211 : Nat), ∃ (A213 : Option Addr), ∃ (c214 : Nat), ∃ (cs215 : List Value), Snap.le S133 S198 ∧ Up B0 w0 S0 S198 ∧ slS ty8 S198 A201 c202 x179.2.1 ∧ r64 x179.2.2 ∧ r64 ((x143.1, x143.2.1, x143.2.2.1, x143.2.2.2.1, x143.2.2.2.2.1, x143.2.2.2.2.2.1, x192).1) ∧ r64 ((x143.1, x143.2.1, x143.2.2.1, x143.2.2.2.1, x143.2.2.2.2.1, x143.2.2.2.2.2.1, x192).2.1) ∧ r64 ((x143.1, x143.2.1, x143.2.2.1, x143.2.2.2.1, x143.2.2.2.2.1, x143.2.2.2.2.2.1, x192).2.2.1) ∧ r64 ((x143.1, x143.2.1, x143.2.2.1, x143.2.2.2.1, x143.2.2.2.2.1, x143.2.2.2.2.2.1, x192).2.2.2.1) ∧ r64 ((x143.1, x143.2.1, x143.2.2.1, x143.2.2.2.1, x143.2.2.2.2.1, x143.2.2.2.2.2.1, x192).2.2.2.2.1) ∧ slS ty8 S198 A210 c211 ((x143.1, x143.2.1, x143.2.2.1, x143.2.2.2.1, x143.2.2.2.2.1, x143.2.2.2.2.2.1, x192).2.2.2.2.2.1) ∧ reps ty8 S198 cs215 ((x143.1, x143.2.1, x143.2.2.1, x143.2.2.2.1, x143.2.2.2.2.1, x143.2.2.2.2.2.1, x192).2.2.2.2.2.2) ∧ St 87 w0 B0 [(0, .pointer (some ⟨g1, 0, none⟩)), (2, .int .i64 a2), (6, .pointer (some ⟨g23, 0, none⟩)), (9, .pointer (some ⟨g58, 0, none⟩)), (11, .int .i64 x136)] [.box g1 33 ([.slice A201 x179.2.1.length c202, .int .i64 x179.2.2]), .box g23 51 ([.int .i64 0, .int .i64 0, .int .i64 0, .int .i64 0, .int .i64 0, .slice none 0 0, .slice none 0 0]), .box g58 51 ([.int .i64 ((x143.1, x143.2.1, x143.2.2.1, x143.2.2.2.1, x143.2.2.2.2.1, x143.2.2.2.2.2.1, x192).1), .int .i64 ((x143.1, x143.2.1, x143.2.2.1, x143.2.2.2.1, x143.2.2.2.2.1, x143.2.2.2.2.2.1, x192).2.1), .int .i64 ((x143.1, x143.2.1, x143.2.2.1, x143.2.2.2.1, x143.2.2.2.2.1, x143.2.2.2.2.2.1, x192).2.2.1), .int .i64 ((x143.1, x143.2.1, x143.2.2.1, x143.2.2.2.1, x143.2.2.2.2.1, x143.2.2.2.2.2.1, x192).2.2.2.1), .int .i64 ((x143.1, x143.2.1, x143.2.2.1, x143.2.2.2.1, x143.2.2.2.2.1, x143.2.2.2.2.2.1, x192).2.2.2.2.1), .slice A210 ((x143.1, x143.2.1, x143.2.2.1, x143.2.2.2.1, x143.2.2.2.2.1, x143.2.2.2.2.2.1, x192).2.2.2.2.2.1).length c211, .slice A213 ((x143.1, x143.2.1, x143.2.2.1, x143.2.2.2.1, x143.2.2.2.2.1, x143.2.2.2.2.2.1, x192).2.2.2.2.2.2).length c214]), .row (.slice A213 ((x143.1, x143.2.1, x143.2.2.1, x143.2.2.2.1, x143.2.2.2.2.1, x143.2.2.2.2.2.1, x192).2.2.2.2.2.2).length c214) 5 1 ((x143.1, x143.2.1, x143.2.2.1, x143.2.2.2.1, x143.2.2.2.2.1, x143.2.2.2.2.2.1, x192).2.2.2.2.2.2).length cs215, .sn S198] a w) ?_ (fun a w h => ?_)
            · refine d_start h (Mem _ _ _) 9 9 rfl (by kernel_rfl) (fun _ _ _ _ _ h => h) (fun _ h => h.pick [1] [.box g23 51 ([.int .i64 0, .int .i64 0, .int .i64 0, .int .i64 0, .int .i64 0, .slice none 0 0, .slice none 0 0])] (by decide) rfl) (fun Q a w HE HN h HS => ?_)
              refine d_takeP h (fun _ => HS) HN 0 rfl (by kernel_rfl) (by kernel_rfl) (by kernel_rfl) (by decide) rfl rfl (by decide) (fun w' => x_faddr h.k rfl Try.underlying51 rfl sz_Suint8 rfl) (fun a h => ?_)
              refine d_takeP h (fun _ => HS) HN 2 rfl (by kernel_rfl) (by kernel_rfl) (by kernel_rfl) (by decide) rfl rfl (by decide) (fun w' => x_move h.k _ rfl rfl) (fun a h => ?_)
              refine d_two 1 3 (by kernel_rfl) (d_one 1 rfl _ (fun K hK => ?_)) (d_one 3 rfl _ (fun K hK => ?_))
              · refine s_x h rfl rfl (by decide) (x_ld h.k rfl Try.underlying22 rfl rfl ((h.m.cell (i := 2) rfl 6).trans rfl)) (fun a h => ?_)
                refine hK _ _ ⟨fun _ _ => HS, ?_⟩
                clear hK
                refine d_alone 3 rfl (by kernel_rfl) (fun K hK => ?_)
                have h := h.pick [0, 4, 1, 2, 3] (by decide) rfl
                have hX := chatelaineref43_Lot_Below_ok Fu (S0 := S133) x138 g1 A139 c140 hs141 hr142 256 (show r64 256 from ⟨by decide, by decide⟩) _ h180 _ (h.sub (Ls := [.box g1 33 ([.slice A139 x138.1.length c140, .int .i64 x138.2])]))
                refine q_callY (Ls := [.box g1 33 ([.slice A139 x138.1.length c140, .int .i64 x138.2])]) hX h up135 rfl rfl rfl (by decide) Try.func10 rfl rfl rfl (fun a w v L1 S182 hR le184 up183 h => ?_)
                obtain ⟨A186, c187, rfl, rfl, hr185, hs188, hr189, _⟩ := hR
                replace HS := h.m.pick [2] [.box g23 51 ([.int .i64 0, .int .i64 0, .int .i64 0, .int .i64 0, .int .i64 0, .slice none 0 0, .slice none 0 0])] (by decide) rfl
                refine hK _ _ (fun _ _ => HS) ?_
                clear hK
                refine d_takeP h (fun _ => HS) HN 4 rfl (by kernel_rfl) (by kernel_rfl) (by kernel_rfl) (by decide) rfl rfl (by decide) (fun w' => x_convE h.k rfl Try.underlying3 Try.underlying5 rfl (i8_wrap _).symm) (fun a h => ?_)
                refine d_alone 5 rfl (by kernel_rfl) (fun K hK => ?_)
                refine q_bslice (T := ty8) (S := S182) h rfl rfl rfl (by decide) Try.underlying22 zi_uint8 (by decide) (by decide) (by decide) (by decide) [.int .u8 ((i8 x179.1).toNat : Int)] rfl rfl (C := [[.int .u8 ((i8 x179.1).toNat : Int)]]) rfl (xs := [i8 x179.1]) ⟨[.int .u8 ((i8 x179.1).toNat : Int)], _, rfl, rfl, rfl⟩ (by intro c hc; simp only [List.mem_cons, List.not_mem_nil, or_false] at hc; subst hc; rfl) (fun a w A190 h => ?_)
                have hb191 : reps ty8 S182 ([[.int .u8 ((i8 x179.1).toNat : Int)]] : List (List Value)).flatten [i8 x179.1] := ⟨[.int .u8 ((i8 x179.1).toNat : Int)], _, rfl, rfl, rfl⟩
                replace HS := h.m.pick [3] [.box g23 51 ([.int .i64 0, .int .i64 0, .int .i64 0, .int .i64 0, .int .i64 0, .slice none 0 0, .slice none 0 0])] (by decide) rfl
                refine hK _ _ (fun _ _ => HS) ?_
                clear hK
                refine d_alone 6 rfl (by kernel_rfl) (fun K hK => ?_)
                refine q_append (T := ty8) (S := S182) h rfl rfl rfl (by decide) Try.underlying22 zb_uint8 rfl (by decide) rfl 5 rfl (hq155.mono le184) rfl hb191 (h.m.rdRowA (i := 0) rfl) h193 (fun a w A194 c195 cs196 hq197 h => ?_)
                replace HS := h.m.pick [3] [.box g23 51 ([.int .i64 0, .int .i64 0, .int .i64 0, .int .i64 0, .int .i64 0, .slice none 0 0, .slice none 0 0])] (by decide) rfl
                refine hK _ _ (fun _ _ => HS) ?_
                clear hK
                refine d_takeP h (fun _ => HS) HN 7 rfl (by kernel_rfl) (by kernel_rfl) (by kernel_rfl) (by decide) rfl rfl (by decide) (fun w' => x_faddr h.k rfl Try.underlying51 rfl sz_Suint8 rfl) (fun a h => ?_)
                refine d_alone 8 rfl (by kernel_rfl) (fun K hK => ?_)
                refine s_stb h rfl rfl rfl sz_Suint8 rfl rfl rfl 4 rfl (by first | decide | simp) (fun a w h => ?_)
                replace HS := h.m.pick [3] [.box g23 51 ([.int .i64 0, .int .i64 0, .int .i64 0, .int .i64 0, .int .i64 0, .slice none 0 0, .slice none 0 0])] (by decide) rfl
                refine hK _ _ (fun _ _ => HS) ?_
                clear hK
                refine d_done (by kernel_rfl) (HE _ _ ?_) _
                refine e_thenN ?_
                have h := h.pick [1, 3, 4, 5, 2] (by decide) rfl
                exact ⟨S182, A186, c187, A149, c150, A194, c195, cs196, le184, up183, hs188, hr189, hr144, hr145, hr146, hr147, hr148, (hs151.mono le184), hq197, h.has (by exact ⟨rfl, rfl, rfl, rfl, rfl, trivial⟩)⟩
              · have h := h.pick [0, 4, 1, 2, 3] (by decide) rfl
                have hX := chatelaineref43_Lot_Below_ok Fu (S0 := S133) x138 g1 A139 c140 hs141 hr142 256 (show r64 256 from ⟨by decide, by decide⟩) _ h180 _ (h.sub (Ls := [.box g1 33 ([.slice A139 x138.1.length c140, .int .i64 x138.2])]))
                refine q_callY (Ls := [.box g1 33 ([.slice A139 x138.1.length c140, .int .i64 x138.2])]) hX h up135 rfl rfl rfl (by decide) Try.func10 rfl rfl rfl (fun a w v L1 S182 hR le184 up183 h => ?_)
                obtain ⟨A186, c187, rfl, rfl, hr185, hs188, hr189, _⟩ := hR
                replace HS := h.m.pick [2] [.box g23 51 ([.int .i64 0, .int .i64 0, .int .i64 0, .int .i64 0, .int .i64 0, .slice none 0 0, .slice none 0 0])] (by decide) rfl
                refine hK _ _ ⟨fun _ _ => HS, ?_⟩
                clear hK
                refine d_takeP h (fun _ => HS) HN 4 rfl (by kernel_rfl) (by kernel_rfl) (by kernel_rfl) (by decide) rfl rfl (by decide) (fun w' => x_convE h.k rfl Try.underlying3 Try.underlying5 rfl (i8_wrap _).symm) (fun a h => ?_)
                refine d_two 1 5 (by kernel_rfl) (d_one 1 rfl _ (fun K hK => ?_)) (d_one 5 rfl _ (fun K hK => ?_))
                · refine s_x h rfl rfl (by decide) (x_ld h.k rfl Try.underlying22 rfl rfl ((h.m.cell (i := 3) rfl 6).trans rfl)) (fun a h => ?_)
                  refine hK _ _ ⟨fun _ _ => HS, ?_⟩
                  clear hK
                  refine d_alone 5 rfl (by kernel_rfl) (fun K hK => ?_)
                  refine q_bslice (T := ty8) (S := S182) h rfl rfl rfl (by decide) Try.underlying22 zi_uint8 (by decide) (by decide) (by decide) (by decide) [.int .u8 ((i8 x179.1).toNat : Int)] rfl rfl (C := [[.int .u8 ((i8 x179.1).toNat : Int)]]) rfl (xs := [i8 x179.1]) ⟨[.int .u8 ((i8 x179.1).toNat : Int)], _, rfl, rfl, rfl⟩ (by intro c hc; simp only [List.mem_cons, List.not_mem_nil, or_false] at hc; subst hc; rfl) (fun a w A190 h => ?_)
                  have hb191 : reps ty8 S182 ([[.int .u8 ((i8 x179.1).toNat : Int)]] : List (List Value)).flatten [i8 x179.1] := ⟨[.int .u8 ((i8 x179.1).toNat : Int)], _, rfl, rfl, rfl⟩
                  replace HS := h.m.pick [3] [.box g23 51 ([.int .i64 0, .int .i64 0, .int .i64 0, .int .i64 0, .int .i64 0, .slice none 0 0, .slice none 0 0])] (by decide) rfl
                  refine hK _ _ (fun _ _ => HS) ?_
                  clear hK
                  refine d_alone 6 rfl (by kernel_rfl) (fun K hK => ?_)
                  refine q_append (T := ty8) (S := S182) h rfl rfl rfl (by decide) Try.underlying22 zb_uint8 rfl (by decide) rfl 5 rfl (hq155.mono le184) rfl hb191 (h.m.rdRowA (i := 0) rfl) h193 (fun a w A194 c195 cs196 hq197 h => ?_)
                  replace HS := h.m.pick [3] [.box g23 51 ([.int .i64 0, .int .i64 0, .int .i64 0, .int .i64 0, .int .i64 0, .slice none 0 0, .slice none 0 0])] (by decide) rfl
                  refine hK _ _ (fun _ _ => HS) ?_
                  clear hK
                  refine d_takeP h (fun _ => HS) HN 7 rfl (by kernel_rfl) (by kernel_rfl) (by kernel_rfl) (by decide) rfl rfl (by decide) (fun w' => x_faddr h.k rfl Try.underlying51 rfl sz_Suint8 rfl) (fun a h => ?_)
                  refine d_alone 8 rfl (by kernel_rfl) (fun K hK => ?_)
                  refine s_stb h rfl rfl rfl sz_Suint8 rfl rfl rfl 4 rfl (by first | decide | simp) (fun a w h => ?_)
                  replace HS := h.m.pick [3] [.box g23 51 ([.int .i64 0, .int .i64 0, .int .i64 0, .int .i64 0, .int .i64 0, .slice none 0 0, .slice none 0 0])] (by decide) rfl
                  refine hK _ _ (fun _ _ => HS) ?_
                  clear hK
                  refine d_done (by kernel_rfl) (HE _ _ ?_) _
                  refine e_thenN ?_
                  have h := h.pick [1, 3, 4, 5, 2] (by decide) rfl
                  exact ⟨S182, A186, c187, A149, c150, A194, c195, cs196, le184, up183, hs188, hr189, hr144, hr145, hr146, hr147, hr148, (hs151.mono le184), hq197, h.has (by exact ⟨rfl, rfl, rfl, rfl, rfl, trivial⟩)⟩
                · refine q_bslice (T := ty8) (S := S182) h rfl rfl rfl (by decide) Try.underlying22 zi_uint8 (by decide) (by decide) (by decide) (by decide) [.int .u8 ((i8 x179.1).toNat : Int)] rfl rfl (C := [[.int .u8 ((i8 x179.1).toNat : Int)]]) rfl (xs := [i8 x179.1]) ⟨[.int .u8 ((i8 x179.1).toNat : Int)], _, rfl, rfl, rfl⟩ (by intro c hc; simp only [List.mem_cons, List.not_mem_nil, or_false] at hc; subst hc; rfl) (fun a w A190 h => ?_)
                  have hb191 : reps ty8 S182 ([[.int .u8 ((i8 x179.1).toNat : Int)]] : List (List Value)).flatten [i8 x179.1] := ⟨[.int .u8 ((i8 x179.1).toNat : Int)], _, rfl, rfl, rfl⟩
                  replace HS := h.m.pick [3] [.box g23 51 ([.int .i64 0, .int .i64 0, .int .i64 0, .int .i64 0, .int .i64 0, .slice none 0 0, .slice none 0 0])] (by decide) rfl
                  refine hK _ _ ⟨fun _ _ => HS, ?_⟩
                  clear hK
                  refine d_alone 1 rfl (by kernel_rfl) (fun K hK => ?_)
                  refine s_x h rfl rfl (by decide) (x_ld h.k rfl Try.underlying22 rfl rfl ((h.m.cell (i := 4) rfl 6).trans rfl)) (fun a h => ?_)
                  refine hK _ _ (fun _ _ => HS) ?_
                  clear hK
                  refine d_alone 6 rfl (by kernel_rfl) (fun K hK => ?_)
                  refine q_append (T := ty8) (S := S182) h rfl rfl rfl (by decide) Try.underlying22 zb_uint8 rfl (by decide) rfl 5 rfl (hq155.mono le184) rfl hb191 (h.m.rdRowA (i := 0) rfl) h193 (fun a w A194 c195 cs196 hq197 h => ?_)
                  replace HS := h.m.pick [3] [.box g23 51 ([.int .i64 0, .int .i64 0, .int .i64 0, .int .i64 0, .int .i64 0, .slice none 0 0, .slice none 0 0])] (by decide) rfl
                  refine hK _ _ (fun _ _ => HS) ?_
                  clear hK
                  refine d_takeP h (fun _ => HS) HN 7 rfl (by kernel_rfl) (by kernel_rfl) (by kernel_rfl) (by decide) rfl rfl (by decide) (fun w' => x_faddr h.k rfl Try.underlying51 rfl sz_Suint8 rfl) (fun a h => ?_)
                  refine d_alone 8 rfl (by kernel_rfl) (fun K hK => ?_)
                  refine s_stb h rfl rfl rfl sz_Suint8 rfl rfl rfl 4 rfl (by first | decide | simp) (fun a w h => ?_)
                  replace HS := h.m.pick [3] [.box g23 51 ([.int .i64 0, .int .i64 0, .int .i64 0, .int .i64 0, .int .i64 0, .slice none 0 0, .slice none 0 0])] (by decide) rfl
                  refine hK _ _ (fun _ _ => HS) ?_
                  clear hK
                  refine d_done (by kernel_rfl) (HE _ _ ?_) _
                  refine e_thenN ?_
                  have h := h.pick [1, 3, 4, 5, 2] (by decide) rfl
                  exact ⟨S182, A186, c187, A149, c150, A194, c195, cs196, le184, up183, hs188, hr189, hr144, hr145, hr146, hr147, hr148, (hs151.mono le184), hq197, h.has (by exact ⟨rfl, rfl, rfl, rfl, rfl, trivial⟩)⟩
            obtain ⟨S198, A201, c202, A210, c211, A213, c214, cs215, le199, up200, hs203, hr204, hr205, hr206, hr207, hr208, hr209, hs212, hq216, h⟩ := h
            refine e_blkN ?_
            refine e_thenN ?_
            refine c_r ?_ -- region 26
            refine s_move h rfl _ rfl rfl (by decide) rfl (fun a h => ?_)
            refine s_x h rfl rfl (by decide) (x_bin h.k rfl rfl rfl (ib_add rfl)) (fun a h => ?_)
            refine s_assign h rfl _ rfl rfl (by decide) rfl (fun a h => ?_)
            refine l_nil ?_
            exact e_thenN ⟨m178, Nat.lt_succ_self _, S198, w64 (x136 + 1), x179.2, A201, c202, (x143.1, x143.2.1, x143.2.2.1, x143.2.2.2.1, x143.2.2.2.2.1, x143.2.2.2.2.2.1, x192), A210, c211, A213, c214, cs215, hl177, (le134.trans le199), up200, (w64_r _), hs203, hr204, hr205, hr206, hr207, hr208, hr209, hs212, hq216, h.has (by exact ⟨rfl, rfl, rfl, rfl, rfl, trivial⟩)⟩
          · rw [if_neg (of_decide_eq_false hb)] at hl177
            refine wp_exit ?_
            refine e_thenX ?_
            refine e_thenX ?_
            refine e_blkX ?_
            refine e_thenN ?_
            exact ⟨S133, x138, A139, c140, x143, A149, c150, A152, c153, cs154, (Option.some.inj hl177), le134, up135, hs141, hr142, hr144, hr145, hr146, hr147, hr148, hs151, hq155, h.has (by exact ⟨rfl, rfl, trivial⟩)⟩
        · rintro a w ⟨S156, x159, A160, c161, x164, A170, c171, A173, c174, cs175, rfl, le157, up158, hs162, hr163, hr165, hr166, hr167, hr168, hr169, hs172, hq176, h⟩
          try dsimp only at hc109
          refine e_thenN ?_
          exact ⟨S156, x159, A160, c161, x164, A170, c171, A173, c174, cs175, (Option.some.inj hc109), le157, up158, hs162, hr163, hr165, hr166, hr167, hr168, hr169, hs172, hq176, h.has (by exact ⟨rfl, rfl, trivial⟩)⟩
      · rw [if_neg (of_decide_eq_false hb)] at hc109
        refine wp_skip ?_
        refine e_thenN ?_
        have h := h.pick [0, 3, 4, 5, 1] (by decide) rfl
        exact ⟨S100, x97.2, A104, c105, (x69.1, x69.2.1, x69.2.2.1, x97.1, x69.2.2.2.2.1, x69.2.2.2.2.2.1, x69.2.2.2.2.2.2), A75, c76, A78, c79, cs80, (Option.some.inj hc109), (Snap.le.refl _), up101, hs106, hr107, hr70, hr71, hr72, hr103, hr74, (hs77.mono le102), (hq81.mono le102), h.has (by exact ⟨rfl, rfl, trivial⟩)⟩
    · rintro a w ⟨S110, x113, A114, c115, x118, A124, c125, A127, c128, cs129, rfl, le111, up112, hs116, hr117, hr119, hr120, hr121, hr122, hr123, hs126, hq130, h⟩
      try dsimp only at hf
      refine c_rs ?_ -- region 28
      refine s_x h rfl rfl (by decide) (x_ldR h.k rfl ag_api_Op rfl ([.int .i64 x118.1, .int .i64 x118.2.1, .int .i64 x118.2.2.1, .int .i64 x118.2.2.2.1, .int .i64 x118.2.2.2.2.1, .slice A124 x118.2.2.2.2.2.1.length c125, .slice A127 x118.2.2.2.2.2.2.length c128]) rfl (h.m.range0 (i := 2) rfl)) (fun a h => ?_)
      refine s_stW h rfl rfl rfl ag_api_Op rfl (es := [.int .i64 x118.1, .int .i64 x118.2.1, .int .i64 x118.2.2.1, .int .i64 x118.2.2.2.1, .int .i64 x118.2.2.2.2.1, .slice A124 x118.2.2.2.2.2.1.length c125, .slice A127 x118.2.2.2.2.2.2.length c128]) rfl rfl (by simp [Value.oneCell']) 1 rfl rfl (fun a w h => ?_)
      refine l_end ?_
      refine wp_ret ?_
      obtain rfl := Option.some.inj hf
      have h := h.pick [3, 4, 0, 1, 2] (by decide) rfl
      obtain ⟨S218, le219, up220, hs221, h⟩ := q_freeze (T := ty8) h up112 hq130
      subst hB0
      exact r_ret1 h rfl (rv_cellA h rfl 2 rfl ag_api_Op rfl) ⟨_, [.box g1 33 ([.slice A114 x113.1.length c115, .int .i64 x113.2])], _, rfl, ⟨[.int .i64 x118.1, .int .i64 x118.2.1, .int .i64 x118.2.2.1, .int .i64 x118.2.2.2.1, .int .i64 x118.2.2.2.2.1, .slice A124 x118.2.2.2.2.2.1.length c125, .slice A127 x118.2.2.2.2.2.2.length c128], A114, c115, rfl, rfl, ⟨[.int .i64 x118.1], [.int .i64 x118.2.1, .int .i64 x118.2.2.1, .int .i64 x118.2.2.2.1, .int .i64 x118.2.2.2.2.1, .slice A124 x118.2.2.2.2.2.1.length c125, .slice A127 x118.2.2.2.2.2.2.length c128], rfl, ⟨rfl, hr119⟩, ⟨[.int .i64 x118.2.1], [.int .i64 x118.2.2.1, .int .i64 x118.2.2.2.1, .int .i64 x118.2.2.2.2.1, .slice A124 x118.2.2.2.2.2.1.length c125, .slice A127 x118.2.2.2.2.2.2.length c128], rfl, ⟨rfl, hr120⟩, ⟨[.int .i64 x118.2.2.1], [.int .i64 x118.2.2.2.1, .int .i64 x118.2.2.2.2.1, .slice A124 x118.2.2.2.2.2.1.length c125, .slice A127 x118.2.2.2.2.2.2.length c128], rfl, ⟨rfl, hr121⟩, ⟨[.int .i64 x118.2.2.2.1], [.int .i64 x118.2.2.2.2.1, .slice A124 x118.2.2.2.2.2.1.length c125, .slice A127 x118.2.2.2.2.2.2.length c128], rfl, ⟨rfl, hr122⟩, ⟨[.int .i64 x118.2.2.2.2.1], [.slice A124 x118.2.2.2.2.2.1.length c125, .slice A127 x118.2.2.2.2.2.2.length c128], rfl, ⟨rfl, hr123⟩, ⟨[.slice A124 x118.2.2.2.2.2.1.length c125], [.slice A127 x118.2.2.2.2.2.2.length c128], rfl, ⟨_, _, rfl, (hs126.mono le219)⟩, ⟨_, _, rfl, hs221⟩⟩⟩⟩⟩⟩⟩, (hs116.mono le219), hr117, trivial⟩, rfl, up220, (h.m.pick [1, 0] _ (by decide) rfl)⟩
def chatelaineref22_Right (Fu : Nat) (a0 : List UInt8) : Option Bool :=
  some ((decide (8 ≤ (a0.length : Int))) && (decide ((a0.length : Int) ≤ 64)))
set_option maxRecDepth 100000 in
set_option maxHeartbeats 2000000 in
theorem chatelaineref22_Right_ok (Fu : Nat) {S0 : Snap} (Aa0 : Option Addr) (ca0 : Nat) (a0 : List UInt8) (hsa0 : slS ty8 S0 Aa0 ca0 a0) (r : Bool) (hf : chatelaineref22_Right Fu a0 = some r) (w0 : World) (hm : Mem w0 (ownL ([] ++ [.sn S0])) ([] ++ [.sn S0]) w0) :
    Calls Try.prog 20 #[.slice Aa0 a0.length ca0] w0 (Ret w0 S0 [] (fun v L1 S1 => v = .bool r ∧ L1 = [] ∧ True)) := by
  unfold chatelaineref22_Right at hf
  refine c_enterM Try.func20 rfl 11 rfl (by simp) _ hm _ rfl (fun a h => ?_)
  refine c_rs ?_ -- region 0
  refine s_assign h rfl _ rfl rfl (by decide) rfl (fun a h => ?_)
  refine l_end ?_
  refine c_rs ?_ -- region 1
  refine s_move h rfl _ rfl rfl (by decide) rfl (fun a h => ?_)
  refine s_x h rfl rfl (by decide) (x_len h.k rfl Try.underlying22 rfl) (fun a h => ?_)
  refine s_x h rfl rfl (by decide) (x_bin h.k rfl rfl rfl ib_geq) (fun a h => ?_)
  refine s_move h rfl _ rfl rfl (by decide) rfl (fun a h => ?_)
  refine q_grp h 4 (t := 6) 10 ((decide (8 ≤ (a0.length : Int))) && (decide ((a0.length : Int) ≤ 64))) rfl (fun hB3 => ?_) (fun hB3 => ?_) (fun a w h => ?_)
  · refine g_yes h rfl rfl rfl rfl hB3 ?_
    refine s_move h rfl _ rfl rfl (by decide) rfl (fun a h => ?_)
    refine g_yes h rfl rfl rfl rfl hB3 ?_
    refine s_x h rfl rfl (by decide) (x_len h.k rfl Try.underlying22 rfl) (fun a h => ?_)
    refine g_yes h rfl rfl rfl rfl hB3 ?_
    refine s_x h rfl rfl (by decide) (x_bin h.k rfl rfl rfl ib_leq) (fun a h => ?_)
    refine s_x h rfl rfl (by decide) (x_pick (u' := undef) h.k rfl rfl (fun _ => rfl) (fun hh => absurd (hB3.symm.trans hh) (by decide))) (fun a h => ?_)
    exact (h.mid 3 rfl).val (by first | rfl | (rw [hB3]; first | rfl | simp))
  · refine g_no h rfl rfl rfl rfl hB3 rfl (by decide) (fun a h => ?_)
    refine g_no h rfl rfl rfl rfl hB3 rfl (by decide) (fun a h => ?_)
    refine g_no h rfl rfl rfl rfl hB3 rfl (by decide) (fun a h => ?_)
    refine s_x h rfl rfl (by decide) (x_pick (u' := undef) h.k rfl rfl (fun hh => absurd (hB3.symm.trans hh) (by decide)) (fun _ => rfl)) (fun a h => ?_)
    exact (h.mid 3 rfl).val (by first | rfl | (rw [hB3]; first | rfl | simp))
  refine s_assign h rfl _ rfl rfl (by decide) rfl (fun a h => ?_)
  refine l_end ?_
  refine wp_ret ?_
  obtain rfl := Option.some.inj hf
  exact r_ret1 h rfl (rv_tmp h rfl) ⟨_, [], _, rfl, ⟨rfl, rfl, trivial⟩, rfl, (Up.refl _ _ _), h.m⟩
end Go.Proofs.Ytcjleeclpmgbjaa
