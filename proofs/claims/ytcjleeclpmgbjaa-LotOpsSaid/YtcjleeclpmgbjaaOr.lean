/- Or: Go functions as plain functions, and that they are so (written by xt.py). -/
import Derived.Test.YtcjleeclpmgbjaaFr
import Derived.Test.YtcjleeclpmgbjaaEb
set_option linter.unusedVariables false
set_option linter.unusedSimpArgs false
namespace Go.Proofs.Ytcjleeclpmgbjaa
open Go.RowKit
def chatelaineref29_Same (Fu : Nat) (a0 : Int × Int × Int × Int × Int × (List UInt8) × (List UInt8)) (a1 : Int × Int × Int × Int × Int × (List UInt8) × (List UInt8)) : Option Bool :=
  (if (((((decide (a0.1 = a1.1)) && (decide (a0.2.1 = a1.2.1))) && (decide (a0.2.2.1 = a1.2.2.1))) && (decide (a0.2.2.2.1 = a1.2.2.2.1))) && (decide (a0.2.2.2.2.1 = a1.2.2.2.2.1))) = true then (chatelaineref01_Same Fu a0.2.2.2.2.2.1 a1.2.2.2.2.2.1).bind fun x60 => some x60 else some false).bind fun z58 => (if z58 = true then (chatelaineref01_Same Fu a0.2.2.2.2.2.2 a1.2.2.2.2.2.2).bind fun x66 => some x66 else some false).bind fun z64 => some z64
set_option maxRecDepth 100000 in
set_option maxHeartbeats 2000000 in
theorem chatelaineref29_Same_ok (Fu : Nat) {S0 : Snap} (csa0 : List Value) (a0 : Int × Int × Int × Int × Int × (List UInt8) × (List UInt8)) (hsa0 : (tyP tyI (tyP tyI (tyP tyI (tyP tyI (tyP tyI (tyP (tyL ty8) (tyL ty8))))))).rep S0 csa0 a0) (csa1 : List Value) (a1 : Int × Int × Int × Int × Int × (List UInt8) × (List UInt8)) (hsa1 : (tyP tyI (tyP tyI (tyP tyI (tyP tyI (tyP tyI (tyP (tyL ty8) (tyL ty8))))))).rep S0 csa1 a1) (r : Bool) (hf : chatelaineref29_Same Fu a0 a1 = some r) (w0 : World) (hm : Mem w0 (ownL ([] ++ [.sn S0])) ([] ++ [.sn S0]) w0) :
    Calls Try.prog 22 #[.agg csa0.toArray, .agg csa1.toArray] w0 (Ret w0 S0 [] (fun v L1 S1 => v = .bool r ∧ L1 = [] ∧ True)) := by
  unfold chatelaineref29_Same at hf
  obtain ⟨k1, k2, rfl, ⟨rfl, hr3⟩, ⟨k4, k5, rfl, ⟨rfl, hr6⟩, ⟨k7, k8, rfl, ⟨rfl, hr9⟩, ⟨k10, k11, rfl, ⟨rfl, hr12⟩, ⟨k13, k14, rfl, ⟨rfl, hr15⟩, ⟨k16, k17, rfl, ⟨A18, c19, rfl, hs20⟩, ⟨A21, c22, rfl, hs23⟩⟩⟩⟩⟩⟩⟩ := hsa0
  obtain ⟨k24, k25, rfl, ⟨rfl, hr26⟩, ⟨k27, k28, rfl, ⟨rfl, hr29⟩, ⟨k30, k31, rfl, ⟨rfl, hr32⟩, ⟨k33, k34, rfl, ⟨rfl, hr35⟩, ⟨k36, k37, rfl, ⟨rfl, hr38⟩, ⟨k39, k40, rfl, ⟨A41, c42, rfl, hs43⟩, ⟨A44, c45, rfl, hs46⟩⟩⟩⟩⟩⟩⟩ := hsa1
  refine c_enterM Try.func22 rfl 52 rfl (by simp) _ hm _ rfl (fun a h => ?_)
  refine c_rs ?_ -- region 0
  refine s_box h rfl rfl rfl (by decide) rfl (cs := [.int .i64 a0.1, .int .i64 a0.2.1, .int .i64 a0.2.2.1, .int .i64 a0.2.2.2.1, .int .i64 a0.2.2.2.2.1, .slice A18 a0.2.2.2.2.2.1.length c19, .slice A21 a0.2.2.2.2.2.2.length c22]) (by rfl) (fun a w g47 h => ?_)
  refine s_box h rfl rfl rfl (by decide) rfl (cs := [.int .i64 a1.1, .int .i64 a1.2.1, .int .i64 a1.2.2.1, .int .i64 a1.2.2.2.1, .int .i64 a1.2.2.2.2.1, .slice A41 a1.2.2.2.2.2.1.length c42, .slice A44 a1.2.2.2.2.2.2.length c45]) (by rfl) (fun a w g48 h => ?_)
  refine s_assign h rfl _ rfl rfl (by decide) rfl (fun a h => ?_)
  refine l_end ?_
  refine c_rs ?_ -- region 1
  refine s_x h rfl rfl (by decide) (x_faddr h.k rfl Try.underlying51 rfl sz_int rfl) (fun a h => ?_)
  refine s_x h rfl rfl (by decide) (x_ld h.k rfl Try.underlying3 rfl rfl ((h.m.cell (i := 1) rfl 0).trans rfl)) (fun a h => ?_)
  refine s_x h rfl rfl (by decide) (x_faddr h.k rfl Try.underlying51 rfl sz_int rfl) (fun a h => ?_)
  refine s_x h rfl rfl (by decide) (x_ld h.k rfl Try.underlying3 rfl rfl ((h.m.cell (i := 0) rfl 0).trans rfl)) (fun a h => ?_)
  refine s_x h rfl rfl (by decide) (x_bin h.k rfl rfl rfl ib_eql) (fun a h => ?_)
  refine s_move h rfl _ rfl rfl (by decide) rfl (fun a h => ?_)
  refine q_grp h 6 (t := 10) 16 ((decide (a0.1 = a1.1)) && (decide (a0.2.1 = a1.2.1))) rfl (fun hB5 => ?_) (fun hB5 => ?_) (fun a w h => ?_)
  · refine g_yes h rfl rfl rfl rfl hB5 ?_
    refine s_x h rfl rfl (by decide) (x_faddr h.k rfl Try.underlying51 rfl sz_int rfl) (fun a h => ?_)
    refine g_yes h rfl rfl rfl rfl hB5 ?_
    refine s_x h rfl rfl (by decide) (x_ld h.k rfl Try.underlying3 rfl rfl ((h.m.cell (i := 1) rfl 1).trans rfl)) (fun a h => ?_)
    refine g_yes h rfl rfl rfl rfl hB5 ?_
    refine s_x h rfl rfl (by decide) (x_faddr h.k rfl Try.underlying51 rfl sz_int rfl) (fun a h => ?_)
    refine g_yes h rfl rfl rfl rfl hB5 ?_
    refine s_x h rfl rfl (by decide) (x_ld h.k rfl Try.underlying3 rfl rfl ((h.m.cell (i := 0) rfl 1).trans rfl)) (fun a h => ?_)
    refine g_yes h rfl rfl rfl rfl hB5 ?_
    refine s_x h rfl rfl (by decide) (x_bin h.k rfl rfl rfl ib_eql) (fun a h => ?_)
    refine s_x h rfl rfl (by decide) (x_pick (u' := undef) h.k rfl rfl (fun _ => rfl) (fun hh => absurd (hB5.symm.trans hh) (by decide))) (fun a h => ?_)
    exact (h.mid 5 rfl).val (by first | rfl | (rw [hB5]; first | rfl | simp))
  · refine g_no h rfl rfl rfl rfl hB5 rfl (by decide) (fun a h => ?_)
    refine g_no h rfl rfl rfl rfl hB5 rfl (by decide) (fun a h => ?_)
    refine g_no h rfl rfl rfl rfl hB5 rfl (by decide) (fun a h => ?_)
    refine g_no h rfl rfl rfl rfl hB5 rfl (by decide) (fun a h => ?_)
    refine g_no h rfl rfl rfl rfl hB5 rfl (by decide) (fun a h => ?_)
    refine s_x h rfl rfl (by decide) (x_pick (u' := undef) h.k rfl rfl (fun hh => absurd (hB5.symm.trans hh) (by decide)) (fun _ => rfl)) (fun a h => ?_)
    exact (h.mid 5 rfl).val (by first | rfl | (rw [hB5]; first | rfl | simp))
  refine s_move h rfl _ rfl rfl (by decide) rfl (fun a h => ?_)
  refine q_grp h 6 (t := 17) 23 (((decide (a0.1 = a1.1)) && (decide (a0.2.1 = a1.2.1))) && (decide (a0.2.2.1 = a1.2.2.1))) rfl (fun hB12 => ?_) (fun hB12 => ?_) (fun a w h => ?_)
  · refine g_yes h rfl rfl rfl rfl hB12 ?_
    refine s_x h rfl rfl (by decide) (x_faddr h.k rfl Try.underlying51 rfl sz_int rfl) (fun a h => ?_)
    refine g_yes h rfl rfl rfl rfl hB12 ?_
    refine s_x h rfl rfl (by decide) (x_ld h.k rfl Try.underlying3 rfl rfl ((h.m.cell (i := 1) rfl 2).trans rfl)) (fun a h => ?_)
    refine g_yes h rfl rfl rfl rfl hB12 ?_
    refine s_x h rfl rfl (by decide) (x_faddr h.k rfl Try.underlying51 rfl sz_int rfl) (fun a h => ?_)
    refine g_yes h rfl rfl rfl rfl hB12 ?_
    refine s_x h rfl rfl (by decide) (x_ld h.k rfl Try.underlying3 rfl rfl ((h.m.cell (i := 0) rfl 2).trans rfl)) (fun a h => ?_)
    refine g_yes h rfl rfl rfl rfl hB12 ?_
    refine s_x h rfl rfl (by decide) (x_bin h.k rfl rfl rfl ib_eql) (fun a h => ?_)
    refine s_x h rfl rfl (by decide) (x_pick (u' := undef) h.k rfl rfl (fun _ => rfl) (fun hh => absurd (hB12.symm.trans hh) (by decide))) (fun a h => ?_)
    exact (h.mid 5 rfl).val (by first | rfl | (rw [hB12]; first | rfl | simp))
  · refine g_no h rfl rfl rfl rfl hB12 rfl (by decide) (fun a h => ?_)
    refine g_no h rfl rfl rfl rfl hB12 rfl (by decide) (fun a h => ?_)
    refine g_no h rfl rfl rfl rfl hB12 rfl (by decide) (fun a h => ?_)
    refine g_no h rfl rfl rfl rfl hB12 rfl (by decide) (fun a h => ?_)
    refine g_no h rfl rfl rfl rfl hB12 rfl (by decide) (fun a h => ?_)
    refine s_x h rfl rfl (by decide) (x_pick (u' := undef) h.k rfl rfl (fun hh => absurd (hB12.symm.trans hh) (by decide)) (fun _ => rfl)) (fun a h => ?_)
    exact (h.mid 5 rfl).val (by first | rfl | (rw [hB12]; first | rfl | simp))
  refine s_move h rfl _ rfl rfl (by decide) rfl (fun a h => ?_)
  refine q_grp h 6 (t := 24) 30 ((((decide (a0.1 = a1.1)) && (decide (a0.2.1 = a1.2.1))) && (decide (a0.2.2.1 = a1.2.2.1))) && (decide (a0.2.2.2.1 = a1.2.2.2.1))) rfl (fun hB19 => ?_) (fun hB19 => ?_) (fun a w h => ?_)
  · refine g_yes h rfl rfl rfl rfl hB19 ?_
    refine s_x h rfl rfl (by decide) (x_faddr h.k rfl Try.underlying51 rfl sz_int rfl) (fun a h => ?_)
    refine g_yes h rfl rfl rfl rfl hB19 ?_
    refine s_x h rfl rfl (by decide) (x_ld h.k rfl Try.underlying3 rfl rfl ((h.m.cell (i := 1) rfl 3).trans rfl)) (fun a h => ?_)
    refine g_yes h rfl rfl rfl rfl hB19 ?_
    refine s_x h rfl rfl (by decide) (x_faddr h.k rfl Try.underlying51 rfl sz_int rfl) (fun a h => ?_)
    refine g_yes h rfl rfl rfl rfl hB19 ?_
    refine s_x h rfl rfl (by decide) (x_ld h.k rfl Try.underlying3 rfl rfl ((h.m.cell (i := 0) rfl 3).trans rfl)) (fun a h => ?_)
    refine g_yes h rfl rfl rfl rfl hB19 ?_
    refine s_x h rfl rfl (by decide) (x_bin h.k rfl rfl rfl ib_eql) (fun a h => ?_)
    refine s_x h rfl rfl (by decide) (x_pick (u' := undef) h.k rfl rfl (fun _ => rfl) (fun hh => absurd (hB19.symm.trans hh) (by decide))) (fun a h => ?_)
    exact (h.mid 5 rfl).val (by first | rfl | (rw [hB19]; first | rfl | simp))
  · refine g_no h rfl rfl rfl rfl hB19 rfl (by decide) (fun a h => ?_)
    refine g_no h rfl rfl rfl rfl hB19 rfl (by decide) (fun a h => ?_)
    refine g_no h rfl rfl rfl rfl hB19 rfl (by decide) (fun a h => ?_)
    refine g_no h rfl rfl rfl rfl hB19 rfl (by decide) (fun a h => ?_)
    refine g_no h rfl rfl rfl rfl hB19 rfl (by decide) (fun a h => ?_)
    refine s_x h rfl rfl (by decide) (x_pick (u' := undef) h.k rfl rfl (fun hh => absurd (hB19.symm.trans hh) (by decide)) (fun _ => rfl)) (fun a h => ?_)
    exact (h.mid 5 rfl).val (by first | rfl | (rw [hB19]; first | rfl | simp))
  refine s_move h rfl _ rfl rfl (by decide) rfl (fun a h => ?_)
  refine q_grp h 6 (t := 31) 37 (((((decide (a0.1 = a1.1)) && (decide (a0.2.1 = a1.2.1))) && (decide (a0.2.2.1 = a1.2.2.1))) && (decide (a0.2.2.2.1 = a1.2.2.2.1))) && (decide (a0.2.2.2.2.1 = a1.2.2.2.2.1))) rfl (fun hB26 => ?_) (fun hB26 => ?_) (fun a w h => ?_)
  · refine g_yes h rfl rfl rfl rfl hB26 ?_
    refine s_x h rfl rfl (by decide) (x_faddr h.k rfl Try.underlying51 rfl sz_int rfl) (fun a h => ?_)
    refine g_yes h rfl rfl rfl rfl hB26 ?_
    refine s_x h rfl rfl (by decide) (x_ld h.k rfl Try.underlying3 rfl rfl ((h.m.cell (i := 1) rfl 4).trans rfl)) (fun a h => ?_)
    refine g_yes h rfl rfl rfl rfl hB26 ?_
    refine s_x h rfl rfl (by decide) (x_faddr h.k rfl Try.underlying51 rfl sz_int rfl) (fun a h => ?_)
    refine g_yes h rfl rfl rfl rfl hB26 ?_
    refine s_x h rfl rfl (by decide) (x_ld h.k rfl Try.underlying3 rfl rfl ((h.m.cell (i := 0) rfl 4).trans rfl)) (fun a h => ?_)
    refine g_yes h rfl rfl rfl rfl hB26 ?_
    refine s_x h rfl rfl (by decide) (x_bin h.k rfl rfl rfl ib_eql) (fun a h => ?_)
    refine s_x h rfl rfl (by decide) (x_pick (u' := undef) h.k rfl rfl (fun _ => rfl) (fun hh => absurd (hB26.symm.trans hh) (by decide))) (fun a h => ?_)
    exact (h.mid 5 rfl).val (by first | rfl | (rw [hB26]; first | rfl | simp))
  · refine g_no h rfl rfl rfl rfl hB26 rfl (by decide) (fun a h => ?_)
    refine g_no h rfl rfl rfl rfl hB26 rfl (by decide) (fun a h => ?_)
    refine g_no h rfl rfl rfl rfl hB26 rfl (by decide) (fun a h => ?_)
    refine g_no h rfl rfl rfl rfl hB26 rfl (by decide) (fun a h => ?_)
    refine g_no h rfl rfl rfl rfl hB26 rfl (by decide) (fun a h => ?_)
    refine s_x h rfl rfl (by decide) (x_pick (u' := undef) h.k rfl rfl (fun hh => absurd (hB26.symm.trans hh) (by decide)) (fun _ => rfl)) (fun a h => ?_)
    exact (h.mid 5 rfl).val (by first | rfl | (rw [hB26]; first | rfl | simp))
  refine s_move h rfl _ rfl rfl (by decide) rfl (fun a h => ?_)
  obtain ⟨z58, hz57, hf⟩ := bsome hf
  refine q_grp h 6 (t := 38) 44 z58 rfl (fun hB33 => ?_) (fun hB33 => ?_) (fun a w h => ?_)
  · rw [if_pos hB33] at hz57
    refine g_yes h rfl rfl rfl rfl hB33 ?_
    refine s_x h rfl rfl (by decide) (x_faddr h.k rfl Try.underlying51 rfl sz_Suint8 rfl) (fun a h => ?_)
    refine g_yes h rfl rfl rfl rfl hB33 ?_
    refine s_x h rfl rfl (by decide) (x_ld h.k rfl Try.underlying22 rfl rfl ((h.m.cell (i := 1) rfl 5).trans rfl)) (fun a h => ?_)
    refine g_yes h rfl rfl rfl rfl hB33 ?_
    refine s_x h rfl rfl (by decide) (x_faddr h.k rfl Try.underlying51 rfl sz_Suint8 rfl) (fun a h => ?_)
    refine g_yes h rfl rfl rfl rfl hB33 ?_
    refine s_x h rfl rfl (by decide) (x_ld h.k rfl Try.underlying22 rfl rfl ((h.m.cell (i := 0) rfl 5).trans rfl)) (fun a h => ?_)
    refine g_yes h rfl rfl rfl rfl hB33 ?_
    obtain ⟨x60, h61, hz57⟩ := bsome hz57
    have hX := chatelaineref01_Same_ok Fu (S0 := snapAll _) A18 c19 a0.2.2.2.2.2.1 (hs20.mono (h.m.leAll (i := 2) rfl)) A41 c42 a1.2.2.2.2.2.1 (hs43.mono (h.m.leAll (i := 2) rfl)) _ h61 _ h.startAll
    refine q_callX hX h rfl rfl rfl (by decide) Try.func12 rfl rfl rfl (fun a w v L1 S1 hR hb1 h => ?_)
    obtain ⟨rfl, rfl, _⟩ := hR
    refine s_x h rfl rfl (by decide) (x_pick (u' := undef) h.k rfl rfl (fun _ => rfl) (fun hh => absurd (hB33.symm.trans hh) (by decide))) (fun a h => ?_)
    exact (h.mid 5 rfl).val (by rw [Option.some.inj hz57])
  · refine g_no h rfl rfl rfl rfl hB33 rfl (by decide) (fun a h => ?_)
    refine g_no h rfl rfl rfl rfl hB33 rfl (by decide) (fun a h => ?_)
    refine g_no h rfl rfl rfl rfl hB33 rfl (by decide) (fun a h => ?_)
    refine g_no h rfl rfl rfl rfl hB33 rfl (by decide) (fun a h => ?_)
    refine g_no h rfl rfl rfl rfl hB33 rfl (by decide) (fun a h => ?_)
    rw [if_neg (by rw [hB33]; decide)] at hz57
    refine s_x h rfl rfl (by decide) (x_pick (u' := undef) h.k rfl rfl (fun hh => absurd (hB33.symm.trans hh) (by decide)) (fun _ => rfl)) (fun a h => ?_)
    exact (h.mid 5 rfl).val (by rw [Option.some.inj hz57])
  refine s_move h rfl _ rfl rfl (by decide) rfl (fun a h => ?_)
  obtain ⟨z64, hz63, hf⟩ := bsome hf
  refine q_grp h 6 (t := 45) 51 z64 rfl (fun hB40 => ?_) (fun hB40 => ?_) (fun a w h => ?_)
  · rw [if_pos hB40] at hz63
    refine g_yes h rfl rfl rfl rfl hB40 ?_
    refine s_x h rfl rfl (by decide) (x_faddr h.k rfl Try.underlying51 rfl sz_Suint8 rfl) (fun a h => ?_)
    refine g_yes h rfl rfl rfl rfl hB40 ?_
    refine s_x h rfl rfl (by decide) (x_ld h.k rfl Try.underlying22 rfl rfl ((h.m.cell (i := 1) rfl 6).trans rfl)) (fun a h => ?_)
    refine g_yes h rfl rfl rfl rfl hB40 ?_
    refine s_x h rfl rfl (by decide) (x_faddr h.k rfl Try.underlying51 rfl sz_Suint8 rfl) (fun a h => ?_)
    refine g_yes h rfl rfl rfl rfl hB40 ?_
    refine s_x h rfl rfl (by decide) (x_ld h.k rfl Try.underlying22 rfl rfl ((h.m.cell (i := 0) rfl 6).trans rfl)) (fun a h => ?_)
    refine g_yes h rfl rfl rfl rfl hB40 ?_
    obtain ⟨x66, h67, hz63⟩ := bsome hz63
    have hX := chatelaineref01_Same_ok Fu (S0 := snapAll _) A21 c22 a0.2.2.2.2.2.2 (hs23.mono (h.m.leAll (i := 2) rfl)) A44 c45 a1.2.2.2.2.2.2 (hs46.mono (h.m.leAll (i := 2) rfl)) _ h67 _ h.startAll
    refine q_callX hX h rfl rfl rfl (by decide) Try.func12 rfl rfl rfl (fun a w v L1 S1 hR hb1 h => ?_)
    obtain ⟨rfl, rfl, _⟩ := hR
    refine s_x h rfl rfl (by decide) (x_pick (u' := undef) h.k rfl rfl (fun _ => rfl) (fun hh => absurd (hB40.symm.trans hh) (by decide))) (fun a h => ?_)
    exact (h.mid 5 rfl).val (by rw [Option.some.inj hz63])
  · refine g_no h rfl rfl rfl rfl hB40 rfl (by decide) (fun a h => ?_)
    refine g_no h rfl rfl rfl rfl hB40 rfl (by decide) (fun a h => ?_)
    refine g_no h rfl rfl rfl rfl hB40 rfl (by decide) (fun a h => ?_)
    refine g_no h rfl rfl rfl rfl hB40 rfl (by decide) (fun a h => ?_)
    refine g_no h rfl rfl rfl rfl hB40 rfl (by decide) (fun a h => ?_)
    rw [if_neg (by rw [hB40]; decide)] at hz63
    refine s_x h rfl rfl (by decide) (x_pick (u' := undef) h.k rfl rfl (fun hh => absurd (hB40.symm.trans hh) (by decide)) (fun _ => rfl)) (fun a h => ?_)
    exact (h.mid 5 rfl).val (by rw [Option.some.inj hz63])
  refine s_assign h rfl _ rfl rfl (by decide) rfl (fun a h => ?_)
  refine l_end ?_
  refine wp_ret ?_
  rw [← Option.some.inj hf]
  exact r_ret1 h rfl (rv_tmp h rfl) ⟨_, [], _, rfl, ⟨rfl, rfl, trivial⟩, rfl, (Up.refl _ _ _), (h.m.pick [2] _ (by decide) rfl)⟩
end Go.Proofs.Ytcjleeclpmgbjaa
