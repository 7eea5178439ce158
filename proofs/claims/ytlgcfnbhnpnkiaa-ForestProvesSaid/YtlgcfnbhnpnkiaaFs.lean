/- Fo, Ik, Fp, Fq, Fs together. -/
import Derived.Test.YtlgcfnbhnpnkiaaHb
import Derived.Test.YtlgcfnbhnpnkiaaWd
import Derived.Test.YtlgcfnbhnpnkiaaPr
import Derived.Test.YtlgcfnbhnpnkiaaWb
import Derived.Test.YtlgcfnbhnpnkiaaEb
set_option linter.unusedVariables false
set_option linter.unusedSimpArgs false
namespace Go.Proofs.Ytlgcfnbhnpnkiaa
open Go.RowKit
def kdf_Number (Fu : Nat) (a0 : Int) : Option ((List UInt8)) :=
  (word_Put Fu a0 8).bind fun x1 => if x1.2 ≠ 0 then (some ([])) else (some x1.1)
set_option maxRecDepth 100000 in
set_option maxHeartbeats 2000000 in
theorem kdf_Number_ok (Fu : Nat) {S0 : Snap} (a0 : Int) (hra0 : r64 a0) (r : (List UInt8)) (hf : kdf_Number Fu a0 = some r) (w0 : World) (hm : Mem w0 (ownL ([] ++ [.sn S0])) ([] ++ [.sn S0]) w0) :
    Calls Try.prog 75 #[.int .i64 a0] w0 (Ret w0 S0 [] (fun v L1 S1 => ∃ (A11 : Option Addr), ∃ (c12 : Nat), ∃ (cs13 : List Value), v = .slice A11 r.length c12 ∧ L1 = [.row (.slice A11 r.length c12) 5 1 r.length cs13] ∧ reps ty8 S1 cs13 r ∧ True)) := by
  unfold kdf_Number at hf
  refine c_enterM Try.func75 rfl 13 rfl (by simp) _ hm _ rfl (fun a h => ?_)
  refine c_rs ?_ -- region 0
  refine s_assign h rfl _ rfl rfl (by decide) rfl (fun a h => ?_)
  refine l_end ?_
  refine c_rs ?_ -- region 1
  refine s_move h rfl _ rfl rfl (by decide) rfl (fun a h => ?_)
  obtain ⟨x1, h2, hf⟩ := bsome hf
  have hX := word_Put_ok Fu (S0 := snapAll _) a0 hra0 8 (show r64 8 from ⟨by decide, by decide⟩) _ h2 _ h.startAll
  refine q_callX hX h rfl rfl rfl (by decide) Try.func84 rfl rfl rfl (fun a w v L1 S1 hR hb1 h => ?_)
  obtain ⟨A4, c5, cs6, rfl, rfl, hq7, hr8, _⟩ := hR
  have hq9 := hq7.fl (S' := S0) fl_8
  refine s_move h rfl _ rfl rfl (by decide) rfl (fun a h => ?_)
  refine s_x h rfl rfl (by decide) (x_ext h.k rfl rfl rfl) (fun a h => ?_)
  refine s_x h rfl rfl (by decide) (x_ext h.k rfl rfl rfl) (fun a h => ?_)
  refine s_assign h rfl _ rfl rfl (by decide) rfl (fun a h => ?_)
  refine s_assign h rfl _ rfl rfl (by decide) rfl (fun a h => ?_)
  refine l_end ?_
  refine wp_seq ?_
  refine c_rs ?_ -- region 2
  refine s_move h rfl _ rfl rfl (by decide) rfl (fun a h => ?_)
  refine s_x h rfl rfl (by decide) (x_bin h.k rfl rfl rfl ib_neq) (fun a h => ?_)
  refine l_end ?_
  refine c_cond h rfl (fun hb => ?_) (fun hb => ?_)
  · rw [if_pos (of_decide_eq_true hb)] at hf
    refine c_rs ?_ -- region 3
    refine s_assign h rfl _ rfl rfl (by decide) rfl (fun a h => ?_)
    refine l_end ?_
    refine wp_ret ?_
    refine e_thenR ?_
    obtain rfl := Option.some.inj hf
    have h := h.mem (h.m.nilrow 5 1)
    exact r_ret1 h rfl (rv_tmp h rfl) ⟨_, [.row (.slice none ([]).length 0) 5 1 ([]).length []], _, rfl, ⟨none, 0, [], rfl, rfl, (show reps ty8 S0 [] [] from rfl), trivial⟩, rfl, (Up.refl _ _ _), (h.m.pick [0, 2] _ (by decide) rfl)⟩
  · rw [if_neg (of_decide_eq_false hb)] at hf
    refine wp_skip ?_
    refine e_thenN ?_
    refine c_rs ?_ -- region 4
    refine s_move h rfl _ rfl rfl (by decide) rfl (fun a h => ?_)
    refine s_assign h rfl _ rfl rfl (by decide) rfl (fun a h => ?_)
    refine l_end ?_
    refine wp_ret ?_
    obtain rfl := Option.some.inj hf
    exact r_ret1 h rfl (rv_tmp h rfl) ⟨_, [.row (.slice A4 x1.1.length c5) 5 1 x1.1.length cs6], _, rfl, ⟨A4, c5, cs6, rfl, rfl, hq9, trivial⟩, rfl, (Up.refl _ _ _), h.m⟩
def forest_within (Fu : Nat) (a0 : Int) (a1 : Int) (a2 : Int) : Option Bool :=
  some ((decide (a1 ≤ a0)) && (decide (a0 ≤ a2)))
set_option maxRecDepth 100000 in
set_option maxHeartbeats 2000000 in
theorem forest_within_ok (Fu : Nat) {S0 : Snap} (a0 : Int) (hra0 : r64 a0) (a1 : Int) (hra1 : r64 a1) (a2 : Int) (hra2 : r64 a2) (r : Bool) (hf : forest_within Fu a0 a1 a2 = some r) (w0 : World) (hm : Mem w0 (ownL ([] ++ [.sn S0])) ([] ++ [.sn S0]) w0) :
    Calls Try.prog 104 #[.int .i64 a0, .int .i64 a1, .int .i64 a2] w0 (Ret w0 S0 [] (fun v L1 S1 => v = .bool r ∧ L1 = [] ∧ True)) := by
  unfold forest_within at hf
  refine c_enterM Try.func104 rfl 15 rfl (by simp) _ hm _ rfl (fun a h => ?_)
  refine c_rs ?_ -- region 0
  refine s_assign h rfl _ rfl rfl (by decide) rfl (fun a h => ?_)
  refine l_end ?_
  refine c_rs ?_ -- region 1
  refine s_move h rfl _ rfl rfl (by decide) rfl (fun a h => ?_)
  refine s_move h rfl _ rfl rfl (by decide) rfl (fun a h => ?_)
  refine s_x h rfl rfl (by decide) (x_bin h.k rfl rfl rfl ib_geq) (fun a h => ?_)
  refine s_move h rfl _ rfl rfl (by decide) rfl (fun a h => ?_)
  refine q_grp h 4 (t := 10) 14 ((decide (a1 ≤ a0)) && (decide (a0 ≤ a2))) rfl (fun hB3 => ?_) (fun hB3 => ?_) (fun a w h => ?_)
  · refine g_yes h rfl rfl rfl rfl hB3 ?_
    refine s_move h rfl _ rfl rfl (by decide) rfl (fun a h => ?_)
    refine g_yes h rfl rfl rfl rfl hB3 ?_
    refine s_move h rfl _ rfl rfl (by decide) rfl (fun a h => ?_)
    refine g_yes h rfl rfl rfl rfl hB3 ?_
    refine s_x h rfl rfl (by decide) (x_bin h.k rfl rfl rfl ib_leq) (fun a h => ?_)
    refine s_x h rfl rfl (by decide) (x_pick (u' := undef) h.k rfl rfl (fun _ => rfl) (fun hh => absurd (hB3.symm.trans hh) (by decide))) (fun a h => ?_)
    exact (h.mid 3 rfl).val (by first | rfl | (rw [hB3]; first | rfl | simp))
  · refine g_no h rfl rfl rfl rfl hB3 rfl (by decide) (fun a h => ?_)
    refine g_no h rfl rfl rfl rfl hB3 rfl (by decide) (fun a h => ?_)
    refine g_no h rfl rfl rfl rfl hB3 rfl (by decide) (fun a h => ?_)
    refine s_x h rfl rfl (by decide) (x_pick (u' := undef) h.k rfl rfl (fun hh => absurd (hB3.symm.trans hh) (by decide)) (fun _ => rfl)) (fun a h => ?_)
    exact (h.mid 3 rfl).val (by first | rfl | (rw [hB3]; first | rfl | simp))
  refine s_assign h rfl _ rfl rfl (by decide) rfl (fun a h => ?_)
  refine l_end ?_
  refine wp_ret ?_
  obtain rfl := Option.some.inj hf
  exact r_ret1 h rfl (rv_tmp h rfl) ⟨_, [], _, rfl, ⟨rfl, rfl, trivial⟩, rfl, (Up.refl _ _ _), h.m⟩
def forest_one (Fu : Nat) (a0 : Int × Int × Int × (List UInt8) × (List (Int × Int)) × (List (List UInt8)) × (List (List UInt8))) : Option Bool :=
  (forest_within Fu a0.1 1 64).bind fun x29 => (if x29 = true then (forest_within Fu a0.2.1 0 16).bind fun x35 => some x35 else some false).bind fun z33 => (if z33 = true then (forest_within Fu a0.2.2.1 1 4096).bind fun x41 => some x41 else some false).bind fun z39 => some (z39 && (decide ((a0.2.2.2.2.2.2.length : Int) = a0.2.2.1)))
set_option maxRecDepth 100000 in
set_option maxHeartbeats 2000000 in
theorem forest_one_ok (Fu : Nat) {S0 : Snap} (csa0 : List Value) (a0 : Int × Int × Int × (List UInt8) × (List (Int × Int)) × (List (List UInt8)) × (List (List UInt8))) (hsa0 : (tyP tyI (tyP tyI (tyP tyI (tyP (tyL ty8) (tyP (tyL (tyP tyI tyI)) (tyP (tyL (tyL ty8)) (tyL (tyA 32 ty8)))))))).rep S0 csa0 a0) (r : Bool) (hf : forest_one Fu a0 = some r) (w0 : World) (hm : Mem w0 (ownL ([] ++ [.sn S0])) ([] ++ [.sn S0]) w0) :
    Calls Try.prog 77 #[.agg csa0.toArray] w0 (Ret w0 S0 [] (fun v L1 S1 => v = .bool r ∧ L1 = [] ∧ True)) := by
  unfold forest_one at hf
  obtain ⟨k1, k2, rfl, ⟨rfl, hr3⟩, ⟨k4, k5, rfl, ⟨rfl, hr6⟩, ⟨k7, k8, rfl, ⟨rfl, hr9⟩, ⟨k10, k11, rfl, ⟨A12, c13, rfl, hs14⟩, ⟨k15, k16, rfl, ⟨A17, c18, rfl, hs19⟩, ⟨k20, k21, rfl, ⟨A22, c23, rfl, hs24⟩, ⟨A25, c26, rfl, hs27⟩⟩⟩⟩⟩⟩⟩ := hsa0
  refine c_enterM Try.func77 rfl 24 rfl (by simp) _ hm _ rfl (fun a h => ?_)
  refine c_rs ?_ -- region 0
  refine s_box h rfl rfl rfl (by decide) rfl (cs := [.int .i64 a0.1, .int .i64 a0.2.1, .int .i64 a0.2.2.1, .slice A12 a0.2.2.2.1.length c13, .slice A17 a0.2.2.2.2.1.length c18, .slice A22 a0.2.2.2.2.2.1.length c23, .slice A25 a0.2.2.2.2.2.2.length c26]) (by rfl) (fun a w g28 h => ?_)
  refine s_assign h rfl _ rfl rfl (by decide) rfl (fun a h => ?_)
  refine l_end ?_
  refine c_rs ?_ -- region 1
  refine s_x h rfl rfl (by decide) (x_faddr h.k rfl Try.underlying66 rfl sz_int rfl) (fun a h => ?_)
  refine s_x h rfl rfl (by decide) (x_ld h.k rfl Try.underlying3 rfl rfl ((h.m.cell (i := 0) rfl 0).trans rfl)) (fun a h => ?_)
  obtain ⟨x29, h30, hf⟩ := bsome hf
  have hX := forest_within_ok Fu (S0 := snapAll _) a0.1 hr3 1 (show r64 1 from ⟨by decide, by decide⟩) 64 (show r64 64 from ⟨by decide, by decide⟩) _ h30 _ h.startAll
  refine q_callX hX h rfl rfl rfl (by decide) Try.func104 rfl rfl rfl (fun a w v L1 S1 hR hb1 h => ?_)
  obtain ⟨rfl, rfl, _⟩ := hR
  refine s_move h rfl _ rfl rfl (by decide) rfl (fun a h => ?_)
  obtain ⟨z33, hz32, hf⟩ := bsome hf
  refine q_grp h 4 (t := 6) 10 z33 rfl (fun hB3 => ?_) (fun hB3 => ?_) (fun a w h => ?_)
  · rw [if_pos hB3] at hz32
    refine g_yes h rfl rfl rfl rfl hB3 ?_
    refine s_x h rfl rfl (by decide) (x_faddr h.k rfl Try.underlying66 rfl sz_int rfl) (fun a h => ?_)
    refine g_yes h rfl rfl rfl rfl hB3 ?_
    refine s_x h rfl rfl (by decide) (x_ld h.k rfl Try.underlying3 rfl rfl ((h.m.cell (i := 0) rfl 1).trans rfl)) (fun a h => ?_)
    refine g_yes h rfl rfl rfl rfl hB3 ?_
    obtain ⟨x35, h36, hz32⟩ := bsome hz32
    have hX := forest_within_ok Fu (S0 := snapAll _) a0.2.1 hr6 0 (show r64 0 from ⟨by decide, by decide⟩) 16 (show r64 16 from ⟨by decide, by decide⟩) _ h36 _ h.startAll
    refine q_callX hX h rfl rfl rfl (by decide) Try.func104 rfl rfl rfl (fun a w v L1 S1 hR hb1 h => ?_)
    obtain ⟨rfl, rfl, _⟩ := hR
    refine s_x h rfl rfl (by decide) (x_pick (u' := undef) h.k rfl rfl (fun _ => rfl) (fun hh => absurd (hB3.symm.trans hh) (by decide))) (fun a h => ?_)
    exact (h.mid 3 rfl).val (by rw [Option.some.inj hz32])
  · refine g_no h rfl rfl rfl rfl hB3 rfl (by decide) (fun a h => ?_)
    refine g_no h rfl rfl rfl rfl hB3 rfl (by decide) (fun a h => ?_)
    refine g_no h rfl rfl rfl rfl hB3 rfl (by decide) (fun a h => ?_)
    rw [if_neg (by rw [hB3]; decide)] at hz32
    refine s_x h rfl rfl (by decide) (x_pick (u' := undef) h.k rfl rfl (fun hh => absurd (hB3.symm.trans hh) (by decide)) (fun _ => rfl)) (fun a h => ?_)
    exact (h.mid 3 rfl).val (by rw [Option.some.inj hz32])
  refine s_move h rfl _ rfl rfl (by decide) rfl (fun a h => ?_)
  obtain ⟨z39, hz38, hf⟩ := bsome hf
  refine q_grp h 4 (t := 11) 15 z39 rfl (fun hB8 => ?_) (fun hB8 => ?_) (fun a w h => ?_)
  · rw [if_pos hB8] at hz38
    refine g_yes h rfl rfl rfl rfl hB8 ?_
    refine s_x h rfl rfl (by decide) (x_faddr h.k rfl Try.underlying66 rfl sz_int rfl) (fun a h => ?_)
    refine g_yes h rfl rfl rfl rfl hB8 ?_
    refine s_x h rfl rfl (by decide) (x_ld h.k rfl Try.underlying3 rfl rfl ((h.m.cell (i := 0) rfl 2).trans rfl)) (fun a h => ?_)
    refine g_yes h rfl rfl rfl rfl hB8 ?_
    obtain ⟨x41, h42, hz38⟩ := bsome hz38
    have hX := forest_within_ok Fu (S0 := snapAll _) a0.2.2.1 hr9 1 (show r64 1 from ⟨by decide, by decide⟩) 4096 (show r64 4096 from ⟨by decide, by decide⟩) _ h42 _ h.startAll
    refine q_callX hX h rfl rfl rfl (by decide) Try.func104 rfl rfl rfl (fun a w v L1 S1 hR hb1 h => ?_)
    obtain ⟨rfl, rfl, _⟩ := hR
    refine s_x h rfl rfl (by decide) (x_pick (u' := undef) h.k rfl rfl (fun _ => rfl) (fun hh => absurd (hB8.symm.trans hh) (by decide))) (fun a h => ?_)
    exact (h.mid 3 rfl).val (by rw [Option.some.inj hz38])
  · refine g_no h rfl rfl rfl rfl hB8 rfl (by decide) (fun a h => ?_)
    refine g_no h rfl rfl rfl rfl hB8 rfl (by decide) (fun a h => ?_)
    refine g_no h rfl rfl rfl rfl hB8 rfl (by decide) (fun a h => ?_)
    rw [if_neg (by rw [hB8]; decide)] at hz38
    refine s_x h rfl rfl (by decide) (x_pick (u' := undef) h.k rfl rfl (fun hh => absurd (hB8.symm.trans hh) (by decide)) (fun _ => rfl)) (fun a h => ?_)
    exact (h.mid 3 rfl).val (by rw [Option.some.inj hz38])
  refine s_move h rfl _ rfl rfl (by decide) rfl (fun a h => ?_)
  refine q_grp h 7 (t := 16) 23 (z39 && (decide ((a0.2.2.2.2.2.2.length : Int) = a0.2.2.1))) rfl (fun hB13 => ?_) (fun hB13 => ?_) (fun a w h => ?_)
  · refine g_yes h rfl rfl rfl rfl hB13 ?_
    refine s_x h rfl rfl (by decide) (x_faddr h.k rfl Try.underlying66 rfl sz_SA32_uint8 rfl) (fun a h => ?_)
    refine g_yes h rfl rfl rfl rfl hB13 ?_
    refine s_x h rfl rfl (by decide) (x_ld h.k rfl Try.underlying39 rfl rfl ((h.m.cell (i := 0) rfl 6).trans rfl)) (fun a h => ?_)
    refine g_yes h rfl rfl rfl rfl hB13 ?_
    refine s_x h rfl rfl (by decide) (x_len h.k rfl Try.underlying39 rfl) (fun a h => ?_)
    refine g_yes h rfl rfl rfl rfl hB13 ?_
    refine s_x h rfl rfl (by decide) (x_faddr h.k rfl Try.underlying66 rfl sz_int rfl) (fun a h => ?_)
    refine g_yes h rfl rfl rfl rfl hB13 ?_
    refine s_x h rfl rfl (by decide) (x_ld h.k rfl Try.underlying3 rfl rfl ((h.m.cell (i := 0) rfl 2).trans rfl)) (fun a h => ?_)
    refine g_yes h rfl rfl rfl rfl hB13 ?_
    refine s_x h rfl rfl (by decide) (x_bin h.k rfl rfl rfl ib_eql) (fun a h => ?_)
    refine s_x h rfl rfl (by decide) (x_pick (u' := undef) h.k rfl rfl (fun _ => rfl) (fun hh => absurd (hB13.symm.trans hh) (by decide))) (fun a h => ?_)
    exact (h.mid 6 rfl).val (by first | rfl | (rw [hB13]; first | rfl | simp))
  · refine g_no h rfl rfl rfl rfl hB13 rfl (by decide) (fun a h => ?_)
    refine g_no h rfl rfl rfl rfl hB13 rfl (by decide) (fun a h => ?_)
    refine g_no h rfl rfl rfl rfl hB13 rfl (by decide) (fun a h => ?_)
    refine g_no h rfl rfl rfl rfl hB13 rfl (by decide) (fun a h => ?_)
    refine g_no h rfl rfl rfl rfl hB13 rfl (by decide) (fun a h => ?_)
    refine g_no h rfl rfl rfl rfl hB13 rfl (by decide) (fun a h => ?_)
    refine s_x h rfl rfl (by decide) (x_pick (u' := undef) h.k rfl rfl (fun hh => absurd (hB13.symm.trans hh) (by decide)) (fun _ => rfl)) (fun a h => ?_)
    exact (h.mid 6 rfl).val (by first | rfl | (rw [hB13]; first | rfl | simp))
  refine s_assign h rfl _ rfl rfl (by decide) rfl (fun a h => ?_)
  refine l_end ?_
  refine wp_ret ?_
  obtain rfl := Option.some.inj hf
  exact r_ret1 h rfl (rv_tmp h rfl) ⟨_, [], _, rfl, ⟨rfl, rfl, trivial⟩, rfl, (Up.refl _ _ _), (h.m.pick [1] _ (by decide) rfl)⟩
def forest_Right_l0 (Fu : Nat) (a0 : List (Int × Int × Int × (List UInt8) × (List (Int × Int)) × (List (List UInt8)) × (List (List UInt8)))) : Nat → Int → Option (Sum Bool Unit)
  | 0, _ => none
  | k + 1, x3 => if x3 < (a0.length : Int) then ((idx a0 x3).bind fun x7 => (forest_one Fu x7).bind fun x47 => (if (!x47) = true then some true else (if 0 < x3 then (idx a0 (w64 (x3 - 1))).bind fun x54 => some (decide (x7.1 ≤ x54.1)) else some false).bind fun z52 => some z52).bind fun z50 => if z50 = true then (some (.inl false)) else (forest_Right_l0 Fu a0 k (w64 (x3 + 1)))) else (some (.inr ()))
def forest_Right (Fu : Nat) (a0 : List (Int × Int × Int × (List UInt8) × (List (Int × Int)) × (List (List UInt8)) × (List (List UInt8)))) : Option Bool :=
  (forest_Right_l0 Fu a0 Fu 0).bind fun o => match o with | .inl r93 => some r93 | .inr _ => some (decide ((a0.length : Int) ≤ 64))
set_option maxRecDepth 100000 in
set_option maxHeartbeats 2000000 in
theorem forest_Right_ok (Fu : Nat) {S0 : Snap} (Aa0 : Option Addr) (ca0 : Nat) (a0 : List (Int × Int × Int × (List UInt8) × (List (Int × Int)) × (List (List UInt8)) × (List (List UInt8)))) (hsa0 : slS (tyP tyI (tyP tyI (tyP tyI (tyP (tyL ty8) (tyP (tyL (tyP tyI tyI)) (tyP (tyL (tyL ty8)) (tyL (tyA 32 ty8)))))))) S0 Aa0 ca0 a0) (r : Bool) (hf : forest_Right Fu a0 = some r) (w0 : World) (hm : Mem w0 (ownL ([] ++ [.sn S0])) ([] ++ [.sn S0]) w0) :
    Calls Try.prog 41 #[.slice Aa0 a0.length ca0] w0 (Ret w0 S0 [] (fun v L1 S1 => v = .bool r ∧ L1 = [] ∧ True)) := by
  unfold forest_Right at hf
  refine c_enterM Try.func41 rfl 34 rfl (by simp) _ hm _ rfl (fun a h => ?_)
  refine c_rs ?_ -- region 0
  refine s_assign h rfl _ rfl rfl (by decide) rfl (fun a h => ?_)
  refine l_end ?_
  refine wp_seq ?_
  refine c_rs ?_ -- region 1
  refine s_move h rfl _ rfl rfl (by decide) rfl (fun a h => ?_)
  refine s_x h rfl rfl (by decide) (x_len h.k rfl Try.underlying61 rfl) (fun a h => ?_)
  refine s_move h rfl _ rfl rfl (by decide) rfl (fun a h => ?_)
  refine l_end ?_
  obtain ⟨o1, hl2, hf⟩ := bsome hf
  refine c_fin (fun a w => (.inr ()) = o1 ∧ St 34 w0 (ownL ([] ++ [.sn S0])) [(0, .slice Aa0 a0.length ca0)] [.sn S0] a w) ?_ ?_
  · refine wp_block ?_
    refine c_loop (fun m6 a w => ∃ (x3 : Int), forest_Right_l0 Fu a0 m6 x3 = some o1 ∧ r64 x3 ∧ St 34 w0 (ownL ([] ++ [.sn S0])) [(0, .slice Aa0 a0.length ca0), (5, .slice Aa0 a0.length ca0), (6, .int .i64 (a0.length : Int)), (7, .int .i64 x3)] [.sn S0] a w) Fu ⟨0, hl2, (show r64 0 from ⟨by decide, by decide⟩), h.has (by exact ⟨rfl, rfl, rfl, rfl, trivial⟩)⟩ (fun m6 a w hI => ?_)
    obtain ⟨x3, hl5, hr4, h⟩ := hI
    obtain _ | m6 := m6
    · rw [forest_Right_l0] at hl5; cases hl5
    rw [forest_Right_l0] at hl5
    refine c_rs ?_ -- region 2
    refine s_x h rfl rfl (by decide) (x_bin h.k rfl rfl rfl ib_lss) (fun a h => ?_)
    refine l_end ?_
    refine c_cs h rfl (fun hb => ?_) (fun hb => ?_)
    · rw [if_pos (of_decide_eq_true hb)] at hl5
      refine wp_skip ?_
      refine e_thenN ?_
      refine wp_seq ?_
      refine wp_block ?_
      refine c_rs ?_ -- region 3
      refine s_move h rfl _ rfl rfl (by decide) rfl (fun a h => ?_)
      obtain ⟨x7, h11, hl5⟩ := bsome hl5
      obtain ⟨m8, hi12, hm13, hx14⟩ := idx_some h11
      obtain ⟨b9, off10, k15, hA16, hu17, hc18⟩ := (hsa0).at (by decide) hx14 (h.m.snOK (i := 0) rfl)
      obtain ⟨k19, k20, rfl, ⟨rfl, hr21⟩, ⟨k22, k23, rfl, ⟨rfl, hr24⟩, ⟨k25, k26, rfl, ⟨rfl, hr27⟩, ⟨k28, k29, rfl, ⟨A30, c31, rfl, hs32⟩, ⟨k33, k34, rfl, ⟨A35, c36, rfl, hs37⟩, ⟨k38, k39, rfl, ⟨A40, c41, rfl, hs42⟩, ⟨A43, c44, rfl, hs45⟩⟩⟩⟩⟩⟩⟩ := hu17
      refine s_x h rfl rfl (by decide) (x_iaddrE h.k rfl Try.underlying61 sz_api_Space hA16 rfl rfl hi12 hm13) (fun a h => ?_)
      refine s_x h rfl rfl (by decide) (x_ldR h.k rfl ag_api_Space rfl ([.int .i64 x7.1, .int .i64 x7.2.1, .int .i64 x7.2.2.1, .slice A30 x7.2.2.2.1.length c31, .slice A35 x7.2.2.2.2.1.length c36, .slice A40 x7.2.2.2.2.2.1.length c41, .slice A43 x7.2.2.2.2.2.2.length c44]) rfl (hc18 _ (h.m.snOK (i := 0) rfl))) (fun a h => ?_)
      refine s_alloc h rfl rfl rfl (by decide) zi_api_Space rfl (fun a w g46 h => ?_)
      refine s_assign h rfl _ rfl rfl (by decide) rfl (fun a h => ?_)
      refine s_stW h rfl rfl rfl ag_api_Space rfl (es := [.int .i64 x7.1, .int .i64 x7.2.1, .int .i64 x7.2.2.1, .slice A30 x7.2.2.2.1.length c31, .slice A35 x7.2.2.2.2.1.length c36, .slice A40 x7.2.2.2.2.2.1.length c41, .slice A43 x7.2.2.2.2.2.2.length c44]) rfl rfl (by simp [Value.oneCell']) 0 rfl rfl (fun a w h => ?_)
      refine l_end ?_
      refine wp_seq ?_
      -- region 4 draws
      obtain ⟨x47, h48, hl5⟩ := bsome hl5
      obtain ⟨z50, hz51, hl5⟩ := bsome hl5
      refine c_fin (fun a w => St 34 w0 (ownL ([] ++ [.sn S0])) [(0, .slice Aa0 a0.length ca0), (5, .slice Aa0 a0.length ca0), (6, .int .i64 (a0.length : Int)), (7, .int .i64 x3), (29, .bool z50)] [.sn S0] a w) ?_ (fun a w h => ?_)
      · refine d_start h (Mem _ _ _) 18 18 rfl (by kernel_rfl) (fun _ _ _ _ _ h => h) (fun _ h => h) (fun Q a w HE HN h HS => ?_)
        refine d_take h HS HN 0 rfl (by kernel_rfl) (by kernel_rfl) (by kernel_rfl) (by kernel_rfl) (by kernel_rfl) rfl rfl (by decide) (fun w' hw => x_ldR h.k rfl ag_api_Space rfl ([.int .i64 x7.1, .int .i64 x7.2.1, .int .i64 x7.2.2.1, .slice A30 x7.2.2.2.1.length c31, .slice A35 x7.2.2.2.2.1.length c36, .slice A40 x7.2.2.2.2.2.1.length c41, .slice A43 x7.2.2.2.2.2.2.length c44]) rfl (hw.range0 (i := 0) rfl)) (fun a h => ?_)
        refine d_alone 1 rfl (by kernel_rfl) (fun K hK => ?_)
        have hX := forest_one_ok Fu (S0 := snapAll _) ([.int .i64 x7.1, .int .i64 x7.2.1, .int .i64 x7.2.2.1, .slice A30 x7.2.2.2.1.length c31, .slice A35 x7.2.2.2.2.1.length c36, .slice A40 x7.2.2.2.2.2.1.length c41, .slice A43 x7.2.2.2.2.2.2.length c44]) x7 ((tyP tyI (tyP tyI (tyP tyI (tyP (tyL ty8) (tyP (tyL (tyP tyI tyI)) (tyP (tyL (tyL ty8)) (tyL (tyA 32 ty8)))))))).mono (h.m.leAll (i := 1) rfl) (show (tyP tyI (tyP tyI (tyP tyI (tyP (tyL ty8) (tyP (tyL (tyP tyI tyI)) (tyP (tyL (tyL ty8)) (tyL (tyA 32 ty8)))))))).rep S0 ([.int .i64 x7.1, .int .i64 x7.2.1, .int .i64 x7.2.2.1, .slice A30 x7.2.2.2.1.length c31, .slice A35 x7.2.2.2.2.1.length c36, .slice A40 x7.2.2.2.2.2.1.length c41, .slice A43 x7.2.2.2.2.2.2.length c44]) x7 from ⟨[.int .i64 x7.1], [.int .i64 x7.2.1, .int .i64 x7.2.2.1, .slice A30 x7.2.2.2.1.length c31, .slice A35 x7.2.2.2.2.1.length c36, .slice A40 x7.2.2.2.2.2.1.length c41, .slice A43 x7.2.2.2.2.2.2.length c44], rfl, ⟨rfl, hr21⟩, ⟨[.int .i64 x7.2.1], [.int .i64 x7.2.2.1, .slice A30 x7.2.2.2.1.length c31, .slice A35 x7.2.2.2.2.1.length c36, .slice A40 x7.2.2.2.2.2.1.length c41, .slice A43 x7.2.2.2.2.2.2.length c44], rfl, ⟨rfl, hr24⟩, ⟨[.int .i64 x7.2.2.1], [.slice A30 x7.2.2.2.1.length c31, .slice A35 x7.2.2.2.2.1.length c36, .slice A40 x7.2.2.2.2.2.1.length c41, .slice A43 x7.2.2.2.2.2.2.length c44], rfl, ⟨rfl, hr27⟩, ⟨[.slice A30 x7.2.2.2.1.length c31], [.slice A35 x7.2.2.2.2.1.length c36, .slice A40 x7.2.2.2.2.2.1.length c41, .slice A43 x7.2.2.2.2.2.2.length c44], rfl, ⟨_, _, rfl, hs32⟩, ⟨[.slice A35 x7.2.2.2.2.1.length c36], [.slice A40 x7.2.2.2.2.2.1.length c41, .slice A43 x7.2.2.2.2.2.2.length c44], rfl, ⟨_, _, rfl, hs37⟩, ⟨[.slice A40 x7.2.2.2.2.2.1.length c41], [.slice A43 x7.2.2.2.2.2.2.length c44], rfl, ⟨_, _, rfl, hs42⟩, ⟨_, _, rfl, hs45⟩⟩⟩⟩⟩⟩⟩)) _ h48 _ h.startAll
        refine q_callX hX h rfl rfl rfl (by decide) Try.func77 rfl rfl rfl (fun a w v L1 S1 hR hb1 h => ?_)
        obtain ⟨rfl, rfl, _⟩ := hR
        refine hK _ _ (fun _ _ => HS.ext hb1) ?_
        replace HS := HS.ext hb1
        clear hK
        refine d_takeP h (fun _ => HS) HN 2 rfl (by kernel_rfl) (by kernel_rfl) (by kernel_rfl) (by decide) rfl rfl (by decide) (fun w' => x_not h.k rfl rfl) (fun a h => ?_)
        refine d_takeP h (fun _ => HS) HN 3 rfl (by kernel_rfl) (by kernel_rfl) (by kernel_rfl) (by decide) rfl rfl (by decide) (fun w' => x_move h.k _ rfl rfl) (fun a h => ?_)
        refine d_split (t := 15) h rfl (fun hB3 => ?_) (fun hB3 => ?_)
        · rw [if_pos hB3] at hz51
          refine d_takeNP h (fun _ => HS) HN 4 rfl (by kernel_rfl) (by kernel_rfl) (by kernel_rfl) (by decide) (by rw [g_want h rfl rfl rfl rfl hB3]; rfl) rfl (by decide) (fun a h => ?_)
          refine d_takeNP h (fun _ => HS) HN 5 rfl (by kernel_rfl) (by kernel_rfl) (by kernel_rfl) (by decide) (by rw [g_want h rfl rfl rfl rfl hB3]; rfl) rfl (by decide) (fun a h => ?_)
          refine d_takeNP h (fun _ => HS) HN 6 rfl (by kernel_rfl) (by kernel_rfl) (by kernel_rfl) (by decide) (by rw [g_want h rfl rfl rfl rfl hB3]; rfl) rfl (by decide) (fun a h => ?_)
          refine d_takeNP h (fun _ => HS) HN 7 rfl (by kernel_rfl) (by kernel_rfl) (by kernel_rfl) (by decide) (g_wantU h rfl rfl rfl rfl) rfl (by decide) (fun a h => ?_)
          refine d_takeNP h (fun _ => HS) HN 8 rfl (by kernel_rfl) (by kernel_rfl) (by kernel_rfl) (by decide) (g_wantU h rfl rfl rfl rfl) rfl (by decide) (fun a h => ?_)
          refine d_takeNP h (fun _ => HS) HN 9 rfl (by kernel_rfl) (by kernel_rfl) (by kernel_rfl) (by decide) (g_wantU h rfl rfl rfl rfl) rfl (by decide) (fun a h => ?_)
          refine d_takeNP h (fun _ => HS) HN 10 rfl (by kernel_rfl) (by kernel_rfl) (by kernel_rfl) (by decide) (g_wantU h rfl rfl rfl rfl) rfl (by decide) (fun a h => ?_)
          refine d_takeNP h (fun _ => HS) HN 11 rfl (by kernel_rfl) (by kernel_rfl) (by kernel_rfl) (by decide) (g_wantU h rfl rfl rfl rfl) rfl (by decide) (fun a h => ?_)
          refine d_takeNP h (fun _ => HS) HN 12 rfl (by kernel_rfl) (by kernel_rfl) (by kernel_rfl) (by decide) (g_wantU h rfl rfl rfl rfl) rfl (by decide) (fun a h => ?_)
          refine d_takeNP h (fun _ => HS) HN 13 rfl (by kernel_rfl) (by kernel_rfl) (by kernel_rfl) (by decide) (g_wantU h rfl rfl rfl rfl) rfl (by decide) (fun a h => ?_)
          refine d_takeNP h (fun _ => HS) HN 14 rfl (by kernel_rfl) (by kernel_rfl) (by kernel_rfl) (by decide) (g_wantU h rfl rfl rfl rfl) rfl (by decide) (fun a h => ?_)
          refine d_takeNP h (fun _ => HS) HN 15 rfl (by kernel_rfl) (by kernel_rfl) (by kernel_rfl) (by decide) (g_wantU h rfl rfl rfl rfl) rfl (by decide) (fun a h => ?_)
          refine d_takeNP h (fun _ => HS) HN 16 rfl (by kernel_rfl) (by kernel_rfl) (by kernel_rfl) (by decide) (by rw [g_want h rfl rfl rfl rfl hB3]; rfl) rfl (by decide) (fun a h => ?_)
          refine d_takeP h (fun _ => HS) HN 17 rfl (by kernel_rfl) (by kernel_rfl) (by kernel_rfl) (by decide) rfl rfl (by decide) (fun w' => x_pick (v := .bool z50) (u' := undef) h.k rfl rfl (fun _ => by rw [← Option.some.inj hz51]; rfl) (fun hh => absurd (hB3.symm.trans hh) (by decide))) (fun a h => ?_)
          refine d_done (by kernel_rfl) (HE _ _ ?_) _
          refine e_thenN ?_
          have h := h.pick [1] (by decide) rfl
          exact h.has (by exact ⟨rfl, rfl, rfl, rfl, rfl, trivial⟩)
        · rw [if_neg (by rw [hB3]; decide)] at hz51
          obtain ⟨z52, hz53, hz51⟩ := bsome hz51
          refine d_takeP h (fun _ => HS) HN 4 rfl (by kernel_rfl) (by kernel_rfl) (by kernel_rfl) (by decide) (by rw [g_want h rfl rfl rfl rfl hB3]; rfl) rfl (by decide) (fun w' => x_move h.k _ rfl rfl) (fun a h => ?_)
          refine d_takeP h (fun _ => HS) HN 5 rfl (by kernel_rfl) (by kernel_rfl) (by kernel_rfl) (by decide) (by rw [g_want h rfl rfl rfl rfl hB3]; rfl) rfl (by decide) (fun w' => x_bin h.k rfl rfl rfl ib_gtr) (fun a h => ?_)
          refine d_takeP h (fun _ => HS) HN 6 rfl (by kernel_rfl) (by kernel_rfl) (by kernel_rfl) (by decide) (by rw [g_want h rfl rfl rfl rfl hB3]; rfl) rfl (by decide) (fun w' => x_move h.k _ rfl rfl) (fun a h => ?_)
          refine d_split (t := 18) h rfl (fun hB6 => ?_) (fun hB6 => ?_)
          · rw [if_pos (of_decide_eq_true hB6)] at hz53
            obtain ⟨x54, h58, hz53⟩ := bsome hz53
            refine d_takeP h (fun _ => HS) HN 7 rfl (by kernel_rfl) (by kernel_rfl) (by kernel_rfl) (by decide) (by rw [g_want h rfl rfl rfl rfl hB6]; rfl) rfl (by decide) (fun w' => x_faddr h.k rfl Try.underlying66 rfl sz_int rfl) (fun a h => ?_)
            refine d_takeY h HS HN 8 rfl (by kernel_rfl) (by kernel_rfl) (by kernel_rfl) (by kernel_rfl) (by kernel_rfl) (by rw [g_want h rfl rfl rfl rfl hB6]; rfl) rfl (by decide) (fun w' hw => x_ld h.k rfl Try.underlying3 rfl rfl ((hw.cell (i := 0) rfl 0).trans rfl)) (fun a h => ?_)
            refine d_takeP h (fun _ => HS) HN 9 rfl (by kernel_rfl) (by kernel_rfl) (by kernel_rfl) (by decide) (by rw [g_want h rfl rfl rfl rfl hB6]; rfl) rfl (by decide) (fun w' => x_move h.k _ rfl rfl) (fun a h => ?_)
            refine d_takeP h (fun _ => HS) HN 10 rfl (by kernel_rfl) (by kernel_rfl) (by kernel_rfl) (by decide) (by rw [g_want h rfl rfl rfl rfl hB6]; rfl) rfl (by decide) (fun w' => x_move h.k _ rfl rfl) (fun a h => ?_)
            refine d_takeP h (fun _ => HS) HN 11 rfl (by kernel_rfl) (by kernel_rfl) (by kernel_rfl) (by decide) (by rw [g_want h rfl rfl rfl rfl hB6]; rfl) rfl (by decide) (fun w' => x_bin h.k rfl rfl rfl (ib_sub rfl)) (fun a h => ?_)
            obtain ⟨m55, hi59, hm60, hx61⟩ := idx_some h58
            obtain ⟨b56, off57, k62, hA63, hu64, hc65⟩ := (hsa0).at (by decide) hx61 (h.m.snOK (i := 1) rfl)
            obtain ⟨k66, k67, rfl, ⟨rfl, hr68⟩, ⟨k69, k70, rfl, ⟨rfl, hr71⟩, ⟨k72, k73, rfl, ⟨rfl, hr74⟩, ⟨k75, k76, rfl, ⟨A77, c78, rfl, hs79⟩, ⟨k80, k81, rfl, ⟨A82, c83, rfl, hs84⟩, ⟨k85, k86, rfl, ⟨A87, c88, rfl, hs89⟩, ⟨A90, c91, rfl, hs92⟩⟩⟩⟩⟩⟩⟩ := hu64
            refine d_takeP h (fun _ => HS) HN 12 rfl (by kernel_rfl) (by kernel_rfl) (by kernel_rfl) (by decide) (by rw [g_want h rfl rfl rfl rfl hB6]; rfl) rfl (by decide) (fun w' => x_iaddrE h.k rfl Try.underlying61 sz_api_Space hA63 rfl rfl hi59 hm60) (fun a h => ?_)
            refine d_takeP h (fun _ => HS) HN 13 rfl (by kernel_rfl) (by kernel_rfl) (by kernel_rfl) (by decide) (by rw [g_want h rfl rfl rfl rfl hB6]; rfl) rfl (by decide) (fun w' => x_faddr h.k rfl Try.underlying66 rfl sz_int rfl) (fun a h => ?_)
            refine d_takeY h HS HN 14 rfl (by kernel_rfl) (by kernel_rfl) (by kernel_rfl) (by kernel_rfl) (by kernel_rfl) (by rw [g_want h rfl rfl rfl rfl hB6]; rfl) rfl (by decide) (fun w' hw => x_ld h.k rfl Try.underlying3 rfl rfl (hc65 _ (hw.snOK (i := 1) rfl) 0 _ rfl)) (fun a h => ?_)
            refine d_takeP h (fun _ => HS) HN 15 rfl (by kernel_rfl) (by kernel_rfl) (by kernel_rfl) (by decide) (by rw [g_want h rfl rfl rfl rfl hB6]; rfl) rfl (by decide) (fun w' => x_bin h.k rfl rfl rfl ib_leq) (fun a h => ?_)
            refine d_takeP h (fun _ => HS) HN 16 rfl (by kernel_rfl) (by kernel_rfl) (by kernel_rfl) (by decide) (by rw [g_want h rfl rfl rfl rfl hB3]; rfl) rfl (by decide) (fun w' => x_pick (v := .bool z52) (u' := undef) h.k rfl rfl (fun _ => by rw [← Option.some.inj hz53]; rfl) (fun hh => absurd (hB6.symm.trans hh) (by decide))) (fun a h => ?_)
            refine d_takeP h (fun _ => HS) HN 17 rfl (by kernel_rfl) (by kernel_rfl) (by kernel_rfl) (by decide) rfl rfl (by decide) (fun w' => x_pick (v := .bool z50) (u' := undef) h.k rfl rfl (fun hh => absurd (hB3.symm.trans hh) (by decide)) (fun _ => by rw [← Option.some.inj hz51]; rfl)) (fun a h => ?_)
            refine d_done (by kernel_rfl) (HE _ _ ?_) _
            refine e_thenN ?_
            have h := h.pick [1] (by decide) rfl
            exact h.has (by exact ⟨rfl, rfl, rfl, rfl, rfl, trivial⟩)
          · rw [if_neg (of_decide_eq_false hB6)] at hz53
            refine d_takeNP h (fun _ => HS) HN 7 rfl (by kernel_rfl) (by kernel_rfl) (by kernel_rfl) (by decide) (by rw [g_want h rfl rfl rfl rfl hB6]; rfl) rfl (by decide) (fun a h => ?_)
            refine d_takeNP h (fun _ => HS) HN 8 rfl (by kernel_rfl) (by kernel_rfl) (by kernel_rfl) (by decide) (by rw [g_want h rfl rfl rfl rfl hB6]; rfl) rfl (by decide) (fun a h => ?_)
            refine d_takeNP h (fun _ => HS) HN 9 rfl (by kernel_rfl) (by kernel_rfl) (by kernel_rfl) (by decide) (by rw [g_want h rfl rfl rfl rfl hB6]; rfl) rfl (by decide) (fun a h => ?_)
            refine d_takeNP h (fun _ => HS) HN 10 rfl (by kernel_rfl) (by kernel_rfl) (by kernel_rfl) (by decide) (by rw [g_want h rfl rfl rfl rfl hB6]; rfl) rfl (by decide) (fun a h => ?_)
            refine d_takeNP h (fun _ => HS) HN 11 rfl (by kernel_rfl) (by kernel_rfl) (by kernel_rfl) (by decide) (by rw [g_want h rfl rfl rfl rfl hB6]; rfl) rfl (by decide) (fun a h => ?_)
            refine d_takeNP h (fun _ => HS) HN 12 rfl (by kernel_rfl) (by kernel_rfl) (by kernel_rfl) (by decide) (by rw [g_want h rfl rfl rfl rfl hB6]; rfl) rfl (by decide) (fun a h => ?_)
            refine d_takeNP h (fun _ => HS) HN 13 rfl (by kernel_rfl) (by kernel_rfl) (by kernel_rfl) (by decide) (by rw [g_want h rfl rfl rfl rfl hB6]; rfl) rfl (by decide) (fun a h => ?_)
            refine d_takeNP h (fun _ => HS) HN 14 rfl (by kernel_rfl) (by kernel_rfl) (by kernel_rfl) (by decide) (by rw [g_want h rfl rfl rfl rfl hB6]; rfl) rfl (by decide) (fun a h => ?_)
            refine d_takeNP h (fun _ => HS) HN 15 rfl (by kernel_rfl) (by kernel_rfl) (by kernel_rfl) (by decide) (by rw [g_want h rfl rfl rfl rfl hB6]; rfl) rfl (by decide) (fun a h => ?_)
            refine d_takeP h (fun _ => HS) HN 16 rfl (by kernel_rfl) (by kernel_rfl) (by kernel_rfl) (by decide) (by rw [g_want h rfl rfl rfl rfl hB3]; rfl) rfl (by decide) (fun w' => x_pick (v := .bool z52) (u' := undef) h.k rfl rfl (fun hh => absurd (hB6.symm.trans hh) (by decide)) (fun _ => by rw [← Option.some.inj hz53]; rfl)) (fun a h => ?_)
            refine d_takeP h (fun _ => HS) HN 17 rfl (by kernel_rfl) (by kernel_rfl) (by kernel_rfl) (by decide) rfl rfl (by decide) (fun w' => x_pick (v := .bool z50) (u' := undef) h.k rfl rfl (fun hh => absurd (hB3.symm.trans hh) (by decide)) (fun _ => by rw [← Option.some.inj hz51]; rfl)) (fun a h => ?_)
            refine d_done (by kernel_rfl) (HE _ _ ?_) _
            refine e_thenN ?_
            have h := h.pick [1] (by decide) rfl
            exact h.has (by exact ⟨rfl, rfl, rfl, rfl, rfl, trivial⟩)
      refine e_thenN ?_
      refine c_cond h rfl (fun hb => ?_) (fun hb => ?_)
      · rw [if_pos hb] at hl5
        refine c_rs ?_ -- region 5
        refine s_assign h rfl _ rfl rfl (by decide) rfl (fun a h => ?_)
        refine l_end ?_
        refine wp_ret ?_
        refine e_blkR ?_
        refine e_thenR ?_
        refine e_thenR ?_
        refine e_blkR ?_
        refine e_thenR ?_
        cases hl5
        try dsimp only at hf
        refine e_thenR ?_
        rw [← Option.some.inj hf]
        exact r_ret1 h rfl (rv_tmp h rfl) ⟨_, [], _, rfl, ⟨rfl, rfl, trivial⟩, rfl, (Up.refl _ _ _), h.m⟩
      · rw [if_neg (by rw [hb]; decide)] at hl5
        refine wp_skip ?_
        refine e_blkN ?_
        refine e_thenN ?_
        refine c_r ?_ -- region 6
        refine s_x h rfl rfl (by decide) (x_bin h.k rfl rfl rfl (ib_add rfl)) (fun a h => ?_)
        refine s_move h rfl _ rfl rfl (by decide) rfl (fun a h => ?_)
        refine l_nil ?_
        exact e_thenN ⟨m6, Nat.lt_succ_self _, w64 (x3 + 1), hl5, (w64_r _), h.has (by exact ⟨rfl, rfl, rfl, rfl, trivial⟩)⟩
    · rw [if_neg (of_decide_eq_false hb)] at hl5
      refine wp_exit ?_
      refine e_thenX ?_
      refine e_thenX ?_
      refine e_blkX ?_
      refine e_thenN ?_
      exact ⟨(Option.some.inj hl5), h.has (by exact ⟨rfl, trivial⟩)⟩
  · rintro a w ⟨rfl, h⟩
    try dsimp only at hf
    refine e_thenN ?_
    refine c_rs ?_ -- region 7
    refine s_move h rfl _ rfl rfl (by decide) rfl (fun a h => ?_)
    refine s_x h rfl rfl (by decide) (x_len h.k rfl Try.underlying61 rfl) (fun a h => ?_)
    refine s_x h rfl rfl (by decide) (x_bin h.k rfl rfl rfl ib_leq) (fun a h => ?_)
    refine s_assign h rfl _ rfl rfl (by decide) rfl (fun a h => ?_)
    refine l_end ?_
    refine wp_ret ?_
    obtain rfl := Option.some.inj hf
    exact r_ret1 h rfl (rv_tmp h rfl) ⟨_, [], _, rfl, ⟨rfl, rfl, trivial⟩, rfl, (Up.refl _ _ _), h.m⟩
def forest_head (Fu : Nat) (a0 : Int) (a1 : Int) (a2 : Int) (a3 : List UInt8) : Option ((List UInt8)) :=
  (kdf_Number Fu a0).bind fun x7 => (kdf_Number Fu a1).bind fun x15 => (kdf_Number Fu a2).bind fun x23 => (bnd 32 0 (32 : Int)).bind fun y31 => (sha_Sum Fu ([[(2 : UInt8)], x7, x15, x23, ((a3.take y31.2).drop y31.1)])).bind fun x64 => some x64
set_option maxRecDepth 100000 in
set_option maxHeartbeats 2000000 in
theorem forest_head_ok (Fu : Nat) {S0 : Snap} (a0 : Int) (hra0 : r64 a0) (a1 : Int) (hra1 : r64 a1) (a2 : Int) (hra2 : r64 a2) (csa3 : List Value) (a3 : List UInt8) (hsa3 : (tyA 32 ty8).rep S0 csa3 a3) (r : (List UInt8)) (hf : forest_head Fu a0 a1 a2 a3 = some r) (w0 : World) (hm : Mem w0 (ownL ([] ++ [.sn S0])) ([] ++ [.sn S0]) w0) :
    Calls Try.prog 78 #[.int .i64 a0, .int .i64 a1, .int .i64 a2, .agg csa3.toArray] w0 (Ret w0 S0 [] (fun v L1 S1 => ∃ (k78 : List Value), v = .agg k78.toArray ∧ L1 = [] ∧ (tyA 32 ty8).rep S1 k78 r ∧ True)) := by
  unfold forest_head at hf
  obtain ⟨hs1, hl2⟩ := hsa3
  refine c_enterM Try.func78 rfl 19 rfl (by simp) _ hm _ rfl (fun a h => ?_)
  refine c_rs ?_ -- region 0
  refine s_box h rfl rfl rfl (by decide) rfl (cs := csa3) (by rfl) (fun a w g3 h => ?_)
  refine s_alloc h rfl rfl rfl (by decide) zi_A32_uint8 rfl (fun a w g4 h => ?_)
  refine l_end ?_
  refine wp_seq ?_
  -- region 1 draws
  obtain ⟨x7, h8, hf⟩ := bsome hf
  obtain ⟨x15, h16, hf⟩ := bsome hf
  obtain ⟨x23, h24, hf⟩ := bsome hf
  obtain ⟨y31, h32, hf⟩ := bsome hf
  obtain ⟨x64, h65, hf⟩ := bsome hf
  refine c_fin (fun a w => ∃ (S72 : Snap), ∃ (k75 : List Value), Snap.le S0 S72 ∧ Up (ownL ([] ++ [.sn S0])) w0 S0 S72 ∧ reps ty8 S72 k75 x64 ∧ x64.length = 32 ∧ St 19 w0 (ownL ([] ++ [.sn S0])) [(8, .pointer (some ⟨g4, 0, none⟩))] [.box g4 40 k75, .sn S72] a w) ?_ (fun a w h => ?_)
  · refine d_start h (Mem _ _ _) 10 11 rfl (by kernel_rfl) (fun _ _ _ _ _ h => h) (fun _ h => h.pick [0, 2] [.box g4 40 (List.replicate 32 (.int .u8 0 : Value)), .sn S0] (by decide) rfl) (fun Q a w HE HN h HS => ?_)
    refine d_takeP h (fun _ => HS) HN 1 rfl (by kernel_rfl) (by kernel_rfl) (by kernel_rfl) (by decide) rfl rfl (by decide) (fun w' => x_move h.k _ rfl rfl) (fun a h => ?_)
    refine d_takeP h (fun _ => HS) HN 3 rfl (by kernel_rfl) (by kernel_rfl) (by kernel_rfl) (by decide) rfl rfl (by decide) (fun w' => x_move h.k _ rfl rfl) (fun a h => ?_)
    refine d_takeP h (fun _ => HS) HN 5 rfl (by kernel_rfl) (by kernel_rfl) (by kernel_rfl) (by decide) rfl rfl (by decide) (fun w' => x_move h.k _ rfl rfl) (fun a h => ?_)
    obtain ⟨hi33, hi34, hm35, hm36⟩ := bnd_some h32
    obtain ⟨n37, hn38⟩ : ∃ n, y31.2 - y31.1 = n := ⟨_, rfl⟩
    refine d_takeP h (fun _ => HS) HN 7 rfl (by kernel_rfl) (by kernel_rfl) (by kernel_rfl) (by decide) rfl rfl (by decide) (fun w' => x_viewB h.k rfl Try.underlying40 sz_uint8 rfl (bd_none (by omega)) (bd_none (by omega)) hm35 hm36 hn38) (fun a h => ?_)
    refine d_two 0 2 (by kernel_rfl) (d_one 0 rfl _ (fun K hK => ?_)) (d_one 2 rfl _ (fun K hK => ?_))
    · refine q_bslice (T := ty8) (S := S0) h rfl rfl rfl (by decide) Try.underlying52 zi_uint8 (by decide) (by decide) (by decide) (by decide) [.int .u8 2] rfl rfl (C := [[.int .u8 2]]) rfl (xs := [(2 : UInt8)]) ⟨[.int .u8 2], _, rfl, rfl, rfl⟩ (by intro c hc; simp only [List.mem_cons, List.not_mem_nil, or_false] at hc; subst hc; rfl) (fun a w A5 h => ?_)
      have hb6 : reps ty8 S0 ([[.int .u8 2]] : List (List Value)).flatten [(2 : UInt8)] := ⟨[.int .u8 2], _, rfl, rfl, rfl⟩
      replace HS := h.m.pick [1, 3] [.box g4 40 (List.replicate 32 (.int .u8 0 : Value)), .sn S0] (by decide) rfl
      refine hK _ _ ⟨fun _ _ => HS, ?_⟩
      clear hK
      refine d_alone 2 rfl (by kernel_rfl) (fun K hK => ?_)
      have hX := kdf_Number_ok Fu (S0 := snapAll _) a0 hra0 _ h8 _ h.startAll
      refine q_callX hX h rfl rfl rfl (by decide) Try.func75 rfl rfl rfl (fun a w v L1 S1 hR hb1 h => ?_)
      obtain ⟨A10, c11, cs12, rfl, rfl, hq13, _⟩ := hR
      have hq14 := hq13.fl (S' := S0) fl_8
      refine hK _ _ (fun _ _ => HS.ext hb1) ?_
      replace HS := HS.ext hb1
      clear hK
      refine d_alone 4 rfl (by kernel_rfl) (fun K hK => ?_)
      have hX := kdf_Number_ok Fu (S0 := snapAll _) a1 hra1 _ h16 _ h.startAll
      refine q_callX hX h rfl rfl rfl (by decide) Try.func75 rfl rfl rfl (fun a w v L1 S1 hR hb1 h => ?_)
      obtain ⟨A18, c19, cs20, rfl, rfl, hq21, _⟩ := hR
      have hq22 := hq21.fl (S' := S0) fl_8
      refine hK _ _ (fun _ _ => HS.ext hb1) ?_
      replace HS := HS.ext hb1
      clear hK
      refine d_alone 6 rfl (by kernel_rfl) (fun K hK => ?_)
      have hX := kdf_Number_ok Fu (S0 := snapAll _) a2 hra2 _ h24 _ h.startAll
      refine q_callX hX h rfl rfl rfl (by decide) Try.func75 rfl rfl rfl (fun a w v L1 S1 hR hb1 h => ?_)
      obtain ⟨A26, c27, cs28, rfl, rfl, hq29, _⟩ := hR
      have hq30 := hq29.fl (S' := S0) fl_8
      refine hK _ _ (fun _ _ => HS.ext hb1) ?_
      replace HS := HS.ext hb1
      clear hK
      refine d_alone 8 rfl (by kernel_rfl) (fun K hK => ?_)
      have h := h.pick [3, 6, 0, 1, 2, 4, 5] (by decide) rfl
      obtain ⟨S40, le41, up42, hs43, h⟩ := q_freeze (T := ty8) h (Up.refl _ _ _) hb6
      have h := h.pick [3, 0, 1, 2, 4, 5] (by decide) rfl
      obtain ⟨S44, le45, up46, hs47, h⟩ := q_freeze (T := ty8) h up42 (hq14.mono le41)
      have h := h.pick [2, 0, 1, 3, 4] (by decide) rfl
      obtain ⟨S48, le49, up50, hs51, h⟩ := q_freeze (T := ty8) h up46 (hq22.mono (le41.trans le45))
      have h := h.pick [1, 0, 2, 3] (by decide) rfl
      obtain ⟨S52, le53, up54, hs55, h⟩ := q_freeze (T := ty8) h up50 (hq30.mono ((le41.trans le45).trans le49))
      have h := h.pick [2, 0, 1] (by decide) rfl
      obtain ⟨S56, le57, up58, hc59, h⟩ := q_freezeBox h up54
      obtain rfl : n37 = ((a3.take y31.2).drop y31.1).length := cut_len (by have := hm36; have := hl2; omega) hn38
      have hs60 := slS_vA (T := ty8) hc59 (hs1.mono ((((le41.trans le45).trans le49).trans le53).trans le57)) rfl hl2 (by decide) hm35 hm36
      have hf61 : 32 - y31.1 ≤ ((a3.take y31.2).drop y31.1).length := by have := hl2; have := hi34; simp only [List.length_drop, List.length_take]; omega
      refine q_bslice (T := tyL ty8) (S := S56) h rfl rfl rfl (by decide) Try.underlying64 zi_Suint8 (by decide) (by decide) (by decide) (by decide) [.slice A5 ([(2 : UInt8)]).length 1, .slice A10 x7.length c11, .slice A18 x15.length c19, .slice A26 x23.length c27, .slice (vA g3 32 y31.1) ((a3.take y31.2).drop y31.1).length (32 - y31.1)] rfl rfl (C := [[.slice A5 ([(2 : UInt8)]).length 1], [.slice A10 x7.length c11], [.slice A18 x15.length c19], [.slice A26 x23.length c27], [.slice (vA g3 32 y31.1) ((a3.take y31.2).drop y31.1).length (32 - y31.1)]]) rfl (xs := [[(2 : UInt8)], x7, x15, x23, ((a3.take y31.2).drop y31.1)]) ⟨[.slice A5 ([(2 : UInt8)]).length 1], _, rfl, ⟨_, _, rfl, (hs43.mono (((le45.trans le49).trans le53).trans le57))⟩, ⟨[.slice A10 x7.length c11], _, rfl, ⟨_, _, rfl, (hs47.mono ((le49.trans le53).trans le57))⟩, ⟨[.slice A18 x15.length c19], _, rfl, ⟨_, _, rfl, (hs51.mono (le53.trans le57))⟩, ⟨[.slice A26 x23.length c27], _, rfl, ⟨_, _, rfl, (hs55.mono le57)⟩, ⟨[.slice (vA g3 32 y31.1) ((a3.take y31.2).drop y31.1).length (32 - y31.1)], _, rfl, ⟨_, _, rfl, hs60⟩, rfl⟩⟩⟩⟩⟩ (by simp only [List.mem_cons, List.not_mem_nil, or_false]; rintro c (rfl | rfl | rfl | rfl | rfl) <;> rfl) (fun a w A62 h => ?_)
      have hb63 : reps (tyL ty8) S56 ([[.slice A5 ([(2 : UInt8)]).length 1], [.slice A10 x7.length c11], [.slice A18 x15.length c19], [.slice A26 x23.length c27], [.slice (vA g3 32 y31.1) ((a3.take y31.2).drop y31.1).length (32 - y31.1)]] : List (List Value)).flatten [[(2 : UInt8)], x7, x15, x23, ((a3.take y31.2).drop y31.1)] := ⟨[.slice A5 ([(2 : UInt8)]).length 1], _, rfl, ⟨_, _, rfl, (hs43.mono (((le45.trans le49).trans le53).trans le57))⟩, ⟨[.slice A10 x7.length c11], _, rfl, ⟨_, _, rfl, (hs47.mono ((le49.trans le53).trans le57))⟩, ⟨[.slice A18 x15.length c19], _, rfl, ⟨_, _, rfl, (hs51.mono (le53.trans le57))⟩, ⟨[.slice A26 x23.length c27], _, rfl, ⟨_, _, rfl, (hs55.mono le57)⟩, ⟨[.slice (vA g3 32 y31.1) ((a3.take y31.2).drop y31.1).length (32 - y31.1)], _, rfl, ⟨_, _, rfl, hs60⟩, rfl⟩⟩⟩⟩⟩
      replace HS := (h.m.pick [2, 1] [.box g4 40 (List.replicate 32 (.int .u8 0 : Value)), .sn S56] (by decide) rfl).snLe 1 rfl ((((le41.trans le45).trans le49).trans le53).trans le57)
      refine hK _ _ (fun _ _ => HS) ?_
      clear hK
      refine d_alone 9 rfl (by kernel_rfl) (fun K hK => ?_)
      have hX := sha_Sum_ok Fu (S0 := snapAll _) A62 5 ([[(2 : UInt8)], x7, x15, x23, ((a3.take y31.2).drop y31.1)]) (h.m.rowAll (i := 0) rfl (j := 1) rfl hb63) _ h65 _ h.startAll
      refine q_callX hX h rfl rfl rfl (by decide) Try.func74 rfl rfl rfl (fun a w v L1 S1 hR hb1 h => ?_)
      obtain ⟨k67, rfl, rfl, hv68, _⟩ := hR
      obtain ⟨hs69, hl70⟩ := hv68
      have hq71 := hs69.fl (S' := S56) fl_8
      refine hK _ _ (fun _ _ => HS.ext hb1) ?_
      replace HS := HS.ext hb1
      clear hK
      refine d_alone 10 rfl (by kernel_rfl) (fun K hK => ?_)
      refine s_stW h rfl rfl rfl ag_A32_uint8 rfl (es := k67) rfl ((hq71).len.trans (by rw [hl70]; rfl)) (hq71).one 2 rfl (by first | rfl | simp_all) (fun a w h => ?_)
      refine hK _ _ (fun hne _ => absurd rfl hne) ?_
      clear hK
      refine d_done (by kernel_rfl) (HE _ _ ?_) _
      refine e_thenN ?_
      have h := h.pick [2, 1] (by decide) rfl
      exact ⟨S56, k67, ((((le41.trans le45).trans le49).trans le53).trans le57), up58, hq71, hl70, h.has (by exact ⟨rfl, trivial⟩)⟩
    · have hX := kdf_Number_ok Fu (S0 := snapAll _) a0 hra0 _ h8 _ h.startAll
      refine q_callX hX h rfl rfl rfl (by decide) Try.func75 rfl rfl rfl (fun a w v L1 S1 hR hb1 h => ?_)
      obtain ⟨A10, c11, cs12, rfl, rfl, hq13, _⟩ := hR
      have hq14 := hq13.fl (S' := S0) fl_8
      refine hK _ _ ⟨fun _ _ => HS.ext hb1, ?_⟩
      replace HS := HS.ext hb1
      clear hK
      refine d_two 0 4 (by kernel_rfl) (d_one 0 rfl _ (fun K hK => ?_)) (d_one 4 rfl _ (fun K hK => ?_))
      · refine q_bslice (T := ty8) (S := S0) h rfl rfl rfl (by decide) Try.underlying52 zi_uint8 (by decide) (by decide) (by decide) (by decide) [.int .u8 2] rfl rfl (C := [[.int .u8 2]]) rfl (xs := [(2 : UInt8)]) ⟨[.int .u8 2], _, rfl, rfl, rfl⟩ (by intro c hc; simp only [List.mem_cons, List.not_mem_nil, or_false] at hc; subst hc; rfl) (fun a w A5 h => ?_)
        have hb6 : reps ty8 S0 ([[.int .u8 2]] : List (List Value)).flatten [(2 : UInt8)] := ⟨[.int .u8 2], _, rfl, rfl, rfl⟩
        replace HS := h.m.pick [2, 4] [.box g4 40 (List.replicate 32 (.int .u8 0 : Value)), .sn S0] (by decide) rfl
        refine hK _ _ ⟨fun _ _ => HS, ?_⟩
        clear hK
        refine d_alone 4 rfl (by kernel_rfl) (fun K hK => ?_)
        have hX := kdf_Number_ok Fu (S0 := snapAll _) a1 hra1 _ h16 _ h.startAll
        refine q_callX hX h rfl rfl rfl (by decide) Try.func75 rfl rfl rfl (fun a w v L1 S1 hR hb1 h => ?_)
        obtain ⟨A18, c19, cs20, rfl, rfl, hq21, _⟩ := hR
        have hq22 := hq21.fl (S' := S0) fl_8
        refine hK _ _ (fun _ _ => HS.ext hb1) ?_
        replace HS := HS.ext hb1
        clear hK
        refine d_alone 6 rfl (by kernel_rfl) (fun K hK => ?_)
        have hX := kdf_Number_ok Fu (S0 := snapAll _) a2 hra2 _ h24 _ h.startAll
        refine q_callX hX h rfl rfl rfl (by decide) Try.func75 rfl rfl rfl (fun a w v L1 S1 hR hb1 h => ?_)
        obtain ⟨A26, c27, cs28, rfl, rfl, hq29, _⟩ := hR
        have hq30 := hq29.fl (S' := S0) fl_8
        refine hK _ _ (fun _ _ => HS.ext hb1) ?_
        replace HS := HS.ext hb1
        clear hK
        refine d_alone 8 rfl (by kernel_rfl) (fun K hK => ?_)
        have h := h.pick [2, 6, 0, 1, 3, 4, 5] (by decide) rfl
        obtain ⟨S40, le41, up42, hs43, h⟩ := q_freeze (T := ty8) h (Up.refl _ _ _) hb6
        have h := h.pick [3, 0, 1, 2, 4, 5] (by decide) rfl
        obtain ⟨S44, le45, up46, hs47, h⟩ := q_freeze (T := ty8) h up42 (hq14.mono le41)
        have h := h.pick [2, 0, 1, 3, 4] (by decide) rfl
        obtain ⟨S48, le49, up50, hs51, h⟩ := q_freeze (T := ty8) h up46 (hq22.mono (le41.trans le45))
        have h := h.pick [1, 0, 2, 3] (by decide) rfl
        obtain ⟨S52, le53, up54, hs55, h⟩ := q_freeze (T := ty8) h up50 (hq30.mono ((le41.trans le45).trans le49))
        have h := h.pick [2, 0, 1] (by decide) rfl
        obtain ⟨S56, le57, up58, hc59, h⟩ := q_freezeBox h up54
        obtain rfl : n37 = ((a3.take y31.2).drop y31.1).length := cut_len (by have := hm36; have := hl2; omega) hn38
        have hs60 := slS_vA (T := ty8) hc59 (hs1.mono ((((le41.trans le45).trans le49).trans le53).trans le57)) rfl hl2 (by decide) hm35 hm36
        have hf61 : 32 - y31.1 ≤ ((a3.take y31.2).drop y31.1).length := by have := hl2; have := hi34; simp only [List.length_drop, List.length_take]; omega
        refine q_bslice (T := tyL ty8) (S := S56) h rfl rfl rfl (by decide) Try.underlying64 zi_Suint8 (by decide) (by decide) (by decide) (by decide) [.slice A5 ([(2 : UInt8)]).length 1, .slice A10 x7.length c11, .slice A18 x15.length c19, .slice A26 x23.length c27, .slice (vA g3 32 y31.1) ((a3.take y31.2).drop y31.1).length (32 - y31.1)] rfl rfl (C := [[.slice A5 ([(2 : UInt8)]).length 1], [.slice A10 x7.length c11], [.slice A18 x15.length c19], [.slice A26 x23.length c27], [.slice (vA g3 32 y31.1) ((a3.take y31.2).drop y31.1).length (32 - y31.1)]]) rfl (xs := [[(2 : UInt8)], x7, x15, x23, ((a3.take y31.2).drop y31.1)]) ⟨[.slice A5 ([(2 : UInt8)]).length 1], _, rfl, ⟨_, _, rfl, (hs43.mono (((le45.trans le49).trans le53).trans le57))⟩, ⟨[.slice A10 x7.length c11], _, rfl, ⟨_, _, rfl, (hs47.mono ((le49.trans le53).trans le57))⟩, ⟨[.slice A18 x15.length c19], _, rfl, ⟨_, _, rfl, (hs51.mono (le53.trans le57))⟩, ⟨[.slice A26 x23.length c27], _, rfl, ⟨_, _, rfl, (hs55.mono le57)⟩, ⟨[.slice (vA g3 32 y31.1) ((a3.take y31.2).drop y31.1).length (32 - y31.1)], _, rfl, ⟨_, _, rfl, hs60⟩, rfl⟩⟩⟩⟩⟩ (by simp only [List.mem_cons, List.not_mem_nil, or_false]; rintro c (rfl | rfl | rfl | rfl | rfl) <;> rfl) (fun a w A62 h => ?_)
        have hb63 : reps (tyL ty8) S56 ([[.slice A5 ([(2 : UInt8)]).length 1], [.slice A10 x7.length c11], [.slice A18 x15.length c19], [.slice A26 x23.length c27], [.slice (vA g3 32 y31.1) ((a3.take y31.2).drop y31.1).length (32 - y31.1)]] : List (List Value)).flatten [[(2 : UInt8)], x7, x15, x23, ((a3.take y31.2).drop y31.1)] := ⟨[.slice A5 ([(2 : UInt8)]).length 1], _, rfl, ⟨_, _, rfl, (hs43.mono (((le45.trans le49).trans le53).trans le57))⟩, ⟨[.slice A10 x7.length c11], _, rfl, ⟨_, _, rfl, (hs47.mono ((le49.trans le53).trans le57))⟩, ⟨[.slice A18 x15.length c19], _, rfl, ⟨_, _, rfl, (hs51.mono (le53.trans le57))⟩, ⟨[.slice A26 x23.length c27], _, rfl, ⟨_, _, rfl, (hs55.mono le57)⟩, ⟨[.slice (vA g3 32 y31.1) ((a3.take y31.2).drop y31.1).length (32 - y31.1)], _, rfl, ⟨_, _, rfl, hs60⟩, rfl⟩⟩⟩⟩⟩
        replace HS := (h.m.pick [2, 1] [.box g4 40 (List.replicate 32 (.int .u8 0 : Value)), .sn S56] (by decide) rfl).snLe 1 rfl ((((le41.trans le45).trans le49).trans le53).trans le57)
        refine hK _ _ (fun _ _ => HS) ?_
        clear hK
        refine d_alone 9 rfl (by kernel_rfl) (fun K hK => ?_)
        have hX := sha_Sum_ok Fu (S0 := snapAll _) A62 5 ([[(2 : UInt8)], x7, x15, x23, ((a3.take y31.2).drop y31.1)]) (h.m.rowAll (i := 0) rfl (j := 1) rfl hb63) _ h65 _ h.startAll
        refine q_callX hX h rfl rfl rfl (by decide) Try.func74 rfl rfl rfl (fun a w v L1 S1 hR hb1 h => ?_)
        obtain ⟨k67, rfl, rfl, hv68, _⟩ := hR
        obtain ⟨hs69, hl70⟩ := hv68
        have hq71 := hs69.fl (S' := S56) fl_8
        refine hK _ _ (fun _ _ => HS.ext hb1) ?_
        replace HS := HS.ext hb1
        clear hK
        refine d_alone 10 rfl (by kernel_rfl) (fun K hK => ?_)
        refine s_stW h rfl rfl rfl ag_A32_uint8 rfl (es := k67) rfl ((hq71).len.trans (by rw [hl70]; rfl)) (hq71).one 2 rfl (by first | rfl | simp_all) (fun a w h => ?_)
        refine hK _ _ (fun hne _ => absurd rfl hne) ?_
        clear hK
        refine d_done (by kernel_rfl) (HE _ _ ?_) _
        refine e_thenN ?_
        have h := h.pick [2, 1] (by decide) rfl
        exact ⟨S56, k67, ((((le41.trans le45).trans le49).trans le53).trans le57), up58, hq71, hl70, h.has (by exact ⟨rfl, trivial⟩)⟩
      · have hX := kdf_Number_ok Fu (S0 := snapAll _) a1 hra1 _ h16 _ h.startAll
        refine q_callX hX h rfl rfl rfl (by decide) Try.func75 rfl rfl rfl (fun a w v L1 S1 hR hb1 h => ?_)
        obtain ⟨A18, c19, cs20, rfl, rfl, hq21, _⟩ := hR
        have hq22 := hq21.fl (S' := S0) fl_8
        refine hK _ _ ⟨fun _ _ => HS.ext hb1, ?_⟩
        replace HS := HS.ext hb1
        clear hK
        refine d_two 0 6 (by kernel_rfl) (d_one 0 rfl _ (fun K hK => ?_)) (d_one 6 rfl _ (fun K hK => ?_))
        · refine q_bslice (T := ty8) (S := S0) h rfl rfl rfl (by decide) Try.underlying52 zi_uint8 (by decide) (by decide) (by decide) (by decide) [.int .u8 2] rfl rfl (C := [[.int .u8 2]]) rfl (xs := [(2 : UInt8)]) ⟨[.int .u8 2], _, rfl, rfl, rfl⟩ (by intro c hc; simp only [List.mem_cons, List.not_mem_nil, or_false] at hc; subst hc; rfl) (fun a w A5 h => ?_)
          have hb6 : reps ty8 S0 ([[.int .u8 2]] : List (List Value)).flatten [(2 : UInt8)] := ⟨[.int .u8 2], _, rfl, rfl, rfl⟩
          replace HS := h.m.pick [3, 5] [.box g4 40 (List.replicate 32 (.int .u8 0 : Value)), .sn S0] (by decide) rfl
          refine hK _ _ ⟨fun _ _ => HS, ?_⟩
          clear hK
          refine d_alone 6 rfl (by kernel_rfl) (fun K hK => ?_)
          have hX := kdf_Number_ok Fu (S0 := snapAll _) a2 hra2 _ h24 _ h.startAll
          refine q_callX hX h rfl rfl rfl (by decide) Try.func75 rfl rfl rfl (fun a w v L1 S1 hR hb1 h => ?_)
          obtain ⟨A26, c27, cs28, rfl, rfl, hq29, _⟩ := hR
          have hq30 := hq29.fl (S' := S0) fl_8
          refine hK _ _ (fun _ _ => HS.ext hb1) ?_
          replace HS := HS.ext hb1
          clear hK
          refine d_alone 8 rfl (by kernel_rfl) (fun K hK => ?_)
          have h := h.pick [1, 6, 0, 2, 3, 4, 5] (by decide) rfl
          obtain ⟨S40, le41, up42, hs43, h⟩ := q_freeze (T := ty8) h (Up.refl _ _ _) hb6
          have h := h.pick [3, 0, 1, 2, 4, 5] (by decide) rfl
          obtain ⟨S44, le45, up46, hs47, h⟩ := q_freeze (T := ty8) h up42 (hq14.mono le41)
          have h := h.pick [2, 0, 1, 3, 4] (by decide) rfl
          obtain ⟨S48, le49, up50, hs51, h⟩ := q_freeze (T := ty8) h up46 (hq22.mono (le41.trans le45))
          have h := h.pick [1, 0, 2, 3] (by decide) rfl
          obtain ⟨S52, le53, up54, hs55, h⟩ := q_freeze (T := ty8) h up50 (hq30.mono ((le41.trans le45).trans le49))
          have h := h.pick [2, 0, 1] (by decide) rfl
          obtain ⟨S56, le57, up58, hc59, h⟩ := q_freezeBox h up54
          obtain rfl : n37 = ((a3.take y31.2).drop y31.1).length := cut_len (by have := hm36; have := hl2; omega) hn38
          have hs60 := slS_vA (T := ty8) hc59 (hs1.mono ((((le41.trans le45).trans le49).trans le53).trans le57)) rfl hl2 (by decide) hm35 hm36
          have hf61 : 32 - y31.1 ≤ ((a3.take y31.2).drop y31.1).length := by have := hl2; have := hi34; simp only [List.length_drop, List.length_take]; omega
          refine q_bslice (T := tyL ty8) (S := S56) h rfl rfl rfl (by decide) Try.underlying64 zi_Suint8 (by decide) (by decide) (by decide) (by decide) [.slice A5 ([(2 : UInt8)]).length 1, .slice A10 x7.length c11, .slice A18 x15.length c19, .slice A26 x23.length c27, .slice (vA g3 32 y31.1) ((a3.take y31.2).drop y31.1).length (32 - y31.1)] rfl rfl (C := [[.slice A5 ([(2 : UInt8)]).length 1], [.slice A10 x7.length c11], [.slice A18 x15.length c19], [.slice A26 x23.length c27], [.slice (vA g3 32 y31.1) ((a3.take y31.2).drop y31.1).length (32 - y31.1)]]) rfl (xs := [[(2 : UInt8)], x7, x15, x23, ((a3.take y31.2).drop y31.1)]) ⟨[.slice A5 ([(2 : UInt8)]).length 1], _, rfl, ⟨_, _, rfl, (hs43.mono (((le45.trans le49).trans le53).trans le57))⟩, ⟨[.slice A10 x7.length c11], _, rfl, ⟨_, _, rfl, (hs47.mono ((le49.trans le53).trans le57))⟩, ⟨[.slice A18 x15.length c19], _, rfl, ⟨_, _, rfl, (hs51.mono (le53.trans le57))⟩, ⟨[.slice A26 x23.length c27], _, rfl, ⟨_, _, rfl, (hs55.mono le57)⟩, ⟨[.slice (vA g3 32 y31.1) ((a3.take y31.2).drop y31.1).length (32 - y31.1)], _, rfl, ⟨_, _, rfl, hs60⟩, rfl⟩⟩⟩⟩⟩ (by simp only [List.mem_cons, List.not_mem_nil, or_false]; rintro c (rfl | rfl | rfl | rfl | rfl) <;> rfl) (fun a w A62 h => ?_)
          have hb63 : reps (tyL ty8) S56 ([[.slice A5 ([(2 : UInt8)]).length 1], [.slice A10 x7.length c11], [.slice A18 x15.length c19], [.slice A26 x23.length c27], [.slice (vA g3 32 y31.1) ((a3.take y31.2).drop y31.1).length (32 - y31.1)]] : List (List Value)).flatten [[(2 : UInt8)], x7, x15, x23, ((a3.take y31.2).drop y31.1)] := ⟨[.slice A5 ([(2 : UInt8)]).length 1], _, rfl, ⟨_, _, rfl, (hs43.mono (((le45.trans le49).trans le53).trans le57))⟩, ⟨[.slice A10 x7.length c11], _, rfl, ⟨_, _, rfl, (hs47.mono ((le49.trans le53).trans le57))⟩, ⟨[.slice A18 x15.length c19], _, rfl, ⟨_, _, rfl, (hs51.mono (le53.trans le57))⟩, ⟨[.slice A26 x23.length c27], _, rfl, ⟨_, _, rfl, (hs55.mono le57)⟩, ⟨[.slice (vA g3 32 y31.1) ((a3.take y31.2).drop y31.1).length (32 - y31.1)], _, rfl, ⟨_, _, rfl, hs60⟩, rfl⟩⟩⟩⟩⟩
          replace HS := (h.m.pick [2, 1] [.box g4 40 (List.replicate 32 (.int .u8 0 : Value)), .sn S56] (by decide) rfl).snLe 1 rfl ((((le41.trans le45).trans le49).trans le53).trans le57)
          refine hK _ _ (fun _ _ => HS) ?_
          clear hK
          refine d_alone 9 rfl (by kernel_rfl) (fun K hK => ?_)
          have hX := sha_Sum_ok Fu (S0 := snapAll _) A62 5 ([[(2 : UInt8)], x7, x15, x23, ((a3.take y31.2).drop y31.1)]) (h.m.rowAll (i := 0) rfl (j := 1) rfl hb63) _ h65 _ h.startAll
          refine q_callX hX h rfl rfl rfl (by decide) Try.func74 rfl rfl rfl (fun a w v L1 S1 hR hb1 h => ?_)
          obtain ⟨k67, rfl, rfl, hv68, _⟩ := hR
          obtain ⟨hs69, hl70⟩ := hv68
          have hq71 := hs69.fl (S' := S56) fl_8
          refine hK _ _ (fun _ _ => HS.ext hb1) ?_
          replace HS := HS.ext hb1
          clear hK
          refine d_alone 10 rfl (by kernel_rfl) (fun K hK => ?_)
          refine s_stW h rfl rfl rfl ag_A32_uint8 rfl (es := k67) rfl ((hq71).len.trans (by rw [hl70]; rfl)) (hq71).one 2 rfl (by first | rfl | simp_all) (fun a w h => ?_)
          refine hK _ _ (fun hne _ => absurd rfl hne) ?_
          clear hK
          refine d_done (by kernel_rfl) (HE _ _ ?_) _
          refine e_thenN ?_
          have h := h.pick [2, 1] (by decide) rfl
          exact ⟨S56, k67, ((((le41.trans le45).trans le49).trans le53).trans le57), up58, hq71, hl70, h.has (by exact ⟨rfl, trivial⟩)⟩
        · have hX := kdf_Number_ok Fu (S0 := snapAll _) a2 hra2 _ h24 _ h.startAll
          refine q_callX hX h rfl rfl rfl (by decide) Try.func75 rfl rfl rfl (fun a w v L1 S1 hR hb1 h => ?_)
          obtain ⟨A26, c27, cs28, rfl, rfl, hq29, _⟩ := hR
          have hq30 := hq29.fl (S' := S0) fl_8
          refine hK _ _ ⟨fun _ _ => HS.ext hb1, ?_⟩
          replace HS := HS.ext hb1
          clear hK
          refine d_alone 0 rfl (by kernel_rfl) (fun K hK => ?_)
          refine q_bslice (T := ty8) (S := S0) h rfl rfl rfl (by decide) Try.underlying52 zi_uint8 (by decide) (by decide) (by decide) (by decide) [.int .u8 2] rfl rfl (C := [[.int .u8 2]]) rfl (xs := [(2 : UInt8)]) ⟨[.int .u8 2], _, rfl, rfl, rfl⟩ (by intro c hc; simp only [List.mem_cons, List.not_mem_nil, or_false] at hc; subst hc; rfl) (fun a w A5 h => ?_)
          have hb6 : reps ty8 S0 ([[.int .u8 2]] : List (List Value)).flatten [(2 : UInt8)] := ⟨[.int .u8 2], _, rfl, rfl, rfl⟩
          replace HS := h.m.pick [4, 6] [.box g4 40 (List.replicate 32 (.int .u8 0 : Value)), .sn S0] (by decide) rfl
          refine hK _ _ (fun _ _ => HS) ?_
          clear hK
          refine d_alone 8 rfl (by kernel_rfl) (fun K hK => ?_)
          have h := h.pick [0, 6, 1, 2, 3, 4, 5] (by decide) rfl
          obtain ⟨S40, le41, up42, hs43, h⟩ := q_freeze (T := ty8) h (Up.refl _ _ _) hb6
          have h := h.pick [3, 0, 1, 2, 4, 5] (by decide) rfl
          obtain ⟨S44, le45, up46, hs47, h⟩ := q_freeze (T := ty8) h up42 (hq14.mono le41)
          have h := h.pick [2, 0, 1, 3, 4] (by decide) rfl
          obtain ⟨S48, le49, up50, hs51, h⟩ := q_freeze (T := ty8) h up46 (hq22.mono (le41.trans le45))
          have h := h.pick [1, 0, 2, 3] (by decide) rfl
          obtain ⟨S52, le53, up54, hs55, h⟩ := q_freeze (T := ty8) h up50 (hq30.mono ((le41.trans le45).trans le49))
          have h := h.pick [2, 0, 1] (by decide) rfl
          obtain ⟨S56, le57, up58, hc59, h⟩ := q_freezeBox h up54
          obtain rfl : n37 = ((a3.take y31.2).drop y31.1).length := cut_len (by have := hm36; have := hl2; omega) hn38
          have hs60 := slS_vA (T := ty8) hc59 (hs1.mono ((((le41.trans le45).trans le49).trans le53).trans le57)) rfl hl2 (by decide) hm35 hm36
          have hf61 : 32 - y31.1 ≤ ((a3.take y31.2).drop y31.1).length := by have := hl2; have := hi34; simp only [List.length_drop, List.length_take]; omega
          refine q_bslice (T := tyL ty8) (S := S56) h rfl rfl rfl (by decide) Try.underlying64 zi_Suint8 (by decide) (by decide) (by decide) (by decide) [.slice A5 ([(2 : UInt8)]).length 1, .slice A10 x7.length c11, .slice A18 x15.length c19, .slice A26 x23.length c27, .slice (vA g3 32 y31.1) ((a3.take y31.2).drop y31.1).length (32 - y31.1)] rfl rfl (C := [[.slice A5 ([(2 : UInt8)]).length 1], [.slice A10 x7.length c11], [.slice A18 x15.length c19], [.slice A26 x23.length c27], [.slice (vA g3 32 y31.1) ((a3.take y31.2).drop y31.1).length (32 - y31.1)]]) rfl (xs := [[(2 : UInt8)], x7, x15, x23, ((a3.take y31.2).drop y31.1)]) ⟨[.slice A5 ([(2 : UInt8)]).length 1], _, rfl, ⟨_, _, rfl, (hs43.mono (((le45.trans le49).trans le53).trans le57))⟩, ⟨[.slice A10 x7.length c11], _, rfl, ⟨_, _, rfl, (hs47.mono ((le49.trans le53).trans le57))⟩, ⟨[.slice A18 x15.length c19], _, rfl, ⟨_, _, rfl, (hs51.mono (le53.trans le57))⟩, ⟨[.slice A26 x23.length c27], _, rfl, ⟨_, _, rfl, (hs55.mono le57)⟩, ⟨[.slice (vA g3 32 y31.1) ((a3.take y31.2).drop y31.1).length (32 - y31.1)], _, rfl, ⟨_, _, rfl, hs60⟩, rfl⟩⟩⟩⟩⟩ (by simp only [List.mem_cons, List.not_mem_nil, or_false]; rintro c (rfl | rfl | rfl | rfl | rfl) <;> rfl) (fun a w A62 h => ?_)
          have hb63 : reps (tyL ty8) S56 ([[.slice A5 ([(2 : UInt8)]).length 1], [.slice A10 x7.length c11], [.slice A18 x15.length c19], [.slice A26 x23.length c27], [.slice (vA g3 32 y31.1) ((a3.take y31.2).drop y31.1).length (32 - y31.1)]] : List (List Value)).flatten [[(2 : UInt8)], x7, x15, x23, ((a3.take y31.2).drop y31.1)] := ⟨[.slice A5 ([(2 : UInt8)]).length 1], _, rfl, ⟨_, _, rfl, (hs43.mono (((le45.trans le49).trans le53).trans le57))⟩, ⟨[.slice A10 x7.length c11], _, rfl, ⟨_, _, rfl, (hs47.mono ((le49.trans le53).trans le57))⟩, ⟨[.slice A18 x15.length c19], _, rfl, ⟨_, _, rfl, (hs51.mono (le53.trans le57))⟩, ⟨[.slice A26 x23.length c27], _, rfl, ⟨_, _, rfl, (hs55.mono le57)⟩, ⟨[.slice (vA g3 32 y31.1) ((a3.take y31.2).drop y31.1).length (32 - y31.1)], _, rfl, ⟨_, _, rfl, hs60⟩, rfl⟩⟩⟩⟩⟩
          replace HS := (h.m.pick [2, 1] [.box g4 40 (List.replicate 32 (.int .u8 0 : Value)), .sn S56] (by decide) rfl).snLe 1 rfl ((((le41.trans le45).trans le49).trans le53).trans le57)
          refine hK _ _ (fun _ _ => HS) ?_
          clear hK
          refine d_alone 9 rfl (by kernel_rfl) (fun K hK => ?_)
          have hX := sha_Sum_ok Fu (S0 := snapAll _) A62 5 ([[(2 : UInt8)], x7, x15, x23, ((a3.take y31.2).drop y31.1)]) (h.m.rowAll (i := 0) rfl (j := 1) rfl hb63) _ h65 _ h.startAll
          refine q_callX hX h rfl rfl rfl (by decide) Try.func74 rfl rfl rfl (fun a w v L1 S1 hR hb1 h => ?_)
          obtain ⟨k67, rfl, rfl, hv68, _⟩ := hR
          obtain ⟨hs69, hl70⟩ := hv68
          have hq71 := hs69.fl (S' := S56) fl_8
          refine hK _ _ (fun _ _ => HS.ext hb1) ?_
          replace HS := HS.ext hb1
          clear hK
          refine d_alone 10 rfl (by kernel_rfl) (fun K hK => ?_)
          refine s_stW h rfl rfl rfl ag_A32_uint8 rfl (es := k67) rfl ((hq71).len.trans (by rw [hl70]; rfl)) (hq71).one 2 rfl (by first | rfl | simp_all) (fun a w h => ?_)
          refine hK _ _ (fun hne _ => absurd rfl hne) ?_
          clear hK
          refine d_done (by kernel_rfl) (HE _ _ ?_) _
          refine e_thenN ?_
          have h := h.pick [2, 1] (by decide) rfl
          exact ⟨S56, k67, ((((le41.trans le45).trans le49).trans le53).trans le57), up58, hq71, hl70, h.has (by exact ⟨rfl, trivial⟩)⟩
  obtain ⟨S72, k75, le73, up74, hs76, hl77, h⟩ := h
  refine e_thenN ?_
  refine wp_ret ?_
  rw [← Option.some.inj hf]
  exact r_ret1 h rfl (rv_cellA h rfl 0 rfl ag_A32_uint8 ((hs76).len.trans (by rw [hl77]; rfl))) ⟨_, [], _, rfl, ⟨k75, rfl, rfl, ⟨hs76, hl77⟩, trivial⟩, rfl, up74, (h.m.pick [1] _ (by decide) rfl)⟩
def forest_Sum (Fu : Nat) (a0 : Int × Int × Int × (List UInt8) × (List (Int × Int)) × (List (List UInt8)) × (List (List UInt8))) : Option ((List UInt8) × Int) :=
  (forest_one Fu a0).bind fun x30 => if (!x30) = true then (some ((List.replicate 32 ((0 : UInt8) : UInt8)), 2)) else ((merkle_Root Fu a0.2.2.2.2.2.2).bind fun x33 => if x33.2 ≠ 0 then (some ((List.replicate 32 ((0 : UInt8) : UInt8)), x33.2)) else ((forest_head Fu a0.1 a0.2.1 a0.2.2.1 x33.1).bind fun x43 => some (x43, 0)))
set_option maxRecDepth 100000 in
set_option maxHeartbeats 2000000 in
theorem forest_Sum_ok (Fu : Nat) {S0 : Snap} (csa0 : List Value) (a0 : Int × Int × Int × (List UInt8) × (List (Int × Int)) × (List (List UInt8)) × (List (List UInt8))) (hsa0 : (tyP tyI (tyP tyI (tyP tyI (tyP (tyL ty8) (tyP (tyL (tyP tyI tyI)) (tyP (tyL (tyL ty8)) (tyL (tyA 32 ty8)))))))).rep S0 csa0 a0) (r : (List UInt8) × Int) (hf : forest_Sum Fu a0 = some r) (w0 : World) (hm : Mem w0 (ownL ([] ++ [.sn S0])) ([] ++ [.sn S0]) w0) :
    Calls Try.prog 37 #[.agg csa0.toArray] w0 (Ret w0 S0 [] (fun v L1 S1 => ∃ (k51 : List Value), v = .tuple #[.agg k51.toArray, .int .i64 r.2] ∧ L1 = [] ∧ (tyA 32 ty8).rep S1 k51 r.1 ∧ r64 r.2 ∧ True)) := by
  unfold forest_Sum at hf
  obtain ⟨k1, k2, rfl, ⟨rfl, hr3⟩, ⟨k4, k5, rfl, ⟨rfl, hr6⟩, ⟨k7, k8, rfl, ⟨rfl, hr9⟩, ⟨k10, k11, rfl, ⟨A12, c13, rfl, hs14⟩, ⟨k15, k16, rfl, ⟨A17, c18, rfl, hs19⟩, ⟨k20, k21, rfl, ⟨A22, c23, rfl, hs24⟩, ⟨A25, c26, rfl, hs27⟩⟩⟩⟩⟩⟩⟩ := hsa0
  refine c_enterM Try.func37 rfl 28 rfl (by simp) _ hm _ rfl (fun a h => ?_)
  refine c_rs ?_ -- region 0
  refine s_box h rfl rfl rfl (by decide) rfl (cs := [.int .i64 a0.1, .int .i64 a0.2.1, .int .i64 a0.2.2.1, .slice A12 a0.2.2.2.1.length c13, .slice A17 a0.2.2.2.2.1.length c18, .slice A22 a0.2.2.2.2.2.1.length c23, .slice A25 a0.2.2.2.2.2.2.length c26]) (by rfl) (fun a w g28 h => ?_)
  refine s_alloc h rfl rfl rfl (by decide) zi_A32_uint8 rfl (fun a w g29 h => ?_)
  refine s_assign h rfl _ rfl rfl (by decide) rfl (fun a h => ?_)
  refine l_end ?_
  refine wp_seq ?_
  refine c_rs ?_ -- region 1
  refine s_x h rfl rfl (by decide) (x_ldR h.k rfl ag_api_Space rfl ([.int .i64 a0.1, .int .i64 a0.2.1, .int .i64 a0.2.2.1, .slice A12 a0.2.2.2.1.length c13, .slice A17 a0.2.2.2.2.1.length c18, .slice A22 a0.2.2.2.2.2.1.length c23, .slice A25 a0.2.2.2.2.2.2.length c26]) rfl (h.m.range0 (i := 1) rfl)) (fun a h => ?_)
  obtain ⟨x30, h31, hf⟩ := bsome hf
  have hX := forest_one_ok Fu (S0 := snapAll _) ([.int .i64 a0.1, .int .i64 a0.2.1, .int .i64 a0.2.2.1, .slice A12 a0.2.2.2.1.length c13, .slice A17 a0.2.2.2.2.1.length c18, .slice A22 a0.2.2.2.2.2.1.length c23, .slice A25 a0.2.2.2.2.2.2.length c26]) a0 ((tyP tyI (tyP tyI (tyP tyI (tyP (tyL ty8) (tyP (tyL (tyP tyI tyI)) (tyP (tyL (tyL ty8)) (tyL (tyA 32 ty8)))))))).mono (h.m.leAll (i := 2) rfl) (show (tyP tyI (tyP tyI (tyP tyI (tyP (tyL ty8) (tyP (tyL (tyP tyI tyI)) (tyP (tyL (tyL ty8)) (tyL (tyA 32 ty8)))))))).rep S0 ([.int .i64 a0.1, .int .i64 a0.2.1, .int .i64 a0.2.2.1, .slice A12 a0.2.2.2.1.length c13, .slice A17 a0.2.2.2.2.1.length c18, .slice A22 a0.2.2.2.2.2.1.length c23, .slice A25 a0.2.2.2.2.2.2.length c26]) a0 from ⟨[.int .i64 a0.1], [.int .i64 a0.2.1, .int .i64 a0.2.2.1, .slice A12 a0.2.2.2.1.length c13, .slice A17 a0.2.2.2.2.1.length c18, .slice A22 a0.2.2.2.2.2.1.length c23, .slice A25 a0.2.2.2.2.2.2.length c26], rfl, ⟨rfl, hr3⟩, ⟨[.int .i64 a0.2.1], [.int .i64 a0.2.2.1, .slice A12 a0.2.2.2.1.length c13, .slice A17 a0.2.2.2.2.1.length c18, .slice A22 a0.2.2.2.2.2.1.length c23, .slice A25 a0.2.2.2.2.2.2.length c26], rfl, ⟨rfl, hr6⟩, ⟨[.int .i64 a0.2.2.1], [.slice A12 a0.2.2.2.1.length c13, .slice A17 a0.2.2.2.2.1.length c18, .slice A22 a0.2.2.2.2.2.1.length c23, .slice A25 a0.2.2.2.2.2.2.length c26], rfl, ⟨rfl, hr9⟩, ⟨[.slice A12 a0.2.2.2.1.length c13], [.slice A17 a0.2.2.2.2.1.length c18, .slice A22 a0.2.2.2.2.2.1.length c23, .slice A25 a0.2.2.2.2.2.2.length c26], rfl, ⟨_, _, rfl, hs14⟩, ⟨[.slice A17 a0.2.2.2.2.1.length c18], [.slice A22 a0.2.2.2.2.2.1.length c23, .slice A25 a0.2.2.2.2.2.2.length c26], rfl, ⟨_, _, rfl, hs19⟩, ⟨[.slice A22 a0.2.2.2.2.2.1.length c23], [.slice A25 a0.2.2.2.2.2.2.length c26], rfl, ⟨_, _, rfl, hs24⟩, ⟨_, _, rfl, hs27⟩⟩⟩⟩⟩⟩⟩)) _ h31 _ h.startAll
  refine q_callX hX h rfl rfl rfl (by decide) Try.func77 rfl rfl rfl (fun a w v L1 S1 hR hb1 h => ?_)
  obtain ⟨rfl, rfl, _⟩ := hR
  refine s_x h rfl rfl (by decide) (x_not h.k rfl rfl) (fun a h => ?_)
  refine l_end ?_
  refine c_cond h rfl (fun hb => ?_) (fun hb => ?_)
  · rw [if_pos hb] at hf
    refine c_rs ?_ -- region 2
    refine s_x h rfl rfl (by decide) (x_build h.k rfl [] rfl (List.replicate 32 (.int .u8 0 : Value)) (by kernel_rfl)) (fun a h => ?_)
    refine s_stW h rfl rfl rfl ag_A32_uint8 rfl (es := (List.replicate 32 (.int .u8 0 : Value))) rfl (by first | rfl | simp_all) ((show reps ty8 S0 (List.replicate 32 (.int .u8 0 : Value)) (List.replicate 32 ((0 : UInt8) : UInt8)) from repsRep1 (x := ((0 : UInt8) : UInt8)) rfl)).one 0 rfl (by first | rfl | simp_all) (fun a w h => ?_)
    refine s_assign h rfl _ rfl rfl (by decide) rfl (fun a h => ?_)
    refine l_end ?_
    refine wp_ret ?_
    refine e_thenR ?_
    obtain rfl := Option.some.inj hf
    exact r_ret2 h rfl (rv_cellA h rfl 0 rfl ag_A32_uint8 (by first | rfl | simp_all)) (rv_tmp h rfl) ⟨_, [], _, rfl, ⟨(List.replicate 32 (.int .u8 0 : Value)), rfl, rfl, ⟨(show reps ty8 S0 (List.replicate 32 (.int .u8 0 : Value)) (List.replicate 32 ((0 : UInt8) : UInt8)) from repsRep1 (x := ((0 : UInt8) : UInt8)) rfl), (show (List.replicate 32 ((0 : UInt8) : UInt8)).length = 32 from List.length_replicate)⟩, (show r64 2 from ⟨by decide, by decide⟩), trivial⟩, rfl, (Up.refl _ _ _), (h.m.pick [2] _ (by decide) rfl)⟩
  · rw [if_neg (by rw [hb]; decide)] at hf
    refine wp_skip ?_
    refine e_thenN ?_
    refine c_rs ?_ -- region 3
    refine s_x h rfl rfl (by decide) (x_faddr h.k rfl Try.underlying66 rfl sz_SA32_uint8 rfl) (fun a h => ?_)
    refine s_x h rfl rfl (by decide) (x_ld h.k rfl Try.underlying39 rfl rfl ((h.m.cell (i := 1) rfl 6).trans rfl)) (fun a h => ?_)
    obtain ⟨x33, h34, hf⟩ := bsome hf
    have hX := merkle_Root_ok Fu (S0 := snapAll _) A25 c26 a0.2.2.2.2.2.2 (hs27.mono (h.m.leAll (i := 2) rfl)) _ h34 _ h.startAll
    refine q_callX hX h rfl rfl rfl (by decide) Try.func24 rfl rfl rfl (fun a w v L1 S1 hR hb1 h => ?_)
    obtain ⟨k36, rfl, rfl, hv37, hr40, _⟩ := hR
    obtain ⟨hs38, hl39⟩ := hv37
    have hq41 := hs38.fl (S' := S0) fl_8
    refine s_move h rfl _ rfl rfl (by decide) rfl (fun a h => ?_)
    refine s_x h rfl rfl (by decide) (x_ext h.k rfl rfl rfl) (fun a h => ?_)
    refine s_x h rfl rfl (by decide) (x_ext h.k rfl rfl rfl) (fun a h => ?_)
    refine s_alloc h rfl rfl rfl (by decide) zi_A32_uint8 rfl (fun a w g42 h => ?_)
    refine s_stW h rfl rfl rfl ag_A32_uint8 rfl (es := k36) rfl ((hq41).len.trans (by rw [hl39]; rfl)) (hq41).one 0 rfl (by first | rfl | simp_all) (fun a w h => ?_)
    refine s_assign h rfl _ rfl rfl (by decide) rfl (fun a h => ?_)
    refine l_end ?_
    refine wp_seq ?_
    refine c_rs ?_ -- region 4
    refine s_move h rfl _ rfl rfl (by decide) rfl (fun a h => ?_)
    refine s_x h rfl rfl (by decide) (x_bin h.k rfl rfl rfl ib_neq) (fun a h => ?_)
    refine l_end ?_
    refine c_cond h rfl (fun hb => ?_) (fun hb => ?_)
    · rw [if_pos (of_decide_eq_true hb)] at hf
      refine c_rs ?_ -- region 5
      refine s_x h rfl rfl (by decide) (x_build h.k rfl [] rfl (List.replicate 32 (.int .u8 0 : Value)) (by kernel_rfl)) (fun a h => ?_)
      refine s_move h rfl _ rfl rfl (by decide) rfl (fun a h => ?_)
      refine s_stW h rfl rfl rfl ag_A32_uint8 rfl (es := (List.replicate 32 (.int .u8 0 : Value))) rfl (by first | rfl | simp_all) ((show reps ty8 S0 (List.replicate 32 (.int .u8 0 : Value)) (List.replicate 32 ((0 : UInt8) : UInt8)) from repsRep1 (x := ((0 : UInt8) : UInt8)) rfl)).one 1 rfl (by first | rfl | simp_all) (fun a w h => ?_)
      refine s_assign h rfl _ rfl rfl (by decide) rfl (fun a h => ?_)
      refine l_end ?_
      refine wp_ret ?_
      refine e_thenR ?_
      obtain rfl := Option.some.inj hf
      exact r_ret2 h rfl (rv_cellA h rfl 1 rfl ag_A32_uint8 (by first | rfl | simp_all)) (rv_tmp h rfl) ⟨_, [], _, rfl, ⟨(List.replicate 32 (.int .u8 0 : Value)), rfl, rfl, ⟨(show reps ty8 S0 (List.replicate 32 (.int .u8 0 : Value)) (List.replicate 32 ((0 : UInt8) : UInt8)) from repsRep1 (x := ((0 : UInt8) : UInt8)) rfl), (show (List.replicate 32 ((0 : UInt8) : UInt8)).length = 32 from List.length_replicate)⟩, hr40, trivial⟩, rfl, (Up.refl _ _ _), (h.m.pick [3] _ (by decide) rfl)⟩
    · rw [if_neg (of_decide_eq_false hb)] at hf
      refine wp_skip ?_
      refine e_thenN ?_
      refine c_rs ?_ -- region 6
      refine s_x h rfl rfl (by decide) (x_faddr h.k rfl Try.underlying66 rfl sz_int rfl) (fun a h => ?_)
      refine s_x h rfl rfl (by decide) (x_ld h.k rfl Try.underlying3 rfl rfl ((h.m.cell (i := 2) rfl 0).trans rfl)) (fun a h => ?_)
      refine s_x h rfl rfl (by decide) (x_faddr h.k rfl Try.underlying66 rfl sz_int rfl) (fun a h => ?_)
      refine s_x h rfl rfl (by decide) (x_ld h.k rfl Try.underlying3 rfl rfl ((h.m.cell (i := 2) rfl 1).trans rfl)) (fun a h => ?_)
      refine s_x h rfl rfl (by decide) (x_faddr h.k rfl Try.underlying66 rfl sz_int rfl) (fun a h => ?_)
      refine s_x h rfl rfl (by decide) (x_ld h.k rfl Try.underlying3 rfl rfl ((h.m.cell (i := 2) rfl 2).trans rfl)) (fun a h => ?_)
      refine s_x h rfl rfl (by decide) (x_ldR h.k rfl ag_A32_uint8 rfl k36 ((hq41).len.trans (by rw [hl39]; rfl)) (h.m.range0 (i := 0) rfl)) (fun a h => ?_)
      obtain ⟨x43, h44, hf⟩ := bsome hf
      have hX := forest_head_ok Fu (S0 := snapAll _) a0.1 hr3 a0.2.1 hr6 a0.2.2.1 hr9 k36 x33.1 ((tyA 32 ty8).mono (h.m.leAll (i := 3) rfl) (show (tyA 32 ty8).rep S0 k36 x33.1 from ⟨hq41, hl39⟩)) _ h44 _ h.startAll
      refine q_callX hX h rfl rfl rfl (by decide) Try.func78 rfl rfl rfl (fun a w v L1 S1 hR hb1 h => ?_)
      obtain ⟨k46, rfl, rfl, hv47, _⟩ := hR
      obtain ⟨hs48, hl49⟩ := hv47
      have hq50 := hs48.fl (S' := S0) fl_8
      refine s_stW h rfl rfl rfl ag_A32_uint8 rfl (es := k46) rfl ((hq50).len.trans (by rw [hl49]; rfl)) (hq50).one 1 rfl (by first | rfl | simp_all) (fun a w h => ?_)
      refine s_assign h rfl _ rfl rfl (by decide) rfl (fun a h => ?_)
      refine l_end ?_
      refine wp_ret ?_
      obtain rfl := Option.some.inj hf
      exact r_ret2 h rfl (rv_cellA h rfl 1 rfl ag_A32_uint8 ((hq50).len.trans (by rw [hl49]; rfl))) (rv_tmp h rfl) ⟨_, [], _, rfl, ⟨k46, rfl, rfl, ⟨hq50, hl49⟩, (show r64 0 from ⟨by decide, by decide⟩), trivial⟩, rfl, (Up.refl _ _ _), (h.m.pick [3] _ (by decide) rfl)⟩
def forest_sums (Fu : Nat) : List (Int × Int × Int × (List UInt8) × (List (Int × Int)) × (List (List UInt8)) × (List (List UInt8))) → Option (List (List UInt8))
  | [] => some []
  | s :: r => (forest_Sum Fu s).bind fun x => (forest_sums Fu r).bind fun rs => some (x.1 :: rs)
def enc32 (x : List UInt8) : Array Value := #[.agg (by8 x).toArray]
set_option maxRecDepth 100000 in
set_option maxHeartbeats 4000000 in
theorem sums_iter (Fu : Nat) (a0 : List (Int × Int × Int × (List UInt8) × (List (Int × Int)) × (List (List UInt8)) × (List (List UInt8)))) (Aa0 : Option Addr) (ca0 : Nat) (xs : List (List UInt8)) (hf : forest_sums Fu a0 = some xs) {S : Snap} (hsa0 : slS (tyP tyI (tyP tyI (tyP tyI (tyP (tyL ty8) (tyP (tyL (tyP tyI tyI)) (tyP (tyL (tyL ty8)) (tyL (tyA 32 ty8)))))))) S Aa0 ca0 a0) {g : Nat} (hg : ∀ w, SnapOK S w → w.cell? ⟨g, 0, none⟩ = some (.slice Aa0 a0.length ca0)) :
    IterV Try.prog enc32 (.func (.func 115) #[] #[.pointer (some ⟨g, 0, none⟩)]) xs S := by
  refine ⟨_, _, rfl, enters_c Try.func115 rfl rfl, fun l J Jx W hJS hJ hJx hY h0 => ?_⟩
  show Calls _ _ #[.func (.yield l) #[] #[], .pointer (some ⟨g, 0, none⟩)] W _
  refine c_enterM Try.func115 rfl 23 rfl (by simp) _ (Mem.startS (hJS _ _ h0)) _ rfl (fun a h => ?_)
  refine c_rs ?_
  refine s_x h rfl rfl (by decide) (x_ld h.k rfl Try.underlying61 rfl rfl (hg _ (h.m.snOK (i := 0) rfl))) (fun a h => ?_)
  refine s_x h rfl rfl (by decide) (x_len h.k rfl Try.underlying61 rfl) (fun a h => ?_)
  refine s_move h rfl _ rfl rfl (by decide) rfl (fun a h => ?_)
  refine l_end ?_
  refine wp_block ?_
  refine c_loop (fun m a w => ∃ (pre rest : List (List UInt8)) (i : Nat), i + m = a0.length ∧ xs = pre ++ rest ∧ forest_sums Fu (a0.drop i) = some rest ∧ Knows 23 [(0, .func (.yield l) #[] #[]), (1, .pointer (some ⟨g, 0, none⟩)), (7, .slice Aa0 a0.length ca0), (8, .int .i64 (a0.length : Int)), (9, .int .i64 (i : Int))] a ∧ J pre w) a0.length ⟨[], xs, 0, by omega, rfl, hf, (h.has (L := [.sn S]) (by exact ⟨rfl, rfl, rfl, rfl, rfl, trivial⟩)).k, hJ _ _ _ h0 (below_of h.m)⟩ (fun m a w hI => ?_)
  obtain ⟨pre, rest, i, him, hx, hl, hk, hJ0⟩ := hI
  have h := St.fresh hk (hJS _ _ hJ0)
  have hlen : a0.length ≤ maxLen := Nat.le_trans hsa0.1 hsa0.2.1
  refine c_rs ?_
  refine s_x h rfl rfl (by decide) (x_bin h.k rfl rfl rfl ib_lss) (fun a h => ?_)
  refine l_end ?_
  refine c_cs h rfl (fun hb => ?_) (fun hb => ?_)
  · have hlt : i < a0.length := by have := of_decide_eq_true hb; omega
    obtain ⟨x15, hx15⟩ : ∃ x, a0[i]? = some x := ⟨_, List.getElem?_eq_getElem hlt⟩
    have hdr : a0.drop i = x15 :: a0.drop (i + 1) := by
      obtain ⟨hh, rfl⟩ := List.getElem?_eq_some_iff.1 hx15
      exact List.drop_eq_getElem_cons hh
    rw [hdr, forest_sums] at hl
    obtain ⟨x55, h56, hl⟩ := bsome hl
    obtain ⟨rs, hrs, hl⟩ := bsome hl
    obtain rfl := Option.some.inj hl
    have hidx : idx a0 (i : Int) = some x15 := by unfold idx; rw [if_pos (by omega), Int.toNat_natCast]; exact hx15
    obtain ⟨m16, hi20, hm21, hx22⟩ := idx_some hidx
    refine wp_skip ?_
    refine e_thenN ?_
    refine wp_seq ?_
    refine wp_block ?_
    refine c_rs ?_
    obtain ⟨b17, off18, k23, hA24, hu25, hc26⟩ := (hsa0).at (by decide) hx22 (h.m.snOK (i := 0) rfl)
    obtain ⟨k27, k28, rfl, ⟨rfl, hr29⟩, ⟨k30, k31, rfl, ⟨rfl, hr32⟩, ⟨k33, k34, rfl, ⟨rfl, hr35⟩, ⟨k36, k37, rfl, ⟨A38, c39, rfl, hs40⟩, ⟨k41, k42, rfl, ⟨A43, c44, rfl, hs45⟩, ⟨k46, k47, rfl, ⟨A48, c49, rfl, hs50⟩, ⟨A51, c52, rfl, hs53⟩⟩⟩⟩⟩⟩⟩ := hu25
    refine s_x h rfl rfl (by decide) (x_iaddrE h.k rfl Try.underlying61 sz_api_Space hA24 rfl rfl hi20 hm21) (fun a h => ?_)
    refine s_x h rfl rfl (by decide) (x_ldR h.k rfl ag_api_Space rfl ([.int .i64 x15.1, .int .i64 x15.2.1, .int .i64 x15.2.2.1, .slice A38 x15.2.2.2.1.length c39, .slice A43 x15.2.2.2.2.1.length c44, .slice A48 x15.2.2.2.2.2.1.length c49, .slice A51 x15.2.2.2.2.2.2.length c52]) rfl (hc26 _ (h.m.snOK (i := 0) rfl))) (fun a h => ?_)
    refine s_alloc h rfl rfl rfl (by decide) zi_api_Space rfl (fun a w g54 h => ?_)
    refine s_stW h rfl rfl rfl ag_api_Space rfl (es := [.int .i64 x15.1, .int .i64 x15.2.1, .int .i64 x15.2.2.1, .slice A38 x15.2.2.2.1.length c39, .slice A43 x15.2.2.2.2.1.length c44, .slice A48 x15.2.2.2.2.2.1.length c49, .slice A51 x15.2.2.2.2.2.2.length c52]) rfl rfl (by simp [Value.oneCell']) 0 rfl rfl (fun a w h => ?_)
    refine l_end ?_
    refine c_rs ?_
    refine s_x h rfl rfl (by decide) (x_ldR h.k rfl ag_api_Space rfl ([.int .i64 x15.1, .int .i64 x15.2.1, .int .i64 x15.2.2.1, .slice A38 x15.2.2.2.1.length c39, .slice A43 x15.2.2.2.2.1.length c44, .slice A48 x15.2.2.2.2.2.1.length c49, .slice A51 x15.2.2.2.2.2.2.length c52]) rfl (h.m.range0 (i := 0) rfl)) (fun a h => ?_)
    have hX := forest_Sum_ok Fu (S0 := snapAll _) ([.int .i64 x15.1, .int .i64 x15.2.1, .int .i64 x15.2.2.1, .slice A38 x15.2.2.2.1.length c39, .slice A43 x15.2.2.2.2.1.length c44, .slice A48 x15.2.2.2.2.2.1.length c49, .slice A51 x15.2.2.2.2.2.2.length c52]) x15 ((tyP tyI (tyP tyI (tyP tyI (tyP (tyL ty8) (tyP (tyL (tyP tyI tyI)) (tyP (tyL (tyL ty8)) (tyL (tyA 32 ty8)))))))).mono (h.m.leAll (i := 1) rfl) (show (tyP tyI (tyP tyI (tyP tyI (tyP (tyL ty8) (tyP (tyL (tyP tyI tyI)) (tyP (tyL (tyL ty8)) (tyL (tyA 32 ty8)))))))).rep S ([.int .i64 x15.1, .int .i64 x15.2.1, .int .i64 x15.2.2.1, .slice A38 x15.2.2.2.1.length c39, .slice A43 x15.2.2.2.2.1.length c44, .slice A48 x15.2.2.2.2.2.1.length c49, .slice A51 x15.2.2.2.2.2.2.length c52]) x15 from ⟨[.int .i64 x15.1], [.int .i64 x15.2.1, .int .i64 x15.2.2.1, .slice A38 x15.2.2.2.1.length c39, .slice A43 x15.2.2.2.2.1.length c44, .slice A48 x15.2.2.2.2.2.1.length c49, .slice A51 x15.2.2.2.2.2.2.length c52], rfl, ⟨rfl, hr29⟩, ⟨[.int .i64 x15.2.1], [.int .i64 x15.2.2.1, .slice A38 x15.2.2.2.1.length c39, .slice A43 x15.2.2.2.2.1.length c44, .slice A48 x15.2.2.2.2.2.1.length c49, .slice A51 x15.2.2.2.2.2.2.length c52], rfl, ⟨rfl, hr32⟩, ⟨[.int .i64 x15.2.2.1], [.slice A38 x15.2.2.2.1.length c39, .slice A43 x15.2.2.2.2.1.length c44, .slice A48 x15.2.2.2.2.2.1.length c49, .slice A51 x15.2.2.2.2.2.2.length c52], rfl, ⟨rfl, hr35⟩, ⟨[.slice A38 x15.2.2.2.1.length c39], [.slice A43 x15.2.2.2.2.1.length c44, .slice A48 x15.2.2.2.2.2.1.length c49, .slice A51 x15.2.2.2.2.2.2.length c52], rfl, ⟨_, _, rfl, hs40⟩, ⟨[.slice A43 x15.2.2.2.2.1.length c44], [.slice A48 x15.2.2.2.2.2.1.length c49, .slice A51 x15.2.2.2.2.2.2.length c52], rfl, ⟨_, _, rfl, hs45⟩, ⟨[.slice A48 x15.2.2.2.2.2.1.length c49], [.slice A51 x15.2.2.2.2.2.2.length c52], rfl, ⟨_, _, rfl, hs50⟩, ⟨_, _, rfl, hs53⟩⟩⟩⟩⟩⟩⟩)) _ h56 _ h.startAll
    refine q_callX hX h rfl rfl rfl (by decide) Try.func37 rfl rfl rfl (fun a w v L1 S1 hR hb1 h => ?_)
    obtain ⟨k58, rfl, rfl, hv59, hr62, _⟩ := hR
    obtain ⟨hs60, hl61⟩ := hv59
    have hq63 := hs60.fl (S' := S) fl_8
    refine s_move h rfl _ rfl rfl (by decide) rfl (fun a h => ?_)
    refine s_x h rfl rfl (by decide) (x_ext h.k rfl rfl rfl) (fun a h => ?_)
    refine s_x h rfl rfl (by decide) (x_ext h.k rfl rfl rfl) (fun a h => ?_)
    refine s_alloc h rfl rfl rfl (by decide) zi_A32_uint8 rfl (fun a w g64 h => ?_)
    refine s_stW h rfl rfl rfl ag_A32_uint8 rfl (es := k58) rfl ((hq63).len.trans (by rw [hl61]; rfl)) (hq63).one 0 rfl (by first | rfl | simp_all) (fun a w h => ?_)
    refine s_assign h rfl _ rfl rfl (by decide) rfl (fun a h => ?_)
    refine l_end ?_
    obtain rfl := reps8 hq63
    have hJ1 := hJ _ _ _ hJ0 (below_of h.m)
    refine wp_seq ?_
    refine (wpIn_wide (n := 0)).1 (wpIn_region_lit ?_)
    refine list_take 2 ?_
    refine s_move h rfl _ rfl rfl (by decide) rfl (fun a h => ?_)
    refine s_x h rfl rfl (by decide) (x_ldR h.k rfl ag_A32_uint8 rfl (by8 x55.1) (((rep8 S x55.1)).len.trans (by rw [hl61]; rfl)) (h.m.range0 (i := 0) rfl)) (fun a h => ?_)
    refine l_nil ⟨rfl, ?_⟩
    refine s_yield h.k rfl rfl rfl (by decide) rfl (vs := [.agg (by8 x55.1).toArray]) rfl (hY pre x55.1 rs _ hx hJ1) (fun e w hR => ?_)
    rcases hR with ⟨rfl, hJ2⟩ | ⟨rfl, hJ2⟩
    · refine ⟨true, rfl, fun a hk => ?_⟩
      have h := St.fresh hk (hJS _ _ hJ2)
      refine list_take 1 ?_
      refine s_x h rfl rfl (by decide) (x_not h.k rfl rfl) (fun a h => ?_)
      refine l_nil ⟨rfl, ?_⟩
      refine wpListIn_nil ?_
      refine e_thenN ?_
      refine c_cond h rfl (fun hb => absurd hb (by decide)) (fun hb => ?_)
      refine wp_skip ?_
      refine e_blkN ?_
      refine e_thenN ?_
      refine c_r ?_
      refine s_x h rfl rfl (by decide) (x_bin h.k rfl rfl rfl (ib_add rfl)) (fun a h => ?_)
      refine s_move h rfl _ rfl rfl (by decide) rfl (fun a h => ?_)
      refine l_nil ?_
      obtain _ | m := m
      · omega
      have hw1 : IntKind.i64.wrap ((i : Int) + 1) = ((i + 1 : Nat) : Int) := by have := w64_of (x := (i : Int) + 1) (by unfold maxLen at hlen; omega); unfold w64 at this; omega
      rw [hw1] at h
      exact e_thenN ⟨m, Nat.lt_succ_self _, pre ++ [x55.1], rs, i + 1, by omega, by rw [hx, List.append_assoc]; rfl, hrs, (h.has (L := [.sn S]) (by exact ⟨rfl, rfl, rfl, rfl, rfl, trivial⟩)).k, hJ _ _ _ hJ2 (below_of h.m)⟩
    · refine ⟨false, rfl, fun a hk => ?_⟩
      have h := St.fresh (S := fun _ => none) (w := w) hk (fun _ _ h => by cases h)
      refine list_take 1 ?_
      refine s_x h rfl rfl (by decide) (x_not h.k rfl rfl) (fun a h => ?_)
      refine l_nil ⟨rfl, ?_⟩
      refine wpListIn_nil ?_
      refine e_thenN ?_
      refine c_cond h rfl (fun hb => ?_) (fun hb => absurd hb (by decide))
      refine wp_ret ?_
      refine e_blkR ?_
      refine e_thenR ?_
      refine e_thenR ?_
      refine e_blkR ?_
      exact r_ret0 h rfl ⟨⟨_, rfl⟩, .inr hJ2⟩
  · have hge : i = a0.length := by have := of_decide_eq_false hb; omega
    rw [hge, List.drop_length, forest_sums] at hl
    obtain rfl := Option.some.inj hl
    refine wp_exit ?_
    refine e_thenX ?_
    refine e_thenX ?_
    refine e_blkX ?_
    have hJ1 := hJ _ _ _ hJ0 (below_of h.m)
    rw [List.append_nil] at hx
    rw [hx]
    exact r_norm (r_ret0 h rfl ⟨⟨_, rfl⟩, .inl hJ1⟩)
theorem sums_len (Fu : Nat) : ∀ (l : List (Int × Int × Int × (List UInt8) × (List (Int × Int)) × (List (List UInt8)) × (List (List UInt8)))) (r : List (List UInt8)), (∀ s x, forest_Sum Fu s = some x → x.1.length = 32) → forest_sums Fu l = some r → ∀ z ∈ r, z.length = 32
  | [], r, _, h => by rw [forest_sums] at h; obtain rfl := Option.some.inj h; intro z hz; cases hz
  | s :: l, r, hs, h => by
    rw [forest_sums] at h
    obtain ⟨x, hx, h⟩ := bsome h
    obtain ⟨rs, hrs, h⟩ := bsome h
    obtain rfl := Option.some.inj h
    intro z hz
    rcases List.mem_cons.1 hz with rfl | hz
    · exact hs s x hx
    · exact sums_len Fu l rs hs hrs z hz
theorem forest_Sum_len (Fu : Nat) (s : Int × Int × Int × (List UInt8) × (List (Int × Int)) × (List (List UInt8)) × (List (List UInt8))) (x : List UInt8 × Int) (h : forest_Sum Fu s = some x) : x.1.length = 32 := by
  unfold forest_Sum at h
  obtain ⟨b, _, h⟩ := bsome h
  split at h
  · obtain rfl := Option.some.inj h; exact List.length_replicate
  · obtain ⟨y, hy, h⟩ := bsome h
    split at h
    · obtain rfl := Option.some.inj h; exact List.length_replicate
    · obtain ⟨z, hz, h⟩ := bsome h
      obtain rfl := Option.some.inj h
      unfold forest_head at hz
      obtain ⟨_, _, hz⟩ := bsome hz
      obtain ⟨_, _, hz⟩ := bsome hz
      obtain ⟨_, _, hz⟩ := bsome hz
      obtain ⟨_, _, hz⟩ := bsome hz
      obtain ⟨t, ht, hz⟩ := bsome hz
      obtain rfl := Option.some.inj hz
      unfold sha_Sum at ht
      split at ht
      · obtain rfl := Option.some.inj ht; exact shaS_length _
      · cases ht
set_option maxRecDepth 100000 in
set_option maxHeartbeats 2000000 in
theorem forest_sums_ok (Fu : Nat) {S0 : Snap} (Aa0 : Option Addr) (ca0 : Nat) (a0 : List (Int × Int × Int × (List UInt8) × (List (Int × Int)) × (List (List UInt8)) × (List (List UInt8)))) (hsa0 : slS (tyP tyI (tyP tyI (tyP tyI (tyP (tyL ty8) (tyP (tyL (tyP tyI tyI)) (tyP (tyL (tyL ty8)) (tyL (tyA 32 ty8)))))))) S0 Aa0 ca0 a0) (r : List (List UInt8)) (hf : forest_sums Fu a0 = some r) (w0 : World) (hm : Mem w0 (ownL ([] ++ [.sn S0])) ([] ++ [.sn S0]) w0) :
    Calls Try.prog 105 #[.slice Aa0 a0.length ca0] w0 (Ret w0 S0 [] (fun v L1 S1 => IterV Try.prog enc32 v r S1 ∧ L1 = [] ∧ (∀ z ∈ r, z.length = 32) ∧ True)) := by
  refine c_enterM Try.func105 rfl 4 rfl (by simp) _ hm _ rfl (fun a h => ?_)
  refine c_rs ?_
  refine s_box h rfl rfl rfl (by decide) rfl (cs := [.slice Aa0 a0.length ca0]) (by rfl) (fun a w g h => ?_)
  refine s_assign h rfl _ rfl rfl (by decide) rfl (fun a h => ?_)
  refine l_end ?_
  refine c_rs ?_
  refine s_makeFunc h rfl rfl rfl (by decide) (us := []) (vs := [.pointer (some ⟨g, 0, none⟩)]) rfl rfl (fun a h => ?_)
  refine s_assign h rfl _ rfl rfl (by decide) rfl (fun a h => ?_)
  refine l_end ?_
  refine wp_ret ?_
  obtain ⟨S', h1, h2, h3, h4, h5⟩ := h.m.freeze (fun _ hk => hk)
  have hb : w.heap[g]? = some (.cells #[.slice Aa0 a0.length ca0] _ (0, 0)) := h.m.ok 0 _ rfl
  refine r_ret1 h rfl (rv_tmp h rfl) ⟨_, [], S', rfl, ⟨sums_iter Fu a0 Aa0 ca0 r hf (hsa0.mono h1) (fun W hW => ?_), rfl, sums_len Fu a0 r (fun s x => forest_Sum_len Fu s x) hf, trivial⟩, rfl, ⟨h1, fun k o hk => h2 k o hk⟩, h5⟩
  have := hW g _ ((h4 g rfl).trans hb)
  simp [World.cell?, this]
def forest_collected_r0 (Fu : Nat) : List (List UInt8) → (List (List UInt8)) → Option ((List (List UInt8)))
  | [], x15 => some x15
  | z12 :: rest, x15 => (app 32 x15 ([z12])).bind fun x29 => forest_collected_r0 Fu rest x29
def forest_collected (Fu : Nat) (a0 : List (Int × Int × Int × (List UInt8) × (List (Int × Int)) × (List (List UInt8)) × (List (List UInt8)))) : Option ((List (List UInt8))) :=
  (forest_sums Fu a0).bind fun x3 => (forest_collected_r0 Fu x3 ([])).bind fun x15 => some x15
set_option maxRecDepth 100000 in
set_option maxHeartbeats 2000000 in
theorem forest_collected_ok (Fu : Nat) {S0 : Snap} (Aa0 : Option Addr) (ca0 : Nat) (a0 : List (Int × Int × Int × (List UInt8) × (List (Int × Int)) × (List (List UInt8)) × (List (List UInt8)))) (hsa0 : slS (tyP tyI (tyP tyI (tyP tyI (tyP (tyL ty8) (tyP (tyL (tyP tyI tyI)) (tyP (tyL (tyL ty8)) (tyL (tyA 32 ty8)))))))) S0 Aa0 ca0 a0) (r : (List (List UInt8))) (hf : forest_collected Fu a0 = some r) (w0 : World) (hm : Mem w0 (ownL ([] ++ [.sn S0])) ([] ++ [.sn S0]) w0) :
    Calls Try.prog 80 #[.slice Aa0 a0.length ca0] w0 (Ret w0 S0 [] (fun v L1 S1 => ∃ (A35 : Option Addr), ∃ (c36 : Nat), ∃ (cs37 : List Value), v = .slice A35 r.length c36 ∧ L1 = [.row (.slice A35 r.length c36) 40 32 r.length cs37] ∧ reps (tyA 32 ty8) S1 cs37 r ∧ True)) := by
  unfold forest_collected at hf
  refine c_enterR Try.func80 rfl 13 rfl (by simp) _ hm _ rfl (fun a h => ?_)
  refine c_rs ?_ -- region 0
  refine s_assign h rfl _ rfl rfl (by decide) rfl (fun a h => ?_)
  refine l_end ?_
  refine c_rs ?_ -- region 1
  refine s_alloc h rfl rfl rfl (by decide) zi_SA32_uint8 rfl (fun a w g1 h => ?_)
  have h := h.mem (h.m.nilrow 40 32)
  refine l_end ?_
  refine wp_seq ?_
  refine c_rs ?_ -- region 2
  refine s_move h rfl _ rfl rfl (by decide) rfl (fun a h => ?_)
  obtain ⟨x3, h4, hf⟩ := bsome hf
  have h := h.pick [2, 0, 1] (by decide) rfl
  have hX := forest_sums_ok Fu (S0 := S0) Aa0 ca0 a0 hsa0 _ h4 _ (h.sub (Ls := []))
  refine q_callY (Ls := []) hX h (Up.refl _ _ _) rfl rfl rfl (by decide) Try.func105 rfl rfl rfl (fun a w v L1 S6 hR le8 up7 h => ?_)
  obtain ⟨hit10, rfl, hall11, _⟩ := hR
  obtain ⟨it9, rfl⟩ : ∃ x, x = v := ⟨_, rfl⟩
  refine l_end ?_
  obtain ⟨o21, hl22, hf⟩ := bsome hf
  refine wp_block ?_
  have h := h.pick [2, 1, 0] (by decide) rfl
  refine c_rangeB (β := Nat) (xs := x3) (encs := enc32) h rfl hit10 (fun _ => rfl) (by decide) (fun pre L => ∃ (rest23 : List (List UInt8)), ∃ (x15 : List (List UInt8)), ∃ (A16 : Option Addr), ∃ (c17 : Nat), ∃ (cs18 : List Value), x3 = pre ++ rest23 ∧ forest_collected_r0 Fu rest23 x15 = some o21 ∧ reps (tyA 32 ty8) S6 cs18 x15 ∧ L = [.box g1 39 ([.slice A16 x15.length c17]), .row (.slice A16 x15.length c17) 40 32 x15.length cs18, .sn S6]) (fun _ => False) (fun pre L hI => ?_) ⟨x3, [], none, 0, [], rfl, hl22, ((show reps (tyA 32 ty8) S0 [] [] from rfl).mono le8), rfl⟩ (fun z12 g24 => [(2, .slice none 0 0), (3, .pointer (some ⟨g1, 0, none⟩)), (4, .pointer (some ⟨g24, 0, none⟩))]) (fun z12 g24 => [.box g24 40 (by8 z12)]) (fun l D o1 o2 z12 L a w hxm h => ?_) (fun l D o1 o2 pre z12 rest L g24 a w hxz hI h => ?_) (fun D L w hI h => ?_) (fun D L w hI h => ?_)
  · obtain ⟨rest23, x15, A16, c17, cs18, hxs, hl25, hq19, rfl⟩ := hI
    simp
  · have hz13 := hall11 z12 hxm
    have h : St 13 w0 (ownL ([] ++ [.sn S0])) ([(7, .agg (by8 z12).toArray)] ++ _) _ a w := h
    refine m_r rfl ?_ -- region 3
    refine s_alloc h rfl rfl rfl (by decide) zi_A32_uint8 rfl (fun a w g26 h => ?_)
    refine s_stW h rfl rfl rfl ag_A32_uint8 rfl (es := (by8 z12)) rfl (((rep8 S6 z12)).len.trans (by rw [hz13]; rfl)) ((rep8 S6 z12)).one 0 rfl (by first | rfl | simp_all) (fun a w h => ?_)
    refine l_nil ?_
    have h := h.pickL
    exact e_thenN ⟨_, (h.has (by exact ⟨rfl, rfl, rfl, trivial⟩))⟩
  · obtain ⟨rest23, x15, A16, c17, cs18, hxs, hl25, hq19, rfl⟩ := hI
    obtain rfl := List.append_cancel_left (hxs.symm.trans hxz)
    have hz13 := hall11 z12 (by rw [hxz]; simp)
    rw [forest_collected_r0] at hl25
    have h : St 13 w0 (ownL ([] ++ [.sn S0])) _ [.obj l o1, .obj D o2, .box g24 40 (by8 z12), .box g1 39 ([.slice A16 x15.length c17]), .row (.slice A16 x15.length c17) 40 32 x15.length cs18, .sn S6] a w := h
    refine m_block ?_
    refine m_r rfl ?_ -- region 4
    refine s_x h rfl rfl (by decide) (x_ld h.k rfl Try.underlying39 rfl rfl ((h.m.cell (i := 3) rfl 0).trans rfl)) (fun a h => ?_)
    refine s_x h rfl rfl (by decide) (x_ldR h.k rfl ag_A32_uint8 rfl (by8 z12) (((rep8 S6 z12)).len.trans (by rw [hz13]; rfl)) (h.m.range0 (i := 2) rfl)) (fun a h => ?_)
    refine q_bslice (T := tyA 32 ty8) (S := S6) h rfl rfl rfl (by decide) Try.underlying39 zi_A32_uint8 (by decide) (by decide) (by decide) (by decide) [.agg (by8 z12).toArray] rfl rfl (C := [(by8 z12)]) rfl (xs := [z12]) ⟨(by8 z12), _, rfl, ⟨(rep8 S6 z12), hz13⟩, rfl⟩ (by intro c hc; simp only [List.mem_cons, List.not_mem_nil, or_false] at hc; subst hc; first | rfl | exact (((rep8 S6 z12)).len.trans (by rw [hz13]; rfl))) (fun a w A27 h => ?_)
    have hb28 : reps (tyA 32 ty8) S6 ([(by8 z12)] : List (List Value)).flatten [z12] := ⟨(by8 z12), _, rfl, ⟨(rep8 S6 z12), hz13⟩, rfl⟩
    obtain ⟨x29, h30, hl25⟩ := bsome hl25
    refine q_append (T := tyA 32 ty8) (S := S6) h rfl rfl rfl (by decide) Try.underlying39 zb_A32_uint8 rfl (by decide) rfl 5 rfl hq19 rfl hb28 (h.m.rdRowA (i := 0) rfl) h30 (fun a w A31 c32 cs33 hq34 h => ?_)
    refine s_stb h rfl rfl rfl sz_SA32_uint8 rfl rfl rfl 4 rfl (by first | decide | simp) (fun a w h => ?_)
    refine l_nil ?_
    refine e_blkN ?_
    have h := h.pick [1, 2, 4, 5, 6] (by decide) rfl
    exact RPost.n _ ⟨rest, x29, A31, c32, cs33, (by rw [hxz]; simp), hl25, hq34, rfl⟩ h.m
  · obtain ⟨rest23, x15, A16, c17, cs18, hxs, hl25, hq19, rfl⟩ := hI
    obtain rfl : rest23 = [] := by simpa using hxs
    rw [forest_collected_r0] at hl25
    obtain rfl := Option.some.inj hl25
    try dsimp only at hf
    refine e_blkN ?_
    refine e_thenN ?_
    refine tail_M ?_
    have h : St 13 w0 (ownL ([] ++ [.sn S0])) _ [.obj D (.deferred (some [])), .box g1 39 ([.slice A16 x15.length c17]), .row (.slice A16 x15.length c17) 40 32 x15.length cs18, .sn S6] a w := h
    refine m_rs rfl ?_ -- region 5
    refine s_x h rfl rfl (by decide) (x_ld h.k rfl Try.underlying39 rfl rfl ((h.m.cell (i := 1) rfl 0).trans rfl)) (fun a h => ?_)
    refine s_assign h rfl _ rfl rfl (by decide) rfl (fun a h => ?_)
    refine l_nil (e_thenN ?_)
    refine m_ret ?_
    rw [← Option.some.inj hf]
    refine r_retT h (fun w h => ?_)
    exact r_ret1 h rfl (rv_tmp h rfl) ⟨_, [.row (.slice A16 x15.length c17) 40 32 x15.length cs18], _, rfl, ⟨A16, c17, cs18, rfl, rfl, hq19, trivial⟩, rfl, up7, (h.m.pick [1, 2] _ (by decide) rfl)⟩
  · exact hI.elim
def forest_Root (Fu : Nat) (a0 : List (Int × Int × Int × (List UInt8) × (List (Int × Int)) × (List (List UInt8)) × (List (List UInt8)))) : Option ((List UInt8) × Int) :=
  (forest_Right Fu a0).bind fun x2 => if (!x2) = true then (some ((List.replicate 32 ((0 : UInt8) : UInt8)), 2)) else (if (a0.length : Int) = 0 then (some ((List.replicate 32 ((0 : UInt8) : UInt8)), 0)) else ((forest_collected Fu a0).bind fun x5 => (merkle_Root Fu x5).bind fun x13 => some x13))
set_option maxRecDepth 100000 in
set_option maxHeartbeats 2000000 in
theorem forest_Root_ok (Fu : Nat) {S0 : Snap} (Aa0 : Option Addr) (ca0 : Nat) (a0 : List (Int × Int × Int × (List UInt8) × (List (Int × Int)) × (List (List UInt8)) × (List (List UInt8)))) (hsa0 : slS (tyP tyI (tyP tyI (tyP tyI (tyP (tyL ty8) (tyP (tyL (tyP tyI tyI)) (tyP (tyL (tyL ty8)) (tyL (tyA 32 ty8)))))))) S0 Aa0 ca0 a0) (r : (List UInt8) × Int) (hf : forest_Root Fu a0 = some r) (w0 : World) (hm : Mem w0 (ownL ([] ++ [.sn S0])) ([] ++ [.sn S0]) w0) :
    Calls Try.prog 40 #[.slice Aa0 a0.length ca0] w0 (Ret w0 S0 [] (fun v L1 S1 => ∃ (k22 : List Value), v = .tuple #[.agg k22.toArray, .int .i64 r.2] ∧ L1 = [] ∧ (tyA 32 ty8).rep S1 k22 r.1 ∧ r64 r.2 ∧ True)) := by
  unfold forest_Root at hf
  refine c_enterM Try.func40 rfl 17 rfl (by simp) _ hm _ rfl (fun a h => ?_)
  refine c_rs ?_ -- region 0
  refine s_alloc h rfl rfl rfl (by decide) zi_A32_uint8 rfl (fun a w g1 h => ?_)
  refine s_assign h rfl _ rfl rfl (by decide) rfl (fun a h => ?_)
  refine l_end ?_
  refine wp_seq ?_
  refine c_rs ?_ -- region 1
  refine s_move h rfl _ rfl rfl (by decide) rfl (fun a h => ?_)
  obtain ⟨x2, h3, hf⟩ := bsome hf
  have hX := forest_Right_ok Fu (S0 := snapAll _) Aa0 ca0 a0 (hsa0.mono (h.m.leAll (i := 1) rfl)) _ h3 _ h.startAll
  refine q_callX hX h rfl rfl rfl (by decide) Try.func41 rfl rfl rfl (fun a w v L1 S1 hR hb1 h => ?_)
  obtain ⟨rfl, rfl, _⟩ := hR
  refine s_x h rfl rfl (by decide) (x_not h.k rfl rfl) (fun a h => ?_)
  refine l_end ?_
  refine c_cond h rfl (fun hb => ?_) (fun hb => ?_)
  · rw [if_pos hb] at hf
    refine c_rs ?_ -- region 2
    refine s_x h rfl rfl (by decide) (x_build h.k rfl [] rfl (List.replicate 32 (.int .u8 0 : Value)) (by kernel_rfl)) (fun a h => ?_)
    refine s_stW h rfl rfl rfl ag_A32_uint8 rfl (es := (List.replicate 32 (.int .u8 0 : Value))) rfl (by first | rfl | simp_all) ((show reps ty8 S0 (List.replicate 32 (.int .u8 0 : Value)) (List.replicate 32 ((0 : UInt8) : UInt8)) from repsRep1 (x := ((0 : UInt8) : UInt8)) rfl)).one 0 rfl (by first | rfl | simp_all) (fun a w h => ?_)
    refine s_assign h rfl _ rfl rfl (by decide) rfl (fun a h => ?_)
    refine l_end ?_
    refine wp_ret ?_
    refine e_thenR ?_
    obtain rfl := Option.some.inj hf
    exact r_ret2 h rfl (rv_cellA h rfl 0 rfl ag_A32_uint8 (by first | rfl | simp_all)) (rv_tmp h rfl) ⟨_, [], _, rfl, ⟨(List.replicate 32 (.int .u8 0 : Value)), rfl, rfl, ⟨(show reps ty8 S0 (List.replicate 32 (.int .u8 0 : Value)) (List.replicate 32 ((0 : UInt8) : UInt8)) from repsRep1 (x := ((0 : UInt8) : UInt8)) rfl), (show (List.replicate 32 ((0 : UInt8) : UInt8)).length = 32 from List.length_replicate)⟩, (show r64 2 from ⟨by decide, by decide⟩), trivial⟩, rfl, (Up.refl _ _ _), (h.m.pick [1] _ (by decide) rfl)⟩
  · rw [if_neg (by rw [hb]; decide)] at hf
    refine wp_skip ?_
    refine e_thenN ?_
    refine wp_seq ?_
    refine c_rs ?_ -- region 3
    refine s_move h rfl _ rfl rfl (by decide) rfl (fun a h => ?_)
    refine s_x h rfl rfl (by decide) (x_len h.k rfl Try.underlying61 rfl) (fun a h => ?_)
    refine s_x h rfl rfl (by decide) (x_bin h.k rfl rfl rfl ib_eql) (fun a h => ?_)
    refine l_end ?_
    refine c_cond h rfl (fun hb => ?_) (fun hb => ?_)
    · rw [if_pos (of_decide_eq_true hb)] at hf
      refine c_rs ?_ -- region 4
      refine s_x h rfl rfl (by decide) (x_build h.k rfl [] rfl (List.replicate 32 (.int .u8 0 : Value)) (by kernel_rfl)) (fun a h => ?_)
      refine s_stW h rfl rfl rfl ag_A32_uint8 rfl (es := (List.replicate 32 (.int .u8 0 : Value))) rfl (by first | rfl | simp_all) ((show reps ty8 S0 (List.replicate 32 (.int .u8 0 : Value)) (List.replicate 32 ((0 : UInt8) : UInt8)) from repsRep1 (x := ((0 : UInt8) : UInt8)) rfl)).one 0 rfl (by first | rfl | simp_all) (fun a w h => ?_)
      refine s_assign h rfl _ rfl rfl (by decide) rfl (fun a h => ?_)
      refine l_end ?_
      refine wp_ret ?_
      refine e_thenR ?_
      obtain rfl := Option.some.inj hf
      exact r_ret2 h rfl (rv_cellA h rfl 0 rfl ag_A32_uint8 (by first | rfl | simp_all)) (rv_tmp h rfl) ⟨_, [], _, rfl, ⟨(List.replicate 32 (.int .u8 0 : Value)), rfl, rfl, ⟨(show reps ty8 S0 (List.replicate 32 (.int .u8 0 : Value)) (List.replicate 32 ((0 : UInt8) : UInt8)) from repsRep1 (x := ((0 : UInt8) : UInt8)) rfl), (show (List.replicate 32 ((0 : UInt8) : UInt8)).length = 32 from List.length_replicate)⟩, (show r64 0 from ⟨by decide, by decide⟩), trivial⟩, rfl, (Up.refl _ _ _), (h.m.pick [1] _ (by decide) rfl)⟩
    · rw [if_neg (of_decide_eq_false hb)] at hf
      refine wp_skip ?_
      refine e_thenN ?_
      refine c_rs ?_ -- region 5
      refine s_move h rfl _ rfl rfl (by decide) rfl (fun a h => ?_)
      obtain ⟨x5, h6, hf⟩ := bsome hf
      have hX := forest_collected_ok Fu (S0 := snapAll _) Aa0 ca0 a0 (hsa0.mono (h.m.leAll (i := 1) rfl)) _ h6 _ h.startAll
      refine q_callX hX h rfl rfl rfl (by decide) Try.func80 rfl rfl rfl (fun a w v L1 S1 hR hb1 h => ?_)
      obtain ⟨A8, c9, cs10, rfl, rfl, hq11, _⟩ := hR
      have hq12 := hq11.fl (S' := S0) (fl_A fl_8)
      obtain ⟨x13, h14, hf⟩ := bsome hf
      have hX := merkle_Root_ok Fu (S0 := snapAll _) A8 c9 x5 (h.m.rowAll (i := 0) rfl (j := 2) rfl hq12) _ h14 _ h.startAll
      refine q_callX hX h rfl rfl rfl (by decide) Try.func24 rfl rfl rfl (fun a w v L1 S1 hR hb1 h => ?_)
      obtain ⟨k16, rfl, rfl, hv17, hr20, _⟩ := hR
      obtain ⟨hs18, hl19⟩ := hv17
      have hq21 := hs18.fl (S' := S0) fl_8
      refine s_x h rfl rfl (by decide) (x_ext h.k rfl rfl rfl) (fun a h => ?_)
      refine s_x h rfl rfl (by decide) (x_ext h.k rfl rfl rfl) (fun a h => ?_)
      refine s_stW h rfl rfl rfl ag_A32_uint8 rfl (es := k16) rfl ((hq21).len.trans (by rw [hl19]; rfl)) (hq21).one 1 rfl (by first | rfl | simp_all) (fun a w h => ?_)
      refine s_assign h rfl _ rfl rfl (by decide) rfl (fun a h => ?_)
      refine l_end ?_
      refine wp_ret ?_
      rw [← Option.some.inj hf]
      exact r_ret2 h rfl (rv_cellA h rfl 1 rfl ag_A32_uint8 ((hq21).len.trans (by rw [hl19]; rfl))) (rv_tmp h rfl) ⟨_, [], _, rfl, ⟨k16, rfl, rfl, ⟨hq21, hl19⟩, hr20, trivial⟩, rfl, (Up.refl _ _ _), (h.m.pick [2] _ (by decide) rfl)⟩
def chatelaineref06_List_l0 (Fu : Nat) (a0 : List UInt8) : Nat → (List UInt8) → Int → Option ((List UInt8))
  | 0, _, _ => none
  | k + 1, x6, x11 => if x11 < 32 then ((ix 32 x11).bind fun m21 => (a0[m21]?).bind fun x25 => (app 1 x6 ([x25])).bind fun x32 => chatelaineref06_List_l0 Fu a0 k x32 (w64 (x11 + 1))) else (some x6)
def chatelaineref06_List (Fu : Nat) (a0 : List UInt8) : Option ((List UInt8)) :=
  (chatelaineref06_List_l0 Fu a0 Fu ([]) 0).bind fun x13 => some x13
set_option maxRecDepth 100000 in
set_option maxHeartbeats 2000000 in
theorem chatelaineref06_List_ok (Fu : Nat) {S0 : Snap} (csa0 : List Value) (a0 : List UInt8) (hsa0 : (tyA 32 ty8).rep S0 csa0 a0) (r : (List UInt8)) (hf : chatelaineref06_List Fu a0 = some r) (w0 : World) (hm : Mem w0 (ownL ([] ++ [.sn S0])) ([] ++ [.sn S0]) w0) :
    Calls Try.prog 71 #[.agg csa0.toArray] w0 (Ret w0 S0 [] (fun v L1 S1 => ∃ (A39 : Option Addr), ∃ (c40 : Nat), ∃ (cs41 : List Value), v = .slice A39 r.length c40 ∧ L1 = [.row (.slice A39 r.length c40) 5 1 r.length cs41] ∧ reps ty8 S1 cs41 r ∧ True)) := by
  unfold chatelaineref06_List at hf
  obtain ⟨hs1, hl2⟩ := hsa0
  refine c_enterM Try.func71 rfl 16 rfl (by simp) _ hm _ rfl (fun a h => ?_)
  refine c_rs ?_ -- region 0
  refine s_box h rfl rfl rfl (by decide) rfl (cs := csa0) (by rfl) (fun a w g3 h => ?_)
  refine s_assign h rfl _ rfl rfl (by decide) rfl (fun a h => ?_)
  refine l_end ?_
  refine c_rs ?_ -- region 1
  refine s_assign h rfl _ rfl rfl (by decide) rfl (fun a h => ?_)
  refine l_end ?_
  refine wp_seq ?_
  refine c_rs ?_ -- region 2
  refine s_assign h rfl _ rfl rfl (by decide) rfl (fun a h => ?_)
  refine l_end ?_
  obtain ⟨o4, hl5, hf⟩ := bsome hf
  refine c_fin (fun a w => ∃ (x13 : List UInt8), ∃ (A14 : Option Addr), ∃ (c15 : Nat), ∃ (cs16 : List Value), x13 = o4 ∧ reps ty8 S0 cs16 x13 ∧ St 16 w0 (ownL ([] ++ [.sn S0])) [(3, .slice A14 x13.length c15)] [.row (.slice A14 x13.length c15) 5 1 x13.length cs16, .sn S0] a w) ?_ ?_
  · refine wp_block ?_
    have h := h.mem (h.m.nilrow 5 1)
    have h := h.pick [1, 0, 2] (by decide) rfl
    refine c_loop (fun m19 a w => ∃ (x6 : List UInt8), ∃ (A7 : Option Addr), ∃ (c8 : Nat), ∃ (cs9 : List Value), ∃ (x11 : Int), chatelaineref06_List_l0 Fu a0 m19 x6 x11 = some o4 ∧ reps ty8 S0 cs9 x6 ∧ r64 x11 ∧ St 16 w0 (ownL ([] ++ [.sn S0])) [(1, .pointer (some ⟨g3, 0, none⟩)), (3, .slice A7 x6.length c8), (4, .int .i64 x11)] [.box g3 40 csa0, .row (.slice A7 x6.length c8) 5 1 x6.length cs9, .sn S0] a w) Fu ⟨[], none, 0, [], 0, hl5, (show reps ty8 S0 [] [] from rfl), (show r64 0 from ⟨by decide, by decide⟩), h.has (by exact ⟨rfl, rfl, rfl, trivial⟩)⟩ (fun m19 a w hI => ?_)
    obtain ⟨x6, A7, c8, cs9, x11, hl18, hq10, hr12, h⟩ := hI
    obtain _ | m19 := m19
    · rw [chatelaineref06_List_l0] at hl18; cases hl18
    rw [chatelaineref06_List_l0] at hl18
    refine wp_seq ?_
    refine c_rs ?_ -- region 3
    refine s_move h rfl _ rfl rfl (by decide) rfl (fun a h => ?_)
    refine s_x h rfl rfl (by decide) (x_bin h.k rfl rfl rfl ib_lss) (fun a h => ?_)
    refine l_end ?_
    refine c_cond h rfl (fun hb => ?_) (fun hb => ?_)
    · rw [if_pos (of_decide_eq_true hb)] at hl18
      refine wp_skip ?_
      refine e_thenN ?_
      refine wp_seq ?_
      refine wp_block ?_
      refine c_r ?_ -- region 5
      refine s_move h rfl _ rfl rfl (by decide) rfl (fun a h => ?_)
      refine s_move h rfl _ rfl rfl (by decide) rfl (fun a h => ?_)
      obtain ⟨m21, h22, hl18⟩ := bsome hl18
      obtain ⟨hi23, hm24⟩ := ix_some h22
      refine s_x h rfl rfl (by decide) (x_iaddrA h.k rfl Try.underlying40 sz_uint8 rfl rfl hi23 hm24 rfl) (fun a h => ?_)
      obtain ⟨x25, h26, hl18⟩ := bsome hl18
      obtain ⟨u27, hv28, hu29⟩ := (hs1).cell rfl h26
      cases hu29
      refine s_x h rfl rfl (by decide) (x_ld h.k rfl Try.underlying5 rfl rfl ((h.m.cell (i := 0) rfl _).trans (by rw [Nat.zero_add, Nat.mul_one]; exact hv28))) (fun a h => ?_)
      refine q_bslice (T := ty8) (S := S0) h rfl rfl rfl (by decide) Try.underlying52 zi_uint8 (by decide) (by decide) (by decide) (by decide) [.int .u8 (x25.toNat : Int)] rfl rfl (C := [[.int .u8 (x25.toNat : Int)]]) rfl (xs := [x25]) ⟨[.int .u8 (x25.toNat : Int)], _, rfl, rfl, rfl⟩ (by intro c hc; simp only [List.mem_cons, List.not_mem_nil, or_false] at hc; subst hc; rfl) (fun a w A30 h => ?_)
      have hb31 : reps ty8 S0 ([[.int .u8 (x25.toNat : Int)]] : List (List Value)).flatten [x25] := ⟨[.int .u8 (x25.toNat : Int)], _, rfl, rfl, rfl⟩
      obtain ⟨x32, h33, hl18⟩ := bsome hl18
      refine q_append (T := ty8) (S := S0) h rfl rfl rfl (by decide) Try.underlying52 zb_uint8 rfl (by decide) rfl 2 rfl hq10 rfl hb31 (h.m.rdRowA (i := 0) rfl) h33 (fun a w A34 c35 cs36 hq37 h => ?_)
      refine s_assign h rfl _ rfl rfl (by decide) rfl (fun a h => ?_)
      refine l_nil ?_
      refine e_blkN ?_
      refine e_thenN ?_
      refine c_r ?_ -- region 4
      refine s_move h rfl _ rfl rfl (by decide) rfl (fun a h => ?_)
      refine s_x h rfl rfl (by decide) (x_bin h.k rfl rfl rfl (ib_add rfl)) (fun a h => ?_)
      refine s_assign h rfl _ rfl rfl (by decide) rfl (fun a h => ?_)
      refine l_nil ?_
      have h := h.pick [1, 2, 3] (by decide) rfl
      exact e_thenN ⟨m19, Nat.lt_succ_self _, x32, A34, c35, cs36, w64 (x11 + 1), hl18, hq37, (w64_r _), h.has (by exact ⟨rfl, rfl, rfl, trivial⟩)⟩
    · rw [if_neg (of_decide_eq_false hb)] at hl18
      refine wp_exit ?_
      refine e_thenX ?_
      refine e_thenX ?_
      refine e_blkX ?_
      refine e_thenN ?_
      have h := h.pick [1, 2] (by decide) rfl
      exact ⟨x6, A7, c8, cs9, (Option.some.inj hl18), hq10, h.has (by exact ⟨rfl, trivial⟩)⟩
  · rintro a w ⟨x13, A14, c15, cs16, rfl, hq17, h⟩
    refine e_thenN ?_
    refine c_rs ?_ -- region 6
    refine s_move h rfl _ rfl rfl (by decide) rfl (fun a h => ?_)
    refine s_assign h rfl _ rfl rfl (by decide) rfl (fun a h => ?_)
    refine l_end ?_
    refine wp_ret ?_
    rw [← Option.some.inj hf]
    exact r_ret1 h rfl (rv_tmp h rfl) ⟨_, [.row (.slice A14 x13.length c15) 5 1 x13.length cs16], _, rfl, ⟨A14, c15, cs16, rfl, rfl, hq17, trivial⟩, rfl, (Up.refl _ _ _), h.m⟩
def chatelaineref24_One (Fu : Nat) (a0 : Int × Int × Int × (List UInt8) × (List (Int × Int)) × (List (List UInt8)) × (List (List UInt8))) : Option Bool :=
  some (((((((decide (1 ≤ a0.1)) && (decide (a0.1 ≤ 64))) && (decide (0 ≤ a0.2.1))) && (decide (a0.2.1 ≤ 16))) && (decide (1 ≤ a0.2.2.1))) && (decide (a0.2.2.1 ≤ 4096))) && (decide ((a0.2.2.2.2.2.2.length : Int) = a0.2.2.1)))
set_option maxRecDepth 100000 in
set_option maxHeartbeats 2000000 in
theorem chatelaineref24_One_ok (Fu : Nat) {S0 : Snap} (csa0 : List Value) (a0 : Int × Int × Int × (List UInt8) × (List (Int × Int)) × (List (List UInt8)) × (List (List UInt8))) (hsa0 : (tyP tyI (tyP tyI (tyP tyI (tyP (tyL ty8) (tyP (tyL (tyP tyI tyI)) (tyP (tyL (tyL ty8)) (tyL (tyA 32 ty8)))))))).rep S0 csa0 a0) (r : Bool) (hf : chatelaineref24_One Fu a0 = some r) (w0 : World) (hm : Mem w0 (ownL ([] ++ [.sn S0])) ([] ++ [.sn S0]) w0) :
    Calls Try.prog 38 #[.agg csa0.toArray] w0 (Ret w0 S0 [] (fun v L1 S1 => v = .bool r ∧ L1 = [] ∧ True)) := by
  unfold chatelaineref24_One at hf
  obtain ⟨k1, k2, rfl, ⟨rfl, hr3⟩, ⟨k4, k5, rfl, ⟨rfl, hr6⟩, ⟨k7, k8, rfl, ⟨rfl, hr9⟩, ⟨k10, k11, rfl, ⟨A12, c13, rfl, hs14⟩, ⟨k15, k16, rfl, ⟨A17, c18, rfl, hs19⟩, ⟨k20, k21, rfl, ⟨A22, c23, rfl, hs24⟩, ⟨A25, c26, rfl, hs27⟩⟩⟩⟩⟩⟩⟩ := hsa0
  refine c_enterM Try.func38 rfl 39 rfl (by simp) _ hm _ rfl (fun a h => ?_)
  refine c_rs ?_ -- region 0
  refine s_box h rfl rfl rfl (by decide) rfl (cs := [.int .i64 a0.1, .int .i64 a0.2.1, .int .i64 a0.2.2.1, .slice A12 a0.2.2.2.1.length c13, .slice A17 a0.2.2.2.2.1.length c18, .slice A22 a0.2.2.2.2.2.1.length c23, .slice A25 a0.2.2.2.2.2.2.length c26]) (by rfl) (fun a w g28 h => ?_)
  refine s_assign h rfl _ rfl rfl (by decide) rfl (fun a h => ?_)
  refine l_end ?_
  refine c_rs ?_ -- region 1
  refine s_x h rfl rfl (by decide) (x_faddr h.k rfl Try.underlying66 rfl sz_int rfl) (fun a h => ?_)
  refine s_x h rfl rfl (by decide) (x_ld h.k rfl Try.underlying3 rfl rfl ((h.m.cell (i := 0) rfl 0).trans rfl)) (fun a h => ?_)
  refine s_x h rfl rfl (by decide) (x_bin h.k rfl rfl rfl ib_geq) (fun a h => ?_)
  refine s_move h rfl _ rfl rfl (by decide) rfl (fun a h => ?_)
  refine q_grp h 4 (t := 6) 10 ((decide (1 ≤ a0.1)) && (decide (a0.1 ≤ 64))) rfl (fun hB3 => ?_) (fun hB3 => ?_) (fun a w h => ?_)
  · refine g_yes h rfl rfl rfl rfl hB3 ?_
    refine s_x h rfl rfl (by decide) (x_faddr h.k rfl Try.underlying66 rfl sz_int rfl) (fun a h => ?_)
    refine g_yes h rfl rfl rfl rfl hB3 ?_
    refine s_x h rfl rfl (by decide) (x_ld h.k rfl Try.underlying3 rfl rfl ((h.m.cell (i := 0) rfl 0).trans rfl)) (fun a h => ?_)
    refine g_yes h rfl rfl rfl rfl hB3 ?_
    refine s_x h rfl rfl (by decide) (x_bin h.k rfl rfl rfl ib_leq) (fun a h => ?_)
    refine s_x h rfl rfl (by decide) (x_pick (u' := undef) h.k rfl rfl (fun _ => rfl) (fun hh => absurd (hB3.symm.trans hh) (by decide))) (fun a h => ?_)
    exact (h.mid 3 rfl).val (by first | rfl | (rw [hB3]; first | rfl | simp))
  · refine g_no h rfl rfl rfl rfl hB3 rfl (by decide) (fun a h => ?_)
    refine g_no h rfl rfl rfl rfl hB3 rfl (by decide) (fun a h => ?_)
    refine g_no h rfl rfl rfl rfl hB3 rfl (by decide) (fun a h => ?_)
    refine s_x h rfl rfl (by decide) (x_pick (u' := undef) h.k rfl rfl (fun hh => absurd (hB3.symm.trans hh) (by decide)) (fun _ => rfl)) (fun a h => ?_)
    exact (h.mid 3 rfl).val (by first | rfl | (rw [hB3]; first | rfl | simp))
  refine s_move h rfl _ rfl rfl (by decide) rfl (fun a h => ?_)
  refine q_grp h 4 (t := 11) 15 (((decide (1 ≤ a0.1)) && (decide (a0.1 ≤ 64))) && (decide (0 ≤ a0.2.1))) rfl (fun hB8 => ?_) (fun hB8 => ?_) (fun a w h => ?_)
  · refine g_yes h rfl rfl rfl rfl hB8 ?_
    refine s_x h rfl rfl (by decide) (x_faddr h.k rfl Try.underlying66 rfl sz_int rfl) (fun a h => ?_)
    refine g_yes h rfl rfl rfl rfl hB8 ?_
    refine s_x h rfl rfl (by decide) (x_ld h.k rfl Try.underlying3 rfl rfl ((h.m.cell (i := 0) rfl 1).trans rfl)) (fun a h => ?_)
    refine g_yes h rfl rfl rfl rfl hB8 ?_
    refine s_x h rfl rfl (by decide) (x_bin h.k rfl rfl rfl ib_geq) (fun a h => ?_)
    refine s_x h rfl rfl (by decide) (x_pick (u' := undef) h.k rfl rfl (fun _ => rfl) (fun hh => absurd (hB8.symm.trans hh) (by decide))) (fun a h => ?_)
    exact (h.mid 3 rfl).val (by first | rfl | (rw [hB8]; first | rfl | simp))
  · refine g_no h rfl rfl rfl rfl hB8 rfl (by decide) (fun a h => ?_)
    refine g_no h rfl rfl rfl rfl hB8 rfl (by decide) (fun a h => ?_)
    refine g_no h rfl rfl rfl rfl hB8 rfl (by decide) (fun a h => ?_)
    refine s_x h rfl rfl (by decide) (x_pick (u' := undef) h.k rfl rfl (fun hh => absurd (hB8.symm.trans hh) (by decide)) (fun _ => rfl)) (fun a h => ?_)
    exact (h.mid 3 rfl).val (by first | rfl | (rw [hB8]; first | rfl | simp))
  refine s_move h rfl _ rfl rfl (by decide) rfl (fun a h => ?_)
  refine q_grp h 4 (t := 16) 20 ((((decide (1 ≤ a0.1)) && (decide (a0.1 ≤ 64))) && (decide (0 ≤ a0.2.1))) && (decide (a0.2.1 ≤ 16))) rfl (fun hB13 => ?_) (fun hB13 => ?_) (fun a w h => ?_)
  · refine g_yes h rfl rfl rfl rfl hB13 ?_
    refine s_x h rfl rfl (by decide) (x_faddr h.k rfl Try.underlying66 rfl sz_int rfl) (fun a h => ?_)
    refine g_yes h rfl rfl rfl rfl hB13 ?_
    refine s_x h rfl rfl (by decide) (x_ld h.k rfl Try.underlying3 rfl rfl ((h.m.cell (i := 0) rfl 1).trans rfl)) (fun a h => ?_)
    refine g_yes h rfl rfl rfl rfl hB13 ?_
    refine s_x h rfl rfl (by decide) (x_bin h.k rfl rfl rfl ib_leq) (fun a h => ?_)
    refine s_x h rfl rfl (by decide) (x_pick (u' := undef) h.k rfl rfl (fun _ => rfl) (fun hh => absurd (hB13.symm.trans hh) (by decide))) (fun a h => ?_)
    exact (h.mid 3 rfl).val (by first | rfl | (rw [hB13]; first | rfl | simp))
  · refine g_no h rfl rfl rfl rfl hB13 rfl (by decide) (fun a h => ?_)
    refine g_no h rfl rfl rfl rfl hB13 rfl (by decide) (fun a h => ?_)
    refine g_no h rfl rfl rfl rfl hB13 rfl (by decide) (fun a h => ?_)
    refine s_x h rfl rfl (by decide) (x_pick (u' := undef) h.k rfl rfl (fun hh => absurd (hB13.symm.trans hh) (by decide)) (fun _ => rfl)) (fun a h => ?_)
    exact (h.mid 3 rfl).val (by first | rfl | (rw [hB13]; first | rfl | simp))
  refine s_move h rfl _ rfl rfl (by decide) rfl (fun a h => ?_)
  refine q_grp h 4 (t := 21) 25 (((((decide (1 ≤ a0.1)) && (decide (a0.1 ≤ 64))) && (decide (0 ≤ a0.2.1))) && (decide (a0.2.1 ≤ 16))) && (decide (1 ≤ a0.2.2.1))) rfl (fun hB18 => ?_) (fun hB18 => ?_) (fun a w h => ?_)
  · refine g_yes h rfl rfl rfl rfl hB18 ?_
    refine s_x h rfl rfl (by decide) (x_faddr h.k rfl Try.underlying66 rfl sz_int rfl) (fun a h => ?_)
    refine g_yes h rfl rfl rfl rfl hB18 ?_
    refine s_x h rfl rfl (by decide) (x_ld h.k rfl Try.underlying3 rfl rfl ((h.m.cell (i := 0) rfl 2).trans rfl)) (fun a h => ?_)
    refine g_yes h rfl rfl rfl rfl hB18 ?_
    refine s_x h rfl rfl (by decide) (x_bin h.k rfl rfl rfl ib_geq) (fun a h => ?_)
    refine s_x h rfl rfl (by decide) (x_pick (u' := undef) h.k rfl rfl (fun _ => rfl) (fun hh => absurd (hB18.symm.trans hh) (by decide))) (fun a h => ?_)
    exact (h.mid 3 rfl).val (by first | rfl | (rw [hB18]; first | rfl | simp))
  · refine g_no h rfl rfl rfl rfl hB18 rfl (by decide) (fun a h => ?_)
    refine g_no h rfl rfl rfl rfl hB18 rfl (by decide) (fun a h => ?_)
    refine g_no h rfl rfl rfl rfl hB18 rfl (by decide) (fun a h => ?_)
    refine s_x h rfl rfl (by decide) (x_pick (u' := undef) h.k rfl rfl (fun hh => absurd (hB18.symm.trans hh) (by decide)) (fun _ => rfl)) (fun a h => ?_)
    exact (h.mid 3 rfl).val (by first | rfl | (rw [hB18]; first | rfl | simp))
  refine s_move h rfl _ rfl rfl (by decide) rfl (fun a h => ?_)
  refine q_grp h 4 (t := 26) 30 ((((((decide (1 ≤ a0.1)) && (decide (a0.1 ≤ 64))) && (decide (0 ≤ a0.2.1))) && (decide (a0.2.1 ≤ 16))) && (decide (1 ≤ a0.2.2.1))) && (decide (a0.2.2.1 ≤ 4096))) rfl (fun hB23 => ?_) (fun hB23 => ?_) (fun a w h => ?_)
  · refine g_yes h rfl rfl rfl rfl hB23 ?_
    refine s_x h rfl rfl (by decide) (x_faddr h.k rfl Try.underlying66 rfl sz_int rfl) (fun a h => ?_)
    refine g_yes h rfl rfl rfl rfl hB23 ?_
    refine s_x h rfl rfl (by decide) (x_ld h.k rfl Try.underlying3 rfl rfl ((h.m.cell (i := 0) rfl 2).trans rfl)) (fun a h => ?_)
    refine g_yes h rfl rfl rfl rfl hB23 ?_
    refine s_x h rfl rfl (by decide) (x_bin h.k rfl rfl rfl ib_leq) (fun a h => ?_)
    refine s_x h rfl rfl (by decide) (x_pick (u' := undef) h.k rfl rfl (fun _ => rfl) (fun hh => absurd (hB23.symm.trans hh) (by decide))) (fun a h => ?_)
    exact (h.mid 3 rfl).val (by first | rfl | (rw [hB23]; first | rfl | simp))
  · refine g_no h rfl rfl rfl rfl hB23 rfl (by decide) (fun a h => ?_)
    refine g_no h rfl rfl rfl rfl hB23 rfl (by decide) (fun a h => ?_)
    refine g_no h rfl rfl rfl rfl hB23 rfl (by decide) (fun a h => ?_)
    refine s_x h rfl rfl (by decide) (x_pick (u' := undef) h.k rfl rfl (fun hh => absurd (hB23.symm.trans hh) (by decide)) (fun _ => rfl)) (fun a h => ?_)
    exact (h.mid 3 rfl).val (by first | rfl | (rw [hB23]; first | rfl | simp))
  refine s_move h rfl _ rfl rfl (by decide) rfl (fun a h => ?_)
  refine q_grp h 7 (t := 31) 38 (((((((decide (1 ≤ a0.1)) && (decide (a0.1 ≤ 64))) && (decide (0 ≤ a0.2.1))) && (decide (a0.2.1 ≤ 16))) && (decide (1 ≤ a0.2.2.1))) && (decide (a0.2.2.1 ≤ 4096))) && (decide ((a0.2.2.2.2.2.2.length : Int) = a0.2.2.1))) rfl (fun hB28 => ?_) (fun hB28 => ?_) (fun a w h => ?_)
  · refine g_yes h rfl rfl rfl rfl hB28 ?_
    refine s_x h rfl rfl (by decide) (x_faddr h.k rfl Try.underlying66 rfl sz_SA32_uint8 rfl) (fun a h => ?_)
    refine g_yes h rfl rfl rfl rfl hB28 ?_
    refine s_x h rfl rfl (by decide) (x_ld h.k rfl Try.underlying39 rfl rfl ((h.m.cell (i := 0) rfl 6).trans rfl)) (fun a h => ?_)
    refine g_yes h rfl rfl rfl rfl hB28 ?_
    refine s_x h rfl rfl (by decide) (x_len h.k rfl Try.underlying39 rfl) (fun a h => ?_)
    refine g_yes h rfl rfl rfl rfl hB28 ?_
    refine s_x h rfl rfl (by decide) (x_faddr h.k rfl Try.underlying66 rfl sz_int rfl) (fun a h => ?_)
    refine g_yes h rfl rfl rfl rfl hB28 ?_
    refine s_x h rfl rfl (by decide) (x_ld h.k rfl Try.underlying3 rfl rfl ((h.m.cell (i := 0) rfl 2).trans rfl)) (fun a h => ?_)
    refine g_yes h rfl rfl rfl rfl hB28 ?_
    refine s_x h rfl rfl (by decide) (x_bin h.k rfl rfl rfl ib_eql) (fun a h => ?_)
    refine s_x h rfl rfl (by decide) (x_pick (u' := undef) h.k rfl rfl (fun _ => rfl) (fun hh => absurd (hB28.symm.trans hh) (by decide))) (fun a h => ?_)
    exact (h.mid 6 rfl).val (by first | rfl | (rw [hB28]; first | rfl | simp))
  · refine g_no h rfl rfl rfl rfl hB28 rfl (by decide) (fun a h => ?_)
    refine g_no h rfl rfl rfl rfl hB28 rfl (by decide) (fun a h => ?_)
    refine g_no h rfl rfl rfl rfl hB28 rfl (by decide) (fun a h => ?_)
    refine g_no h rfl rfl rfl rfl hB28 rfl (by decide) (fun a h => ?_)
    refine g_no h rfl rfl rfl rfl hB28 rfl (by decide) (fun a h => ?_)
    refine g_no h rfl rfl rfl rfl hB28 rfl (by decide) (fun a h => ?_)
    refine s_x h rfl rfl (by decide) (x_pick (u' := undef) h.k rfl rfl (fun hh => absurd (hB28.symm.trans hh) (by decide)) (fun _ => rfl)) (fun a h => ?_)
    exact (h.mid 6 rfl).val (by first | rfl | (rw [hB28]; first | rfl | simp))
  refine s_assign h rfl _ rfl rfl (by decide) rfl (fun a h => ?_)
  refine l_end ?_
  refine wp_ret ?_
  obtain rfl := Option.some.inj hf
  exact r_ret1 h rfl (rv_tmp h rfl) ⟨_, [], _, rfl, ⟨rfl, rfl, trivial⟩, rfl, (Up.refl _ _ _), (h.m.pick [1] _ (by decide) rfl)⟩
def chatelaineref24_Right_l0 (Fu : Nat) (a0 : List (Int × Int × Int × (List UInt8) × (List (Int × Int)) × (List (List UInt8)) × (List (List UInt8)))) : Nat → Int → Option (Sum Bool Unit)
  | 0, _ => none
  | k + 1, x3 => if x3 < (a0.length : Int) then ((idx a0 x3).bind fun x7 => (chatelaineref24_One Fu x7).bind fun x46 => (if (!x46) = true then some true else (if 0 < x3 then (idx a0 (w64 (x3 - 1))).bind fun x53 => (idx a0 x3).bind fun x92 => some (decide (x92.1 ≤ x53.1)) else some false).bind fun z51 => some z51).bind fun z49 => if z49 = true then (some (.inl false)) else (chatelaineref24_Right_l0 Fu a0 k (w64 (x3 + 1)))) else (some (.inr ()))
def chatelaineref24_Right (Fu : Nat) (a0 : List (Int × Int × Int × (List UInt8) × (List (Int × Int)) × (List (List UInt8)) × (List (List UInt8)))) : Option Bool :=
  (chatelaineref24_Right_l0 Fu a0 Fu 0).bind fun o => match o with | .inl r131 => some r131 | .inr _ => some (decide ((a0.length : Int) ≤ 64))
set_option maxRecDepth 100000 in
set_option maxHeartbeats 2000000 in
theorem chatelaineref24_Right_ok (Fu : Nat) {S0 : Snap} (Aa0 : Option Addr) (ca0 : Nat) (a0 : List (Int × Int × Int × (List UInt8) × (List (Int × Int)) × (List (List UInt8)) × (List (List UInt8)))) (hsa0 : slS (tyP tyI (tyP tyI (tyP tyI (tyP (tyL ty8) (tyP (tyL (tyP tyI tyI)) (tyP (tyL (tyL ty8)) (tyL (tyA 32 ty8)))))))) S0 Aa0 ca0 a0) (r : Bool) (hf : chatelaineref24_Right Fu a0 = some r) (w0 : World) (hm : Mem w0 (ownL ([] ++ [.sn S0])) ([] ++ [.sn S0]) w0) :
    Calls Try.prog 42 #[.slice Aa0 a0.length ca0] w0 (Ret w0 S0 [] (fun v L1 S1 => v = .bool r ∧ L1 = [] ∧ True)) := by
  unfold chatelaineref24_Right at hf
  refine c_enterM Try.func42 rfl 37 rfl (by simp) _ hm _ rfl (fun a h => ?_)
  refine c_rs ?_ -- region 0
  refine s_assign h rfl _ rfl rfl (by decide) rfl (fun a h => ?_)
  refine l_end ?_
  refine wp_seq ?_
  refine c_rs ?_ -- region 1
  refine s_assign h rfl _ rfl rfl (by decide) rfl (fun a h => ?_)
  refine l_end ?_
  obtain ⟨o1, hl2, hf⟩ := bsome hf
  refine c_fin (fun a w => (.inr ()) = o1 ∧ St 37 w0 (ownL ([] ++ [.sn S0])) [(0, .slice Aa0 a0.length ca0)] [.sn S0] a w) ?_ ?_
  · refine wp_block ?_
    refine c_loop (fun m6 a w => ∃ (x3 : Int), chatelaineref24_Right_l0 Fu a0 m6 x3 = some o1 ∧ r64 x3 ∧ St 37 w0 (ownL ([] ++ [.sn S0])) [(0, .slice Aa0 a0.length ca0), (3, .int .i64 x3)] [.sn S0] a w) Fu ⟨0, hl2, (show r64 0 from ⟨by decide, by decide⟩), h.has (by exact ⟨rfl, rfl, trivial⟩)⟩ (fun m6 a w hI => ?_)
    obtain ⟨x3, hl5, hr4, h⟩ := hI
    obtain _ | m6 := m6
    · rw [chatelaineref24_Right_l0] at hl5; cases hl5
    rw [chatelaineref24_Right_l0] at hl5
    refine wp_seq ?_
    refine c_rs ?_ -- region 2
    refine s_move h rfl _ rfl rfl (by decide) rfl (fun a h => ?_)
    refine s_move h rfl _ rfl rfl (by decide) rfl (fun a h => ?_)
    refine s_x h rfl rfl (by decide) (x_len h.k rfl Try.underlying61 rfl) (fun a h => ?_)
    refine s_x h rfl rfl (by decide) (x_bin h.k rfl rfl rfl ib_lss) (fun a h => ?_)
    refine l_end ?_
    refine c_cond h rfl (fun hb => ?_) (fun hb => ?_)
    · rw [if_pos (of_decide_eq_true hb)] at hl5
      refine wp_skip ?_
      refine e_thenN ?_
      refine wp_seq ?_
      refine wp_block ?_
      refine wp_seq ?_
      -- region 4 draws
      obtain ⟨x7, h11, hl5⟩ := bsome hl5
      obtain ⟨x46, h47, hl5⟩ := bsome hl5
      obtain ⟨z49, hz50, hl5⟩ := bsome hl5
      refine c_fin (fun a w => St 37 w0 (ownL ([] ++ [.sn S0])) [(0, .slice Aa0 a0.length ca0), (3, .int .i64 x3), (33, .bool z49)] [.sn S0] a w) ?_ (fun a w h => ?_)
      · refine d_start h (Mem _ _ _) 24 24 rfl (by kernel_rfl) (fun _ _ _ _ _ h => h) (fun _ h => h) (fun Q a w HE HN h HS => ?_)
        refine d_takeP h (fun _ => HS) HN 0 rfl (by kernel_rfl) (by kernel_rfl) (by kernel_rfl) (by decide) rfl rfl (by decide) (fun w' => x_move h.k _ rfl rfl) (fun a h => ?_)
        refine d_takeP h (fun _ => HS) HN 1 rfl (by kernel_rfl) (by kernel_rfl) (by kernel_rfl) (by decide) rfl rfl (by decide) (fun w' => x_move h.k _ rfl rfl) (fun a h => ?_)
        obtain ⟨m8, hi12, hm13, hx14⟩ := idx_some h11
        obtain ⟨b9, off10, k15, hA16, hu17, hc18⟩ := (hsa0).at (by decide) hx14 (h.m.snOK (i := 0) rfl)
        obtain ⟨k19, k20, rfl, ⟨rfl, hr21⟩, ⟨k22, k23, rfl, ⟨rfl, hr24⟩, ⟨k25, k26, rfl, ⟨rfl, hr27⟩, ⟨k28, k29, rfl, ⟨A30, c31, rfl, hs32⟩, ⟨k33, k34, rfl, ⟨A35, c36, rfl, hs37⟩, ⟨k38, k39, rfl, ⟨A40, c41, rfl, hs42⟩, ⟨A43, c44, rfl, hs45⟩⟩⟩⟩⟩⟩⟩ := hu17
        refine d_takeP h (fun _ => HS) HN 2 rfl (by kernel_rfl) (by kernel_rfl) (by kernel_rfl) (by decide) rfl rfl (by decide) (fun w' => x_iaddrE h.k rfl Try.underlying61 sz_api_Space hA16 rfl rfl hi12 hm13) (fun a h => ?_)
        refine d_take h HS HN 3 rfl (by kernel_rfl) (by kernel_rfl) (by kernel_rfl) (by kernel_rfl) (by kernel_rfl) rfl rfl (by decide) (fun w' hw => x_ldR h.k rfl ag_api_Space rfl ([.int .i64 x7.1, .int .i64 x7.2.1, .int .i64 x7.2.2.1, .slice A30 x7.2.2.2.1.length c31, .slice A35 x7.2.2.2.2.1.length c36, .slice A40 x7.2.2.2.2.2.1.length c41, .slice A43 x7.2.2.2.2.2.2.length c44]) rfl (hc18 _ (hw.snOK (i := 0) rfl))) (fun a h => ?_)
        refine d_alone 4 rfl (by kernel_rfl) (fun K hK => ?_)
        have hX := chatelaineref24_One_ok Fu (S0 := snapAll _) ([.int .i64 x7.1, .int .i64 x7.2.1, .int .i64 x7.2.2.1, .slice A30 x7.2.2.2.1.length c31, .slice A35 x7.2.2.2.2.1.length c36, .slice A40 x7.2.2.2.2.2.1.length c41, .slice A43 x7.2.2.2.2.2.2.length c44]) x7 ((tyP tyI (tyP tyI (tyP tyI (tyP (tyL ty8) (tyP (tyL (tyP tyI tyI)) (tyP (tyL (tyL ty8)) (tyL (tyA 32 ty8)))))))).mono (h.m.leAll (i := 0) rfl) (show (tyP tyI (tyP tyI (tyP tyI (tyP (tyL ty8) (tyP (tyL (tyP tyI tyI)) (tyP (tyL (tyL ty8)) (tyL (tyA 32 ty8)))))))).rep S0 ([.int .i64 x7.1, .int .i64 x7.2.1, .int .i64 x7.2.2.1, .slice A30 x7.2.2.2.1.length c31, .slice A35 x7.2.2.2.2.1.length c36, .slice A40 x7.2.2.2.2.2.1.length c41, .slice A43 x7.2.2.2.2.2.2.length c44]) x7 from ⟨[.int .i64 x7.1], [.int .i64 x7.2.1, .int .i64 x7.2.2.1, .slice A30 x7.2.2.2.1.length c31, .slice A35 x7.2.2.2.2.1.length c36, .slice A40 x7.2.2.2.2.2.1.length c41, .slice A43 x7.2.2.2.2.2.2.length c44], rfl, ⟨rfl, hr21⟩, ⟨[.int .i64 x7.2.1], [.int .i64 x7.2.2.1, .slice A30 x7.2.2.2.1.length c31, .slice A35 x7.2.2.2.2.1.length c36, .slice A40 x7.2.2.2.2.2.1.length c41, .slice A43 x7.2.2.2.2.2.2.length c44], rfl, ⟨rfl, hr24⟩, ⟨[.int .i64 x7.2.2.1], [.slice A30 x7.2.2.2.1.length c31, .slice A35 x7.2.2.2.2.1.length c36, .slice A40 x7.2.2.2.2.2.1.length c41, .slice A43 x7.2.2.2.2.2.2.length c44], rfl, ⟨rfl, hr27⟩, ⟨[.slice A30 x7.2.2.2.1.length c31], [.slice A35 x7.2.2.2.2.1.length c36, .slice A40 x7.2.2.2.2.2.1.length c41, .slice A43 x7.2.2.2.2.2.2.length c44], rfl, ⟨_, _, rfl, hs32⟩, ⟨[.slice A35 x7.2.2.2.2.1.length c36], [.slice A40 x7.2.2.2.2.2.1.length c41, .slice A43 x7.2.2.2.2.2.2.length c44], rfl, ⟨_, _, rfl, hs37⟩, ⟨[.slice A40 x7.2.2.2.2.2.1.length c41], [.slice A43 x7.2.2.2.2.2.2.length c44], rfl, ⟨_, _, rfl, hs42⟩, ⟨_, _, rfl, hs45⟩⟩⟩⟩⟩⟩⟩)) _ h47 _ h.startAll
        refine q_callX hX h rfl rfl rfl (by decide) Try.func38 rfl rfl rfl (fun a w v L1 S1 hR hb1 h => ?_)
        obtain ⟨rfl, rfl, _⟩ := hR
        refine hK _ _ (fun _ _ => HS.ext hb1) ?_
        replace HS := HS.ext hb1
        clear hK
        refine d_takeP h (fun _ => HS) HN 5 rfl (by kernel_rfl) (by kernel_rfl) (by kernel_rfl) (by decide) rfl rfl (by decide) (fun w' => x_not h.k rfl rfl) (fun a h => ?_)
        refine d_takeP h (fun _ => HS) HN 6 rfl (by kernel_rfl) (by kernel_rfl) (by kernel_rfl) (by decide) rfl rfl (by decide) (fun w' => x_move h.k _ rfl rfl) (fun a h => ?_)
        refine d_split (t := 16) h rfl (fun hB6 => ?_) (fun hB6 => ?_)
        · rw [if_pos hB6] at hz50
          refine d_takeNP h (fun _ => HS) HN 7 rfl (by kernel_rfl) (by kernel_rfl) (by kernel_rfl) (by decide) (by rw [g_want h rfl rfl rfl rfl hB6]; rfl) rfl (by decide) (fun a h => ?_)
          refine d_takeNP h (fun _ => HS) HN 8 rfl (by kernel_rfl) (by kernel_rfl) (by kernel_rfl) (by decide) (by rw [g_want h rfl rfl rfl rfl hB6]; rfl) rfl (by decide) (fun a h => ?_)
          refine d_takeNP h (fun _ => HS) HN 9 rfl (by kernel_rfl) (by kernel_rfl) (by kernel_rfl) (by decide) (by rw [g_want h rfl rfl rfl rfl hB6]; rfl) rfl (by decide) (fun a h => ?_)
          refine d_takeNP h (fun _ => HS) HN 10 rfl (by kernel_rfl) (by kernel_rfl) (by kernel_rfl) (by decide) (g_wantU h rfl rfl rfl rfl) rfl (by decide) (fun a h => ?_)
          refine d_takeNP h (fun _ => HS) HN 11 rfl (by kernel_rfl) (by kernel_rfl) (by kernel_rfl) (by decide) (g_wantU h rfl rfl rfl rfl) rfl (by decide) (fun a h => ?_)
          refine d_takeNP h (fun _ => HS) HN 12 rfl (by kernel_rfl) (by kernel_rfl) (by kernel_rfl) (by decide) (g_wantU h rfl rfl rfl rfl) rfl (by decide) (fun a h => ?_)
          refine d_takeNP h (fun _ => HS) HN 13 rfl (by kernel_rfl) (by kernel_rfl) (by kernel_rfl) (by decide) (g_wantU h rfl rfl rfl rfl) rfl (by decide) (fun a h => ?_)
          refine d_takeNP h (fun _ => HS) HN 14 rfl (by kernel_rfl) (by kernel_rfl) (by kernel_rfl) (by decide) (g_wantU h rfl rfl rfl rfl) rfl (by decide) (fun a h => ?_)
          refine d_takeNP h (fun _ => HS) HN 15 rfl (by kernel_rfl) (by kernel_rfl) (by kernel_rfl) (by decide) (g_wantU h rfl rfl rfl rfl) rfl (by decide) (fun a h => ?_)
          refine d_takeNP h (fun _ => HS) HN 16 rfl (by kernel_rfl) (by kernel_rfl) (by kernel_rfl) (by decide) (g_wantU h rfl rfl rfl rfl) rfl (by decide) (fun a h => ?_)
          refine d_takeNP h (fun _ => HS) HN 17 rfl (by kernel_rfl) (by kernel_rfl) (by kernel_rfl) (by decide) (g_wantU h rfl rfl rfl rfl) rfl (by decide) (fun a h => ?_)
          refine d_takeNP h (fun _ => HS) HN 18 rfl (by kernel_rfl) (by kernel_rfl) (by kernel_rfl) (by decide) (g_wantU h rfl rfl rfl rfl) rfl (by decide) (fun a h => ?_)
          refine d_takeNP h (fun _ => HS) HN 19 rfl (by kernel_rfl) (by kernel_rfl) (by kernel_rfl) (by decide) (g_wantU h rfl rfl rfl rfl) rfl (by decide) (fun a h => ?_)
          refine d_takeNP h (fun _ => HS) HN 20 rfl (by kernel_rfl) (by kernel_rfl) (by kernel_rfl) (by decide) (g_wantU h rfl rfl rfl rfl) rfl (by decide) (fun a h => ?_)
          refine d_takeNP h (fun _ => HS) HN 21 rfl (by kernel_rfl) (by kernel_rfl) (by kernel_rfl) (by decide) (g_wantU h rfl rfl rfl rfl) rfl (by decide) (fun a h => ?_)
          refine d_takeNP h (fun _ => HS) HN 22 rfl (by kernel_rfl) (by kernel_rfl) (by kernel_rfl) (by decide) (by rw [g_want h rfl rfl rfl rfl hB6]; rfl) rfl (by decide) (fun a h => ?_)
          refine d_takeP h (fun _ => HS) HN 23 rfl (by kernel_rfl) (by kernel_rfl) (by kernel_rfl) (by decide) rfl rfl (by decide) (fun w' => x_pick (v := .bool z49) (u' := undef) h.k rfl rfl (fun _ => by rw [← Option.some.inj hz50]; rfl) (fun hh => absurd (hB6.symm.trans hh) (by decide))) (fun a h => ?_)
          refine d_done (by kernel_rfl) (HE _ _ ?_) _
          refine e_thenN ?_
          exact h.has (by exact ⟨rfl, rfl, rfl, trivial⟩)
        · rw [if_neg (by rw [hB6]; decide)] at hz50
          obtain ⟨z51, hz52, hz50⟩ := bsome hz50
          refine d_takeP h (fun _ => HS) HN 7 rfl (by kernel_rfl) (by kernel_rfl) (by kernel_rfl) (by decide) (by rw [g_want h rfl rfl rfl rfl hB6]; rfl) rfl (by decide) (fun w' => x_move h.k _ rfl rfl) (fun a h => ?_)
          refine d_takeP h (fun _ => HS) HN 8 rfl (by kernel_rfl) (by kernel_rfl) (by kernel_rfl) (by decide) (by rw [g_want h rfl rfl rfl rfl hB6]; rfl) rfl (by decide) (fun w' => x_bin h.k rfl rfl rfl ib_gtr) (fun a h => ?_)
          refine d_takeP h (fun _ => HS) HN 9 rfl (by kernel_rfl) (by kernel_rfl) (by kernel_rfl) (by decide) (by rw [g_want h rfl rfl rfl rfl hB6]; rfl) rfl (by decide) (fun w' => x_move h.k _ rfl rfl) (fun a h => ?_)
          refine d_split (t := 19) h rfl (fun hB9 => ?_) (fun hB9 => ?_)
          · rw [if_pos (of_decide_eq_true hB9)] at hz52
            obtain ⟨x53, h57, hz52⟩ := bsome hz52
            obtain ⟨x92, h96, hz52⟩ := bsome hz52
            refine d_takeP h (fun _ => HS) HN 10 rfl (by kernel_rfl) (by kernel_rfl) (by kernel_rfl) (by decide) (by rw [g_want h rfl rfl rfl rfl hB9]; rfl) rfl (by decide) (fun w' => x_move h.k _ rfl rfl) (fun a h => ?_)
            refine d_takeP h (fun _ => HS) HN 11 rfl (by kernel_rfl) (by kernel_rfl) (by kernel_rfl) (by decide) (by rw [g_want h rfl rfl rfl rfl hB9]; rfl) rfl (by decide) (fun w' => x_move h.k _ rfl rfl) (fun a h => ?_)
            refine d_takeP h (fun _ => HS) HN 12 rfl (by kernel_rfl) (by kernel_rfl) (by kernel_rfl) (by decide) (by rw [g_want h rfl rfl rfl rfl hB9]; rfl) rfl (by decide) (fun w' => x_bin h.k rfl rfl rfl (ib_sub rfl)) (fun a h => ?_)
            obtain ⟨m54, hi58, hm59, hx60⟩ := idx_some h57
            obtain ⟨b55, off56, k61, hA62, hu63, hc64⟩ := (hsa0).at (by decide) hx60 (h.m.snOK (i := 0) rfl)
            obtain ⟨k65, k66, rfl, ⟨rfl, hr67⟩, ⟨k68, k69, rfl, ⟨rfl, hr70⟩, ⟨k71, k72, rfl, ⟨rfl, hr73⟩, ⟨k74, k75, rfl, ⟨A76, c77, rfl, hs78⟩, ⟨k79, k80, rfl, ⟨A81, c82, rfl, hs83⟩, ⟨k84, k85, rfl, ⟨A86, c87, rfl, hs88⟩, ⟨A89, c90, rfl, hs91⟩⟩⟩⟩⟩⟩⟩ := hu63
            refine d_takeP h (fun _ => HS) HN 13 rfl (by kernel_rfl) (by kernel_rfl) (by kernel_rfl) (by decide) (by rw [g_want h rfl rfl rfl rfl hB9]; rfl) rfl (by decide) (fun w' => x_iaddrE h.k rfl Try.underlying61 sz_api_Space hA62 rfl rfl hi58 hm59) (fun a h => ?_)
            refine d_takeP h (fun _ => HS) HN 14 rfl (by kernel_rfl) (by kernel_rfl) (by kernel_rfl) (by decide) (by rw [g_want h rfl rfl rfl rfl hB9]; rfl) rfl (by decide) (fun w' => x_faddr h.k rfl Try.underlying66 rfl sz_int rfl) (fun a h => ?_)
            refine d_takeY h HS HN 15 rfl (by kernel_rfl) (by kernel_rfl) (by kernel_rfl) (by kernel_rfl) (by kernel_rfl) (by rw [g_want h rfl rfl rfl rfl hB9]; rfl) rfl (by decide) (fun w' hw => x_ld h.k rfl Try.underlying3 rfl rfl (hc64 _ (hw.snOK (i := 0) rfl) 0 _ rfl)) (fun a h => ?_)
            refine d_takeP h (fun _ => HS) HN 16 rfl (by kernel_rfl) (by kernel_rfl) (by kernel_rfl) (by decide) (by rw [g_want h rfl rfl rfl rfl hB9]; rfl) rfl (by decide) (fun w' => x_move h.k _ rfl rfl) (fun a h => ?_)
            refine d_takeP h (fun _ => HS) HN 17 rfl (by kernel_rfl) (by kernel_rfl) (by kernel_rfl) (by decide) (by rw [g_want h rfl rfl rfl rfl hB9]; rfl) rfl (by decide) (fun w' => x_move h.k _ rfl rfl) (fun a h => ?_)
            obtain ⟨m93, hi97, hm98, hx99⟩ := idx_some h96
            obtain ⟨b94, off95, k100, hA101, hu102, hc103⟩ := (hsa0).at (by decide) hx99 (h.m.snOK (i := 0) rfl)
            obtain ⟨k104, k105, rfl, ⟨rfl, hr106⟩, ⟨k107, k108, rfl, ⟨rfl, hr109⟩, ⟨k110, k111, rfl, ⟨rfl, hr112⟩, ⟨k113, k114, rfl, ⟨A115, c116, rfl, hs117⟩, ⟨k118, k119, rfl, ⟨A120, c121, rfl, hs122⟩, ⟨k123, k124, rfl, ⟨A125, c126, rfl, hs127⟩, ⟨A128, c129, rfl, hs130⟩⟩⟩⟩⟩⟩⟩ := hu102
            refine d_takeP h (fun _ => HS) HN 18 rfl (by kernel_rfl) (by kernel_rfl) (by kernel_rfl) (by decide) (by rw [g_want h rfl rfl rfl rfl hB9]; rfl) rfl (by decide) (fun w' => x_iaddrE h.k rfl Try.underlying61 sz_api_Space hA101 rfl rfl hi97 hm98) (fun a h => ?_)
            refine d_takeP h (fun _ => HS) HN 19 rfl (by kernel_rfl) (by kernel_rfl) (by kernel_rfl) (by decide) (by rw [g_want h rfl rfl rfl rfl hB9]; rfl) rfl (by decide) (fun w' => x_faddr h.k rfl Try.underlying66 rfl sz_int rfl) (fun a h => ?_)
            refine d_takeY h HS HN 20 rfl (by kernel_rfl) (by kernel_rfl) (by kernel_rfl) (by kernel_rfl) (by kernel_rfl) (by rw [g_want h rfl rfl rfl rfl hB9]; rfl) rfl (by decide) (fun w' hw => x_ld h.k rfl Try.underlying3 rfl rfl (hc103 _ (hw.snOK (i := 0) rfl) 0 _ rfl)) (fun a h => ?_)
            refine d_takeP h (fun _ => HS) HN 21 rfl (by kernel_rfl) (by kernel_rfl) (by kernel_rfl) (by decide) (by rw [g_want h rfl rfl rfl rfl hB9]; rfl) rfl (by decide) (fun w' => x_bin h.k rfl rfl rfl ib_geq) (fun a h => ?_)
            refine d_takeP h (fun _ => HS) HN 22 rfl (by kernel_rfl) (by kernel_rfl) (by kernel_rfl) (by decide) (by rw [g_want h rfl rfl rfl rfl hB6]; rfl) rfl (by decide) (fun w' => x_pick (v := .bool z51) (u' := undef) h.k rfl rfl (fun _ => by rw [← Option.some.inj hz52]; rfl) (fun hh => absurd (hB9.symm.trans hh) (by decide))) (fun a h => ?_)
            refine d_takeP h (fun _ => HS) HN 23 rfl (by kernel_rfl) (by kernel_rfl) (by kernel_rfl) (by decide) rfl rfl (by decide) (fun w' => x_pick (v := .bool z49) (u' := undef) h.k rfl rfl (fun hh => absurd (hB6.symm.trans hh) (by decide)) (fun _ => by rw [← Option.some.inj hz50]; rfl)) (fun a h => ?_)
            refine d_done (by kernel_rfl) (HE _ _ ?_) _
            refine e_thenN ?_
            exact h.has (by exact ⟨rfl, rfl, rfl, trivial⟩)
          · rw [if_neg (of_decide_eq_false hB9)] at hz52
            refine d_takeNP h (fun _ => HS) HN 10 rfl (by kernel_rfl) (by kernel_rfl) (by kernel_rfl) (by decide) (by rw [g_want h rfl rfl rfl rfl hB9]; rfl) rfl (by decide) (fun a h => ?_)
            refine d_takeNP h (fun _ => HS) HN 11 rfl (by kernel_rfl) (by kernel_rfl) (by kernel_rfl) (by decide) (by rw [g_want h rfl rfl rfl rfl hB9]; rfl) rfl (by decide) (fun a h => ?_)
            refine d_takeNP h (fun _ => HS) HN 12 rfl (by kernel_rfl) (by kernel_rfl) (by kernel_rfl) (by decide) (by rw [g_want h rfl rfl rfl rfl hB9]; rfl) rfl (by decide) (fun a h => ?_)
            refine d_takeNP h (fun _ => HS) HN 13 rfl (by kernel_rfl) (by kernel_rfl) (by kernel_rfl) (by decide) (by rw [g_want h rfl rfl rfl rfl hB9]; rfl) rfl (by decide) (fun a h => ?_)
            refine d_takeNP h (fun _ => HS) HN 14 rfl (by kernel_rfl) (by kernel_rfl) (by kernel_rfl) (by decide) (by rw [g_want h rfl rfl rfl rfl hB9]; rfl) rfl (by decide) (fun a h => ?_)
            refine d_takeNP h (fun _ => HS) HN 15 rfl (by kernel_rfl) (by kernel_rfl) (by kernel_rfl) (by decide) (by rw [g_want h rfl rfl rfl rfl hB9]; rfl) rfl (by decide) (fun a h => ?_)
            refine d_takeNP h (fun _ => HS) HN 16 rfl (by kernel_rfl) (by kernel_rfl) (by kernel_rfl) (by decide) (by rw [g_want h rfl rfl rfl rfl hB9]; rfl) rfl (by decide) (fun a h => ?_)
            refine d_takeNP h (fun _ => HS) HN 17 rfl (by kernel_rfl) (by kernel_rfl) (by kernel_rfl) (by decide) (by rw [g_want h rfl rfl rfl rfl hB9]; rfl) rfl (by decide) (fun a h => ?_)
            refine d_takeNP h (fun _ => HS) HN 18 rfl (by kernel_rfl) (by kernel_rfl) (by kernel_rfl) (by decide) (by rw [g_want h rfl rfl rfl rfl hB9]; rfl) rfl (by decide) (fun a h => ?_)
            refine d_takeNP h (fun _ => HS) HN 19 rfl (by kernel_rfl) (by kernel_rfl) (by kernel_rfl) (by decide) (by rw [g_want h rfl rfl rfl rfl hB9]; rfl) rfl (by decide) (fun a h => ?_)
            refine d_takeNP h (fun _ => HS) HN 20 rfl (by kernel_rfl) (by kernel_rfl) (by kernel_rfl) (by decide) (by rw [g_want h rfl rfl rfl rfl hB9]; rfl) rfl (by decide) (fun a h => ?_)
            refine d_takeNP h (fun _ => HS) HN 21 rfl (by kernel_rfl) (by kernel_rfl) (by kernel_rfl) (by decide) (by rw [g_want h rfl rfl rfl rfl hB9]; rfl) rfl (by decide) (fun a h => ?_)
            refine d_takeP h (fun _ => HS) HN 22 rfl (by kernel_rfl) (by kernel_rfl) (by kernel_rfl) (by decide) (by rw [g_want h rfl rfl rfl rfl hB6]; rfl) rfl (by decide) (fun w' => x_pick (v := .bool z51) (u' := undef) h.k rfl rfl (fun hh => absurd (hB9.symm.trans hh) (by decide)) (fun _ => by rw [← Option.some.inj hz52]; rfl)) (fun a h => ?_)
            refine d_takeP h (fun _ => HS) HN 23 rfl (by kernel_rfl) (by kernel_rfl) (by kernel_rfl) (by decide) rfl rfl (by decide) (fun w' => x_pick (v := .bool z49) (u' := undef) h.k rfl rfl (fun hh => absurd (hB6.symm.trans hh) (by decide)) (fun _ => by rw [← Option.some.inj hz50]; rfl)) (fun a h => ?_)
            refine d_done (by kernel_rfl) (HE _ _ ?_) _
            refine e_thenN ?_
            exact h.has (by exact ⟨rfl, rfl, rfl, trivial⟩)
      refine e_thenN ?_
      refine c_cond h rfl (fun hb => ?_) (fun hb => ?_)
      · rw [if_pos hb] at hl5
        refine c_rs ?_ -- region 5
        refine s_assign h rfl _ rfl rfl (by decide) rfl (fun a h => ?_)
        refine l_end ?_
        refine wp_ret ?_
        refine e_blkR ?_
        refine e_thenR ?_
        refine e_thenR ?_
        refine e_blkR ?_
        refine e_thenR ?_
        cases hl5
        try dsimp only at hf
        refine e_thenR ?_
        rw [← Option.some.inj hf]
        exact r_ret1 h rfl (rv_tmp h rfl) ⟨_, [], _, rfl, ⟨rfl, rfl, trivial⟩, rfl, (Up.refl _ _ _), h.m⟩
      · rw [if_neg (by rw [hb]; decide)] at hl5
        refine wp_skip ?_
        refine e_blkN ?_
        refine e_thenN ?_
        refine c_r ?_ -- region 3
        refine s_move h rfl _ rfl rfl (by decide) rfl (fun a h => ?_)
        refine s_x h rfl rfl (by decide) (x_bin h.k rfl rfl rfl (ib_add rfl)) (fun a h => ?_)
        refine s_assign h rfl _ rfl rfl (by decide) rfl (fun a h => ?_)
        refine l_nil ?_
        exact e_thenN ⟨m6, Nat.lt_succ_self _, w64 (x3 + 1), hl5, (w64_r _), h.has (by exact ⟨rfl, rfl, trivial⟩)⟩
    · rw [if_neg (of_decide_eq_false hb)] at hl5
      refine wp_exit ?_
      refine e_thenX ?_
      refine e_thenX ?_
      refine e_blkX ?_
      refine e_thenN ?_
      exact ⟨(Option.some.inj hl5), h.has (by exact ⟨rfl, trivial⟩)⟩
  · rintro a w ⟨rfl, h⟩
    try dsimp only at hf
    refine e_thenN ?_
    refine c_rs ?_ -- region 6
    refine s_move h rfl _ rfl rfl (by decide) rfl (fun a h => ?_)
    refine s_x h rfl rfl (by decide) (x_len h.k rfl Try.underlying61 rfl) (fun a h => ?_)
    refine s_x h rfl rfl (by decide) (x_bin h.k rfl rfl rfl ib_leq) (fun a h => ?_)
    refine s_assign h rfl _ rfl rfl (by decide) rfl (fun a h => ?_)
    refine l_end ?_
    refine wp_ret ?_
    obtain rfl := Option.some.inj hf
    exact r_ret1 h rfl (rv_tmp h rfl) ⟨_, [], _, rfl, ⟨rfl, rfl, trivial⟩, rfl, (Up.refl _ _ _), h.m⟩
def chatelaineref24_Sum (Fu : Nat) (a0 : Int × Int × Int × (List UInt8) × (List (Int × Int)) × (List (List UInt8)) × (List (List UInt8))) : Option ((List UInt8)) :=
  (chatelaineref01_Put64 Fu (u64I a0.1)).bind fun x32 => (app 1 ([(2 : UInt8)]) x32).bind fun x40 => (chatelaineref01_Put64 Fu (u64I a0.2.1)).bind fun x46 => (app 1 x40 x46).bind fun x54 => (chatelaineref01_Put64 Fu (u64I a0.2.2.1)).bind fun x60 => (app 1 x54 x60).bind fun x68 => (chatelaineref23_Root Fu a0.2.2.2.2.2.2).bind fun x74 => (chatelaineref06_List Fu x74).bind fun x82 => (app 1 x68 x82).bind fun x90 => (chatelaineref05_Sum Fu x90).bind fun x96 => some x96
set_option maxRecDepth 100000 in
set_option maxHeartbeats 2000000 in
theorem chatelaineref24_Sum_ok (Fu : Nat) {S0 : Snap} (csa0 : List Value) (a0 : Int × Int × Int × (List UInt8) × (List (Int × Int)) × (List (List UInt8)) × (List (List UInt8))) (hsa0 : (tyP tyI (tyP tyI (tyP tyI (tyP (tyL ty8) (tyP (tyL (tyP tyI tyI)) (tyP (tyL (tyL ty8)) (tyL (tyA 32 ty8)))))))).rep S0 csa0 a0) (r : (List UInt8)) (hf : chatelaineref24_Sum Fu a0 = some r) (w0 : World) (hm : Mem w0 (ownL ([] ++ [.sn S0])) ([] ++ [.sn S0]) w0) :
    Calls Try.prog 39 #[.agg csa0.toArray] w0 (Ret w0 S0 [] (fun v L1 S1 => ∃ (k104 : List Value), v = .agg k104.toArray ∧ L1 = [] ∧ (tyA 32 ty8).rep S1 k104 r ∧ True)) := by
  unfold chatelaineref24_Sum at hf
  obtain ⟨k1, k2, rfl, ⟨rfl, hr3⟩, ⟨k4, k5, rfl, ⟨rfl, hr6⟩, ⟨k7, k8, rfl, ⟨rfl, hr9⟩, ⟨k10, k11, rfl, ⟨A12, c13, rfl, hs14⟩, ⟨k15, k16, rfl, ⟨A17, c18, rfl, hs19⟩, ⟨k20, k21, rfl, ⟨A22, c23, rfl, hs24⟩, ⟨A25, c26, rfl, hs27⟩⟩⟩⟩⟩⟩⟩ := hsa0
  refine c_enterM Try.func39 rfl 30 rfl (by simp) _ hm _ rfl (fun a h => ?_)
  refine c_rs ?_ -- region 0
  refine s_box h rfl rfl rfl (by decide) rfl (cs := [.int .i64 a0.1, .int .i64 a0.2.1, .int .i64 a0.2.2.1, .slice A12 a0.2.2.2.1.length c13, .slice A17 a0.2.2.2.2.1.length c18, .slice A22 a0.2.2.2.2.2.1.length c23, .slice A25 a0.2.2.2.2.2.2.length c26]) (by rfl) (fun a w g28 h => ?_)
  refine s_alloc h rfl rfl rfl (by decide) zi_A32_uint8 rfl (fun a w g29 h => ?_)
  refine l_end ?_
  refine c_rs ?_ -- region 1
  refine q_bslice (T := ty8) (S := S0) h rfl rfl rfl (by decide) Try.underlying52 zi_uint8 (by decide) (by decide) (by decide) (by decide) [.int .u8 2] rfl rfl (C := [[.int .u8 2]]) rfl (xs := [(2 : UInt8)]) ⟨[.int .u8 2], _, rfl, rfl, rfl⟩ (by intro c hc; simp only [List.mem_cons, List.not_mem_nil, or_false] at hc; subst hc; rfl) (fun a w A30 h => ?_)
  have hb31 : reps ty8 S0 ([[.int .u8 2]] : List (List Value)).flatten [(2 : UInt8)] := ⟨[.int .u8 2], _, rfl, rfl, rfl⟩
  refine s_assign h rfl _ rfl rfl (by decide) rfl (fun a h => ?_)
  refine l_end ?_
  refine c_rs ?_ -- region 2
  refine s_move h rfl _ rfl rfl (by decide) rfl (fun a h => ?_)
  refine s_x h rfl rfl (by decide) (x_faddr h.k rfl Try.underlying66 rfl sz_int rfl) (fun a h => ?_)
  refine s_x h rfl rfl (by decide) (x_ld h.k rfl Try.underlying3 rfl rfl ((h.m.cell (i := 2) rfl 0).trans rfl)) (fun a h => ?_)
  refine s_x h rfl rfl (by decide) (x_convE h.k rfl Try.underlying3 Try.underlying120 rfl (u64I_wrap _)) (fun a h => ?_)
  obtain ⟨x32, h33, hf⟩ := bsome hf
  have hX := chatelaineref01_Put64_ok Fu (S0 := snapAll _) (u64I a0.1) _ h33 _ h.startAll
  refine q_callX hX h rfl rfl rfl (by decide) Try.func79 rfl rfl rfl (fun a w v L1 S1 hR hb1 h => ?_)
  obtain ⟨A35, c36, cs37, rfl, rfl, hq38, _⟩ := hR
  have hq39 := hq38.fl (S' := S0) fl_8
  obtain ⟨x40, h41, hf⟩ := bsome hf
  refine q_append (T := ty8) (S := S0) h rfl rfl rfl (by decide) Try.underlying52 zb_uint8 rfl (by decide) rfl 1 rfl hb31 rfl hq39 (h.m.rdRowA (i := 0) rfl) h41 (fun a w A42 c43 cs44 hq45 h => ?_)
  refine s_assign h rfl _ rfl rfl (by decide) rfl (fun a h => ?_)
  refine l_end ?_
  refine c_rs ?_ -- region 3
  refine s_move h rfl _ rfl rfl (by decide) rfl (fun a h => ?_)
  refine s_x h rfl rfl (by decide) (x_faddr h.k rfl Try.underlying66 rfl sz_int rfl) (fun a h => ?_)
  refine s_x h rfl rfl (by decide) (x_ld h.k rfl Try.underlying3 rfl rfl ((h.m.cell (i := 3) rfl 1).trans rfl)) (fun a h => ?_)
  refine s_x h rfl rfl (by decide) (x_convE h.k rfl Try.underlying3 Try.underlying120 rfl (u64I_wrap _)) (fun a h => ?_)
  obtain ⟨x46, h47, hf⟩ := bsome hf
  have hX := chatelaineref01_Put64_ok Fu (S0 := snapAll _) (u64I a0.2.1) _ h47 _ h.startAll
  refine q_callX hX h rfl rfl rfl (by decide) Try.func79 rfl rfl rfl (fun a w v L1 S1 hR hb1 h => ?_)
  obtain ⟨A49, c50, cs51, rfl, rfl, hq52, _⟩ := hR
  have hq53 := hq52.fl (S' := S0) fl_8
  obtain ⟨x54, h55, hf⟩ := bsome hf
  refine q_append (T := ty8) (S := S0) h rfl rfl rfl (by decide) Try.underlying52 zb_uint8 rfl (by decide) rfl 2 rfl hq45 rfl hq53 (h.m.rdRowA (i := 0) rfl) h55 (fun a w A56 c57 cs58 hq59 h => ?_)
  refine s_assign h rfl _ rfl rfl (by decide) rfl (fun a h => ?_)
  refine l_end ?_
  refine c_rs ?_ -- region 4
  refine s_move h rfl _ rfl rfl (by decide) rfl (fun a h => ?_)
  refine s_x h rfl rfl (by decide) (x_faddr h.k rfl Try.underlying66 rfl sz_int rfl) (fun a h => ?_)
  refine s_x h rfl rfl (by decide) (x_ld h.k rfl Try.underlying3 rfl rfl ((h.m.cell (i := 4) rfl 2).trans rfl)) (fun a h => ?_)
  refine s_x h rfl rfl (by decide) (x_convE h.k rfl Try.underlying3 Try.underlying120 rfl (u64I_wrap _)) (fun a h => ?_)
  obtain ⟨x60, h61, hf⟩ := bsome hf
  have hX := chatelaineref01_Put64_ok Fu (S0 := snapAll _) (u64I a0.2.2.1) _ h61 _ h.startAll
  refine q_callX hX h rfl rfl rfl (by decide) Try.func79 rfl rfl rfl (fun a w v L1 S1 hR hb1 h => ?_)
  obtain ⟨A63, c64, cs65, rfl, rfl, hq66, _⟩ := hR
  have hq67 := hq66.fl (S' := S0) fl_8
  obtain ⟨x68, h69, hf⟩ := bsome hf
  refine q_append (T := ty8) (S := S0) h rfl rfl rfl (by decide) Try.underlying52 zb_uint8 rfl (by decide) rfl 3 rfl hq59 rfl hq67 (h.m.rdRowA (i := 0) rfl) h69 (fun a w A70 c71 cs72 hq73 h => ?_)
  refine s_assign h rfl _ rfl rfl (by decide) rfl (fun a h => ?_)
  refine l_end ?_
  refine c_rs ?_ -- region 5
  refine s_move h rfl _ rfl rfl (by decide) rfl (fun a h => ?_)
  refine s_x h rfl rfl (by decide) (x_faddr h.k rfl Try.underlying66 rfl sz_SA32_uint8 rfl) (fun a h => ?_)
  refine s_x h rfl rfl (by decide) (x_ld h.k rfl Try.underlying39 rfl rfl ((h.m.cell (i := 5) rfl 6).trans rfl)) (fun a h => ?_)
  obtain ⟨x74, h75, hf⟩ := bsome hf
  have hX := chatelaineref23_Root_ok Fu (S0 := snapAll _) A25 c26 a0.2.2.2.2.2.2 (hs27.mono (h.m.leAll (i := 6) rfl)) _ h75 _ h.startAll
  refine q_callX hX h rfl rfl rfl (by decide) Try.func32 rfl rfl rfl (fun a w v L1 S1 hR hb1 h => ?_)
  obtain ⟨k77, rfl, rfl, hv78, _⟩ := hR
  obtain ⟨hs79, hl80⟩ := hv78
  have hq81 := hs79.fl (S' := S0) fl_8
  obtain ⟨x82, h83, hf⟩ := bsome hf
  have hX := chatelaineref06_List_ok Fu (S0 := snapAll _) k77 x74 ((tyA 32 ty8).mono (h.m.leAll (i := 6) rfl) (show (tyA 32 ty8).rep S0 k77 x74 from ⟨hq81, hl80⟩)) _ h83 _ h.startAll
  refine q_callX hX h rfl rfl rfl (by decide) Try.func71 rfl rfl rfl (fun a w v L1 S1 hR hb1 h => ?_)
  obtain ⟨A85, c86, cs87, rfl, rfl, hq88, _⟩ := hR
  have hq89 := hq88.fl (S' := S0) fl_8
  obtain ⟨x90, h91, hf⟩ := bsome hf
  refine q_append (T := ty8) (S := S0) h rfl rfl rfl (by decide) Try.underlying52 zb_uint8 rfl (by decide) rfl 4 rfl hq73 rfl hq89 (h.m.rdRowA (i := 0) rfl) h91 (fun a w A92 c93 cs94 hq95 h => ?_)
  obtain ⟨x96, h97, hf⟩ := bsome hf
  have hX := chatelaineref05_Sum_ok Fu (S0 := snapAll _) A92 c93 x90 (h.m.rowAll (i := 4) rfl (j := 7) rfl hq95) _ h97 _ h.startAll
  refine q_callX hX h rfl rfl rfl (by decide) Try.func72 rfl rfl rfl (fun a w v L1 S1 hR hb1 h => ?_)
  obtain ⟨k99, rfl, rfl, hv100, _⟩ := hR
  obtain ⟨hs101, hl102⟩ := hv100
  have hq103 := hs101.fl (S' := S0) fl_8
  refine s_stW h rfl rfl rfl ag_A32_uint8 rfl (es := k99) rfl ((hq103).len.trans (by rw [hl102]; rfl)) (hq103).one 5 rfl (by first | rfl | simp_all) (fun a w h => ?_)
  refine l_end ?_
  refine wp_ret ?_
  rw [← Option.some.inj hf]
  exact r_ret1 h rfl (rv_cellA h rfl 5 rfl ag_A32_uint8 ((hq103).len.trans (by rw [hl102]; rfl))) ⟨_, [], _, rfl, ⟨k99, rfl, rfl, ⟨hq103, hl102⟩, trivial⟩, rfl, (Up.refl _ _ _), (h.m.pick [7] _ (by decide) rfl)⟩
def chatelaineref24_Root_l0 (Fu : Nat) (a0 : List (Int × Int × Int × (List UInt8) × (List (Int × Int)) × (List (List UInt8)) × (List (List UInt8)))) : Nat → (List (List UInt8)) → Int → Option ((List (List UInt8)))
  | 0, _, _ => none
  | k + 1, x4, x9 => if x9 < (a0.length : Int) then ((idx a0 x9).bind fun x19 => (chatelaineref24_Sum Fu x19).bind fun x58 => (app 32 x4 ([x58])).bind fun x68 => chatelaineref24_Root_l0 Fu a0 k x68 (w64 (x9 + 1))) else (some x4)
def chatelaineref24_Root (Fu : Nat) (a0 : List (Int × Int × Int × (List UInt8) × (List (Int × Int)) × (List (List UInt8)) × (List (List UInt8)))) : Option ((List UInt8)) :=
  (chatelaineref24_Root_l0 Fu a0 Fu ([]) 0).bind fun x11 => if (x11.length : Int) = 0 then (some (List.replicate 32 ((0 : UInt8) : UInt8))) else ((chatelaineref23_Root Fu x11).bind fun x76 => some x76)
set_option maxRecDepth 100000 in
set_option maxHeartbeats 2000000 in
theorem chatelaineref24_Root_ok (Fu : Nat) {S0 : Snap} (Aa0 : Option Addr) (ca0 : Nat) (a0 : List (Int × Int × Int × (List UInt8) × (List (Int × Int)) × (List (List UInt8)) × (List (List UInt8)))) (hsa0 : slS (tyP tyI (tyP tyI (tyP tyI (tyP (tyL ty8) (tyP (tyL (tyP tyI tyI)) (tyP (tyL (tyL ty8)) (tyL (tyA 32 ty8)))))))) S0 Aa0 ca0 a0) (r : (List UInt8)) (hf : chatelaineref24_Root Fu a0 = some r) (w0 : World) (hm : Mem w0 (ownL ([] ++ [.sn S0])) ([] ++ [.sn S0]) w0) :
    Calls Try.prog 43 #[.slice Aa0 a0.length ca0] w0 (Ret w0 S0 [] (fun v L1 S1 => ∃ (k85 : List Value), v = .agg k85.toArray ∧ L1 = [] ∧ (tyA 32 ty8).rep S1 k85 r ∧ True)) := by
  unfold chatelaineref24_Root at hf
  refine c_enterM Try.func43 rfl 26 rfl (by simp) _ hm _ rfl (fun a h => ?_)
  refine c_rs ?_ -- region 0
  refine s_alloc h rfl rfl rfl (by decide) zi_A32_uint8 rfl (fun a w g1 h => ?_)
  refine l_end ?_
  refine c_rs ?_ -- region 1
  refine s_assign h rfl _ rfl rfl (by decide) rfl (fun a h => ?_)
  refine l_end ?_
  refine wp_seq ?_
  refine c_rs ?_ -- region 2
  refine s_assign h rfl _ rfl rfl (by decide) rfl (fun a h => ?_)
  refine l_end ?_
  obtain ⟨o2, hl3, hf⟩ := bsome hf
  refine c_fin (fun a w => ∃ (x11 : List (List UInt8)), ∃ (A12 : Option Addr), ∃ (c13 : Nat), ∃ (cs14 : List Value), x11 = o2 ∧ reps (tyA 32 ty8) S0 cs14 x11 ∧ St 26 w0 (ownL ([] ++ [.sn S0])) [(2, .pointer (some ⟨g1, 0, none⟩)), (3, .slice A12 x11.length c13)] [.box g1 40 (List.replicate 32 (.int .u8 0 : Value)), .row (.slice A12 x11.length c13) 40 32 x11.length cs14, .sn S0] a w) ?_ ?_
  · refine wp_block ?_
    have h := h.mem (h.m.nilrow 40 32)
    have h := h.pick [1, 0, 2] (by decide) rfl
    refine c_loop (fun m17 a w => ∃ (x4 : List (List UInt8)), ∃ (A5 : Option Addr), ∃ (c6 : Nat), ∃ (cs7 : List Value), ∃ (x9 : Int), chatelaineref24_Root_l0 Fu a0 m17 x4 x9 = some o2 ∧ reps (tyA 32 ty8) S0 cs7 x4 ∧ r64 x9 ∧ St 26 w0 (ownL ([] ++ [.sn S0])) [(0, .slice Aa0 a0.length ca0), (2, .pointer (some ⟨g1, 0, none⟩)), (3, .slice A5 x4.length c6), (4, .int .i64 x9)] [.box g1 40 (List.replicate 32 (.int .u8 0 : Value)), .row (.slice A5 x4.length c6) 40 32 x4.length cs7, .sn S0] a w) Fu ⟨[], none, 0, [], 0, hl3, (show reps (tyA 32 ty8) S0 [] [] from rfl), (show r64 0 from ⟨by decide, by decide⟩), h.has (by exact ⟨rfl, rfl, rfl, rfl, trivial⟩)⟩ (fun m17 a w hI => ?_)
    obtain ⟨x4, A5, c6, cs7, x9, hl16, hq8, hr10, h⟩ := hI
    obtain _ | m17 := m17
    · rw [chatelaineref24_Root_l0] at hl16; cases hl16
    rw [chatelaineref24_Root_l0] at hl16
    refine wp_seq ?_
    refine c_rs ?_ -- region 3
    refine s_move h rfl _ rfl rfl (by decide) rfl (fun a h => ?_)
    refine s_move h rfl _ rfl rfl (by decide) rfl (fun a h => ?_)
    refine s_x h rfl rfl (by decide) (x_len h.k rfl Try.underlying61 rfl) (fun a h => ?_)
    refine s_x h rfl rfl (by decide) (x_bin h.k rfl rfl rfl ib_lss) (fun a h => ?_)
    refine l_end ?_
    refine c_cond h rfl (fun hb => ?_) (fun hb => ?_)
    · rw [if_pos (of_decide_eq_true hb)] at hl16
      refine wp_skip ?_
      refine e_thenN ?_
      refine wp_seq ?_
      refine wp_block ?_
      refine c_r ?_ -- region 5
      refine s_move h rfl _ rfl rfl (by decide) rfl (fun a h => ?_)
      refine s_move h rfl _ rfl rfl (by decide) rfl (fun a h => ?_)
      refine s_move h rfl _ rfl rfl (by decide) rfl (fun a h => ?_)
      obtain ⟨x19, h23, hl16⟩ := bsome hl16
      obtain ⟨m20, hi24, hm25, hx26⟩ := idx_some h23
      obtain ⟨b21, off22, k27, hA28, hu29, hc30⟩ := (hsa0).at (by decide) hx26 (h.m.snOK (i := 2) rfl)
      obtain ⟨k31, k32, rfl, ⟨rfl, hr33⟩, ⟨k34, k35, rfl, ⟨rfl, hr36⟩, ⟨k37, k38, rfl, ⟨rfl, hr39⟩, ⟨k40, k41, rfl, ⟨A42, c43, rfl, hs44⟩, ⟨k45, k46, rfl, ⟨A47, c48, rfl, hs49⟩, ⟨k50, k51, rfl, ⟨A52, c53, rfl, hs54⟩, ⟨A55, c56, rfl, hs57⟩⟩⟩⟩⟩⟩⟩ := hu29
      refine s_x h rfl rfl (by decide) (x_iaddrE h.k rfl Try.underlying61 sz_api_Space hA28 rfl rfl hi24 hm25) (fun a h => ?_)
      refine s_x h rfl rfl (by decide) (x_ldR h.k rfl ag_api_Space rfl ([.int .i64 x19.1, .int .i64 x19.2.1, .int .i64 x19.2.2.1, .slice A42 x19.2.2.2.1.length c43, .slice A47 x19.2.2.2.2.1.length c48, .slice A52 x19.2.2.2.2.2.1.length c53, .slice A55 x19.2.2.2.2.2.2.length c56]) rfl (hc30 _ (h.m.snOK (i := 2) rfl))) (fun a h => ?_)
      obtain ⟨x58, h59, hl16⟩ := bsome hl16
      have hX := chatelaineref24_Sum_ok Fu (S0 := snapAll _) ([.int .i64 x19.1, .int .i64 x19.2.1, .int .i64 x19.2.2.1, .slice A42 x19.2.2.2.1.length c43, .slice A47 x19.2.2.2.2.1.length c48, .slice A52 x19.2.2.2.2.2.1.length c53, .slice A55 x19.2.2.2.2.2.2.length c56]) x19 ((tyP tyI (tyP tyI (tyP tyI (tyP (tyL ty8) (tyP (tyL (tyP tyI tyI)) (tyP (tyL (tyL ty8)) (tyL (tyA 32 ty8)))))))).mono (h.m.leAll (i := 2) rfl) (show (tyP tyI (tyP tyI (tyP tyI (tyP (tyL ty8) (tyP (tyL (tyP tyI tyI)) (tyP (tyL (tyL ty8)) (tyL (tyA 32 ty8)))))))).rep S0 ([.int .i64 x19.1, .int .i64 x19.2.1, .int .i64 x19.2.2.1, .slice A42 x19.2.2.2.1.length c43, .slice A47 x19.2.2.2.2.1.length c48, .slice A52 x19.2.2.2.2.2.1.length c53, .slice A55 x19.2.2.2.2.2.2.length c56]) x19 from ⟨[.int .i64 x19.1], [.int .i64 x19.2.1, .int .i64 x19.2.2.1, .slice A42 x19.2.2.2.1.length c43, .slice A47 x19.2.2.2.2.1.length c48, .slice A52 x19.2.2.2.2.2.1.length c53, .slice A55 x19.2.2.2.2.2.2.length c56], rfl, ⟨rfl, hr33⟩, ⟨[.int .i64 x19.2.1], [.int .i64 x19.2.2.1, .slice A42 x19.2.2.2.1.length c43, .slice A47 x19.2.2.2.2.1.length c48, .slice A52 x19.2.2.2.2.2.1.length c53, .slice A55 x19.2.2.2.2.2.2.length c56], rfl, ⟨rfl, hr36⟩, ⟨[.int .i64 x19.2.2.1], [.slice A42 x19.2.2.2.1.length c43, .slice A47 x19.2.2.2.2.1.length c48, .slice A52 x19.2.2.2.2.2.1.length c53, .slice A55 x19.2.2.2.2.2.2.length c56], rfl, ⟨rfl, hr39⟩, ⟨[.slice A42 x19.2.2.2.1.length c43], [.slice A47 x19.2.2.2.2.1.length c48, .slice A52 x19.2.2.2.2.2.1.length c53, .slice A55 x19.2.2.2.2.2.2.length c56], rfl, ⟨_, _, rfl, hs44⟩, ⟨[.slice A47 x19.2.2.2.2.1.length c48], [.slice A52 x19.2.2.2.2.2.1.length c53, .slice A55 x19.2.2.2.2.2.2.length c56], rfl, ⟨_, _, rfl, hs49⟩, ⟨[.slice A52 x19.2.2.2.2.2.1.length c53], [.slice A55 x19.2.2.2.2.2.2.length c56], rfl, ⟨_, _, rfl, hs54⟩, ⟨_, _, rfl, hs57⟩⟩⟩⟩⟩⟩⟩)) _ h59 _ h.startAll
      refine q_callX hX h rfl rfl rfl (by decide) Try.func39 rfl rfl rfl (fun a w v L1 S1 hR hb1 h => ?_)
      obtain ⟨k61, rfl, rfl, hv62, _⟩ := hR
      obtain ⟨hs63, hl64⟩ := hv62
      have hq65 := hs63.fl (S' := S0) fl_8
      refine q_bslice (T := tyA 32 ty8) (S := S0) h rfl rfl rfl (by decide) Try.underlying39 zi_A32_uint8 (by decide) (by decide) (by decide) (by decide) [.agg k61.toArray] rfl rfl (C := [k61]) rfl (xs := [x58]) ⟨k61, _, rfl, ⟨hq65, hl64⟩, rfl⟩ (by intro c hc; simp only [List.mem_cons, List.not_mem_nil, or_false] at hc; subst hc; first | rfl | exact ((hq65).len.trans (by rw [hl64]; rfl))) (fun a w A66 h => ?_)
      have hb67 : reps (tyA 32 ty8) S0 ([k61] : List (List Value)).flatten [x58] := ⟨k61, _, rfl, ⟨hq65, hl64⟩, rfl⟩
      obtain ⟨x68, h69, hl16⟩ := bsome hl16
      refine q_append (T := tyA 32 ty8) (S := S0) h rfl rfl rfl (by decide) Try.underlying39 zb_A32_uint8 rfl (by decide) rfl 2 rfl hq8 rfl hb67 (h.m.rdRowA (i := 0) rfl) h69 (fun a w A70 c71 cs72 hq73 h => ?_)
      refine s_assign h rfl _ rfl rfl (by decide) rfl (fun a h => ?_)
      refine l_nil ?_
      refine e_blkN ?_
      refine e_thenN ?_
      refine c_r ?_ -- region 4
      refine s_move h rfl _ rfl rfl (by decide) rfl (fun a h => ?_)
      refine s_x h rfl rfl (by decide) (x_bin h.k rfl rfl rfl (ib_add rfl)) (fun a h => ?_)
      refine s_assign h rfl _ rfl rfl (by decide) rfl (fun a h => ?_)
      refine l_nil ?_
      have h := h.pick [1, 2, 3] (by decide) rfl
      exact e_thenN ⟨m17, Nat.lt_succ_self _, x68, A70, c71, cs72, w64 (x9 + 1), hl16, hq73, (w64_r _), h.has (by exact ⟨rfl, rfl, rfl, rfl, trivial⟩)⟩
    · rw [if_neg (of_decide_eq_false hb)] at hl16
      refine wp_exit ?_
      refine e_thenX ?_
      refine e_thenX ?_
      refine e_blkX ?_
      refine e_thenN ?_
      exact ⟨x4, A5, c6, cs7, (Option.some.inj hl16), hq8, h.has (by exact ⟨rfl, rfl, trivial⟩)⟩
  · rintro a w ⟨x11, A12, c13, cs14, rfl, hq15, h⟩
    refine e_thenN ?_
    refine wp_seq ?_
    refine c_rs ?_ -- region 6
    refine s_move h rfl _ rfl rfl (by decide) rfl (fun a h => ?_)
    have hr74 : r64 (x11.length : Int) := len_r (h.m.rowLen (i := 1) rfl)
    refine s_x h rfl rfl (by decide) (x_len h.k rfl Try.underlying39 rfl) (fun a h => ?_)
    refine s_x h rfl rfl (by decide) (x_bin h.k rfl rfl rfl ib_eql) (fun a h => ?_)
    refine l_end ?_
    refine c_cond h rfl (fun hb => ?_) (fun hb => ?_)
    · rw [if_pos (of_decide_eq_true hb)] at hf
      refine c_rs ?_ -- region 7
      refine s_alloc h rfl rfl rfl (by decide) zi_A32_uint8 rfl (fun a w g75 h => ?_)
      refine l_end ?_
      refine c_rs ?_ -- region 8
      refine s_x h rfl rfl (by decide) (x_ldR h.k rfl ag_A32_uint8 rfl (List.replicate 32 (.int .u8 0 : Value)) (by first | rfl | simp_all) (h.m.range0 (i := 0) rfl)) (fun a h => ?_)
      refine s_stW h rfl rfl rfl ag_A32_uint8 rfl (es := (List.replicate 32 (.int .u8 0 : Value))) rfl (by first | rfl | simp_all) ((show reps ty8 S0 (List.replicate 32 (.int .u8 0 : Value)) (List.replicate 32 ((0 : UInt8) : UInt8)) from repsRep1 (x := ((0 : UInt8) : UInt8)) rfl)).one 1 rfl (by first | rfl | simp_all) (fun a w h => ?_)
      refine l_end ?_
      refine wp_ret ?_
      refine e_thenR ?_
      obtain rfl := Option.some.inj hf
      exact r_ret1 h rfl (rv_cellA h rfl 1 rfl ag_A32_uint8 (by first | rfl | simp_all)) ⟨_, [], _, rfl, ⟨(List.replicate 32 (.int .u8 0 : Value)), rfl, rfl, ⟨(show reps ty8 S0 (List.replicate 32 (.int .u8 0 : Value)) (List.replicate 32 ((0 : UInt8) : UInt8)) from repsRep1 (x := ((0 : UInt8) : UInt8)) rfl), (show (List.replicate 32 ((0 : UInt8) : UInt8)).length = 32 from List.length_replicate)⟩, trivial⟩, rfl, (Up.refl _ _ _), (h.m.pick [3] _ (by decide) rfl)⟩
    · rw [if_neg (of_decide_eq_false hb)] at hf
      refine wp_skip ?_
      refine e_thenN ?_
      refine c_rs ?_ -- region 9
      refine s_move h rfl _ rfl rfl (by decide) rfl (fun a h => ?_)
      obtain ⟨x76, h77, hf⟩ := bsome hf
      have hX := chatelaineref23_Root_ok Fu (S0 := snapAll _) A12 c13 x11 (h.m.rowAll (i := 1) rfl (j := 2) rfl hq15) _ h77 _ h.startAll
      refine q_callX hX h rfl rfl rfl (by decide) Try.func32 rfl rfl rfl (fun a w v L1 S1 hR hb1 h => ?_)
      obtain ⟨k79, rfl, rfl, hv80, _⟩ := hR
      obtain ⟨hs81, hl82⟩ := hv80
      have hq83 := hs81.fl (S' := S0) fl_8
      refine s_stW h rfl rfl rfl ag_A32_uint8 rfl (es := k79) rfl ((hq83).len.trans (by rw [hl82]; rfl)) (hq83).one 0 rfl (by first | rfl | simp_all) (fun a w h => ?_)
      refine l_end ?_
      refine wp_ret ?_
      rw [← Option.some.inj hf]
      exact r_ret1 h rfl (rv_cellA h rfl 0 rfl ag_A32_uint8 ((hq83).len.trans (by rw [hl82]; rfl))) ⟨_, [], _, rfl, ⟨k79, rfl, rfl, ⟨hq83, hl82⟩, trivial⟩, rfl, (Up.refl _ _ _), (h.m.pick [2] _ (by decide) rfl)⟩
theorem gda_A32_uint8 : Try.prog.eqGuardType Try.prog.depth 40 = false := by kernel_rfl
def chatelainelaw24_awake (Fu : Nat) : Option Bool :=
  (forest_Root Fu ([])).bind fun x1 => (forest_Root Fu ([(1, 0, 1, [], [], [], [(List.replicate 32 ((0 : UInt8) : UInt8))])])).bind fun x19 => some ((((decide (x1.2 = 0)) && (decide (x1.1 = (List.replicate 32 ((0 : UInt8) : UInt8))))) && (decide (x19.2 = 0))) && (!(decide (x19.1 = x1.1))))
set_option maxRecDepth 100000 in
set_option maxHeartbeats 2000000 in
theorem chatelainelaw24_awake_ok (Fu : Nat) {S0 : Snap}  (r : Bool) (hf : chatelainelaw24_awake Fu = some r) (w0 : World) (hm : Mem w0 (ownL ([] ++ [.sn S0])) ([] ++ [.sn S0]) w0) :
    Calls Try.prog 35 #[] w0 (Ret w0 S0 [] (fun v L1 S1 => v = .bool r ∧ L1 = [] ∧ True)) := by
  unfold chatelainelaw24_awake at hf
  refine c_enterM Try.func35 rfl 33 rfl (by simp) _ hm _ rfl (fun a h => ?_)
  refine c_rs ?_ -- region 0
  refine s_assign h rfl _ rfl rfl (by decide) rfl (fun a h => ?_)
  refine l_end ?_
  refine c_rs ?_ -- region 1
  obtain ⟨x1, h2, hf⟩ := bsome hf
  have hX := forest_Root_ok Fu (S0 := snapAll _) none 0 [] (slS.nil _ _) _ h2 _ h.startAll
  refine q_callX hX h rfl rfl rfl (by decide) Try.func40 rfl rfl rfl (fun a w v L1 S1 hR hb1 h => ?_)
  obtain ⟨k4, rfl, rfl, hv5, hr8, _⟩ := hR
  obtain ⟨hs6, hl7⟩ := hv5
  have hq9 := hs6.fl (S' := S0) fl_8
  refine s_move h rfl _ rfl rfl (by decide) rfl (fun a h => ?_)
  refine s_x h rfl rfl (by decide) (x_ext h.k rfl rfl rfl) (fun a h => ?_)
  refine s_x h rfl rfl (by decide) (x_ext h.k rfl rfl rfl) (fun a h => ?_)
  refine s_alloc h rfl rfl rfl (by decide) zi_A32_uint8 rfl (fun a w g10 h => ?_)
  refine s_stW h rfl rfl rfl ag_A32_uint8 rfl (es := k4) rfl ((hq9).len.trans (by rw [hl7]; rfl)) (hq9).one 0 rfl (by first | rfl | simp_all) (fun a w h => ?_)
  refine s_assign h rfl _ rfl rfl (by decide) rfl (fun a h => ?_)
  refine l_end ?_
  refine c_rs ?_ -- region 2
  refine s_x h rfl rfl (by decide) (x_build h.k rfl [] rfl (List.replicate 32 (.int .u8 0 : Value)) (by kernel_rfl)) (fun a h => ?_)
  refine q_bslice (T := tyA 32 ty8) (S := S0) h rfl rfl rfl (by decide) Try.underlying39 zi_A32_uint8 (by decide) (by decide) (by decide) (by decide) [.agg (List.replicate 32 (.int .u8 0 : Value)).toArray] rfl rfl (C := [(List.replicate 32 (.int .u8 0 : Value))]) rfl (xs := [(List.replicate 32 ((0 : UInt8) : UInt8))]) ⟨(List.replicate 32 (.int .u8 0 : Value)), _, rfl, ⟨(show reps ty8 S0 (List.replicate 32 (.int .u8 0 : Value)) (List.replicate 32 ((0 : UInt8) : UInt8)) from repsRep1 (x := ((0 : UInt8) : UInt8)) rfl), (show (List.replicate 32 ((0 : UInt8) : UInt8)).length = 32 from List.length_replicate)⟩, rfl⟩ (by intro c hc; simp only [List.mem_cons, List.not_mem_nil, or_false] at hc; subst hc; rfl) (fun a w A11 h => ?_)
  have hb12 : reps (tyA 32 ty8) S0 ([(List.replicate 32 (.int .u8 0 : Value))] : List (List Value)).flatten [(List.replicate 32 ((0 : UInt8) : UInt8))] := ⟨(List.replicate 32 (.int .u8 0 : Value)), _, rfl, ⟨(show reps ty8 S0 (List.replicate 32 (.int .u8 0 : Value)) (List.replicate 32 ((0 : UInt8) : UInt8)) from repsRep1 (x := ((0 : UInt8) : UInt8)) rfl), (show (List.replicate 32 ((0 : UInt8) : UInt8)).length = 32 from List.length_replicate)⟩, rfl⟩
  have h := h.pick [0, 2, 1] (by decide) rfl
  obtain ⟨S13, le14, up15, hs16, h⟩ := q_freeze (T := tyA 32 ty8) h (Up.refl _ _ _) hb12
  refine s_x h rfl rfl (by decide) (x_build h.k rfl [(0, .int .i64 1), (2, .int .i64 1), (6, .slice A11 ([(List.replicate 32 ((0 : UInt8) : UInt8))]).length 1)] rfl ([.int .i64 1, .int .i64 0, .int .i64 1, .slice none 0 0, .slice none 0 0, .slice none 0 0, .slice A11 ([(List.replicate 32 ((0 : UInt8) : UInt8))]).length 1]) (by kernel_rfl)) (fun a h => ?_)
  refine q_bslice (T := tyP tyI (tyP tyI (tyP tyI (tyP (tyL ty8) (tyP (tyL (tyP tyI tyI)) (tyP (tyL (tyL ty8)) (tyL (tyA 32 ty8)))))))) (S := S13) h rfl rfl rfl (by decide) Try.underlying61 zi_api_Space (by decide) (by decide) (by decide) (by decide) [.agg ([.int .i64 1, .int .i64 0, .int .i64 1, .slice none 0 0, .slice none 0 0, .slice none 0 0, .slice A11 ([(List.replicate 32 ((0 : UInt8) : UInt8))]).length 1]).toArray] rfl rfl (C := [[.int .i64 1, .int .i64 0, .int .i64 1, .slice none 0 0, .slice none 0 0, .slice none 0 0, .slice A11 ([(List.replicate 32 ((0 : UInt8) : UInt8))]).length 1]]) rfl (xs := [(1, 0, 1, [], [], [], [(List.replicate 32 ((0 : UInt8) : UInt8))])]) ⟨[.int .i64 1, .int .i64 0, .int .i64 1, .slice none 0 0, .slice none 0 0, .slice none 0 0, .slice A11 ([(List.replicate 32 ((0 : UInt8) : UInt8))]).length 1], _, rfl, ⟨[.int .i64 1], [.int .i64 0, .int .i64 1, .slice none 0 0, .slice none 0 0, .slice none 0 0, .slice A11 ([(List.replicate 32 ((0 : UInt8) : UInt8))]).length 1], rfl, ⟨rfl, (show r64 1 from ⟨by decide, by decide⟩)⟩, ⟨[.int .i64 0], [.int .i64 1, .slice none 0 0, .slice none 0 0, .slice none 0 0, .slice A11 ([(List.replicate 32 ((0 : UInt8) : UInt8))]).length 1], rfl, ⟨rfl, (show r64 0 from ⟨by decide, by decide⟩)⟩, ⟨[.int .i64 1], [.slice none 0 0, .slice none 0 0, .slice none 0 0, .slice A11 ([(List.replicate 32 ((0 : UInt8) : UInt8))]).length 1], rfl, ⟨rfl, (show r64 1 from ⟨by decide, by decide⟩)⟩, ⟨[.slice none 0 0], [.slice none 0 0, .slice none 0 0, .slice A11 ([(List.replicate 32 ((0 : UInt8) : UInt8))]).length 1], rfl, ⟨_, _, rfl, (slS.nil ty8 _)⟩, ⟨[.slice none 0 0], [.slice none 0 0, .slice A11 ([(List.replicate 32 ((0 : UInt8) : UInt8))]).length 1], rfl, ⟨_, _, rfl, (slS.nil (tyP tyI tyI) _)⟩, ⟨[.slice none 0 0], [.slice A11 ([(List.replicate 32 ((0 : UInt8) : UInt8))]).length 1], rfl, ⟨_, _, rfl, (slS.nil (tyL ty8) _)⟩, ⟨_, _, rfl, hs16⟩⟩⟩⟩⟩⟩⟩, rfl⟩ (by intro c hc; simp only [List.mem_cons, List.not_mem_nil, or_false] at hc; subst hc; rfl) (fun a w A17 h => ?_)
  have hb18 : reps (tyP tyI (tyP tyI (tyP tyI (tyP (tyL ty8) (tyP (tyL (tyP tyI tyI)) (tyP (tyL (tyL ty8)) (tyL (tyA 32 ty8)))))))) S13 ([[.int .i64 1, .int .i64 0, .int .i64 1, .slice none 0 0, .slice none 0 0, .slice none 0 0, .slice A11 ([(List.replicate 32 ((0 : UInt8) : UInt8))]).length 1]] : List (List Value)).flatten [(1, 0, 1, [], [], [], [(List.replicate 32 ((0 : UInt8) : UInt8))])] := ⟨[.int .i64 1, .int .i64 0, .int .i64 1, .slice none 0 0, .slice none 0 0, .slice none 0 0, .slice A11 ([(List.replicate 32 ((0 : UInt8) : UInt8))]).length 1], _, rfl, ⟨[.int .i64 1], [.int .i64 0, .int .i64 1, .slice none 0 0, .slice none 0 0, .slice none 0 0, .slice A11 ([(List.replicate 32 ((0 : UInt8) : UInt8))]).length 1], rfl, ⟨rfl, (show r64 1 from ⟨by decide, by decide⟩)⟩, ⟨[.int .i64 0], [.int .i64 1, .slice none 0 0, .slice none 0 0, .slice none 0 0, .slice A11 ([(List.replicate 32 ((0 : UInt8) : UInt8))]).length 1], rfl, ⟨rfl, (show r64 0 from ⟨by decide, by decide⟩)⟩, ⟨[.int .i64 1], [.slice none 0 0, .slice none 0 0, .slice none 0 0, .slice A11 ([(List.replicate 32 ((0 : UInt8) : UInt8))]).length 1], rfl, ⟨rfl, (show r64 1 from ⟨by decide, by decide⟩)⟩, ⟨[.slice none 0 0], [.slice none 0 0, .slice none 0 0, .slice A11 ([(List.replicate 32 ((0 : UInt8) : UInt8))]).length 1], rfl, ⟨_, _, rfl, (slS.nil ty8 _)⟩, ⟨[.slice none 0 0], [.slice none 0 0, .slice A11 ([(List.replicate 32 ((0 : UInt8) : UInt8))]).length 1], rfl, ⟨_, _, rfl, (slS.nil (tyP tyI tyI) _)⟩, ⟨[.slice none 0 0], [.slice A11 ([(List.replicate 32 ((0 : UInt8) : UInt8))]).length 1], rfl, ⟨_, _, rfl, (slS.nil (tyL ty8) _)⟩, ⟨_, _, rfl, hs16⟩⟩⟩⟩⟩⟩⟩, rfl⟩
  obtain ⟨x19, h20, hf⟩ := bsome hf
  have hX := forest_Root_ok Fu (S0 := snapAll _) A17 1 ([(1, 0, 1, [], [], [], [(List.replicate 32 ((0 : UInt8) : UInt8))])]) (h.m.rowAll (i := 0) rfl (j := 1) rfl hb18) _ h20 _ h.startAll
  refine q_callX hX h rfl rfl rfl (by decide) Try.func40 rfl rfl rfl (fun a w v L1 S1 hR hb1 h => ?_)
  obtain ⟨k22, rfl, rfl, hv23, hr26, _⟩ := hR
  obtain ⟨hs24, hl25⟩ := hv23
  have hq27 := hs24.fl (S' := S13) fl_8
  refine s_move h rfl _ rfl rfl (by decide) rfl (fun a h => ?_)
  refine s_x h rfl rfl (by decide) (x_ext h.k rfl rfl rfl) (fun a h => ?_)
  refine s_x h rfl rfl (by decide) (x_ext h.k rfl rfl rfl) (fun a h => ?_)
  refine s_alloc h rfl rfl rfl (by decide) zi_A32_uint8 rfl (fun a w g28 h => ?_)
  refine s_stW h rfl rfl rfl ag_A32_uint8 rfl (es := k22) rfl ((hq27).len.trans (by rw [hl25]; rfl)) (hq27).one 0 rfl (by first | rfl | simp_all) (fun a w h => ?_)
  refine s_assign h rfl _ rfl rfl (by decide) rfl (fun a h => ?_)
  refine l_end ?_
  refine c_rs ?_ -- region 3
  refine s_move h rfl _ rfl rfl (by decide) rfl (fun a h => ?_)
  refine s_x h rfl rfl (by decide) (x_bin h.k rfl rfl rfl ib_eql) (fun a h => ?_)
  refine s_move h rfl _ rfl rfl (by decide) rfl (fun a h => ?_)
  refine q_grp h 4 (t := 19) 23 ((decide (x1.2 = 0)) && (decide (x1.1 = (List.replicate 32 ((0 : UInt8) : UInt8))))) rfl (fun hB2 => ?_) (fun hB2 => ?_) (fun a w h => ?_)
  · refine g_yes h rfl rfl rfl rfl hB2 ?_
    refine s_x h rfl rfl (by decide) (x_ldR h.k rfl ag_A32_uint8 rfl k4 (((hq9.mono le14)).len.trans (by rw [hl7]; rfl)) (h.m.range0 (i := 3) rfl)) (fun a h => ?_)
    refine g_yes h rfl rfl rfl rfl hB2 ?_
    refine s_x h rfl rfl (by decide) (x_build h.k rfl [] rfl (List.replicate 32 (.int .u8 0 : Value)) (by kernel_rfl)) (fun a h => ?_)
    refine g_yes h rfl rfl rfl rfl hB2 ?_
    refine s_x h rfl rfl (by decide) (x_eqlA8 (X := k4) (Y := (List.replicate 32 (.int .u8 0 : Value))) h.k rfl Try.underlying40 Try.underlying5 sz_uint8 gda_A32_uint8 rfl rfl (hq9.mono le14) (show reps ty8 S13 (List.replicate 32 (.int .u8 0 : Value)) (List.replicate 32 ((0 : UInt8) : UInt8)) from repsRep1 (x := ((0 : UInt8) : UInt8)) rfl) hl7 (show (List.replicate 32 ((0 : UInt8) : UInt8)).length = 32 from List.length_replicate)) (fun a h => ?_)
    refine s_x h rfl rfl (by decide) (x_pick (u' := undef) h.k rfl rfl (fun _ => rfl) (fun hh => absurd (hB2.symm.trans hh) (by decide))) (fun a h => ?_)
    exact (h.mid 3 rfl).val (by first | rfl | (rw [hB2]; first | rfl | simp))
  · refine g_no h rfl rfl rfl rfl hB2 rfl (by decide) (fun a h => ?_)
    refine g_no h rfl rfl rfl rfl hB2 rfl (by decide) (fun a h => ?_)
    refine g_no h rfl rfl rfl rfl hB2 rfl (by decide) (fun a h => ?_)
    refine s_x h rfl rfl (by decide) (x_pick (u' := undef) h.k rfl rfl (fun hh => absurd (hB2.symm.trans hh) (by decide)) (fun _ => rfl)) (fun a h => ?_)
    exact (h.mid 3 rfl).val (by first | rfl | (rw [hB2]; first | rfl | simp))
  refine s_move h rfl _ rfl rfl (by decide) rfl (fun a h => ?_)
  refine q_grp h 3 (t := 24) 27 (((decide (x1.2 = 0)) && (decide (x1.1 = (List.replicate 32 ((0 : UInt8) : UInt8))))) && (decide (x19.2 = 0))) rfl (fun hB7 => ?_) (fun hB7 => ?_) (fun a w h => ?_)
  · refine g_yes h rfl rfl rfl rfl hB7 ?_
    refine s_move h rfl _ rfl rfl (by decide) rfl (fun a h => ?_)
    refine g_yes h rfl rfl rfl rfl hB7 ?_
    refine s_x h rfl rfl (by decide) (x_bin h.k rfl rfl rfl ib_eql) (fun a h => ?_)
    refine s_x h rfl rfl (by decide) (x_pick (u' := undef) h.k rfl rfl (fun _ => rfl) (fun hh => absurd (hB7.symm.trans hh) (by decide))) (fun a h => ?_)
    exact (h.mid 2 rfl).val (by first | rfl | (rw [hB7]; first | rfl | simp))
  · refine g_no h rfl rfl rfl rfl hB7 rfl (by decide) (fun a h => ?_)
    refine g_no h rfl rfl rfl rfl hB7 rfl (by decide) (fun a h => ?_)
    refine s_x h rfl rfl (by decide) (x_pick (u' := undef) h.k rfl rfl (fun hh => absurd (hB7.symm.trans hh) (by decide)) (fun _ => rfl)) (fun a h => ?_)
    exact (h.mid 2 rfl).val (by first | rfl | (rw [hB7]; first | rfl | simp))
  refine s_move h rfl _ rfl rfl (by decide) rfl (fun a h => ?_)
  refine q_grp h 4 (t := 28) 32 ((((decide (x1.2 = 0)) && (decide (x1.1 = (List.replicate 32 ((0 : UInt8) : UInt8))))) && (decide (x19.2 = 0))) && (!(decide (x19.1 = x1.1)))) rfl (fun hB11 => ?_) (fun hB11 => ?_) (fun a w h => ?_)
  · refine g_yes h rfl rfl rfl rfl hB11 ?_
    refine s_x h rfl rfl (by decide) (x_ldR h.k rfl ag_A32_uint8 rfl k22 ((hq27).len.trans (by rw [hl25]; rfl)) (h.m.range0 (i := 0) rfl)) (fun a h => ?_)
    refine g_yes h rfl rfl rfl rfl hB11 ?_
    refine s_x h rfl rfl (by decide) (x_ldR h.k rfl ag_A32_uint8 rfl k4 (((hq9.mono le14)).len.trans (by rw [hl7]; rfl)) (h.m.range0 (i := 3) rfl)) (fun a h => ?_)
    refine g_yes h rfl rfl rfl rfl hB11 ?_
    refine s_x h rfl rfl (by decide) (x_neqA8 (X := k22) (Y := k4) h.k rfl Try.underlying40 Try.underlying5 sz_uint8 gda_A32_uint8 rfl rfl hq27 (hq9.mono le14) hl25 hl7) (fun a h => ?_)
    refine s_x h rfl rfl (by decide) (x_pick (u' := undef) h.k rfl rfl (fun _ => rfl) (fun hh => absurd (hB11.symm.trans hh) (by decide))) (fun a h => ?_)
    exact (h.mid 3 rfl).val (by first | rfl | (rw [hB11]; first | rfl | simp))
  · refine g_no h rfl rfl rfl rfl hB11 rfl (by decide) (fun a h => ?_)
    refine g_no h rfl rfl rfl rfl hB11 rfl (by decide) (fun a h => ?_)
    refine g_no h rfl rfl rfl rfl hB11 rfl (by decide) (fun a h => ?_)
    refine s_x h rfl rfl (by decide) (x_pick (u' := undef) h.k rfl rfl (fun hh => absurd (hB11.symm.trans hh) (by decide)) (fun _ => rfl)) (fun a h => ?_)
    exact (h.mid 3 rfl).val (by first | rfl | (rw [hB11]; first | rfl | simp))
  refine s_assign h rfl _ rfl rfl (by decide) rfl (fun a h => ?_)
  refine l_end ?_
  refine wp_ret ?_
  obtain rfl := Option.some.inj hf
  exact r_ret1 h rfl (rv_tmp h rfl) ⟨_, [], _, rfl, ⟨rfl, rfl, trivial⟩, rfl, up15, (h.m.pick [2] _ (by decide) rfl)⟩
def chatelainelaw24_Few_l0 (Fu : Nat) (a0 : List (Int × Int × Int × (List UInt8) × (List (Int × Int)) × (List (List UInt8)) × (List (List UInt8)))) : Nat → Int → Option (Sum Bool Unit)
  | 0, _ => none
  | k + 1, x3 => if x3 < (a0.length : Int) then ((idx a0 x3).bind fun x7 => if 12 < (x7.2.2.2.2.2.2.length : Int) then (some (.inl false)) else (chatelainelaw24_Few_l0 Fu a0 k (w64 (x3 + 1)))) else (some (.inr ()))
def chatelainelaw24_Few (Fu : Nat) (a0 : List (Int × Int × Int × (List UInt8) × (List (Int × Int)) × (List (List UInt8)) × (List (List UInt8)))) : Option Bool :=
  (chatelainelaw24_Few_l0 Fu a0 Fu 0).bind fun o => match o with | .inl r47 => some r47 | .inr _ => some (decide ((a0.length : Int) ≤ 6))
set_option maxRecDepth 100000 in
set_option maxHeartbeats 2000000 in
theorem chatelainelaw24_Few_ok (Fu : Nat) {S0 : Snap} (Aa0 : Option Addr) (ca0 : Nat) (a0 : List (Int × Int × Int × (List UInt8) × (List (Int × Int)) × (List (List UInt8)) × (List (List UInt8)))) (hsa0 : slS (tyP tyI (tyP tyI (tyP tyI (tyP (tyL ty8) (tyP (tyL (tyP tyI tyI)) (tyP (tyL (tyL ty8)) (tyL (tyA 32 ty8)))))))) S0 Aa0 ca0 a0) (r : Bool) (hf : chatelainelaw24_Few Fu a0 = some r) (w0 : World) (hm : Mem w0 (ownL ([] ++ [.sn S0])) ([] ++ [.sn S0]) w0) :
    Calls Try.prog 36 #[.slice Aa0 a0.length ca0] w0 (Ret w0 S0 [] (fun v L1 S1 => v = .bool r ∧ L1 = [] ∧ True)) := by
  unfold chatelainelaw24_Few at hf
  refine c_enterM Try.func36 rfl 19 rfl (by simp) _ hm _ rfl (fun a h => ?_)
  refine c_rs ?_ -- region 0
  refine s_assign h rfl _ rfl rfl (by decide) rfl (fun a h => ?_)
  refine l_end ?_
  refine wp_seq ?_
  refine c_rs ?_ -- region 1
  refine s_move h rfl _ rfl rfl (by decide) rfl (fun a h => ?_)
  refine s_x h rfl rfl (by decide) (x_len h.k rfl Try.underlying61 rfl) (fun a h => ?_)
  refine s_move h rfl _ rfl rfl (by decide) rfl (fun a h => ?_)
  refine l_end ?_
  obtain ⟨o1, hl2, hf⟩ := bsome hf
  refine c_fin (fun a w => (.inr ()) = o1 ∧ St 19 w0 (ownL ([] ++ [.sn S0])) [(0, .slice Aa0 a0.length ca0)] [.sn S0] a w) ?_ ?_
  · refine wp_block ?_
    refine c_loop (fun m6 a w => ∃ (x3 : Int), chatelainelaw24_Few_l0 Fu a0 m6 x3 = some o1 ∧ r64 x3 ∧ St 19 w0 (ownL ([] ++ [.sn S0])) [(0, .slice Aa0 a0.length ca0), (5, .slice Aa0 a0.length ca0), (6, .int .i64 (a0.length : Int)), (7, .int .i64 x3)] [.sn S0] a w) Fu ⟨0, hl2, (show r64 0 from ⟨by decide, by decide⟩), h.has (by exact ⟨rfl, rfl, rfl, rfl, trivial⟩)⟩ (fun m6 a w hI => ?_)
    obtain ⟨x3, hl5, hr4, h⟩ := hI
    obtain _ | m6 := m6
    · rw [chatelainelaw24_Few_l0] at hl5; cases hl5
    rw [chatelainelaw24_Few_l0] at hl5
    refine c_rs ?_ -- region 2
    refine s_x h rfl rfl (by decide) (x_bin h.k rfl rfl rfl ib_lss) (fun a h => ?_)
    refine l_end ?_
    refine c_cs h rfl (fun hb => ?_) (fun hb => ?_)
    · rw [if_pos (of_decide_eq_true hb)] at hl5
      refine wp_skip ?_
      refine e_thenN ?_
      refine wp_seq ?_
      refine wp_block ?_
      refine c_rs ?_ -- region 3
      obtain ⟨x7, h11, hl5⟩ := bsome hl5
      obtain ⟨m8, hi12, hm13, hx14⟩ := idx_some h11
      obtain ⟨b9, off10, k15, hA16, hu17, hc18⟩ := (hsa0).at (by decide) hx14 (h.m.snOK (i := 0) rfl)
      obtain ⟨k19, k20, rfl, ⟨rfl, hr21⟩, ⟨k22, k23, rfl, ⟨rfl, hr24⟩, ⟨k25, k26, rfl, ⟨rfl, hr27⟩, ⟨k28, k29, rfl, ⟨A30, c31, rfl, hs32⟩, ⟨k33, k34, rfl, ⟨A35, c36, rfl, hs37⟩, ⟨k38, k39, rfl, ⟨A40, c41, rfl, hs42⟩, ⟨A43, c44, rfl, hs45⟩⟩⟩⟩⟩⟩⟩ := hu17
      refine s_x h rfl rfl (by decide) (x_iaddrE h.k rfl Try.underlying61 sz_api_Space hA16 rfl rfl hi12 hm13) (fun a h => ?_)
      refine s_x h rfl rfl (by decide) (x_ldR h.k rfl ag_api_Space rfl ([.int .i64 x7.1, .int .i64 x7.2.1, .int .i64 x7.2.2.1, .slice A30 x7.2.2.2.1.length c31, .slice A35 x7.2.2.2.2.1.length c36, .slice A40 x7.2.2.2.2.2.1.length c41, .slice A43 x7.2.2.2.2.2.2.length c44]) rfl (hc18 _ (h.m.snOK (i := 0) rfl))) (fun a h => ?_)
      refine s_alloc h rfl rfl rfl (by decide) zi_api_Space rfl (fun a w g46 h => ?_)
      refine s_stW h rfl rfl rfl ag_api_Space rfl (es := [.int .i64 x7.1, .int .i64 x7.2.1, .int .i64 x7.2.2.1, .slice A30 x7.2.2.2.1.length c31, .slice A35 x7.2.2.2.2.1.length c36, .slice A40 x7.2.2.2.2.2.1.length c41, .slice A43 x7.2.2.2.2.2.2.length c44]) rfl rfl (by simp [Value.oneCell']) 0 rfl rfl (fun a w h => ?_)
      refine l_end ?_
      refine c_rs ?_ -- region 4
      refine s_x h rfl rfl (by decide) (x_faddr h.k rfl Try.underlying66 rfl sz_SA32_uint8 rfl) (fun a h => ?_)
      refine s_x h rfl rfl (by decide) (x_ld h.k rfl Try.underlying39 rfl rfl ((h.m.cell (i := 0) rfl 6).trans rfl)) (fun a h => ?_)
      refine s_x h rfl rfl (by decide) (x_len h.k rfl Try.underlying39 rfl) (fun a h => ?_)
      refine s_x h rfl rfl (by decide) (x_bin h.k rfl rfl rfl ib_gtr) (fun a h => ?_)
      refine l_end ?_
      refine c_cond h rfl (fun hb => ?_) (fun hb => ?_)
      · rw [if_pos (of_decide_eq_true hb)] at hl5
        refine c_rs ?_ -- region 5
        refine s_assign h rfl _ rfl rfl (by decide) rfl (fun a h => ?_)
        refine l_end ?_
        refine wp_ret ?_
        refine e_blkR ?_
        refine e_thenR ?_
        refine e_thenR ?_
        refine e_blkR ?_
        refine e_thenR ?_
        cases hl5
        try dsimp only at hf
        refine e_thenR ?_
        rw [← Option.some.inj hf]
        exact r_ret1 h rfl (rv_tmp h rfl) ⟨_, [], _, rfl, ⟨rfl, rfl, trivial⟩, rfl, (Up.refl _ _ _), (h.m.pick [1] _ (by decide) rfl)⟩
      · rw [if_neg (of_decide_eq_false hb)] at hl5
        refine wp_skip ?_
        refine e_blkN ?_
        refine e_thenN ?_
        refine c_r ?_ -- region 6
        refine s_x h rfl rfl (by decide) (x_bin h.k rfl rfl rfl (ib_add rfl)) (fun a h => ?_)
        refine s_move h rfl _ rfl rfl (by decide) rfl (fun a h => ?_)
        refine l_nil ?_
        have h := h.pick [1] (by decide) rfl
        exact e_thenN ⟨m6, Nat.lt_succ_self _, w64 (x3 + 1), hl5, (w64_r _), h.has (by exact ⟨rfl, rfl, rfl, rfl, trivial⟩)⟩
    · rw [if_neg (of_decide_eq_false hb)] at hl5
      refine wp_exit ?_
      refine e_thenX ?_
      refine e_thenX ?_
      refine e_blkX ?_
      refine e_thenN ?_
      exact ⟨(Option.some.inj hl5), h.has (by exact ⟨rfl, trivial⟩)⟩
  · rintro a w ⟨rfl, h⟩
    try dsimp only at hf
    refine e_thenN ?_
    refine c_rs ?_ -- region 7
    refine s_move h rfl _ rfl rfl (by decide) rfl (fun a h => ?_)
    refine s_x h rfl rfl (by decide) (x_len h.k rfl Try.underlying61 rfl) (fun a h => ?_)
    refine s_x h rfl rfl (by decide) (x_bin h.k rfl rfl rfl ib_leq) (fun a h => ?_)
    refine s_assign h rfl _ rfl rfl (by decide) rfl (fun a h => ?_)
    refine l_end ?_
    refine wp_ret ?_
    obtain rfl := Option.some.inj hf
    exact r_ret1 h rfl (rv_tmp h rfl) ⟨_, [], _, rfl, ⟨rfl, rfl, trivial⟩, rfl, (Up.refl _ _ _), h.m⟩
end Go.Proofs.Ytlgcfnbhnpnkiaa
