/- Texts put together. -/
import Derived.Test.YtnjmlihmnkbgdaaEa
set_option linter.unusedVariables false
set_option linter.unusedSimpArgs false
namespace Go.Proofs.Ytnjmlihmnkbgdaa
open Go.RowKit
section
section

end
section

end
end
section
def term_New (Fu : Nat) : Option (((List (Int × Int × Int)) × (List ((Int × Int × Int) × Int)) × (List (Int × Int)))) :=
  some ([], [], [])
set_option maxRecDepth 100000 in
set_option maxHeartbeats 2000000 in
theorem term_New_ok (Fu : Nat) {S0 : Snap}  (r : ((List (Int × Int × Int)) × (List ((Int × Int × Int) × Int)) × (List (Int × Int)))) (hf : term_New Fu = some r) (w0 : World) (hm : Mem w0 (ownL ([] ++ [.sn S0])) ([] ++ [.sn S0]) w0) :
    Calls Try.prog 15 #[] w0 (Ret w0 S0 [] (fun v L1 S1 => ∃ (g5 : Nat), ∃ (A6 : Option Addr), ∃ (c7 : Nat), ∃ (cs8 : List Value), ∃ (g10 : Nat), ∃ (es11 : Array MapEntry), ∃ (cl12 : Nat), ∃ (g14 : Nat), ∃ (es15 : Array MapEntry), ∃ (cl16 : Nat), v = .pointer (some ⟨g5, 0, none⟩) ∧ L1 = [.box g5 52 ([.slice A6 r.1.length c7, .map (some g10), .map (some g14)]), .row (.slice A6 r.1.length c7) 46 3 r.1.length cs8, .obj g10 (.map es11 cl12), .obj g14 (.map es15 cl16)] ∧ reps (tyP tyI (tyP tyI tyI)) S1 cs8 r.1 ∧ mpS keyT tyI false S1 es11 cl12 r.2.1 ∧ mpS keyI tyI false S1 es15 cl16 r.2.2 ∧ True)) := by
  unfold term_New at hf
  refine c_enterM Try.func15 rfl 5 rfl (by simp) _ hm _ rfl (fun a h => ?_)
  refine c_rs ?_
  refine sAV h (fun a h => ?_)
  refine l_end ?_
  refine c_rs ?_
  refine s_makeMap h rfl rfl rfl (by decide) (fun a w g1 h => ?_)
  refine s_makeMap h rfl rfl rfl (by decide) (fun a w g2 h => ?_)
  refine s_x h rfl rfl (by decide) (x_build h.k rfl [(1, .map (some g1)), (2, .map (some g2))] rfl ([.slice none 0 0, .map (some g1), .map (some g2)]) (by kernel_rfl)) (fun a h => ?_)
  refine s_box h rfl rfl rfl (by decide) rfl (cs := [.slice none 0 0, .map (some g1), .map (some g2)]) (by rfl) (fun a w g3 h => ?_)
  refine sAV h (fun a h => ?_)
  refine l_end ?_
  refine wp_ret ?_
  obtain rfl := Option.some.inj hf
  have h := h.mem (h.m.nilrow 46 3)
  exact r_ret1 h rfl (rv_tmp h rfl) ⟨_, [.box g3 52 ([.slice none ([]).length 0, .map (some g1), .map (some g2)]), .row (.slice none ([]).length 0) 46 3 ([]).length [], .obj g1 (.map #[] 0), .obj g2 (.map #[] 0)], _, rfl, ⟨g3, none, 0, [], g1, #[], 0, g2, #[], 0, rfl, rfl, (show reps (tyP tyI (tyP tyI tyI)) S0 [] [] from rfl), (mpS.nil _ _ _ _), (mpS.nil _ _ _ _), trivial⟩, rfl, (Up.refl _ _ _), (h.m.pick [1, 0, 3, 2, 4] _ (by decide) rfl)⟩
def term_Store_is (Fu : Nat) (a0 : (List (Int × Int × Int)) × (List ((Int × Int × Int) × Int)) × (List (Int × Int))) : Option Bool :=
  some true
set_option maxRecDepth 100000 in
set_option maxHeartbeats 2000000 in
theorem term_Store_is_ok (Fu : Nat) {S0 : Snap} (ga0 : Nat) (a0 : (List (Int × Int × Int)) × (List ((Int × Int × Int) × Int)) × (List (Int × Int))) (hpa0 : ptS (tyP (tyL (tyP tyI (tyP tyI tyI))) (tyP (tyM keyT tyI false) (tyM keyI tyI false))) S0 ga0 a0) (r : Bool) (hf : term_Store_is Fu a0 = some r) (w0 : World) (hm : Mem w0 (ownL ([] ++ [.sn S0])) ([] ++ [.sn S0]) w0) :
    Calls Try.prog 20 #[.pointer (some ⟨ga0, 0, none⟩)] w0 (Ret w0 S0 [] (fun v L1 S1 => v = .bool r ∧ L1 = [] ∧ True)) := by
  unfold term_Store_is at hf
  refine c_enterM Try.func20 rfl 12 rfl (by simp) _ hm _ rfl (fun a h => ?_)
  refine c_rs ?_
  refine sAV h (fun a h => ?_)
  refine l_end ?_
  refine c_rs ?_
  refine sMV h (fun a h => ?_)
  refine s_x h rfl rfl (by decide) (x_neq_pn h.k rfl Try.underlying29 rfl rfl) (fun a h => ?_)
  refine sMV h (fun a h => ?_)
  refine q_grp h 6 (t := 5) 11 true rfl (fun hB2 => ?_) (fun hB2 => ?_) (fun a w h => ?_)
  · refine g_yes h rfl rfl rfl rfl hB2 ?_
    refine sMV h (fun a h => ?_)
    refine g_yes h rfl rfl rfl rfl hB2 ?_
    obtain ⟨k3, hc4, ⟨k5, k6, rfl, ⟨A7, c8, rfl, hs9⟩, ⟨k10, k11, rfl, ⟨g12, rfl, hm13⟩, ⟨g14, rfl, hm15⟩⟩⟩⟩ := id hpa0
    refine s_x h rfl rfl (by decide) (x_nil h.k rfl rfl) (fun a h => ?_)
    refine g_yes h rfl rfl rfl rfl hB2 ?_
    refine s_x h rfl rfl (by decide) (x_faddr h.k rfl Try.underlying52 rfl sz_M_api_Term_int rfl) (fun a h => ?_)
    refine g_yes h rfl rfl rfl rfl hB2 ?_
    refine s_x h rfl rfl (by decide) (x_ld h.k rfl Try.underlying49 rfl rfl (hc4 _ (h.m.snOK (i := 0) rfl) 1 _ rfl)) (fun a h => ?_)
    refine g_yes h rfl rfl rfl rfl hB2 ?_
    refine s_x h rfl rfl (by decide) (x_neq_mn h.k rfl Try.underlying49 rfl rfl) (fun a h => ?_)
    refine s_x h rfl rfl (by decide) (x_pick (u' := undef) h.k rfl rfl (fun _ => rfl) (fun hh => absurd (hB2.symm.trans hh) (by decide))) (fun a h => ?_)
    exact (h.mid 5 rfl).val (by first | rfl | (rw [hB2]; first | rfl | simp))
  · exact absurd hB2 (by decide)
  refine sAV h (fun a h => ?_)
  refine l_end ?_
  refine wp_ret ?_
  rw [← Option.some.inj hf]
  exact r_ret1 h rfl (rv_tmp h rfl) ⟨_, [], _, rfl, ⟨rfl, rfl, trivial⟩, rfl, (Up.refl _ _ _), h.m⟩
def term_Store_has (Fu : Nat) (a0 : (List (Int × Int × Int)) × (List ((Int × Int × Int) × Int)) × (List (Int × Int))) (a1 : Int) : Option Bool :=
  some ((decide (0 ≤ a1)) && (decide (a1 < (a0.1.length : Int))))
set_option maxRecDepth 100000 in
set_option maxHeartbeats 2000000 in
theorem term_Store_has_ok (Fu : Nat) {S0 : Snap} (ga0 : Nat) (a0 : (List (Int × Int × Int)) × (List ((Int × Int × Int) × Int)) × (List (Int × Int))) (hpa0 : ptS (tyP (tyL (tyP tyI (tyP tyI tyI))) (tyP (tyM keyT tyI false) (tyM keyI tyI false))) S0 ga0 a0) (a1 : Int) (hra1 : r64 a1) (r : Bool) (hf : term_Store_has Fu a0 a1 = some r) (w0 : World) (hm : Mem w0 (ownL ([] ++ [.sn S0])) ([] ++ [.sn S0]) w0) :
    Calls Try.prog 34 #[.pointer (some ⟨ga0, 0, none⟩), .int .i64 a1] w0 (Ret w0 S0 [] (fun v L1 S1 => v = .bool r ∧ L1 = [] ∧ True)) := by
  unfold term_Store_has at hf
  refine c_enterM Try.func34 rfl 16 rfl (by simp) _ hm _ rfl (fun a h => ?_)
  refine c_rs ?_
  refine sAV h (fun a h => ?_)
  refine l_end ?_
  refine c_rs ?_
  refine sMV h (fun a h => ?_)
  refine s_x h rfl rfl (by decide) (x_bin h.k rfl rfl rfl ib_geq) (fun a h => ?_)
  refine sMV h (fun a h => ?_)
  refine q_grp h 8 (t := 7) 15 ((decide (0 ≤ a1)) && (decide (a1 < (a0.1.length : Int)))) rfl (fun hB2 => ?_) (fun hB2 => ?_) (fun a w h => ?_)
  · refine g_yes h rfl rfl rfl rfl hB2 ?_
    refine sMV h (fun a h => ?_)
    refine g_yes h rfl rfl rfl rfl hB2 ?_
    refine sMV h (fun a h => ?_)
    refine g_yes h rfl rfl rfl rfl hB2 ?_
    obtain ⟨k3, hc4, ⟨k5, k6, rfl, ⟨A7, c8, rfl, hs9⟩, ⟨k10, k11, rfl, ⟨g12, rfl, hm13⟩, ⟨g14, rfl, hm15⟩⟩⟩⟩ := id hpa0
    refine s_x h rfl rfl (by decide) (x_nil h.k rfl rfl) (fun a h => ?_)
    refine g_yes h rfl rfl rfl rfl hB2 ?_
    refine s_x h rfl rfl (by decide) (x_faddr h.k rfl Try.underlying52 rfl sz_Sapi_Term rfl) (fun a h => ?_)
    refine g_yes h rfl rfl rfl rfl hB2 ?_
    refine s_x h rfl rfl (by decide) (x_ld h.k rfl Try.underlying22 rfl rfl (hc4 _ (h.m.snOK (i := 0) rfl) 0 _ rfl)) (fun a h => ?_)
    refine g_yes h rfl rfl rfl rfl hB2 ?_
    refine s_x h rfl rfl (by decide) (x_len h.k rfl Try.underlying22 rfl) (fun a h => ?_)
    refine g_yes h rfl rfl rfl rfl hB2 ?_
    refine s_x h rfl rfl (by decide) (x_bin h.k rfl rfl rfl ib_lss) (fun a h => ?_)
    refine s_x h rfl rfl (by decide) (x_pick (u' := undef) h.k rfl rfl (fun _ => rfl) (fun hh => absurd (hB2.symm.trans hh) (by decide))) (fun a h => ?_)
    exact (h.mid 7 rfl).val (by first | rfl | (rw [hB2]; first | rfl | simp))
  · refine g_no h rfl rfl rfl rfl hB2 rfl (by decide) (fun a h => ?_)
    refine g_no h rfl rfl rfl rfl hB2 rfl (by decide) (fun a h => ?_)
    refine g_no h rfl rfl rfl rfl hB2 rfl (by decide) (fun a h => ?_)
    refine g_no h rfl rfl rfl rfl hB2 rfl (by decide) (fun a h => ?_)
    refine g_no h rfl rfl rfl rfl hB2 rfl (by decide) (fun a h => ?_)
    refine g_no h rfl rfl rfl rfl hB2 rfl (by decide) (fun a h => ?_)
    refine g_no h rfl rfl rfl rfl hB2 rfl (by decide) (fun a h => ?_)
    refine s_x h rfl rfl (by decide) (x_pick (u' := undef) h.k rfl rfl (fun hh => absurd (hB2.symm.trans hh) (by decide)) (fun _ => rfl)) (fun a h => ?_)
    exact (h.mid 7 rfl).val (by first | rfl | (rw [hB2]; first | rfl | simp))
  refine sAV h (fun a h => ?_)
  refine l_end ?_
  refine wp_ret ?_
  obtain rfl := Option.some.inj hf
  exact r_ret1 h rfl (rv_tmp h rfl) ⟨_, [], _, rfl, ⟨rfl, rfl, trivial⟩, rfl, (Up.refl _ _ _), h.m⟩
def term_sort (Fu : Nat) (a0 : Int) : Option Bool :=
  some ((decide (1 ≤ a0)) && (decide (a0 ≤ 4)))
set_option maxRecDepth 100000 in
set_option maxHeartbeats 2000000 in
theorem term_sort_ok (Fu : Nat) {S0 : Snap} (a0 : Int) (hra0 : r64 a0) (r : Bool) (hf : term_sort Fu a0 = some r) (w0 : World) (hm : Mem w0 (ownL ([] ++ [.sn S0])) ([] ++ [.sn S0]) w0) :
    Calls Try.prog 25 #[.int .i64 a0] w0 (Ret w0 S0 [] (fun v L1 S1 => v = .bool r ∧ L1 = [] ∧ True)) := by
  unfold term_sort at hf
  refine c_enterM Try.func25 rfl 9 rfl (by simp) _ hm _ rfl (fun a h => ?_)
  refine c_rs ?_
  refine sAV h (fun a h => ?_)
  refine l_end ?_
  refine c_rs ?_
  refine sMV h (fun a h => ?_)
  refine s_x h rfl rfl (by decide) (x_bin h.k rfl rfl rfl ib_geq) (fun a h => ?_)
  refine sMV h (fun a h => ?_)
  refine q_grp h 3 (t := 5) 8 ((decide (1 ≤ a0)) && (decide (a0 ≤ 4))) rfl (fun hB2 => ?_) (fun hB2 => ?_) (fun a w h => ?_)
  · refine g_yes h rfl rfl rfl rfl hB2 ?_
    refine sMV h (fun a h => ?_)
    refine g_yes h rfl rfl rfl rfl hB2 ?_
    refine s_x h rfl rfl (by decide) (x_bin h.k rfl rfl rfl ib_leq) (fun a h => ?_)
    refine s_x h rfl rfl (by decide) (x_pick (u' := undef) h.k rfl rfl (fun _ => rfl) (fun hh => absurd (hB2.symm.trans hh) (by decide))) (fun a h => ?_)
    exact (h.mid 2 rfl).val (by first | rfl | (rw [hB2]; first | rfl | simp))
  · refine g_no h rfl rfl rfl rfl hB2 rfl (by decide) (fun a h => ?_)
    refine g_no h rfl rfl rfl rfl hB2 rfl (by decide) (fun a h => ?_)
    refine s_x h rfl rfl (by decide) (x_pick (u' := undef) h.k rfl rfl (fun hh => absurd (hB2.symm.trans hh) (by decide)) (fun _ => rfl)) (fun a h => ?_)
    exact (h.mid 2 rfl).val (by first | rfl | (rw [hB2]; first | rfl | simp))
  refine sAV h (fun a h => ?_)
  refine l_end ?_
  refine wp_ret ?_
  obtain rfl := Option.some.inj hf
  exact r_ret1 h rfl (rv_tmp h rfl) ⟨_, [], _, rfl, ⟨rfl, rfl, trivial⟩, rfl, (Up.refl _ _ _), h.m⟩
def term_Store_may (Fu : Nat) (a0 : (List (Int × Int × Int)) × (List ((Int × Int × Int) × Int)) × (List (Int × Int))) (a1 : Int × Int × Int) : Option Bool :=
  if a1.1 = 1 then ((term_sort Fu a1.2.1).bind fun x9 => some (x9 && (decide (0 ≤ a1.2.2)))) else (if a1.1 = 2 then ((term_Store_has Fu a0 a1.2.1).bind fun x14 => some (x14 && (decide (0 ≤ a1.2.2)))) else (if a1.1 = 3 then ((term_Store_has Fu a0 a1.2.1).bind fun x19 => (if x19 = true then (term_Store_has Fu a0 a1.2.2).bind fun x25 => some x25 else some false).bind fun z23 => some z23) else (some false)))
set_option maxRecDepth 100000 in
set_option maxHeartbeats 2000000 in
theorem term_Store_may_ok (Fu : Nat) {S0 : Snap} (ga0 : Nat) (a0 : (List (Int × Int × Int)) × (List ((Int × Int × Int) × Int)) × (List (Int × Int))) (hpa0 : ptS (tyP (tyL (tyP tyI (tyP tyI tyI))) (tyP (tyM keyT tyI false) (tyM keyI tyI false))) S0 ga0 a0) (csa1 : List Value) (a1 : Int × Int × Int) (hsa1 : (tyP tyI (tyP tyI tyI)).rep S0 csa1 a1) (r : Bool) (hf : term_Store_may Fu a0 a1 = some r) (w0 : World) (hm : Mem w0 (ownL ([] ++ [.sn S0])) ([] ++ [.sn S0]) w0) :
    Calls Try.prog 26 #[.pointer (some ⟨ga0, 0, none⟩), .agg csa1.toArray] w0 (Ret w0 S0 [] (fun v L1 S1 => v = .bool r ∧ L1 = [] ∧ True)) := by
  unfold term_Store_may at hf
  obtain ⟨k1, k2, rfl, ⟨rfl, hr3⟩, ⟨k4, k5, rfl, ⟨rfl, hr6⟩, ⟨rfl, hr7⟩⟩⟩ := hsa1
  refine c_enterM Try.func26 rfl 40 rfl (by simp) _ hm _ rfl (fun a h => ?_)
  refine c_rs ?_
  refine s_box h rfl rfl rfl (by decide) rfl (cs := [.int .i64 a1.1, .int .i64 a1.2.1, .int .i64 a1.2.2]) (by rfl) (fun a w g8 h => ?_)
  refine sAV h (fun a h => ?_)
  refine l_end ?_
  refine wp_seq ?_
  refine c_rs ?_
  refine s_x h rfl rfl (by decide) (x_faddr h.k rfl Try.underlying46 rfl sz_int rfl) (fun a h => ?_)
  refine s_x h rfl rfl (by decide) (x_ld h.k rfl Try.underlying3 rfl rfl ((h.m.cell (i := 0) rfl 0).trans rfl)) (fun a h => ?_)
  refine l_end ?_
  refine wp_block ?_
  refine c_rs ?_
  refine s_x h rfl rfl (by decide) (x_bin h.k rfl rfl rfl ib_eql) (fun a h => ?_)
  refine sAV h (fun a h => ?_)
  refine l_end ?_
  refine c_cond h rfl (fun hb => ?_) (fun hb => ?_)
  · rw [if_pos (of_decide_eq_true hb)] at hf
    refine c_rs ?_
    refine s_x h rfl rfl (by decide) (x_faddr h.k rfl Try.underlying46 rfl sz_int rfl) (fun a h => ?_)
    refine s_x h rfl rfl (by decide) (x_ld h.k rfl Try.underlying3 rfl rfl ((h.m.cell (i := 0) rfl 1).trans rfl)) (fun a h => ?_)
    obtain ⟨x9, h10, hf⟩ := bsome hf
    have hX := term_sort_ok Fu (S0 := snapAll _) a1.2.1 hr6 _ h10 _ h.startAll
    refine q_callX hX h rfl rfl rfl (by decide) Try.func25 rfl rfl rfl (fun a w v L1 S1 hR hb1 h => ?_)
    obtain ⟨rfl, rfl, _⟩ := hR
    refine sMV h (fun a h => ?_)
    refine q_grp h 4 (t := 12) 16 (x9 && (decide (0 ≤ a1.2.2))) rfl (fun hB3 => ?_) (fun hB3 => ?_) (fun a w h => ?_)
    · refine g_yes h rfl rfl rfl rfl hB3 ?_
      refine s_x h rfl rfl (by decide) (x_faddr h.k rfl Try.underlying46 rfl sz_int rfl) (fun a h => ?_)
      refine g_yes h rfl rfl rfl rfl hB3 ?_
      refine s_x h rfl rfl (by decide) (x_ld h.k rfl Try.underlying3 rfl rfl ((h.m.cell (i := 0) rfl 2).trans rfl)) (fun a h => ?_)
      refine g_yes h rfl rfl rfl rfl hB3 ?_
      refine s_x h rfl rfl (by decide) (x_bin h.k rfl rfl rfl ib_geq) (fun a h => ?_)
      refine s_x h rfl rfl (by decide) (x_pick (u' := undef) h.k rfl rfl (fun _ => rfl) (fun hh => absurd (hB3.symm.trans hh) (by decide))) (fun a h => ?_)
      exact (h.mid 3 rfl).val (by first | rfl | (rw [hB3]; first | rfl | simp))
    · refine g_no h rfl rfl rfl rfl hB3 rfl (by decide) (fun a h => ?_)
      refine g_no h rfl rfl rfl rfl hB3 rfl (by decide) (fun a h => ?_)
      refine g_no h rfl rfl rfl rfl hB3 rfl (by decide) (fun a h => ?_)
      refine s_x h rfl rfl (by decide) (x_pick (u' := undef) h.k rfl rfl (fun hh => absurd (hB3.symm.trans hh) (by decide)) (fun _ => rfl)) (fun a h => ?_)
      exact (h.mid 3 rfl).val (by first | rfl | (rw [hB3]; first | rfl | simp))
    refine sAV h (fun a h => ?_)
    refine l_end ?_
    refine wp_ret ?_
    refine e_blkR ?_
    refine e_thenR ?_
    obtain rfl := Option.some.inj hf
    exact r_ret1 h rfl (rv_tmp h rfl) ⟨_, [], _, rfl, ⟨rfl, rfl, trivial⟩, rfl, (Up.refl _ _ _), (h.m.pick [1] _ (by decide) rfl)⟩
  · rw [if_neg (of_decide_eq_false hb)] at hf
    refine c_rs ?_
    refine s_x h rfl rfl (by decide) (x_bin h.k rfl rfl rfl ib_eql) (fun a h => ?_)
    refine sAV h (fun a h => ?_)
    refine l_end ?_
    refine c_cond h rfl (fun hb => ?_) (fun hb => ?_)
    · rw [if_pos (of_decide_eq_true hb)] at hf
      refine c_rs ?_
      refine sMV h (fun a h => ?_)
      refine s_x h rfl rfl (by decide) (x_faddr h.k rfl Try.underlying46 rfl sz_int rfl) (fun a h => ?_)
      refine s_x h rfl rfl (by decide) (x_ld h.k rfl Try.underlying3 rfl rfl ((h.m.cell (i := 0) rfl 1).trans rfl)) (fun a h => ?_)
      obtain ⟨x14, h15, hf⟩ := bsome hf
      have hX := term_Store_has_ok Fu (S0 := snapAll _) ga0 a0 (hpa0.mono (h.m.leAll (i := 1) rfl)) a1.2.1 hr6 _ h15 _ h.startAll
      refine q_callX hX h rfl rfl rfl (by decide) Try.func34 rfl rfl rfl (fun a w v L1 S1 hR hb1 h => ?_)
      obtain ⟨rfl, rfl, _⟩ := hR
      refine sMV h (fun a h => ?_)
      refine q_grp h 4 (t := 23) 27 (x14 && (decide (0 ≤ a1.2.2))) rfl (fun hB4 => ?_) (fun hB4 => ?_) (fun a w h => ?_)
      · refine g_yes h rfl rfl rfl rfl hB4 ?_
        refine s_x h rfl rfl (by decide) (x_faddr h.k rfl Try.underlying46 rfl sz_int rfl) (fun a h => ?_)
        refine g_yes h rfl rfl rfl rfl hB4 ?_
        refine s_x h rfl rfl (by decide) (x_ld h.k rfl Try.underlying3 rfl rfl ((h.m.cell (i := 0) rfl 2).trans rfl)) (fun a h => ?_)
        refine g_yes h rfl rfl rfl rfl hB4 ?_
        refine s_x h rfl rfl (by decide) (x_bin h.k rfl rfl rfl ib_geq) (fun a h => ?_)
        refine s_x h rfl rfl (by decide) (x_pick (u' := undef) h.k rfl rfl (fun _ => rfl) (fun hh => absurd (hB4.symm.trans hh) (by decide))) (fun a h => ?_)
        exact (h.mid 3 rfl).val (by first | rfl | (rw [hB4]; first | rfl | simp))
      · refine g_no h rfl rfl rfl rfl hB4 rfl (by decide) (fun a h => ?_)
        refine g_no h rfl rfl rfl rfl hB4 rfl (by decide) (fun a h => ?_)
        refine g_no h rfl rfl rfl rfl hB4 rfl (by decide) (fun a h => ?_)
        refine s_x h rfl rfl (by decide) (x_pick (u' := undef) h.k rfl rfl (fun hh => absurd (hB4.symm.trans hh) (by decide)) (fun _ => rfl)) (fun a h => ?_)
        exact (h.mid 3 rfl).val (by first | rfl | (rw [hB4]; first | rfl | simp))
      refine sAV h (fun a h => ?_)
      refine l_end ?_
      refine wp_ret ?_
      refine e_blkR ?_
      refine e_thenR ?_
      obtain rfl := Option.some.inj hf
      exact r_ret1 h rfl (rv_tmp h rfl) ⟨_, [], _, rfl, ⟨rfl, rfl, trivial⟩, rfl, (Up.refl _ _ _), (h.m.pick [1] _ (by decide) rfl)⟩
    · rw [if_neg (of_decide_eq_false hb)] at hf
      refine c_rs ?_
      refine s_x h rfl rfl (by decide) (x_bin h.k rfl rfl rfl ib_eql) (fun a h => ?_)
      refine sAV h (fun a h => ?_)
      refine l_end ?_
      refine c_cond h rfl (fun hb => ?_) (fun hb => ?_)
      · rw [if_pos (of_decide_eq_true hb)] at hf
        refine c_rs ?_
        refine sMV h (fun a h => ?_)
        refine s_x h rfl rfl (by decide) (x_faddr h.k rfl Try.underlying46 rfl sz_int rfl) (fun a h => ?_)
        refine s_x h rfl rfl (by decide) (x_ld h.k rfl Try.underlying3 rfl rfl ((h.m.cell (i := 0) rfl 1).trans rfl)) (fun a h => ?_)
        obtain ⟨x19, h20, hf⟩ := bsome hf
        have hX := term_Store_has_ok Fu (S0 := snapAll _) ga0 a0 (hpa0.mono (h.m.leAll (i := 1) rfl)) a1.2.1 hr6 _ h20 _ h.startAll
        refine q_callX hX h rfl rfl rfl (by decide) Try.func34 rfl rfl rfl (fun a w v L1 S1 hR hb1 h => ?_)
        obtain ⟨rfl, rfl, _⟩ := hR
        refine sMV h (fun a h => ?_)
        obtain ⟨z23, hz22, hf⟩ := bsome hf
        refine q_grp h 5 (t := 34) 39 z23 rfl (fun hB4 => ?_) (fun hB4 => ?_) (fun a w h => ?_)
        · rw [if_pos hB4] at hz22
          refine g_yes h rfl rfl rfl rfl hB4 ?_
          refine sMV h (fun a h => ?_)
          refine g_yes h rfl rfl rfl rfl hB4 ?_
          refine s_x h rfl rfl (by decide) (x_faddr h.k rfl Try.underlying46 rfl sz_int rfl) (fun a h => ?_)
          refine g_yes h rfl rfl rfl rfl hB4 ?_
          refine s_x h rfl rfl (by decide) (x_ld h.k rfl Try.underlying3 rfl rfl ((h.m.cell (i := 0) rfl 2).trans rfl)) (fun a h => ?_)
          refine g_yes h rfl rfl rfl rfl hB4 ?_
          obtain ⟨x25, h26, hz22⟩ := bsome hz22
          have hX := term_Store_has_ok Fu (S0 := snapAll _) ga0 a0 (hpa0.mono (h.m.leAll (i := 1) rfl)) a1.2.2 hr7 _ h26 _ h.startAll
          refine q_callX hX h rfl rfl rfl (by decide) Try.func34 rfl rfl rfl (fun a w v L1 S1 hR hb1 h => ?_)
          obtain ⟨rfl, rfl, _⟩ := hR
          refine s_x h rfl rfl (by decide) (x_pick (u' := undef) h.k rfl rfl (fun _ => rfl) (fun hh => absurd (hB4.symm.trans hh) (by decide))) (fun a h => ?_)
          exact (h.mid 4 rfl).val (by rw [Option.some.inj hz22])
        · refine g_no h rfl rfl rfl rfl hB4 rfl (by decide) (fun a h => ?_)
          refine g_no h rfl rfl rfl rfl hB4 rfl (by decide) (fun a h => ?_)
          refine g_no h rfl rfl rfl rfl hB4 rfl (by decide) (fun a h => ?_)
          refine g_no h rfl rfl rfl rfl hB4 rfl (by decide) (fun a h => ?_)
          rw [if_neg (by rw [hB4]; decide)] at hz22
          refine s_x h rfl rfl (by decide) (x_pick (u' := undef) h.k rfl rfl (fun hh => absurd (hB4.symm.trans hh) (by decide)) (fun _ => rfl)) (fun a h => ?_)
          exact (h.mid 4 rfl).val (by rw [Option.some.inj hz22])
        refine sAV h (fun a h => ?_)
        refine l_end ?_
        refine wp_ret ?_
        refine e_blkR ?_
        refine e_thenR ?_
        rw [← Option.some.inj hf]
        exact r_ret1 h rfl (rv_tmp h rfl) ⟨_, [], _, rfl, ⟨rfl, rfl, trivial⟩, rfl, (Up.refl _ _ _), (h.m.pick [1] _ (by decide) rfl)⟩
      · rw [if_neg (of_decide_eq_false hb)] at hf
        refine wp_skip ?_
        refine e_blkN ?_
        refine e_thenN ?_
        refine c_rs ?_
        refine sAV h (fun a h => ?_)
        refine l_end ?_
        refine wp_ret ?_
        rw [← Option.some.inj hf]
        exact r_ret1 h rfl (rv_tmp h rfl) ⟨_, [], _, rfl, ⟨rfl, rfl, trivial⟩, rfl, (Up.refl _ _ _), (h.m.pick [1] _ (by decide) rfl)⟩
def term_Store_Len (Fu : Nat) (a0 : (List (Int × Int × Int)) × (List ((Int × Int × Int) × Int)) × (List (Int × Int))) : Option Int :=
  (term_Store_is Fu a0).bind fun x1 => some (a0.1.length : Int)
set_option maxRecDepth 100000 in
set_option maxHeartbeats 2000000 in
theorem term_Store_Len_ok (Fu : Nat) {S0 : Snap} (ga0 : Nat) (a0 : (List (Int × Int × Int)) × (List ((Int × Int × Int) × Int)) × (List (Int × Int))) (hpa0 : ptS (tyP (tyL (tyP tyI (tyP tyI tyI))) (tyP (tyM keyT tyI false) (tyM keyI tyI false))) S0 ga0 a0) (r : Int) (hf : term_Store_Len Fu a0 = some r) (w0 : World) (hm : Mem w0 (ownL ([] ++ [.sn S0])) ([] ++ [.sn S0]) w0) :
    Calls Try.prog 8 #[.pointer (some ⟨ga0, 0, none⟩)] w0 (Ret w0 S0 [] (fun v L1 S1 => v = .int .i64 r ∧ L1 = [] ∧ r64 r ∧ True)) := by
  unfold term_Store_Len at hf
  refine c_enterM Try.func8 rfl 11 rfl (by simp) _ hm _ rfl (fun a h => ?_)
  refine c_rs ?_
  refine sAV h (fun a h => ?_)
  refine l_end ?_
  refine wp_seq ?_
  refine c_rs ?_
  refine sMV h (fun a h => ?_)
  obtain ⟨x1, h2, hf⟩ := bsome hf
  have hX := term_Store_is_ok Fu (S0 := snapAll _) ga0 a0 (hpa0.mono (h.m.leAll (i := 0) rfl)) _ h2 _ h.startAll
  refine q_callX hX h rfl rfl rfl (by decide) Try.func20 rfl rfl rfl (fun a w v L1 S1 hR hb1 h => ?_)
  obtain ⟨rfl, rfl, _⟩ := hR
  obtain rfl : x1 = true := by unfold term_Store_is at h2; exact (Option.some.inj h2).symm
  refine s_x h rfl rfl (by decide) (x_not h.k rfl rfl) (fun a h => ?_)
  refine l_end ?_
  refine c_cond h rfl (fun hb => ?_) (fun hb => ?_)
  · exact absurd hb (by decide)
  · refine wp_skip ?_
    refine e_thenN ?_
    refine c_rs ?_
    refine sMV h (fun a h => ?_)
    obtain ⟨k4, hc5, ⟨k6, k7, rfl, ⟨A8, c9, rfl, hs10⟩, ⟨k11, k12, rfl, ⟨g13, rfl, hm14⟩, ⟨g15, rfl, hm16⟩⟩⟩⟩ := id hpa0
    refine s_x h rfl rfl (by decide) (x_nil h.k rfl rfl) (fun a h => ?_)
    refine s_x h rfl rfl (by decide) (x_faddr h.k rfl Try.underlying52 rfl sz_Sapi_Term rfl) (fun a h => ?_)
    refine s_x h rfl rfl (by decide) (x_ld h.k rfl Try.underlying22 rfl rfl (hc5 _ (h.m.snOK (i := 0) rfl) 0 _ rfl)) (fun a h => ?_)
    refine s_x h rfl rfl (by decide) (x_len h.k rfl Try.underlying22 rfl) (fun a h => ?_)
    refine sAV h (fun a h => ?_)
    refine l_end ?_
    refine wp_ret ?_
    obtain rfl := Option.some.inj hf
    exact r_ret1 h rfl (rv_tmp h rfl) ⟨_, [], _, rfl, ⟨rfl, rfl, (len_r (hs10).len), trivial⟩, rfl, (Up.refl _ _ _), h.m⟩
def term_Store_Get (Fu : Nat) (a0 : (List (Int × Int × Int)) × (List ((Int × Int × Int) × Int)) × (List (Int × Int))) (a1 : Int) : Option ((Int × Int × Int) × Bool) :=
  (term_Store_is Fu a0).bind fun x2 => ((term_Store_has Fu a0 a1).bind fun x8 => some (!x8)).bind fun z6 => if z6 = true then (some ((0, 0, 0), false)) else ((idx a0.1 a1).bind fun x24 => some (x24, true))
set_option maxRecDepth 100000 in
set_option maxHeartbeats 2000000 in
theorem term_Store_Get_ok (Fu : Nat) {S0 : Snap} (ga0 : Nat) (a0 : (List (Int × Int × Int)) × (List ((Int × Int × Int) × Int)) × (List (Int × Int))) (hpa0 : ptS (tyP (tyL (tyP tyI (tyP tyI tyI))) (tyP (tyM keyT tyI false) (tyM keyI tyI false))) S0 ga0 a0) (a1 : Int) (hra1 : r64 a1) (r : (Int × Int × Int) × Bool) (hf : term_Store_Get Fu a0 a1 = some r) (w0 : World) (hm : Mem w0 (ownL ([] ++ [.sn S0])) ([] ++ [.sn S0]) w0) :
    Calls Try.prog 29 #[.pointer (some ⟨ga0, 0, none⟩), .int .i64 a1] w0 (Ret w0 S0 [] (fun v L1 S1 => ∃ (k43 : List Value), v = .tuple #[.agg k43.toArray, .bool r.2] ∧ L1 = [] ∧ (tyP tyI (tyP tyI tyI)).rep S1 k43 r.1 ∧ True)) := by
  unfold term_Store_Get at hf
  refine c_enterM Try.func29 rfl 23 rfl (by simp) _ hm _ rfl (fun a h => ?_)
  refine c_rs ?_
  refine s_alloc h rfl rfl rfl (by decide) zi_api_Term rfl (fun a w g1 h => ?_)
  refine sAV h (fun a h => ?_)
  refine l_end ?_
  refine wp_seq ?_
  refine c_rs ?_
  refine sMV h (fun a h => ?_)
  obtain ⟨x2, h3, hf⟩ := bsome hf
  have hX := term_Store_is_ok Fu (S0 := snapAll _) ga0 a0 (hpa0.mono (h.m.leAll (i := 1) rfl)) _ h3 _ h.startAll
  refine q_callX hX h rfl rfl rfl (by decide) Try.func20 rfl rfl rfl (fun a w v L1 S1 hR hb1 h => ?_)
  obtain ⟨rfl, rfl, _⟩ := hR
  obtain rfl : x2 = true := by unfold term_Store_is at h3; exact (Option.some.inj h3).symm
  refine s_x h rfl rfl (by decide) (x_not h.k rfl rfl) (fun a h => ?_)
  refine sMV h (fun a h => ?_)
  obtain ⟨z6, hz5, hf⟩ := bsome hf
  refine q_grp h 5 (t := 9) 14 z6 rfl (fun hB3 => ?_) (fun hB3 => ?_) (fun a w h => ?_)
  · exact absurd hB3 (by decide)
  · refine g_yes h rfl rfl rfl rfl hB3 ?_
    refine sMV h (fun a h => ?_)
    refine g_yes h rfl rfl rfl rfl hB3 ?_
    refine sMV h (fun a h => ?_)
    refine g_yes h rfl rfl rfl rfl hB3 ?_
    obtain ⟨x8, h9, hz5⟩ := bsome hz5
    have hX := term_Store_has_ok Fu (S0 := snapAll _) ga0 a0 (hpa0.mono (h.m.leAll (i := 1) rfl)) a1 hra1 _ h9 _ h.startAll
    refine q_callX hX h rfl rfl rfl (by decide) Try.func34 rfl rfl rfl (fun a w v L1 S1 hR hb1 h => ?_)
    obtain ⟨rfl, rfl, _⟩ := hR
    refine g_yes h rfl rfl rfl rfl hB3 ?_
    refine s_x h rfl rfl (by decide) (x_not h.k rfl rfl) (fun a h => ?_)
    refine s_x h rfl rfl (by decide) (x_pick (u' := undef) h.k rfl rfl (fun hh => absurd (hB3.symm.trans hh) (by decide)) (fun _ => rfl)) (fun a h => ?_)
    exact (h.mid 4 rfl).val (by rw [Option.some.inj hz5])
  refine l_end ?_
  refine c_cond h rfl (fun hb => ?_) (fun hb => ?_)
  · rw [if_pos hb] at hf
    refine c_rs ?_
    refine s_x h rfl rfl (by decide) (x_build h.k rfl [] rfl ([.int .i64 0, .int .i64 0, .int .i64 0]) (by kernel_rfl)) (fun a h => ?_)
    refine s_stW h rfl rfl rfl ag_api_Term rfl (es := [.int .i64 0, .int .i64 0, .int .i64 0]) rfl rfl (by simp [Value.oneCell']) 0 rfl rfl (fun a w h => ?_)
    refine sAV h (fun a h => ?_)
    refine l_end ?_
    refine wp_ret ?_
    refine e_thenR ?_
    obtain rfl := Option.some.inj hf
    exact r_ret2 h rfl (rv_cellA h rfl 0 rfl ag_api_Term rfl) (rv_tmp h rfl) ⟨_, [], _, rfl, ⟨[.int .i64 0, .int .i64 0, .int .i64 0], rfl, rfl, ⟨[.int .i64 0], [.int .i64 0, .int .i64 0], rfl, ⟨rfl, (show r64 0 from ⟨by decide, by decide⟩)⟩, ⟨[.int .i64 0], [.int .i64 0], rfl, ⟨rfl, (show r64 0 from ⟨by decide, by decide⟩)⟩, ⟨rfl, (show r64 0 from ⟨by decide, by decide⟩)⟩⟩⟩, trivial⟩, rfl, (Up.refl _ _ _), (h.m.pick [1] _ (by decide) rfl)⟩
  · rw [if_neg (by rw [hb]; decide)] at hf
    refine wp_skip ?_
    refine e_thenN ?_
    refine c_rs ?_
    refine sMV h (fun a h => ?_)
    obtain ⟨k11, hc12, ⟨k13, k14, rfl, ⟨A15, c16, rfl, hs17⟩, ⟨k18, k19, rfl, ⟨g20, rfl, hm21⟩, ⟨g22, rfl, hm23⟩⟩⟩⟩ := id hpa0
    refine s_x h rfl rfl (by decide) (x_nil h.k rfl rfl) (fun a h => ?_)
    refine s_x h rfl rfl (by decide) (x_faddr h.k rfl Try.underlying52 rfl sz_Sapi_Term rfl) (fun a h => ?_)
    refine s_x h rfl rfl (by decide) (x_ld h.k rfl Try.underlying22 rfl rfl (hc12 _ (h.m.snOK (i := 1) rfl) 0 _ rfl)) (fun a h => ?_)
    refine sMV h (fun a h => ?_)
    obtain ⟨x24, h28, hf⟩ := bsome hf
    obtain ⟨m25, hi29, hm30, hx31⟩ := idx_some h28
    obtain ⟨b26, off27, k32, hA33, hu34, hc35⟩ := (hs17).at (by decide) hx31 (h.m.snOK (i := 1) rfl)
    obtain ⟨k36, k37, rfl, ⟨rfl, hr38⟩, ⟨k39, k40, rfl, ⟨rfl, hr41⟩, ⟨rfl, hr42⟩⟩⟩ := hu34
    refine s_x h rfl rfl (by decide) (x_iaddrE h.k rfl Try.underlying22 sz_api_Term hA33 rfl rfl hi29 hm30) (fun a h => ?_)
    refine s_x h rfl rfl (by decide) (x_ldR h.k rfl ag_api_Term rfl ([.int .i64 x24.1, .int .i64 x24.2.1, .int .i64 x24.2.2]) rfl (hc35 _ (h.m.snOK (i := 1) rfl))) (fun a h => ?_)
    refine s_stW h rfl rfl rfl ag_api_Term rfl (es := [.int .i64 x24.1, .int .i64 x24.2.1, .int .i64 x24.2.2]) rfl rfl (by simp [Value.oneCell']) 0 rfl rfl (fun a w h => ?_)
    refine sAV h (fun a h => ?_)
    refine l_end ?_
    refine wp_ret ?_
    obtain rfl := Option.some.inj hf
    exact r_ret2 h rfl (rv_cellA h rfl 0 rfl ag_api_Term rfl) (rv_tmp h rfl) ⟨_, [], _, rfl, ⟨[.int .i64 x24.1, .int .i64 x24.2.1, .int .i64 x24.2.2], rfl, rfl, ⟨[.int .i64 x24.1], [.int .i64 x24.2.1, .int .i64 x24.2.2], rfl, ⟨rfl, hr38⟩, ⟨[.int .i64 x24.2.1], [.int .i64 x24.2.2], rfl, ⟨rfl, hr41⟩, ⟨rfl, hr42⟩⟩⟩, trivial⟩, rfl, (Up.refl _ _ _), (h.m.pick [1] _ (by decide) rfl)⟩
def en_api_Term (x : Int × Int × Int) : List Value := [.int .i64 x.1, .int .i64 x.2.1, .int .i64 x.2.2]
theorem gd_api_Term : Try.prog.eqGuardType Try.prog.depth 46 = false := by kernel_rfl
theorem eqs_api_Term (w : World) (x y : Int × Int × Int) : (Op.equalIn 10000 46 (.agg (en_api_Term x).toArray) (.agg (en_api_Term y).toArray)).run Try.prog w = .ok (decide (x = y)) w := by
  have hq : Try.prog.stoodInHeld 46 = false := by kernel_rfl
  rw [run_equalIn_struct w 9999 _ _ _ (by simp only [Program.fieldsOf, Try.underlying46]) hq]
  simp only [Program.fieldsOf, Try.underlying46]
  refine Eq.trans (b := .ok ((x.1 == y.1) && ((x.2.1 == y.2.1) && ((x.2.2 == y.2.2) && true))) w) ?_ ?_
  · refine eqf_cons' (by decide) (part_one w Try.underlying3 rfl _ _ _ rfl) (part_one w Try.underlying3 rfl _ _ _ rfl) (run_equalIn_int w 9998 _ .i64 .i64 _ _ Try.underlying3) ?_
    refine eqf_cons' (by decide) (part_one w Try.underlying3 rfl _ _ _ rfl) (part_one w Try.underlying3 rfl _ _ _ rfl) (run_equalIn_int w 9998 _ .i64 .i64 _ _ Try.underlying3) ?_
    refine eqf_cons' (by decide) (part_one w Try.underlying3 rfl _ _ _ rfl) (part_one w Try.underlying3 rfl _ _ _ rfl) (run_equalIn_int w 9998 _ .i64 .i64 _ _ Try.underlying3) ?_
    exact eqf_nil'
  · refine congrArg (fun b => Result.ok b w) ?_
    obtain ⟨x0, x1, x2⟩ := x
    obtain ⟨y0, y1, y2⟩ := y
    rw [Bool.eq_iff_iff]
    simp
def term_Store_Put (Fu : Nat) (a0 : (List (Int × Int × Int)) × (List ((Int × Int × Int) × Int)) × (List (Int × Int))) (a1 : Int × Int × Int) : Option (Int × Int × ((List (Int × Int × Int)) × (List ((Int × Int × Int) × Int)) × (List (Int × Int)))) :=
  (term_Store_is Fu a0).bind fun x22 => (term_Store_may Fu a0 a1).bind fun x25 => if (!x25) = true then (some (0, 2, a0)) else (if (aget a1 a0.2.1).isSome = true then (some (((aget a1 a0.2.1).getD 0), 0, a0)) else (if 65536 ≤ (a0.1.length : Int) then (some (0, 3, a0)) else ((app 24 a0.1 ([a1])).bind fun x37 => (if a1 = (1, a1.2.1, a1.2.2) then (some ((x37, (aset a1 (a0.1.length : Int) a0.2.1), a0.2.2).1, (x37, (aset a1 (a0.1.length : Int) a0.2.1), a0.2.2).2.1, (aset a1.2.1 (w64 (((aget a1.2.1 ((x37, (aset a1 (a0.1.length : Int) a0.2.1), a0.2.2).2.2)).getD 0) + 1)) (x37, (aset a1 (a0.1.length : Int) a0.2.1), a0.2.2).2.2))) else (some (x37, (aset a1 (a0.1.length : Int) a0.2.1), a0.2.2))).bind fun x65 => some ((a0.1.length : Int), 0, x65))))
set_option maxRecDepth 100000 in
set_option maxHeartbeats 2000000 in
theorem term_Store_Put_ok (Fu : Nat) {S0 : Snap} (a0 : (List (Int × Int × Int)) × (List ((Int × Int × Int) × Int)) × (List (Int × Int))) (g1 : Nat) (A2 : Option Addr) (c3 : Nat) (cs4 : List Value) (g6 : Nat) (es7 : Array MapEntry) (cl8 : Nat) (g10 : Nat) (es11 : Array MapEntry) (cl12 : Nat) (hq5 : reps (tyP tyI (tyP tyI tyI)) S0 cs4 a0.1) (hm9 : mpS keyT tyI false S0 es7 cl8 a0.2.1) (hm13 : mpS keyI tyI false S0 es11 cl12 a0.2.2) (csa1 : List Value) (a1 : Int × Int × Int) (hsa1 : (tyP tyI (tyP tyI tyI)).rep S0 csa1 a1) (r : Int × Int × ((List (Int × Int × Int)) × (List ((Int × Int × Int) × Int)) × (List (Int × Int)))) (hf : term_Store_Put Fu a0 a1 = some r) (w0 : World) (hm : Mem w0 (ownL ([.box g1 52 ([.slice A2 a0.1.length c3, .map (some g6), .map (some g10)]), .row (.slice A2 a0.1.length c3) 46 3 a0.1.length cs4, .obj g6 (.map es7 cl8), .obj g10 (.map es11 cl12)] ++ [.sn S0])) ([.box g1 52 ([.slice A2 a0.1.length c3, .map (some g6), .map (some g10)]), .row (.slice A2 a0.1.length c3) 46 3 a0.1.length cs4, .obj g6 (.map es7 cl8), .obj g10 (.map es11 cl12)] ++ [.sn S0]) w0) :
    Calls Try.prog 17 #[.pointer (some ⟨g1, 0, none⟩), .agg csa1.toArray] w0 (Ret w0 S0 [.box g1 52 ([.slice A2 a0.1.length c3, .map (some g6), .map (some g10)]), .row (.slice A2 a0.1.length c3) 46 3 a0.1.length cs4, .obj g6 (.map es7 cl8), .obj g10 (.map es11 cl12)] (fun v L1 S1 => ∃ (A89 : Option Addr), ∃ (c90 : Nat), ∃ (cs91 : List Value), ∃ (g93 : Nat), ∃ (es94 : Array MapEntry), ∃ (cl95 : Nat), ∃ (g97 : Nat), ∃ (es98 : Array MapEntry), ∃ (cl99 : Nat), v = .tuple #[.int .i64 r.1, .int .i64 r.2.1] ∧ L1 = [.box g1 52 ([.slice A89 r.2.2.1.length c90, .map (some g93), .map (some g97)]), .row (.slice A89 r.2.2.1.length c90) 46 3 r.2.2.1.length cs91, .obj g93 (.map es94 cl95), .obj g97 (.map es98 cl99)] ∧ r64 r.1 ∧ r64 r.2.1 ∧ reps (tyP tyI (tyP tyI tyI)) S1 cs91 r.2.2.1 ∧ mpS keyT tyI false S1 es94 cl95 r.2.2.2.1 ∧ mpS keyI tyI false S1 es98 cl99 r.2.2.2.2 ∧ True)) := by
  unfold term_Store_Put at hf
  obtain ⟨k14, k15, rfl, ⟨rfl, hr16⟩, ⟨k17, k18, rfl, ⟨rfl, hr19⟩, ⟨rfl, hr20⟩⟩⟩ := hsa1
  obtain ⟨B0, hB0⟩ : ∃ B0, B0 = (ownL ([.box g1 52 ([.slice A2 a0.1.length c3, .map (some g6), .map (some g10)]), .row (.slice A2 a0.1.length c3) 46 3 a0.1.length cs4, .obj g6 (.map es7 cl8), .obj g10 (.map es11 cl12)] ++ [.sn S0])) := ⟨_, rfl⟩
  rw [← hB0] at hm
  refine c_enterM Try.func17 rfl 74 rfl (by simp) _ hm _ rfl (fun a h => ?_)
  refine c_rs ?_
  refine s_box h rfl rfl rfl (by decide) rfl (cs := [.int .i64 a1.1, .int .i64 a1.2.1, .int .i64 a1.2.2]) (by rfl) (fun a w g21 h => ?_)
  refine sAV h (fun a h => ?_)
  refine sAV h (fun a h => ?_)
  refine l_end ?_
  refine wp_seq ?_
  refine wp_block ?_
  refine c_rs ?_
  refine sMV h (fun a h => ?_)
  obtain ⟨x22, h23, hf⟩ := bsome hf
  have hX := term_Store_is_ok Fu (S0 := snapAll _) g1 a0 ⟨[.slice A2 a0.1.length c3, .map (some g6), .map (some g10)], h.m.boxAll (i := 1) rfl, ⟨[.slice A2 a0.1.length c3], [.map (some g6), .map (some g10)], rfl, ⟨_, _, rfl, h.m.rowAll (i := 2) rfl (j := 5) rfl hq5⟩, ⟨[.map (some g6)], [.map (some g10)], rfl, ⟨_, rfl, h.m.mapAll (i := 3) rfl (j := 5) rfl hm9⟩, ⟨_, rfl, h.m.mapAll (i := 4) rfl (j := 5) rfl hm13⟩⟩⟩⟩ _ h23 _ h.startAll
  refine q_callX hX h rfl rfl rfl (by decide) Try.func20 rfl rfl rfl (fun a w v L1 S1 hR hb1 h => ?_)
  obtain ⟨rfl, rfl, _⟩ := hR
  obtain rfl : x22 = true := by unfold term_Store_is at h23; exact (Option.some.inj h23).symm
  refine s_x h rfl rfl (by decide) (x_not h.k rfl rfl) (fun a h => ?_)
  refine sAV h (fun a h => ?_)
  refine l_end ?_
  refine c_cond h rfl (fun hb => ?_) (fun hb => ?_)
  · exact absurd hb (by decide)
  · refine c_rs ?_
    refine sMV h (fun a h => ?_)
    refine s_x h rfl rfl (by decide) (x_ldR h.k rfl ag_api_Term rfl ([.int .i64 a1.1, .int .i64 a1.2.1, .int .i64 a1.2.2]) rfl (h.m.range0 (i := 0) rfl)) (fun a h => ?_)
    obtain ⟨x25, h26, hf⟩ := bsome hf
    have hX := term_Store_may_ok Fu (S0 := snapAll _) g1 a0 ⟨[.slice A2 a0.1.length c3, .map (some g6), .map (some g10)], h.m.boxAll (i := 1) rfl, ⟨[.slice A2 a0.1.length c3], [.map (some g6), .map (some g10)], rfl, ⟨_, _, rfl, h.m.rowAll (i := 2) rfl (j := 5) rfl hq5⟩, ⟨[.map (some g6)], [.map (some g10)], rfl, ⟨_, rfl, h.m.mapAll (i := 3) rfl (j := 5) rfl hm9⟩, ⟨_, rfl, h.m.mapAll (i := 4) rfl (j := 5) rfl hm13⟩⟩⟩⟩ ([.int .i64 a1.1, .int .i64 a1.2.1, .int .i64 a1.2.2]) a1 ((tyP tyI (tyP tyI tyI)).mono (h.m.leAll (i := 5) rfl) (show (tyP tyI (tyP tyI tyI)).rep S0 ([.int .i64 a1.1, .int .i64 a1.2.1, .int .i64 a1.2.2]) a1 from ⟨[.int .i64 a1.1], [.int .i64 a1.2.1, .int .i64 a1.2.2], rfl, ⟨rfl, hr16⟩, ⟨[.int .i64 a1.2.1], [.int .i64 a1.2.2], rfl, ⟨rfl, hr19⟩, ⟨rfl, hr20⟩⟩⟩)) _ h26 _ h.startAll
    refine q_callX hX h rfl rfl rfl (by decide) Try.func26 rfl rfl rfl (fun a w v L1 S1 hR hb1 h => ?_)
    obtain ⟨rfl, rfl, _⟩ := hR
    refine s_x h rfl rfl (by decide) (x_not h.k rfl rfl) (fun a h => ?_)
    refine sAV h (fun a h => ?_)
    refine l_end ?_
    refine c_cond h rfl (fun hb => ?_) (fun hb => ?_)
    · rw [if_pos hb] at hf
      refine c_rs ?_
      refine sAV h (fun a h => ?_)
      refine sAV h (fun a h => ?_)
      refine l_end ?_
      refine wp_ret ?_
      refine e_blkR ?_
      refine e_thenR ?_
      obtain rfl := Option.some.inj hf
      subst hB0
      exact r_ret2 h rfl (rv_tmp h rfl) (rv_tmp h rfl) ⟨_, [.box g1 52 ([.slice A2 a0.1.length c3, .map (some g6), .map (some g10)]), .row (.slice A2 a0.1.length c3) 46 3 a0.1.length cs4, .obj g6 (.map es7 cl8), .obj g10 (.map es11 cl12)], _, rfl, ⟨A2, c3, cs4, g6, es7, cl8, g10, es11, cl12, rfl, rfl, (show r64 0 from ⟨by decide, by decide⟩), (show r64 2 from ⟨by decide, by decide⟩), hq5, hm9, hm13, trivial⟩, rfl, (Up.refl _ _ _), (h.m.pick [1, 2, 3, 4, 5] _ (by decide) rfl)⟩
    · rw [if_neg (by rw [hb]; decide)] at hf
      refine wp_skip ?_
      refine e_blkN ?_
      refine e_thenN ?_
      refine wp_seq ?_
      refine wp_seq ?_
      -- region 5 draws
      refine d_start h (Mem _ _ _) 11 11 rfl (by kernel_rfl) (fun _ _ _ _ _ h => h) (fun _ h => h) (fun Q a w HE HN h HS => ?_)
      refine d_takeP h (fun _ => HS) HN 0 rfl (by kernel_rfl) (by kernel_rfl) (by kernel_rfl) (by decide) rfl rfl (by decide) (fun w' => x_move h.k _ rfl rfl) (fun a h => ?_)
      refine d_takeP h (fun _ => HS) HN 1 rfl (by kernel_rfl) (by kernel_rfl) (by kernel_rfl) (by decide) rfl rfl (by decide) (fun w' => x_nil h.k rfl rfl) (fun a h => ?_)
      refine d_takeP h (fun _ => HS) HN 2 rfl (by kernel_rfl) (by kernel_rfl) (by kernel_rfl) (by decide) rfl rfl (by decide) (fun w' => x_faddr h.k rfl Try.underlying52 rfl sz_M_api_Term_int rfl) (fun a h => ?_)
      refine d_take h HS HN 3 rfl (by kernel_rfl) (by kernel_rfl) (by kernel_rfl) (by kernel_rfl) (by kernel_rfl) rfl rfl (by decide) (fun w' hw => x_ld h.k rfl Try.underlying49 rfl rfl ((hw.cell (i := 1) rfl 1).trans rfl)) (fun a h => ?_)
      refine d_take h HS HN 4 rfl (by kernel_rfl) (by kernel_rfl) (by kernel_rfl) (by kernel_rfl) (by kernel_rfl) rfl rfl (by decide) (fun w' hw => x_ldR h.k rfl ag_api_Term rfl ([.int .i64 a1.1, .int .i64 a1.2.1, .int .i64 a1.2.2]) rfl (hw.range0 (i := 0) rfl)) (fun a h => ?_)
      obtain ⟨u28, hu29, hl30⟩ := mpS.look hm9 a1 (z := .int .i64 0) (z0 := 0) ⟨rfl, (show r64 0 from ⟨by decide, by decide⟩)⟩
      obtain ⟨e32, hr31⟩ := hu29
      cases e32
      refine d_take h HS HN 5 rfl (by kernel_rfl) (by kernel_rfl) (by kernel_rfl) (by kernel_rfl) (by kernel_rfl) rfl rfl (by decide) (fun w' hw => x_lookE h.k rfl Try.underlying49 rfl (hw.ok 3 _ rfl) hl30 ⟨hr16, hr19, hr20⟩ rfl (zro zi_int _)) (fun a h => ?_)
      refine d_takeP h (fun _ => HS) HN 6 rfl (by kernel_rfl) (by kernel_rfl) (by kernel_rfl) (by decide) rfl rfl (by decide) (fun w' => x_move h.k _ rfl rfl) (fun a h => ?_)
      refine d_takeP h (fun _ => HS) HN 7 rfl (by kernel_rfl) (by kernel_rfl) (by kernel_rfl) (by decide) rfl rfl (by decide) (fun w' => x_ext h.k rfl rfl rfl) (fun a h => ?_)
      refine d_takeP h (fun _ => HS) HN 8 rfl (by kernel_rfl) (by kernel_rfl) (by kernel_rfl) (by decide) rfl rfl (by decide) (fun w' => x_ext h.k rfl rfl rfl) (fun a h => ?_)
      refine d_takeP h (fun _ => HS) HN 9 rfl (by kernel_rfl) (by kernel_rfl) (by kernel_rfl) (by decide) rfl rfl (by decide) (fun w' => x_assign h.k _ rfl rfl) (fun a h => ?_)
      refine d_takeP h (fun _ => HS) HN 10 rfl (by kernel_rfl) (by kernel_rfl) (by kernel_rfl) (by decide) rfl rfl (by decide) (fun w' => x_assign h.k _ rfl rfl) (fun a h => ?_)
      refine d_done (by kernel_rfl) (HE _ _ ?_) _
      refine e_thenN ?_
      refine c_rs ?_
      refine sMV h (fun a h => ?_)
      refine l_end ?_
      refine c_cond h rfl (fun hb => ?_) (fun hb => ?_)
      · rw [if_pos hb] at hf
        refine c_rs ?_
        refine sMV h (fun a h => ?_)
        refine sAV h (fun a h => ?_)
        refine sAV h (fun a h => ?_)
        refine l_end ?_
        refine wp_ret ?_
        refine e_thenR ?_
        obtain rfl := Option.some.inj hf
        subst hB0
        exact r_ret2 h rfl (rv_tmp h rfl) (rv_tmp h rfl) ⟨_, [.box g1 52 ([.slice A2 a0.1.length c3, .map (some g6), .map (some g10)]), .row (.slice A2 a0.1.length c3) 46 3 a0.1.length cs4, .obj g6 (.map es7 cl8), .obj g10 (.map es11 cl12)], _, rfl, ⟨A2, c3, cs4, g6, es7, cl8, g10, es11, cl12, rfl, rfl, hr31, (show r64 0 from ⟨by decide, by decide⟩), hq5, hm9, hm13, trivial⟩, rfl, (Up.refl _ _ _), (h.m.pick [1, 2, 3, 4, 5] _ (by decide) rfl)⟩
      · rw [if_neg (by rw [hb]; decide)] at hf
        refine wp_skip ?_
        refine e_thenN ?_
        refine wp_seq ?_
        refine c_rs ?_
        refine sMV h (fun a h => ?_)
        refine s_x h rfl rfl (by decide) (x_nil h.k rfl rfl) (fun a h => ?_)
        refine s_x h rfl rfl (by decide) (x_faddr h.k rfl Try.underlying52 rfl sz_Sapi_Term rfl) (fun a h => ?_)
        refine s_x h rfl rfl (by decide) (x_ld h.k rfl Try.underlying22 rfl rfl ((h.m.cell (i := 1) rfl 0).trans rfl)) (fun a h => ?_)
        have hr33 : r64 (a0.1.length : Int) := len_r (h.m.rowLen (i := 2) rfl)
        refine s_x h rfl rfl (by decide) (x_len h.k rfl Try.underlying22 rfl) (fun a h => ?_)
        refine s_x h rfl rfl (by decide) (x_bin h.k rfl rfl rfl ib_geq) (fun a h => ?_)
        refine l_end ?_
        refine c_cond h rfl (fun hb => ?_) (fun hb => ?_)
        · rw [if_pos (of_decide_eq_true hb)] at hf
          refine c_rs ?_
          refine sAV h (fun a h => ?_)
          refine sAV h (fun a h => ?_)
          refine l_end ?_
          refine wp_ret ?_
          refine e_thenR ?_
          obtain rfl := Option.some.inj hf
          subst hB0
          exact r_ret2 h rfl (rv_tmp h rfl) (rv_tmp h rfl) ⟨_, [.box g1 52 ([.slice A2 a0.1.length c3, .map (some g6), .map (some g10)]), .row (.slice A2 a0.1.length c3) 46 3 a0.1.length cs4, .obj g6 (.map es7 cl8), .obj g10 (.map es11 cl12)], _, rfl, ⟨A2, c3, cs4, g6, es7, cl8, g10, es11, cl12, rfl, rfl, (show r64 0 from ⟨by decide, by decide⟩), (show r64 3 from ⟨by decide, by decide⟩), hq5, hm9, hm13, trivial⟩, rfl, (Up.refl _ _ _), (h.m.pick [1, 2, 3, 4, 5] _ (by decide) rfl)⟩
        · rw [if_neg (of_decide_eq_false hb)] at hf
          refine wp_skip ?_
          refine e_thenN ?_
          refine c_rs ?_
          refine sMV h (fun a h => ?_)
          refine s_x h rfl rfl (by decide) (x_nil h.k rfl rfl) (fun a h => ?_)
          refine s_x h rfl rfl (by decide) (x_faddr h.k rfl Try.underlying52 rfl sz_Sapi_Term rfl) (fun a h => ?_)
          refine s_x h rfl rfl (by decide) (x_ld h.k rfl Try.underlying22 rfl rfl ((h.m.cell (i := 1) rfl 0).trans rfl)) (fun a h => ?_)
          have hr34 : r64 (a0.1.length : Int) := len_r (h.m.rowLen (i := 2) rfl)
          refine s_x h rfl rfl (by decide) (x_len h.k rfl Try.underlying22 rfl) (fun a h => ?_)
          refine sAV h (fun a h => ?_)
          refine l_end ?_
          refine wp_seq ?_
          -- region 11 draws
          obtain ⟨x37, h38, hf⟩ := bsome hf
          refine c_fin (fun a w => ∃ (A51 : Option Addr), ∃ (c52 : Nat), ∃ (cs53 : List Value), ∃ (g55 : Nat), ∃ (es56 : Array MapEntry), ∃ (cl57 : Nat), ∃ (g59 : Nat), ∃ (es60 : Array MapEntry), ∃ (cl61 : Nat), reps (tyP tyI (tyP tyI tyI)) S0 cs53 ((x37, (aset a1 (a0.1.length : Int) a0.2.1), a0.2.2).1) ∧ mpS keyT tyI false S0 es56 cl57 ((x37, (aset a1 (a0.1.length : Int) a0.2.1), a0.2.2).2.1) ∧ mpS keyI tyI false S0 es60 cl61 ((x37, (aset a1 (a0.1.length : Int) a0.2.1), a0.2.2).2.2) ∧ St 74 w0 B0 [(0, .pointer (some ⟨g1, 0, none⟩)), (3, .pointer (some ⟨g21, 0, none⟩)), (8, .int .i64 (a0.1.length : Int))] [.box g1 52 ([.slice A51 ((x37, (aset a1 (a0.1.length : Int) a0.2.1), a0.2.2).1).length c52, .map (some g55), .map (some g59)]), .row (.slice A51 ((x37, (aset a1 (a0.1.length : Int) a0.2.1), a0.2.2).1).length c52) 46 3 ((x37, (aset a1 (a0.1.length : Int) a0.2.1), a0.2.2).1).length cs53, .obj g55 (.map es56 cl57), .obj g59 (.map es60 cl61), .box g21 46 ([.int .i64 a1.1, .int .i64 a1.2.1, .int .i64 a1.2.2]), .sn S0] a w) ?_ (fun a w h => ?_)
          · refine d_start h (Mem _ _ _) 20 20 rfl (by kernel_rfl) (fun _ _ _ _ _ h => h) (fun _ h => h.pick [0, 4, 5] [.box g21 46 ([.int .i64 a1.1, .int .i64 a1.2.1, .int .i64 a1.2.2]), .obj g10 (.map es11 cl12), .sn S0] (by decide) rfl) (fun Q a w HE HN h HS => ?_)
            refine d_takeP h (fun _ => HS) HN 0 rfl (by kernel_rfl) (by kernel_rfl) (by kernel_rfl) (by decide) rfl rfl (by decide) (fun w' => x_move h.k _ rfl rfl) (fun a h => ?_)
            refine d_takeP h (fun _ => HS) HN 1 rfl (by kernel_rfl) (by kernel_rfl) (by kernel_rfl) (by decide) rfl rfl (by decide) (fun w' => x_move h.k _ rfl rfl) (fun a h => ?_)
            refine d_takeP h (fun _ => HS) HN 2 rfl (by kernel_rfl) (by kernel_rfl) (by kernel_rfl) (by decide) rfl rfl (by decide) (fun w' => x_nil h.k rfl rfl) (fun a h => ?_)
            refine d_takeP h (fun _ => HS) HN 3 rfl (by kernel_rfl) (by kernel_rfl) (by kernel_rfl) (by decide) rfl rfl (by decide) (fun w' => x_faddr h.k rfl Try.underlying52 rfl sz_M_api_Term_int rfl) (fun a h => ?_)
            refine d_take h HS HN 5 rfl (by kernel_rfl) (by kernel_rfl) (by kernel_rfl) (by kernel_rfl) (by kernel_rfl) rfl rfl (by decide) (fun w' hw => x_ldR h.k rfl ag_api_Term rfl ([.int .i64 a1.1, .int .i64 a1.2.1, .int .i64 a1.2.2]) rfl (hw.range0 (i := 0) rfl)) (fun a h => ?_)
            refine d_takeP h (fun _ => HS) HN 6 rfl (by kernel_rfl) (by kernel_rfl) (by kernel_rfl) (by decide) rfl rfl (by decide) (fun w' => x_move h.k _ rfl rfl) (fun a h => ?_)
            refine d_takeP h (fun _ => HS) HN 7 rfl (by kernel_rfl) (by kernel_rfl) (by kernel_rfl) (by decide) rfl rfl (by decide) (fun w' => x_nil h.k rfl rfl) (fun a h => ?_)
            refine d_takeP h (fun _ => HS) HN 8 rfl (by kernel_rfl) (by kernel_rfl) (by kernel_rfl) (by decide) rfl rfl (by decide) (fun w' => x_faddr h.k rfl Try.underlying52 rfl sz_Sapi_Term rfl) (fun a h => ?_)
            refine d_take h HS HN 10 rfl (by kernel_rfl) (by kernel_rfl) (by kernel_rfl) (by kernel_rfl) (by kernel_rfl) rfl rfl (by decide) (fun w' hw => x_ldR h.k rfl ag_api_Term rfl ([.int .i64 a1.1, .int .i64 a1.2.1, .int .i64 a1.2.2]) rfl (hw.range0 (i := 0) rfl)) (fun a h => ?_)
            refine d_takeP h (fun _ => HS) HN 13 rfl (by kernel_rfl) (by kernel_rfl) (by kernel_rfl) (by decide) rfl rfl (by decide) (fun w' => x_move h.k _ rfl rfl) (fun a h => ?_)
            refine d_three 4 9 11 (by kernel_rfl) (d_one 4 rfl _ (fun K hK => ?_)) (d_one 9 rfl _ (fun K hK => ?_)) (d_one 11 rfl _ (fun K hK => ?_))
            · refine s_x h rfl rfl (by decide) (x_ld h.k rfl Try.underlying49 rfl rfl ((h.m.cell (i := 1) rfl 1).trans rfl)) (fun a h => ?_)
              refine hK _ _ ⟨fun _ _ => HS, ?_⟩
              clear hK
              refine d_two 9 11 (by kernel_rfl) (d_one 9 rfl _ (fun K hK => ?_)) (d_one 11 rfl _ (fun K hK => ?_))
              · refine s_x h rfl rfl (by decide) (x_ld h.k rfl Try.underlying22 rfl rfl ((h.m.cell (i := 1) rfl 0).trans rfl)) (fun a h => ?_)
                refine hK _ _ ⟨fun _ _ => HS, ?_⟩
                clear hK
                refine d_alone 11 rfl (by kernel_rfl) (fun K hK => ?_)
                refine q_bslice (T := tyP tyI (tyP tyI tyI)) (S := S0) h rfl rfl rfl (by decide) Try.underlying22 zi_api_Term (by decide) (by decide) (by decide) (by decide) [.agg ([.int .i64 a1.1, .int .i64 a1.2.1, .int .i64 a1.2.2]).toArray] rfl rfl (C := [[.int .i64 a1.1, .int .i64 a1.2.1, .int .i64 a1.2.2]]) rfl (xs := [a1]) ⟨[.int .i64 a1.1, .int .i64 a1.2.1, .int .i64 a1.2.2], _, rfl, ⟨[.int .i64 a1.1], [.int .i64 a1.2.1, .int .i64 a1.2.2], rfl, ⟨rfl, hr16⟩, ⟨[.int .i64 a1.2.1], [.int .i64 a1.2.2], rfl, ⟨rfl, hr19⟩, ⟨rfl, hr20⟩⟩⟩, rfl⟩ (by intro c hc; simp only [List.mem_cons, List.not_mem_nil, or_false] at hc; subst hc; rfl) (fun a w A35 h => ?_)
                have hb36 : reps (tyP tyI (tyP tyI tyI)) S0 ([[.int .i64 a1.1, .int .i64 a1.2.1, .int .i64 a1.2.2]] : List (List Value)).flatten [a1] := ⟨[.int .i64 a1.1, .int .i64 a1.2.1, .int .i64 a1.2.2], _, rfl, ⟨[.int .i64 a1.1], [.int .i64 a1.2.1, .int .i64 a1.2.2], rfl, ⟨rfl, hr16⟩, ⟨[.int .i64 a1.2.1], [.int .i64 a1.2.2], rfl, ⟨rfl, hr19⟩, ⟨rfl, hr20⟩⟩⟩, rfl⟩
                replace HS := h.m.pick [1, 5, 6] [.box g21 46 ([.int .i64 a1.1, .int .i64 a1.2.1, .int .i64 a1.2.2]), .obj g10 (.map es11 cl12), .sn S0] (by decide) rfl
                refine hK _ _ (fun _ _ => HS) ?_
                clear hK
                refine d_alone 12 rfl (by kernel_rfl) (fun K hK => ?_)
                refine q_append (T := tyP tyI (tyP tyI tyI)) (S := S0) h rfl rfl rfl (by decide) Try.underlying22 zb_api_Term rfl (by decide) rfl 3 rfl hq5 rfl hb36 (h.m.rdRowA (i := 0) rfl) h38 (fun a w A39 c40 cs41 hq42 h => ?_)
                replace HS := h.m.pick [1, 5, 6] [.box g21 46 ([.int .i64 a1.1, .int .i64 a1.2.1, .int .i64 a1.2.2]), .obj g10 (.map es11 cl12), .sn S0] (by decide) rfl
                refine hK _ _ (fun _ _ => HS) ?_
                clear hK
                refine d_takeP h (fun _ => HS) HN 14 rfl (by kernel_rfl) (by kernel_rfl) (by kernel_rfl) (by decide) rfl rfl (by decide) (fun w' => x_nil h.k rfl rfl) (fun a h => ?_)
                refine d_takeP h (fun _ => HS) HN 15 rfl (by kernel_rfl) (by kernel_rfl) (by kernel_rfl) (by decide) rfl rfl (by decide) (fun w' => x_faddr h.k rfl Try.underlying52 rfl sz_Sapi_Term rfl) (fun a h => ?_)
                refine d_alone 16 rfl (by kernel_rfl) (fun K hK => ?_)
                refine s_stb h rfl rfl rfl sz_Sapi_Term rfl rfl rfl 2 rfl (by first | decide | simp) (fun a w h => ?_)
                replace HS := h.m.pick [1, 5, 6] [.box g21 46 ([.int .i64 a1.1, .int .i64 a1.2.1, .int .i64 a1.2.2]), .obj g10 (.map es11 cl12), .sn S0] (by decide) rfl
                refine hK _ _ (fun _ _ => HS) ?_
                clear hK
                refine d_alone 17 rfl (by kernel_rfl) (fun K hK => ?_)
                refine q_mapEntry (T := tyI) (row := false) h rfl rfl rfl (by decide) Try.underlying49 rfl 4 rfl keyT hm9 (x := a1) ⟨hr16, hr19, hr20⟩ rfl (zro zi_int _) (fun a w es43 cl44 b45 v46 he47 h => ?_)
                replace HS := h.m.pick [1, 5, 6] [.box g21 46 ([.int .i64 a1.1, .int .i64 a1.2.1, .int .i64 a1.2.2]), .obj g10 (.map es11 cl12), .sn S0] (by decide) rfl
                refine hK _ _ (fun _ _ => HS) ?_
                clear hK
                refine d_takeP h (fun _ => HS) HN 18 rfl (by kernel_rfl) (by kernel_rfl) (by kernel_rfl) (by decide) rfl rfl (by decide) (fun w' => x_ext h.k rfl rfl rfl) (fun a h => ?_)
                refine d_alone 19 rfl (by kernel_rfl) (fun K hK => ?_)
                refine q_entryStore (T := tyI) (row := false) h rfl rfl rfl rfl 4 rfl rfl (D := keyT) he47 (v := .int .i64 (a0.1.length : Int)) (q := (a0.1.length : Int)) rfl ⟨rfl, hr34⟩ (fun a w es48 cl49 hm50 h => ?_)
                replace HS := h.m.pick [1, 5, 6] [.box g21 46 ([.int .i64 a1.1, .int .i64 a1.2.1, .int .i64 a1.2.2]), .obj g10 (.map es11 cl12), .sn S0] (by decide) rfl
                refine hK _ _ (fun _ _ => HS) ?_
                clear hK
                refine d_done (by kernel_rfl) (HE _ _ ?_) _
                refine e_thenN ?_
                have h := h.pick [2, 3, 4, 5, 1, 6] (by decide) rfl
                exact ⟨A39, c40, cs41, g6, es48, cl49, g10, es11, cl12, hq42, hm50, hm13, h.has (by exact ⟨rfl, rfl, rfl, trivial⟩)⟩
              · refine q_bslice (T := tyP tyI (tyP tyI tyI)) (S := S0) h rfl rfl rfl (by decide) Try.underlying22 zi_api_Term (by decide) (by decide) (by decide) (by decide) [.agg ([.int .i64 a1.1, .int .i64 a1.2.1, .int .i64 a1.2.2]).toArray] rfl rfl (C := [[.int .i64 a1.1, .int .i64 a1.2.1, .int .i64 a1.2.2]]) rfl (xs := [a1]) ⟨[.int .i64 a1.1, .int .i64 a1.2.1, .int .i64 a1.2.2], _, rfl, ⟨[.int .i64 a1.1], [.int .i64 a1.2.1, .int .i64 a1.2.2], rfl, ⟨rfl, hr16⟩, ⟨[.int .i64 a1.2.1], [.int .i64 a1.2.2], rfl, ⟨rfl, hr19⟩, ⟨rfl, hr20⟩⟩⟩, rfl⟩ (by intro c hc; simp only [List.mem_cons, List.not_mem_nil, or_false] at hc; subst hc; rfl) (fun a w A35 h => ?_)
                have hb36 : reps (tyP tyI (tyP tyI tyI)) S0 ([[.int .i64 a1.1, .int .i64 a1.2.1, .int .i64 a1.2.2]] : List (List Value)).flatten [a1] := ⟨[.int .i64 a1.1, .int .i64 a1.2.1, .int .i64 a1.2.2], _, rfl, ⟨[.int .i64 a1.1], [.int .i64 a1.2.1, .int .i64 a1.2.2], rfl, ⟨rfl, hr16⟩, ⟨[.int .i64 a1.2.1], [.int .i64 a1.2.2], rfl, ⟨rfl, hr19⟩, ⟨rfl, hr20⟩⟩⟩, rfl⟩
                replace HS := h.m.pick [1, 5, 6] [.box g21 46 ([.int .i64 a1.1, .int .i64 a1.2.1, .int .i64 a1.2.2]), .obj g10 (.map es11 cl12), .sn S0] (by decide) rfl
                refine hK _ _ ⟨fun _ _ => HS, ?_⟩
                clear hK
                refine d_alone 9 rfl (by kernel_rfl) (fun K hK => ?_)
                refine s_x h rfl rfl (by decide) (x_ld h.k rfl Try.underlying22 rfl rfl ((h.m.cell (i := 2) rfl 0).trans rfl)) (fun a h => ?_)
                refine hK _ _ (fun _ _ => HS) ?_
                clear hK
                refine d_alone 12 rfl (by kernel_rfl) (fun K hK => ?_)
                refine q_append (T := tyP tyI (tyP tyI tyI)) (S := S0) h rfl rfl rfl (by decide) Try.underlying22 zb_api_Term rfl (by decide) rfl 3 rfl hq5 rfl hb36 (h.m.rdRowA (i := 0) rfl) h38 (fun a w A39 c40 cs41 hq42 h => ?_)
                replace HS := h.m.pick [1, 5, 6] [.box g21 46 ([.int .i64 a1.1, .int .i64 a1.2.1, .int .i64 a1.2.2]), .obj g10 (.map es11 cl12), .sn S0] (by decide) rfl
                refine hK _ _ (fun _ _ => HS) ?_
                clear hK
                refine d_takeP h (fun _ => HS) HN 14 rfl (by kernel_rfl) (by kernel_rfl) (by kernel_rfl) (by decide) rfl rfl (by decide) (fun w' => x_nil h.k rfl rfl) (fun a h => ?_)
                refine d_takeP h (fun _ => HS) HN 15 rfl (by kernel_rfl) (by kernel_rfl) (by kernel_rfl) (by decide) rfl rfl (by decide) (fun w' => x_faddr h.k rfl Try.underlying52 rfl sz_Sapi_Term rfl) (fun a h => ?_)
                refine d_alone 16 rfl (by kernel_rfl) (fun K hK => ?_)
                refine s_stb h rfl rfl rfl sz_Sapi_Term rfl rfl rfl 2 rfl (by first | decide | simp) (fun a w h => ?_)
                replace HS := h.m.pick [1, 5, 6] [.box g21 46 ([.int .i64 a1.1, .int .i64 a1.2.1, .int .i64 a1.2.2]), .obj g10 (.map es11 cl12), .sn S0] (by decide) rfl
                refine hK _ _ (fun _ _ => HS) ?_
                clear hK
                refine d_alone 17 rfl (by kernel_rfl) (fun K hK => ?_)
                refine q_mapEntry (T := tyI) (row := false) h rfl rfl rfl (by decide) Try.underlying49 rfl 4 rfl keyT hm9 (x := a1) ⟨hr16, hr19, hr20⟩ rfl (zro zi_int _) (fun a w es43 cl44 b45 v46 he47 h => ?_)
                replace HS := h.m.pick [1, 5, 6] [.box g21 46 ([.int .i64 a1.1, .int .i64 a1.2.1, .int .i64 a1.2.2]), .obj g10 (.map es11 cl12), .sn S0] (by decide) rfl
                refine hK _ _ (fun _ _ => HS) ?_
                clear hK
                refine d_takeP h (fun _ => HS) HN 18 rfl (by kernel_rfl) (by kernel_rfl) (by kernel_rfl) (by decide) rfl rfl (by decide) (fun w' => x_ext h.k rfl rfl rfl) (fun a h => ?_)
                refine d_alone 19 rfl (by kernel_rfl) (fun K hK => ?_)
                refine q_entryStore (T := tyI) (row := false) h rfl rfl rfl rfl 4 rfl rfl (D := keyT) he47 (v := .int .i64 (a0.1.length : Int)) (q := (a0.1.length : Int)) rfl ⟨rfl, hr34⟩ (fun a w es48 cl49 hm50 h => ?_)
                replace HS := h.m.pick [1, 5, 6] [.box g21 46 ([.int .i64 a1.1, .int .i64 a1.2.1, .int .i64 a1.2.2]), .obj g10 (.map es11 cl12), .sn S0] (by decide) rfl
                refine hK _ _ (fun _ _ => HS) ?_
                clear hK
                refine d_done (by kernel_rfl) (HE _ _ ?_) _
                refine e_thenN ?_
                have h := h.pick [2, 3, 4, 5, 1, 6] (by decide) rfl
                exact ⟨A39, c40, cs41, g6, es48, cl49, g10, es11, cl12, hq42, hm50, hm13, h.has (by exact ⟨rfl, rfl, rfl, trivial⟩)⟩
            · refine s_x h rfl rfl (by decide) (x_ld h.k rfl Try.underlying22 rfl rfl ((h.m.cell (i := 1) rfl 0).trans rfl)) (fun a h => ?_)
              refine hK _ _ ⟨fun _ _ => HS, ?_⟩
              clear hK
              refine d_two 4 11 (by kernel_rfl) (d_one 4 rfl _ (fun K hK => ?_)) (d_one 11 rfl _ (fun K hK => ?_))
              · refine s_x h rfl rfl (by decide) (x_ld h.k rfl Try.underlying49 rfl rfl ((h.m.cell (i := 1) rfl 1).trans rfl)) (fun a h => ?_)
                refine hK _ _ ⟨fun _ _ => HS, ?_⟩
                clear hK
                refine d_alone 11 rfl (by kernel_rfl) (fun K hK => ?_)
                refine q_bslice (T := tyP tyI (tyP tyI tyI)) (S := S0) h rfl rfl rfl (by decide) Try.underlying22 zi_api_Term (by decide) (by decide) (by decide) (by decide) [.agg ([.int .i64 a1.1, .int .i64 a1.2.1, .int .i64 a1.2.2]).toArray] rfl rfl (C := [[.int .i64 a1.1, .int .i64 a1.2.1, .int .i64 a1.2.2]]) rfl (xs := [a1]) ⟨[.int .i64 a1.1, .int .i64 a1.2.1, .int .i64 a1.2.2], _, rfl, ⟨[.int .i64 a1.1], [.int .i64 a1.2.1, .int .i64 a1.2.2], rfl, ⟨rfl, hr16⟩, ⟨[.int .i64 a1.2.1], [.int .i64 a1.2.2], rfl, ⟨rfl, hr19⟩, ⟨rfl, hr20⟩⟩⟩, rfl⟩ (by intro c hc; simp only [List.mem_cons, List.not_mem_nil, or_false] at hc; subst hc; rfl) (fun a w A35 h => ?_)
                have hb36 : reps (tyP tyI (tyP tyI tyI)) S0 ([[.int .i64 a1.1, .int .i64 a1.2.1, .int .i64 a1.2.2]] : List (List Value)).flatten [a1] := ⟨[.int .i64 a1.1, .int .i64 a1.2.1, .int .i64 a1.2.2], _, rfl, ⟨[.int .i64 a1.1], [.int .i64 a1.2.1, .int .i64 a1.2.2], rfl, ⟨rfl, hr16⟩, ⟨[.int .i64 a1.2.1], [.int .i64 a1.2.2], rfl, ⟨rfl, hr19⟩, ⟨rfl, hr20⟩⟩⟩, rfl⟩
                replace HS := h.m.pick [1, 5, 6] [.box g21 46 ([.int .i64 a1.1, .int .i64 a1.2.1, .int .i64 a1.2.2]), .obj g10 (.map es11 cl12), .sn S0] (by decide) rfl
                refine hK _ _ (fun _ _ => HS) ?_
                clear hK
                refine d_alone 12 rfl (by kernel_rfl) (fun K hK => ?_)
                refine q_append (T := tyP tyI (tyP tyI tyI)) (S := S0) h rfl rfl rfl (by decide) Try.underlying22 zb_api_Term rfl (by decide) rfl 3 rfl hq5 rfl hb36 (h.m.rdRowA (i := 0) rfl) h38 (fun a w A39 c40 cs41 hq42 h => ?_)
                replace HS := h.m.pick [1, 5, 6] [.box g21 46 ([.int .i64 a1.1, .int .i64 a1.2.1, .int .i64 a1.2.2]), .obj g10 (.map es11 cl12), .sn S0] (by decide) rfl
                refine hK _ _ (fun _ _ => HS) ?_
                clear hK
                refine d_takeP h (fun _ => HS) HN 14 rfl (by kernel_rfl) (by kernel_rfl) (by kernel_rfl) (by decide) rfl rfl (by decide) (fun w' => x_nil h.k rfl rfl) (fun a h => ?_)
                refine d_takeP h (fun _ => HS) HN 15 rfl (by kernel_rfl) (by kernel_rfl) (by kernel_rfl) (by decide) rfl rfl (by decide) (fun w' => x_faddr h.k rfl Try.underlying52 rfl sz_Sapi_Term rfl) (fun a h => ?_)
                refine d_alone 16 rfl (by kernel_rfl) (fun K hK => ?_)
                refine s_stb h rfl rfl rfl sz_Sapi_Term rfl rfl rfl 2 rfl (by first | decide | simp) (fun a w h => ?_)
                replace HS := h.m.pick [1, 5, 6] [.box g21 46 ([.int .i64 a1.1, .int .i64 a1.2.1, .int .i64 a1.2.2]), .obj g10 (.map es11 cl12), .sn S0] (by decide) rfl
                refine hK _ _ (fun _ _ => HS) ?_
                clear hK
                refine d_alone 17 rfl (by kernel_rfl) (fun K hK => ?_)
                refine q_mapEntry (T := tyI) (row := false) h rfl rfl rfl (by decide) Try.underlying49 rfl 4 rfl keyT hm9 (x := a1) ⟨hr16, hr19, hr20⟩ rfl (zro zi_int _) (fun a w es43 cl44 b45 v46 he47 h => ?_)
                replace HS := h.m.pick [1, 5, 6] [.box g21 46 ([.int .i64 a1.1, .int .i64 a1.2.1, .int .i64 a1.2.2]), .obj g10 (.map es11 cl12), .sn S0] (by decide) rfl
                refine hK _ _ (fun _ _ => HS) ?_
                clear hK
                refine d_takeP h (fun _ => HS) HN 18 rfl (by kernel_rfl) (by kernel_rfl) (by kernel_rfl) (by decide) rfl rfl (by decide) (fun w' => x_ext h.k rfl rfl rfl) (fun a h => ?_)
                refine d_alone 19 rfl (by kernel_rfl) (fun K hK => ?_)
                refine q_entryStore (T := tyI) (row := false) h rfl rfl rfl rfl 4 rfl rfl (D := keyT) he47 (v := .int .i64 (a0.1.length : Int)) (q := (a0.1.length : Int)) rfl ⟨rfl, hr34⟩ (fun a w es48 cl49 hm50 h => ?_)
                replace HS := h.m.pick [1, 5, 6] [.box g21 46 ([.int .i64 a1.1, .int .i64 a1.2.1, .int .i64 a1.2.2]), .obj g10 (.map es11 cl12), .sn S0] (by decide) rfl
                refine hK _ _ (fun _ _ => HS) ?_
                clear hK
                refine d_done (by kernel_rfl) (HE _ _ ?_) _
                refine e_thenN ?_
                have h := h.pick [2, 3, 4, 5, 1, 6] (by decide) rfl
                exact ⟨A39, c40, cs41, g6, es48, cl49, g10, es11, cl12, hq42, hm50, hm13, h.has (by exact ⟨rfl, rfl, rfl, trivial⟩)⟩
              · refine q_bslice (T := tyP tyI (tyP tyI tyI)) (S := S0) h rfl rfl rfl (by decide) Try.underlying22 zi_api_Term (by decide) (by decide) (by decide) (by decide) [.agg ([.int .i64 a1.1, .int .i64 a1.2.1, .int .i64 a1.2.2]).toArray] rfl rfl (C := [[.int .i64 a1.1, .int .i64 a1.2.1, .int .i64 a1.2.2]]) rfl (xs := [a1]) ⟨[.int .i64 a1.1, .int .i64 a1.2.1, .int .i64 a1.2.2], _, rfl, ⟨[.int .i64 a1.1], [.int .i64 a1.2.1, .int .i64 a1.2.2], rfl, ⟨rfl, hr16⟩, ⟨[.int .i64 a1.2.1], [.int .i64 a1.2.2], rfl, ⟨rfl, hr19⟩, ⟨rfl, hr20⟩⟩⟩, rfl⟩ (by intro c hc; simp only [List.mem_cons, List.not_mem_nil, or_false] at hc; subst hc; rfl) (fun a w A35 h => ?_)
                have hb36 : reps (tyP tyI (tyP tyI tyI)) S0 ([[.int .i64 a1.1, .int .i64 a1.2.1, .int .i64 a1.2.2]] : List (List Value)).flatten [a1] := ⟨[.int .i64 a1.1, .int .i64 a1.2.1, .int .i64 a1.2.2], _, rfl, ⟨[.int .i64 a1.1], [.int .i64 a1.2.1, .int .i64 a1.2.2], rfl, ⟨rfl, hr16⟩, ⟨[.int .i64 a1.2.1], [.int .i64 a1.2.2], rfl, ⟨rfl, hr19⟩, ⟨rfl, hr20⟩⟩⟩, rfl⟩
                replace HS := h.m.pick [1, 5, 6] [.box g21 46 ([.int .i64 a1.1, .int .i64 a1.2.1, .int .i64 a1.2.2]), .obj g10 (.map es11 cl12), .sn S0] (by decide) rfl
                refine hK _ _ ⟨fun _ _ => HS, ?_⟩
                clear hK
                refine d_two 4 12 (by kernel_rfl) (d_one 4 rfl _ (fun K hK => ?_)) (d_one 12 rfl _ (fun K hK => ?_))
                · refine s_x h rfl rfl (by decide) (x_ld h.k rfl Try.underlying49 rfl rfl ((h.m.cell (i := 2) rfl 1).trans rfl)) (fun a h => ?_)
                  refine hK _ _ ⟨fun _ _ => HS, ?_⟩
                  clear hK
                  refine d_alone 12 rfl (by kernel_rfl) (fun K hK => ?_)
                  refine q_append (T := tyP tyI (tyP tyI tyI)) (S := S0) h rfl rfl rfl (by decide) Try.underlying22 zb_api_Term rfl (by decide) rfl 3 rfl hq5 rfl hb36 (h.m.rdRowA (i := 0) rfl) h38 (fun a w A39 c40 cs41 hq42 h => ?_)
                  replace HS := h.m.pick [1, 5, 6] [.box g21 46 ([.int .i64 a1.1, .int .i64 a1.2.1, .int .i64 a1.2.2]), .obj g10 (.map es11 cl12), .sn S0] (by decide) rfl
                  refine hK _ _ (fun _ _ => HS) ?_
                  clear hK
                  refine d_takeP h (fun _ => HS) HN 14 rfl (by kernel_rfl) (by kernel_rfl) (by kernel_rfl) (by decide) rfl rfl (by decide) (fun w' => x_nil h.k rfl rfl) (fun a h => ?_)
                  refine d_takeP h (fun _ => HS) HN 15 rfl (by kernel_rfl) (by kernel_rfl) (by kernel_rfl) (by decide) rfl rfl (by decide) (fun w' => x_faddr h.k rfl Try.underlying52 rfl sz_Sapi_Term rfl) (fun a h => ?_)
                  refine d_alone 16 rfl (by kernel_rfl) (fun K hK => ?_)
                  refine s_stb h rfl rfl rfl sz_Sapi_Term rfl rfl rfl 2 rfl (by first | decide | simp) (fun a w h => ?_)
                  replace HS := h.m.pick [1, 5, 6] [.box g21 46 ([.int .i64 a1.1, .int .i64 a1.2.1, .int .i64 a1.2.2]), .obj g10 (.map es11 cl12), .sn S0] (by decide) rfl
                  refine hK _ _ (fun _ _ => HS) ?_
                  clear hK
                  refine d_alone 17 rfl (by kernel_rfl) (fun K hK => ?_)
                  refine q_mapEntry (T := tyI) (row := false) h rfl rfl rfl (by decide) Try.underlying49 rfl 4 rfl keyT hm9 (x := a1) ⟨hr16, hr19, hr20⟩ rfl (zro zi_int _) (fun a w es43 cl44 b45 v46 he47 h => ?_)
                  replace HS := h.m.pick [1, 5, 6] [.box g21 46 ([.int .i64 a1.1, .int .i64 a1.2.1, .int .i64 a1.2.2]), .obj g10 (.map es11 cl12), .sn S0] (by decide) rfl
                  refine hK _ _ (fun _ _ => HS) ?_
                  clear hK
                  refine d_takeP h (fun _ => HS) HN 18 rfl (by kernel_rfl) (by kernel_rfl) (by kernel_rfl) (by decide) rfl rfl (by decide) (fun w' => x_ext h.k rfl rfl rfl) (fun a h => ?_)
                  refine d_alone 19 rfl (by kernel_rfl) (fun K hK => ?_)
                  refine q_entryStore (T := tyI) (row := false) h rfl rfl rfl rfl 4 rfl rfl (D := keyT) he47 (v := .int .i64 (a0.1.length : Int)) (q := (a0.1.length : Int)) rfl ⟨rfl, hr34⟩ (fun a w es48 cl49 hm50 h => ?_)
                  replace HS := h.m.pick [1, 5, 6] [.box g21 46 ([.int .i64 a1.1, .int .i64 a1.2.1, .int .i64 a1.2.2]), .obj g10 (.map es11 cl12), .sn S0] (by decide) rfl
                  refine hK _ _ (fun _ _ => HS) ?_
                  clear hK
                  refine d_done (by kernel_rfl) (HE _ _ ?_) _
                  refine e_thenN ?_
                  have h := h.pick [2, 3, 4, 5, 1, 6] (by decide) rfl
                  exact ⟨A39, c40, cs41, g6, es48, cl49, g10, es11, cl12, hq42, hm50, hm13, h.has (by exact ⟨rfl, rfl, rfl, trivial⟩)⟩
                · refine q_append (T := tyP tyI (tyP tyI tyI)) (S := S0) h rfl rfl rfl (by decide) Try.underlying22 zb_api_Term rfl (by decide) rfl 3 rfl hq5 rfl hb36 (h.m.rdRowA (i := 0) rfl) h38 (fun a w A39 c40 cs41 hq42 h => ?_)
                  replace HS := h.m.pick [1, 5, 6] [.box g21 46 ([.int .i64 a1.1, .int .i64 a1.2.1, .int .i64 a1.2.2]), .obj g10 (.map es11 cl12), .sn S0] (by decide) rfl
                  refine hK _ _ ⟨fun _ _ => HS, ?_⟩
                  clear hK
                  refine d_alone 4 rfl (by kernel_rfl) (fun K hK => ?_)
                  refine s_x h rfl rfl (by decide) (x_ld h.k rfl Try.underlying49 rfl rfl ((h.m.cell (i := 2) rfl 1).trans rfl)) (fun a h => ?_)
                  refine hK _ _ (fun _ _ => HS) ?_
                  clear hK
                  refine d_takeP h (fun _ => HS) HN 14 rfl (by kernel_rfl) (by kernel_rfl) (by kernel_rfl) (by decide) rfl rfl (by decide) (fun w' => x_nil h.k rfl rfl) (fun a h => ?_)
                  refine d_takeP h (fun _ => HS) HN 15 rfl (by kernel_rfl) (by kernel_rfl) (by kernel_rfl) (by decide) rfl rfl (by decide) (fun w' => x_faddr h.k rfl Try.underlying52 rfl sz_Sapi_Term rfl) (fun a h => ?_)
                  refine d_alone 16 rfl (by kernel_rfl) (fun K hK => ?_)
                  refine s_stb h rfl rfl rfl sz_Sapi_Term rfl rfl rfl 2 rfl (by first | decide | simp) (fun a w h => ?_)
                  replace HS := h.m.pick [1, 5, 6] [.box g21 46 ([.int .i64 a1.1, .int .i64 a1.2.1, .int .i64 a1.2.2]), .obj g10 (.map es11 cl12), .sn S0] (by decide) rfl
                  refine hK _ _ (fun _ _ => HS) ?_
                  clear hK
                  refine d_alone 17 rfl (by kernel_rfl) (fun K hK => ?_)
                  refine q_mapEntry (T := tyI) (row := false) h rfl rfl rfl (by decide) Try.underlying49 rfl 4 rfl keyT hm9 (x := a1) ⟨hr16, hr19, hr20⟩ rfl (zro zi_int _) (fun a w es43 cl44 b45 v46 he47 h => ?_)
                  replace HS := h.m.pick [1, 5, 6] [.box g21 46 ([.int .i64 a1.1, .int .i64 a1.2.1, .int .i64 a1.2.2]), .obj g10 (.map es11 cl12), .sn S0] (by decide) rfl
                  refine hK _ _ (fun _ _ => HS) ?_
                  clear hK
                  refine d_takeP h (fun _ => HS) HN 18 rfl (by kernel_rfl) (by kernel_rfl) (by kernel_rfl) (by decide) rfl rfl (by decide) (fun w' => x_ext h.k rfl rfl rfl) (fun a h => ?_)
                  refine d_alone 19 rfl (by kernel_rfl) (fun K hK => ?_)
                  refine q_entryStore (T := tyI) (row := false) h rfl rfl rfl rfl 4 rfl rfl (D := keyT) he47 (v := .int .i64 (a0.1.length : Int)) (q := (a0.1.length : Int)) rfl ⟨rfl, hr34⟩ (fun a w es48 cl49 hm50 h => ?_)
                  replace HS := h.m.pick [1, 5, 6] [.box g21 46 ([.int .i64 a1.1, .int .i64 a1.2.1, .int .i64 a1.2.2]), .obj g10 (.map es11 cl12), .sn S0] (by decide) rfl
                  refine hK _ _ (fun _ _ => HS) ?_
                  clear hK
                  refine d_done (by kernel_rfl) (HE _ _ ?_) _
                  refine e_thenN ?_
                  have h := h.pick [2, 3, 4, 5, 1, 6] (by decide) rfl
                  exact ⟨A39, c40, cs41, g6, es48, cl49, g10, es11, cl12, hq42, hm50, hm13, h.has (by exact ⟨rfl, rfl, rfl, trivial⟩)⟩
            · refine q_bslice (T := tyP tyI (tyP tyI tyI)) (S := S0) h rfl rfl rfl (by decide) Try.underlying22 zi_api_Term (by decide) (by decide) (by decide) (by decide) [.agg ([.int .i64 a1.1, .int .i64 a1.2.1, .int .i64 a1.2.2]).toArray] rfl rfl (C := [[.int .i64 a1.1, .int .i64 a1.2.1, .int .i64 a1.2.2]]) rfl (xs := [a1]) ⟨[.int .i64 a1.1, .int .i64 a1.2.1, .int .i64 a1.2.2], _, rfl, ⟨[.int .i64 a1.1], [.int .i64 a1.2.1, .int .i64 a1.2.2], rfl, ⟨rfl, hr16⟩, ⟨[.int .i64 a1.2.1], [.int .i64 a1.2.2], rfl, ⟨rfl, hr19⟩, ⟨rfl, hr20⟩⟩⟩, rfl⟩ (by intro c hc; simp only [List.mem_cons, List.not_mem_nil, or_false] at hc; subst hc; rfl) (fun a w A35 h => ?_)
              have hb36 : reps (tyP tyI (tyP tyI tyI)) S0 ([[.int .i64 a1.1, .int .i64 a1.2.1, .int .i64 a1.2.2]] : List (List Value)).flatten [a1] := ⟨[.int .i64 a1.1, .int .i64 a1.2.1, .int .i64 a1.2.2], _, rfl, ⟨[.int .i64 a1.1], [.int .i64 a1.2.1, .int .i64 a1.2.2], rfl, ⟨rfl, hr16⟩, ⟨[.int .i64 a1.2.1], [.int .i64 a1.2.2], rfl, ⟨rfl, hr19⟩, ⟨rfl, hr20⟩⟩⟩, rfl⟩
              replace HS := h.m.pick [1, 5, 6] [.box g21 46 ([.int .i64 a1.1, .int .i64 a1.2.1, .int .i64 a1.2.2]), .obj g10 (.map es11 cl12), .sn S0] (by decide) rfl
              refine hK _ _ ⟨fun _ _ => HS, ?_⟩
              clear hK
              refine d_two 4 9 (by kernel_rfl) (d_one 4 rfl _ (fun K hK => ?_)) (d_one 9 rfl _ (fun K hK => ?_))
              · refine s_x h rfl rfl (by decide) (x_ld h.k rfl Try.underlying49 rfl rfl ((h.m.cell (i := 2) rfl 1).trans rfl)) (fun a h => ?_)
                refine hK _ _ ⟨fun _ _ => HS, ?_⟩
                clear hK
                refine d_alone 9 rfl (by kernel_rfl) (fun K hK => ?_)
                refine s_x h rfl rfl (by decide) (x_ld h.k rfl Try.underlying22 rfl rfl ((h.m.cell (i := 2) rfl 0).trans rfl)) (fun a h => ?_)
                refine hK _ _ (fun _ _ => HS) ?_
                clear hK
                refine d_alone 12 rfl (by kernel_rfl) (fun K hK => ?_)
                refine q_append (T := tyP tyI (tyP tyI tyI)) (S := S0) h rfl rfl rfl (by decide) Try.underlying22 zb_api_Term rfl (by decide) rfl 3 rfl hq5 rfl hb36 (h.m.rdRowA (i := 0) rfl) h38 (fun a w A39 c40 cs41 hq42 h => ?_)
                replace HS := h.m.pick [1, 5, 6] [.box g21 46 ([.int .i64 a1.1, .int .i64 a1.2.1, .int .i64 a1.2.2]), .obj g10 (.map es11 cl12), .sn S0] (by decide) rfl
                refine hK _ _ (fun _ _ => HS) ?_
                clear hK
                refine d_takeP h (fun _ => HS) HN 14 rfl (by kernel_rfl) (by kernel_rfl) (by kernel_rfl) (by decide) rfl rfl (by decide) (fun w' => x_nil h.k rfl rfl) (fun a h => ?_)
                refine d_takeP h (fun _ => HS) HN 15 rfl (by kernel_rfl) (by kernel_rfl) (by kernel_rfl) (by decide) rfl rfl (by decide) (fun w' => x_faddr h.k rfl Try.underlying52 rfl sz_Sapi_Term rfl) (fun a h => ?_)
                refine d_alone 16 rfl (by kernel_rfl) (fun K hK => ?_)
                refine s_stb h rfl rfl rfl sz_Sapi_Term rfl rfl rfl 2 rfl (by first | decide | simp) (fun a w h => ?_)
                replace HS := h.m.pick [1, 5, 6] [.box g21 46 ([.int .i64 a1.1, .int .i64 a1.2.1, .int .i64 a1.2.2]), .obj g10 (.map es11 cl12), .sn S0] (by decide) rfl
                refine hK _ _ (fun _ _ => HS) ?_
                clear hK
                refine d_alone 17 rfl (by kernel_rfl) (fun K hK => ?_)
                refine q_mapEntry (T := tyI) (row := false) h rfl rfl rfl (by decide) Try.underlying49 rfl 4 rfl keyT hm9 (x := a1) ⟨hr16, hr19, hr20⟩ rfl (zro zi_int _) (fun a w es43 cl44 b45 v46 he47 h => ?_)
                replace HS := h.m.pick [1, 5, 6] [.box g21 46 ([.int .i64 a1.1, .int .i64 a1.2.1, .int .i64 a1.2.2]), .obj g10 (.map es11 cl12), .sn S0] (by decide) rfl
                refine hK _ _ (fun _ _ => HS) ?_
                clear hK
                refine d_takeP h (fun _ => HS) HN 18 rfl (by kernel_rfl) (by kernel_rfl) (by kernel_rfl) (by decide) rfl rfl (by decide) (fun w' => x_ext h.k rfl rfl rfl) (fun a h => ?_)
                refine d_alone 19 rfl (by kernel_rfl) (fun K hK => ?_)
                refine q_entryStore (T := tyI) (row := false) h rfl rfl rfl rfl 4 rfl rfl (D := keyT) he47 (v := .int .i64 (a0.1.length : Int)) (q := (a0.1.length : Int)) rfl ⟨rfl, hr34⟩ (fun a w es48 cl49 hm50 h => ?_)
                replace HS := h.m.pick [1, 5, 6] [.box g21 46 ([.int .i64 a1.1, .int .i64 a1.2.1, .int .i64 a1.2.2]), .obj g10 (.map es11 cl12), .sn S0] (by decide) rfl
                refine hK _ _ (fun _ _ => HS) ?_
                clear hK
                refine d_done (by kernel_rfl) (HE _ _ ?_) _
                refine e_thenN ?_
                have h := h.pick [2, 3, 4, 5, 1, 6] (by decide) rfl
                exact ⟨A39, c40, cs41, g6, es48, cl49, g10, es11, cl12, hq42, hm50, hm13, h.has (by exact ⟨rfl, rfl, rfl, trivial⟩)⟩
              · refine s_x h rfl rfl (by decide) (x_ld h.k rfl Try.underlying22 rfl rfl ((h.m.cell (i := 2) rfl 0).trans rfl)) (fun a h => ?_)
                refine hK _ _ ⟨fun _ _ => HS, ?_⟩
                clear hK
                refine d_two 4 12 (by kernel_rfl) (d_one 4 rfl _ (fun K hK => ?_)) (d_one 12 rfl _ (fun K hK => ?_))
                · refine s_x h rfl rfl (by decide) (x_ld h.k rfl Try.underlying49 rfl rfl ((h.m.cell (i := 2) rfl 1).trans rfl)) (fun a h => ?_)
                  refine hK _ _ ⟨fun _ _ => HS, ?_⟩
                  clear hK
                  refine d_alone 12 rfl (by kernel_rfl) (fun K hK => ?_)
                  refine q_append (T := tyP tyI (tyP tyI tyI)) (S := S0) h rfl rfl rfl (by decide) Try.underlying22 zb_api_Term rfl (by decide) rfl 3 rfl hq5 rfl hb36 (h.m.rdRowA (i := 0) rfl) h38 (fun a w A39 c40 cs41 hq42 h => ?_)
                  replace HS := h.m.pick [1, 5, 6] [.box g21 46 ([.int .i64 a1.1, .int .i64 a1.2.1, .int .i64 a1.2.2]), .obj g10 (.map es11 cl12), .sn S0] (by decide) rfl
                  refine hK _ _ (fun _ _ => HS) ?_
                  clear hK
                  refine d_takeP h (fun _ => HS) HN 14 rfl (by kernel_rfl) (by kernel_rfl) (by kernel_rfl) (by decide) rfl rfl (by decide) (fun w' => x_nil h.k rfl rfl) (fun a h => ?_)
                  refine d_takeP h (fun _ => HS) HN 15 rfl (by kernel_rfl) (by kernel_rfl) (by kernel_rfl) (by decide) rfl rfl (by decide) (fun w' => x_faddr h.k rfl Try.underlying52 rfl sz_Sapi_Term rfl) (fun a h => ?_)
                  refine d_alone 16 rfl (by kernel_rfl) (fun K hK => ?_)
                  refine s_stb h rfl rfl rfl sz_Sapi_Term rfl rfl rfl 2 rfl (by first | decide | simp) (fun a w h => ?_)
                  replace HS := h.m.pick [1, 5, 6] [.box g21 46 ([.int .i64 a1.1, .int .i64 a1.2.1, .int .i64 a1.2.2]), .obj g10 (.map es11 cl12), .sn S0] (by decide) rfl
                  refine hK _ _ (fun _ _ => HS) ?_
                  clear hK
                  refine d_alone 17 rfl (by kernel_rfl) (fun K hK => ?_)
                  refine q_mapEntry (T := tyI) (row := false) h rfl rfl rfl (by decide) Try.underlying49 rfl 4 rfl keyT hm9 (x := a1) ⟨hr16, hr19, hr20⟩ rfl (zro zi_int _) (fun a w es43 cl44 b45 v46 he47 h => ?_)
                  replace HS := h.m.pick [1, 5, 6] [.box g21 46 ([.int .i64 a1.1, .int .i64 a1.2.1, .int .i64 a1.2.2]), .obj g10 (.map es11 cl12), .sn S0] (by decide) rfl
                  refine hK _ _ (fun _ _ => HS) ?_
                  clear hK
                  refine d_takeP h (fun _ => HS) HN 18 rfl (by kernel_rfl) (by kernel_rfl) (by kernel_rfl) (by decide) rfl rfl (by decide) (fun w' => x_ext h.k rfl rfl rfl) (fun a h => ?_)
                  refine d_alone 19 rfl (by kernel_rfl) (fun K hK => ?_)
                  refine q_entryStore (T := tyI) (row := false) h rfl rfl rfl rfl 4 rfl rfl (D := keyT) he47 (v := .int .i64 (a0.1.length : Int)) (q := (a0.1.length : Int)) rfl ⟨rfl, hr34⟩ (fun a w es48 cl49 hm50 h => ?_)
                  replace HS := h.m.pick [1, 5, 6] [.box g21 46 ([.int .i64 a1.1, .int .i64 a1.2.1, .int .i64 a1.2.2]), .obj g10 (.map es11 cl12), .sn S0] (by decide) rfl
                  refine hK _ _ (fun _ _ => HS) ?_
                  clear hK
                  refine d_done (by kernel_rfl) (HE _ _ ?_) _
                  refine e_thenN ?_
                  have h := h.pick [2, 3, 4, 5, 1, 6] (by decide) rfl
                  exact ⟨A39, c40, cs41, g6, es48, cl49, g10, es11, cl12, hq42, hm50, hm13, h.has (by exact ⟨rfl, rfl, rfl, trivial⟩)⟩
                · refine q_append (T := tyP tyI (tyP tyI tyI)) (S := S0) h rfl rfl rfl (by decide) Try.underlying22 zb_api_Term rfl (by decide) rfl 3 rfl hq5 rfl hb36 (h.m.rdRowA (i := 0) rfl) h38 (fun a w A39 c40 cs41 hq42 h => ?_)
                  replace HS := h.m.pick [1, 5, 6] [.box g21 46 ([.int .i64 a1.1, .int .i64 a1.2.1, .int .i64 a1.2.2]), .obj g10 (.map es11 cl12), .sn S0] (by decide) rfl
                  refine hK _ _ ⟨fun _ _ => HS, ?_⟩
                  clear hK
                  refine d_alone 4 rfl (by kernel_rfl) (fun K hK => ?_)
                  refine s_x h rfl rfl (by decide) (x_ld h.k rfl Try.underlying49 rfl rfl ((h.m.cell (i := 2) rfl 1).trans rfl)) (fun a h => ?_)
                  refine hK _ _ (fun _ _ => HS) ?_
                  clear hK
                  refine d_takeP h (fun _ => HS) HN 14 rfl (by kernel_rfl) (by kernel_rfl) (by kernel_rfl) (by decide) rfl rfl (by decide) (fun w' => x_nil h.k rfl rfl) (fun a h => ?_)
                  refine d_takeP h (fun _ => HS) HN 15 rfl (by kernel_rfl) (by kernel_rfl) (by kernel_rfl) (by decide) rfl rfl (by decide) (fun w' => x_faddr h.k rfl Try.underlying52 rfl sz_Sapi_Term rfl) (fun a h => ?_)
                  refine d_alone 16 rfl (by kernel_rfl) (fun K hK => ?_)
                  refine s_stb h rfl rfl rfl sz_Sapi_Term rfl rfl rfl 2 rfl (by first | decide | simp) (fun a w h => ?_)
                  replace HS := h.m.pick [1, 5, 6] [.box g21 46 ([.int .i64 a1.1, .int .i64 a1.2.1, .int .i64 a1.2.2]), .obj g10 (.map es11 cl12), .sn S0] (by decide) rfl
                  refine hK _ _ (fun _ _ => HS) ?_
                  clear hK
                  refine d_alone 17 rfl (by kernel_rfl) (fun K hK => ?_)
                  refine q_mapEntry (T := tyI) (row := false) h rfl rfl rfl (by decide) Try.underlying49 rfl 4 rfl keyT hm9 (x := a1) ⟨hr16, hr19, hr20⟩ rfl (zro zi_int _) (fun a w es43 cl44 b45 v46 he47 h => ?_)
                  replace HS := h.m.pick [1, 5, 6] [.box g21 46 ([.int .i64 a1.1, .int .i64 a1.2.1, .int .i64 a1.2.2]), .obj g10 (.map es11 cl12), .sn S0] (by decide) rfl
                  refine hK _ _ (fun _ _ => HS) ?_
                  clear hK
                  refine d_takeP h (fun _ => HS) HN 18 rfl (by kernel_rfl) (by kernel_rfl) (by kernel_rfl) (by decide) rfl rfl (by decide) (fun w' => x_ext h.k rfl rfl rfl) (fun a h => ?_)
                  refine d_alone 19 rfl (by kernel_rfl) (fun K hK => ?_)
                  refine q_entryStore (T := tyI) (row := false) h rfl rfl rfl rfl 4 rfl rfl (D := keyT) he47 (v := .int .i64 (a0.1.length : Int)) (q := (a0.1.length : Int)) rfl ⟨rfl, hr34⟩ (fun a w es48 cl49 hm50 h => ?_)
                  replace HS := h.m.pick [1, 5, 6] [.box g21 46 ([.int .i64 a1.1, .int .i64 a1.2.1, .int .i64 a1.2.2]), .obj g10 (.map es11 cl12), .sn S0] (by decide) rfl
                  refine hK _ _ (fun _ _ => HS) ?_
                  clear hK
                  refine d_done (by kernel_rfl) (HE _ _ ?_) _
                  refine e_thenN ?_
                  have h := h.pick [2, 3, 4, 5, 1, 6] (by decide) rfl
                  exact ⟨A39, c40, cs41, g6, es48, cl49, g10, es11, cl12, hq42, hm50, hm13, h.has (by exact ⟨rfl, rfl, rfl, trivial⟩)⟩
          obtain ⟨A51, c52, cs53, g55, es56, cl57, g59, es60, cl61, hq54, hm58, hm62, h⟩ := h
          refine e_thenN ?_
          obtain ⟨o63, hc64, hf⟩ := bsome hf
          refine c_cut (fun a w => ∃ (x65 : (List (Int × Int × Int)) × (List ((Int × Int × Int) × Int)) × (List (Int × Int))), ∃ (A66 : Option Addr), ∃ (c67 : Nat), ∃ (cs68 : List Value), ∃ (g70 : Nat), ∃ (es71 : Array MapEntry), ∃ (cl72 : Nat), ∃ (g74 : Nat), ∃ (es75 : Array MapEntry), ∃ (cl76 : Nat), x65 = o63 ∧ reps (tyP tyI (tyP tyI tyI)) S0 cs68 x65.1 ∧ mpS keyT tyI false S0 es71 cl72 x65.2.1 ∧ mpS keyI tyI false S0 es75 cl76 x65.2.2 ∧ St 74 w0 B0 [(8, .int .i64 (a0.1.length : Int))] [.box g1 52 ([.slice A66 x65.1.length c67, .map (some g70), .map (some g74)]), .row (.slice A66 x65.1.length c67) 46 3 x65.1.length cs68, .obj g70 (.map es71 cl72), .obj g74 (.map es75 cl76), .sn S0] a w) ?_ ?_
          · refine c_rs ?_
            refine s_x h rfl rfl (by decide) (x_ldR h.k rfl ag_api_Term rfl ([.int .i64 a1.1, .int .i64 a1.2.1, .int .i64 a1.2.2]) rfl (h.m.range0 (i := 4) rfl)) (fun a h => ?_)
            refine s_x h rfl rfl (by decide) (x_faddr h.k rfl Try.underlying46 rfl sz_int rfl) (fun a h => ?_)
            refine s_x h rfl rfl (by decide) (x_ld h.k rfl Try.underlying3 rfl rfl ((h.m.cell (i := 4) rfl 1).trans rfl)) (fun a h => ?_)
            refine s_x h rfl rfl (by decide) (x_faddr h.k rfl Try.underlying46 rfl sz_int rfl) (fun a h => ?_)
            refine s_x h rfl rfl (by decide) (x_ld h.k rfl Try.underlying3 rfl rfl ((h.m.cell (i := 4) rfl 2).trans rfl)) (fun a h => ?_)
            refine s_x h rfl rfl (by decide) (x_build h.k rfl [(0, .int .i64 1), (1, .int .i64 a1.2.1), (2, .int .i64 a1.2.2)] rfl ([.int .i64 1, .int .i64 a1.2.1, .int .i64 a1.2.2]) (by kernel_rfl)) (fun a h => ?_)
            refine s_x h rfl rfl (by decide) (x_eqlS h.k rfl rfl rfl gd_api_Term (eqs_api_Term _ a1 (1, a1.2.1, a1.2.2))) (fun a h => ?_)
            refine l_end ?_
            refine c_cond h rfl (fun hb => ?_) (fun hb => ?_)
            · rw [if_pos (of_decide_eq_true hb)] at hc64
              -- region 13 draws
              refine d_start h (Mem _ _ _) 8 9 rfl (by kernel_rfl) (fun _ _ _ _ _ h => h) (fun _ h => h) (fun Q a w HE HN h HS => ?_)
              refine d_takeP h (fun _ => HS) HN 0 rfl (by kernel_rfl) (by kernel_rfl) (by kernel_rfl) (by decide) rfl rfl (by decide) (fun w' => x_move h.k _ rfl rfl) (fun a h => ?_)
              refine d_takeP h (fun _ => HS) HN 1 rfl (by kernel_rfl) (by kernel_rfl) (by kernel_rfl) (by decide) rfl rfl (by decide) (fun w' => x_nil h.k rfl rfl) (fun a h => ?_)
              refine d_takeP h (fun _ => HS) HN 2 rfl (by kernel_rfl) (by kernel_rfl) (by kernel_rfl) (by decide) rfl rfl (by decide) (fun w' => x_faddr h.k rfl Try.underlying52 rfl sz_M_int_int rfl) (fun a h => ?_)
              refine d_take h HS HN 3 rfl (by kernel_rfl) (by kernel_rfl) (by kernel_rfl) (by kernel_rfl) (by kernel_rfl) rfl rfl (by decide) (fun w' hw => x_ld h.k rfl Try.underlying50 rfl rfl ((hw.cell (i := 0) rfl 2).trans rfl)) (fun a h => ?_)
              refine d_takeP h (fun _ => HS) HN 4 rfl (by kernel_rfl) (by kernel_rfl) (by kernel_rfl) (by decide) rfl rfl (by decide) (fun w' => x_faddr h.k rfl Try.underlying46 rfl sz_int rfl) (fun a h => ?_)
              refine d_take h HS HN 5 rfl (by kernel_rfl) (by kernel_rfl) (by kernel_rfl) (by kernel_rfl) (by kernel_rfl) rfl rfl (by decide) (fun w' hw => x_ld h.k rfl Try.underlying3 rfl rfl ((hw.cell (i := 4) rfl 1).trans rfl)) (fun a h => ?_)
              obtain ⟨u78, hu79, hl80⟩ := mpS.look hm62 a1.2.1 (z := .int .i64 0) (z0 := 0) ⟨rfl, (show r64 0 from ⟨by decide, by decide⟩)⟩
              obtain ⟨e82, hr81⟩ := hu79
              cases e82
              refine d_take h HS HN 6 rfl (by kernel_rfl) (by kernel_rfl) (by kernel_rfl) (by kernel_rfl) (by kernel_rfl) rfl rfl (by decide) (fun w' hw => x_lookE h.k rfl Try.underlying50 rfl (hw.ok 3 _ rfl) hl80 hr19 rfl (zro zi_int _)) (fun a h => ?_)
              refine d_takeP h (fun _ => HS) HN 7 rfl (by kernel_rfl) (by kernel_rfl) (by kernel_rfl) (by decide) rfl rfl (by decide) (fun w' => x_bin h.k rfl rfl rfl (ib_add rfl)) (fun a h => ?_)
              refine d_alone 8 rfl (by kernel_rfl) (fun K hK => ?_)
              refine q_mapSet (T := tyI) (row := false) h rfl rfl rfl Try.underlying50 rfl 3 rfl keyI hm62 (x := a1.2.1) hr19 rfl (v := .int .i64 (w64 (((aget a1.2.1 ((x37, (aset a1 (a0.1.length : Int) a0.2.1), a0.2.2).2.2)).getD 0) + 1))) (q := w64 (((aget a1.2.1 ((x37, (aset a1 (a0.1.length : Int) a0.2.1), a0.2.2).2.2)).getD 0) + 1)) rfl ⟨rfl, (w64_r _)⟩ (fun a w es83 cl84 hm85 h => ?_)
              refine hK _ _ (fun hne _ => absurd rfl hne) ?_
              clear hK
              refine d_done (by kernel_rfl) (HE _ _ ?_) _
              refine e_thenN ?_
              have h := h.pick [0, 1, 2, 3, 5] (by decide) rfl
              exact ⟨((x37, (aset a1 (a0.1.length : Int) a0.2.1), a0.2.2).1, (x37, (aset a1 (a0.1.length : Int) a0.2.1), a0.2.2).2.1, (aset a1.2.1 (w64 (((aget a1.2.1 ((x37, (aset a1 (a0.1.length : Int) a0.2.1), a0.2.2).2.2)).getD 0) + 1)) (x37, (aset a1 (a0.1.length : Int) a0.2.1), a0.2.2).2.2)), A51, c52, cs53, g55, es56, cl57, g59, es83, cl84, (Option.some.inj hc64), hq54, hm58, hm85, h.has (by exact ⟨rfl, trivial⟩)⟩
            · rw [if_neg (of_decide_eq_false hb)] at hc64
              refine wp_skip ?_
              refine e_thenN ?_
              have h := h.pick [0, 1, 2, 3, 5] (by decide) rfl
              exact ⟨(x37, (aset a1 (a0.1.length : Int) a0.2.1), a0.2.2), A51, c52, cs53, g55, es56, cl57, g59, es60, cl61, (Option.some.inj hc64), hq54, hm58, hm62, h.has (by exact ⟨rfl, trivial⟩)⟩
          · rintro a w ⟨x65, A66, c67, cs68, g70, es71, cl72, g74, es75, cl76, rfl, hq69, hm73, hm77, h⟩
            refine c_rs ?_
            refine sMV h (fun a h => ?_)
            refine sAV h (fun a h => ?_)
            refine sAV h (fun a h => ?_)
            refine l_end ?_
            refine wp_ret ?_
            obtain rfl := Option.some.inj hf
            subst hB0
            exact r_ret2 h rfl (rv_tmp h rfl) (rv_tmp h rfl) ⟨_, [.box g1 52 ([.slice A66 x65.1.length c67, .map (some g70), .map (some g74)]), .row (.slice A66 x65.1.length c67) 46 3 x65.1.length cs68, .obj g70 (.map es71 cl72), .obj g74 (.map es75 cl76)], _, rfl, ⟨A66, c67, cs68, g70, es71, cl72, g74, es75, cl76, rfl, rfl, hr34, (show r64 0 from ⟨by decide, by decide⟩), hq69, hm73, hm77, trivial⟩, rfl, (Up.refl _ _ _), h.m⟩
def term_Store_Fresh_l0 (Fu : Nat) (a0 : (List (Int × Int × Int)) × (List ((Int × Int × Int) × Int)) × (List (Int × Int))) : Nat → Int → Int → Int → Option (Int × Int × ((List (Int × Int × Int)) × (List ((Int × Int × Int) × Int)) × (List (Int × Int))))
  | 0, _, _, _ => none
  | k + 1, x28, x30, x32 => if (!((aget (x28, x30, x32) a0.2.1).isSome)) = true then ((term_Store_Put Fu a0 (x28, x30, x32)).bind fun x41 => some x41) else (term_Store_Fresh_l0 Fu a0 k x28 x30 (w64 (x32 + 1)))
def term_Store_Fresh (Fu : Nat) (a0 : (List (Int × Int × Int)) × (List ((Int × Int × Int) × Int)) × (List (Int × Int))) (a1 : Int) : Option (Int × Int × ((List (Int × Int × Int)) × (List ((Int × Int × Int) × Int)) × (List (Int × Int)))) :=
  (term_Store_is Fu a0).bind fun x14 => (term_sort Fu a1).bind fun x17 => if (!x17) = true then (some (0, 2, a0)) else ((term_Store_Fresh_l0 Fu a0 Fu 1 a1 ((aget a1 a0.2.2).getD 0)).bind fun r61 => some r61)
set_option maxRecDepth 100000 in
set_option maxHeartbeats 2000000 in
theorem term_Store_Fresh_ok (Fu : Nat) {S0 : Snap} (a0 : (List (Int × Int × Int)) × (List ((Int × Int × Int) × Int)) × (List (Int × Int))) (g1 : Nat) (A2 : Option Addr) (c3 : Nat) (cs4 : List Value) (g6 : Nat) (es7 : Array MapEntry) (cl8 : Nat) (g10 : Nat) (es11 : Array MapEntry) (cl12 : Nat) (hq5 : reps (tyP tyI (tyP tyI tyI)) S0 cs4 a0.1) (hm9 : mpS keyT tyI false S0 es7 cl8 a0.2.1) (hm13 : mpS keyI tyI false S0 es11 cl12 a0.2.2) (a1 : Int) (hra1 : r64 a1) (r : Int × Int × ((List (Int × Int × Int)) × (List ((Int × Int × Int) × Int)) × (List (Int × Int)))) (hf : term_Store_Fresh Fu a0 a1 = some r) (w0 : World) (hm : Mem w0 (ownL ([.box g1 52 ([.slice A2 a0.1.length c3, .map (some g6), .map (some g10)]), .row (.slice A2 a0.1.length c3) 46 3 a0.1.length cs4, .obj g6 (.map es7 cl8), .obj g10 (.map es11 cl12)] ++ [.sn S0])) ([.box g1 52 ([.slice A2 a0.1.length c3, .map (some g6), .map (some g10)]), .row (.slice A2 a0.1.length c3) 46 3 a0.1.length cs4, .obj g6 (.map es7 cl8), .obj g10 (.map es11 cl12)] ++ [.sn S0]) w0) :
    Calls Try.prog 16 #[.pointer (some ⟨g1, 0, none⟩), .int .i64 a1] w0 (Ret w0 S0 [.box g1 52 ([.slice A2 a0.1.length c3, .map (some g6), .map (some g10)]), .row (.slice A2 a0.1.length c3) 46 3 a0.1.length cs4, .obj g6 (.map es7 cl8), .obj g10 (.map es11 cl12)] (fun v L1 S1 => ∃ (A64 : Option Addr), ∃ (c65 : Nat), ∃ (cs66 : List Value), ∃ (g68 : Nat), ∃ (es69 : Array MapEntry), ∃ (cl70 : Nat), ∃ (g72 : Nat), ∃ (es73 : Array MapEntry), ∃ (cl74 : Nat), v = .tuple #[.int .i64 r.1, .int .i64 r.2.1] ∧ L1 = [.box g1 52 ([.slice A64 r.2.2.1.length c65, .map (some g68), .map (some g72)]), .row (.slice A64 r.2.2.1.length c65) 46 3 r.2.2.1.length cs66, .obj g68 (.map es69 cl70), .obj g72 (.map es73 cl74)] ∧ r64 r.1 ∧ r64 r.2.1 ∧ reps (tyP tyI (tyP tyI tyI)) S1 cs66 r.2.2.1 ∧ mpS keyT tyI false S1 es69 cl70 r.2.2.2.1 ∧ mpS keyI tyI false S1 es73 cl74 r.2.2.2.2 ∧ True)) := by
  unfold term_Store_Fresh at hf
  obtain ⟨B0, hB0⟩ : ∃ B0, B0 = (ownL ([.box g1 52 ([.slice A2 a0.1.length c3, .map (some g6), .map (some g10)]), .row (.slice A2 a0.1.length c3) 46 3 a0.1.length cs4, .obj g6 (.map es7 cl8), .obj g10 (.map es11 cl12)] ++ [.sn S0])) := ⟨_, rfl⟩
  rw [← hB0] at hm
  refine c_enterM Try.func16 rfl 45 rfl (by simp) _ hm _ rfl (fun a h => ?_)
  refine c_rs ?_
  refine sAV h (fun a h => ?_)
  refine sAV h (fun a h => ?_)
  refine l_end ?_
  refine wp_seq ?_
  refine wp_block ?_
  refine c_rs ?_
  refine sMV h (fun a h => ?_)
  obtain ⟨x14, h15, hf⟩ := bsome hf
  have hX := term_Store_is_ok Fu (S0 := snapAll _) g1 a0 ⟨[.slice A2 a0.1.length c3, .map (some g6), .map (some g10)], h.m.boxAll (i := 0) rfl, ⟨[.slice A2 a0.1.length c3], [.map (some g6), .map (some g10)], rfl, ⟨_, _, rfl, h.m.rowAll (i := 1) rfl (j := 4) rfl hq5⟩, ⟨[.map (some g6)], [.map (some g10)], rfl, ⟨_, rfl, h.m.mapAll (i := 2) rfl (j := 4) rfl hm9⟩, ⟨_, rfl, h.m.mapAll (i := 3) rfl (j := 4) rfl hm13⟩⟩⟩⟩ _ h15 _ h.startAll
  refine q_callX hX h rfl rfl rfl (by decide) Try.func20 rfl rfl rfl (fun a w v L1 S1 hR hb1 h => ?_)
  obtain ⟨rfl, rfl, _⟩ := hR
  obtain rfl : x14 = true := by unfold term_Store_is at h15; exact (Option.some.inj h15).symm
  refine s_x h rfl rfl (by decide) (x_not h.k rfl rfl) (fun a h => ?_)
  refine sAV h (fun a h => ?_)
  refine l_end ?_
  refine c_cond h rfl (fun hb => ?_) (fun hb => ?_)
  · exact absurd hb (by decide)
  · refine c_rs ?_
    refine sMV h (fun a h => ?_)
    obtain ⟨x17, h18, hf⟩ := bsome hf
    have hX := term_sort_ok Fu (S0 := snapAll _) a1 hra1 _ h18 _ h.startAll
    refine q_callX hX h rfl rfl rfl (by decide) Try.func25 rfl rfl rfl (fun a w v L1 S1 hR hb1 h => ?_)
    obtain ⟨rfl, rfl, _⟩ := hR
    refine s_x h rfl rfl (by decide) (x_not h.k rfl rfl) (fun a h => ?_)
    refine sAV h (fun a h => ?_)
    refine l_end ?_
    refine c_cond h rfl (fun hb => ?_) (fun hb => ?_)
    · rw [if_pos hb] at hf
      refine c_rs ?_
      refine sAV h (fun a h => ?_)
      refine sAV h (fun a h => ?_)
      refine l_end ?_
      refine wp_ret ?_
      refine e_blkR ?_
      refine e_thenR ?_
      obtain rfl := Option.some.inj hf
      subst hB0
      exact r_ret2 h rfl (rv_tmp h rfl) (rv_tmp h rfl) ⟨_, [.box g1 52 ([.slice A2 a0.1.length c3, .map (some g6), .map (some g10)]), .row (.slice A2 a0.1.length c3) 46 3 a0.1.length cs4, .obj g6 (.map es7 cl8), .obj g10 (.map es11 cl12)], _, rfl, ⟨A2, c3, cs4, g6, es7, cl8, g10, es11, cl12, rfl, rfl, (show r64 0 from ⟨by decide, by decide⟩), (show r64 2 from ⟨by decide, by decide⟩), hq5, hm9, hm13, trivial⟩, rfl, (Up.refl _ _ _), h.m⟩
    · rw [if_neg (by rw [hb]; decide)] at hf
      refine wp_skip ?_
      refine e_blkN ?_
      refine e_thenN ?_
      refine c_rs ?_
      refine sMV h (fun a h => ?_)
      refine sMV h (fun a h => ?_)
      refine s_x h rfl rfl (by decide) (x_nil h.k rfl rfl) (fun a h => ?_)
      refine s_x h rfl rfl (by decide) (x_faddr h.k rfl Try.underlying52 rfl sz_M_int_int rfl) (fun a h => ?_)
      refine s_x h rfl rfl (by decide) (x_ld h.k rfl Try.underlying50 rfl rfl ((h.m.cell (i := 0) rfl 2).trans rfl)) (fun a h => ?_)
      refine sMV h (fun a h => ?_)
      obtain ⟨u20, hu21, hl22⟩ := mpS.look hm13 a1 (z := .int .i64 0) (z0 := 0) ⟨rfl, (show r64 0 from ⟨by decide, by decide⟩)⟩
      obtain ⟨e24, hr23⟩ := hu21
      cases e24
      refine s_x h rfl rfl (by decide) (x_lookE h.k rfl Try.underlying50 rfl (h.m.ok 3 _ rfl) hl22 hra1 rfl (zro zi_int _)) (fun a h => ?_)
      refine s_x h rfl rfl (by decide) (x_build h.k rfl [(0, .int .i64 1), (1, .int .i64 a1), (2, .int .i64 ((aget a1 a0.2.2).getD 0))] rfl ([.int .i64 1, .int .i64 a1, .int .i64 ((aget a1 a0.2.2).getD 0)]) (by kernel_rfl)) (fun a h => ?_)
      refine s_alloc h rfl rfl rfl (by decide) zi_api_Term rfl (fun a w g25 h => ?_)
      refine s_stW h rfl rfl rfl ag_api_Term rfl (es := [.int .i64 1, .int .i64 a1, .int .i64 ((aget a1 a0.2.2).getD 0)]) rfl rfl (by simp [Value.oneCell']) 0 rfl rfl (fun a w h => ?_)
      refine l_end ?_
      obtain ⟨o26, hl27, hf⟩ := bsome hf
      refine c_fin (fun _ _ => False) ?_ ?_
      · refine wp_block ?_
        have h := h.pick [1, 2, 3, 4, 0, 5] (by decide) rfl
        refine c_loop (fun m35 a w => ∃ (x28 : Int), ∃ (x30 : Int), ∃ (x32 : Int), term_Store_Fresh_l0 Fu a0 m35 x28 x30 x32 = some o26 ∧ r64 x28 ∧ r64 x30 ∧ r64 x32 ∧ St 45 w0 B0 [(0, .pointer (some ⟨g1, 0, none⟩)), (4, .int .i64 0), (5, .int .i64 0), (6, .pointer (some ⟨g25, 0, none⟩))] [.box g1 52 ([.slice A2 a0.1.length c3, .map (some g6), .map (some g10)]), .row (.slice A2 a0.1.length c3) 46 3 a0.1.length cs4, .obj g6 (.map es7 cl8), .obj g10 (.map es11 cl12), .box g25 46 ([.int .i64 x28, .int .i64 x30, .int .i64 x32]), .sn S0] a w) Fu ⟨1, a1, ((aget a1 a0.2.2).getD 0), hl27, (show r64 1 from ⟨by decide, by decide⟩), hra1, hr23, h.has (by exact ⟨rfl, rfl, rfl, rfl, trivial⟩)⟩ (fun m35 a w hI => ?_)
        obtain ⟨x28, x30, x32, hl34, hr29, hr31, hr33, h⟩ := hI
        obtain _ | m35 := m35
        · rw [term_Store_Fresh_l0] at hl34; cases hl34
        rw [term_Store_Fresh_l0] at hl34
        refine wp_block ?_
        refine wp_seq ?_
        refine wp_seq ?_
        -- region 6 draws
        refine d_start h (Mem _ _ _) 11 11 rfl (by kernel_rfl) (fun _ _ _ _ _ h => h) (fun _ h => h) (fun Q a w HE HN h HS => ?_)
        refine d_takeP h (fun _ => HS) HN 0 rfl (by kernel_rfl) (by kernel_rfl) (by kernel_rfl) (by decide) rfl rfl (by decide) (fun w' => x_move h.k _ rfl rfl) (fun a h => ?_)
        refine d_takeP h (fun _ => HS) HN 1 rfl (by kernel_rfl) (by kernel_rfl) (by kernel_rfl) (by decide) rfl rfl (by decide) (fun w' => x_nil h.k rfl rfl) (fun a h => ?_)
        refine d_takeP h (fun _ => HS) HN 2 rfl (by kernel_rfl) (by kernel_rfl) (by kernel_rfl) (by decide) rfl rfl (by decide) (fun w' => x_faddr h.k rfl Try.underlying52 rfl sz_M_api_Term_int rfl) (fun a h => ?_)
        refine d_take h HS HN 3 rfl (by kernel_rfl) (by kernel_rfl) (by kernel_rfl) (by kernel_rfl) (by kernel_rfl) rfl rfl (by decide) (fun w' hw => x_ld h.k rfl Try.underlying49 rfl rfl ((hw.cell (i := 0) rfl 1).trans rfl)) (fun a h => ?_)
        refine d_take h HS HN 4 rfl (by kernel_rfl) (by kernel_rfl) (by kernel_rfl) (by kernel_rfl) (by kernel_rfl) rfl rfl (by decide) (fun w' hw => x_ldR h.k rfl ag_api_Term rfl ([.int .i64 x28, .int .i64 x30, .int .i64 x32]) rfl (hw.range0 (i := 4) rfl)) (fun a h => ?_)
        obtain ⟨u36, hu37, hl38⟩ := mpS.look hm9 (x28, x30, x32) (z := .int .i64 0) (z0 := 0) ⟨rfl, (show r64 0 from ⟨by decide, by decide⟩)⟩
        obtain ⟨e40, hr39⟩ := hu37
        cases e40
        refine d_take h HS HN 5 rfl (by kernel_rfl) (by kernel_rfl) (by kernel_rfl) (by kernel_rfl) (by kernel_rfl) rfl rfl (by decide) (fun w' hw => x_lookE h.k rfl Try.underlying49 rfl (hw.ok 2 _ rfl) hl38 ⟨hr29, hr31, hr33⟩ rfl (zro zi_int _)) (fun a h => ?_)
        refine d_takeP h (fun _ => HS) HN 6 rfl (by kernel_rfl) (by kernel_rfl) (by kernel_rfl) (by decide) rfl rfl (by decide) (fun w' => x_move h.k _ rfl rfl) (fun a h => ?_)
        refine d_takeP h (fun _ => HS) HN 7 rfl (by kernel_rfl) (by kernel_rfl) (by kernel_rfl) (by decide) rfl rfl (by decide) (fun w' => x_ext h.k rfl rfl rfl) (fun a h => ?_)
        refine d_takeP h (fun _ => HS) HN 8 rfl (by kernel_rfl) (by kernel_rfl) (by kernel_rfl) (by decide) rfl rfl (by decide) (fun w' => x_ext h.k rfl rfl rfl) (fun a h => ?_)
        refine d_takeP h (fun _ => HS) HN 9 rfl (by kernel_rfl) (by kernel_rfl) (by kernel_rfl) (by decide) rfl rfl (by decide) (fun w' => x_assign h.k _ rfl rfl) (fun a h => ?_)
        refine d_takeP h (fun _ => HS) HN 10 rfl (by kernel_rfl) (by kernel_rfl) (by kernel_rfl) (by decide) rfl rfl (by decide) (fun w' => x_assign h.k _ rfl rfl) (fun a h => ?_)
        refine d_done (by kernel_rfl) (HE _ _ ?_) _
        refine e_thenN ?_
        refine c_rs ?_
        refine sMV h (fun a h => ?_)
        refine s_x h rfl rfl (by decide) (x_not h.k rfl rfl) (fun a h => ?_)
        refine l_end ?_
        refine c_cond h rfl (fun hb => ?_) (fun hb => ?_)
        · rw [if_pos hb] at hl34
          refine c_rs ?_
          refine sMV h (fun a h => ?_)
          refine s_x h rfl rfl (by decide) (x_ldR h.k rfl ag_api_Term rfl ([.int .i64 x28, .int .i64 x30, .int .i64 x32]) rfl (h.m.range0 (i := 4) rfl)) (fun a h => ?_)
          obtain ⟨x41, h42, hl34⟩ := bsome hl34
          have h := h.pick [0, 1, 2, 3, 5, 4] (by decide) rfl
          have hX := term_Store_Put_ok Fu (S0 := S0) a0 g1 A2 c3 cs4 g6 es7 cl8 g10 es11 cl12 hq5 hm9 hm13 ([.int .i64 x28, .int .i64 x30, .int .i64 x32]) (x28, x30, x32) (⟨[.int .i64 x28], [.int .i64 x30, .int .i64 x32], rfl, ⟨rfl, hr29⟩, ⟨[.int .i64 x30], [.int .i64 x32], rfl, ⟨rfl, hr31⟩, ⟨rfl, hr33⟩⟩⟩) _ h42 _ (h.sub (Ls := [.box g1 52 ([.slice A2 a0.1.length c3, .map (some g6), .map (some g10)]), .row (.slice A2 a0.1.length c3) 46 3 a0.1.length cs4, .obj g6 (.map es7 cl8), .obj g10 (.map es11 cl12)]))
          refine q_callY (Ls := [.box g1 52 ([.slice A2 a0.1.length c3, .map (some g6), .map (some g10)]), .row (.slice A2 a0.1.length c3) 46 3 a0.1.length cs4, .obj g6 (.map es7 cl8), .obj g10 (.map es11 cl12)]) hX h (Up.refl _ _ _) rfl rfl rfl (by decide) Try.func17 rfl rfl rfl (fun a w v L1 S44 hR le46 up45 h => ?_)
          obtain ⟨A49, c50, cs51, g53, es54, cl55, g57, es58, cl59, rfl, rfl, hr47, hr48, hq52, hm56, hm60, _⟩ := hR
          refine s_x h rfl rfl (by decide) (x_ext h.k rfl rfl rfl) (fun a h => ?_)
          refine s_x h rfl rfl (by decide) (x_ext h.k rfl rfl rfl) (fun a h => ?_)
          refine sAV h (fun a h => ?_)
          refine sAV h (fun a h => ?_)
          refine l_end ?_
          refine wp_ret ?_
          refine e_thenR ?_
          refine e_blkR ?_
          refine e_thenR ?_
          refine e_blkR ?_
          refine e_thenR ?_
          rw [← Option.some.inj hl34] at hf
          try dsimp only at hf
          rw [← Option.some.inj hf]
          subst hB0
          exact r_ret2 h rfl (rv_tmp h rfl) (rv_tmp h rfl) ⟨_, [.box g1 52 ([.slice A49 x41.2.2.1.length c50, .map (some g53), .map (some g57)]), .row (.slice A49 x41.2.2.1.length c50) 46 3 x41.2.2.1.length cs51, .obj g53 (.map es54 cl55), .obj g57 (.map es58 cl59)], _, rfl, ⟨A49, c50, cs51, g53, es54, cl55, g57, es58, cl59, rfl, rfl, hr47, hr48, hq52, hm56, hm60, trivial⟩, rfl, up45, (h.m.pick [0, 1, 2, 3, 4] _ (by decide) rfl)⟩
        · rw [if_neg (by rw [hb]; decide)] at hl34
          refine wp_skip ?_
          refine e_thenN ?_
          refine c_r ?_
          refine s_x h rfl rfl (by decide) (x_faddr h.k rfl Try.underlying46 rfl sz_int rfl) (fun a h => ?_)
          refine s_x h rfl rfl (by decide) (x_ld h.k rfl Try.underlying3 rfl rfl ((h.m.cell (i := 4) rfl 2).trans rfl)) (fun a h => ?_)
          refine s_x h rfl rfl (by decide) (x_bin h.k rfl rfl rfl (ib_add rfl)) (fun a h => ?_)
          refine s_x h rfl rfl (by decide) (x_faddr h.k rfl Try.underlying46 rfl sz_int rfl) (fun a h => ?_)
          refine s_stb h rfl rfl rfl sz_int rfl rfl rfl 4 rfl (by first | decide | simp) (fun a w h => ?_)
          refine l_nil ?_
          refine e_blkN ?_
          exact e_thenN ⟨m35, Nat.lt_succ_self _, x28, x30, w64 (x32 + 1), hl34, hr29, hr31, (w64_r _), h.has (by exact ⟨rfl, rfl, rfl, rfl, trivial⟩)⟩
      · exact fun a w hR => hR.elim
end
end Go.Proofs.Ytnjmlihmnkbgdaa
