/- An: Go functions as plain functions, and that they are so (written by xt.py). -/
import Derived.Test.YtoimllmmlbehgaaFi
import Derived.Test.YtoimllmmlbehgaaPc
import Derived.Test.YtoimllmmlbehgaaEb
set_option linter.unusedVariables false
set_option linter.unusedSimpArgs false
namespace Go.Proofs.Ytoimllmmlbehgaa
open Go.RowKit
def anchor_New (Fu : Nat) (a0 : List UInt8) (a1 : Int) : Option (Sum Int (((Int × (List UInt8) × (List UInt8)) × Int × Bool) × Int)) :=
  if ((decide (a1 < 0)) || (decide (1099511627776 < a1))) = true then (some (.inl 2)) else (some (.inr (((0, a0, (List.replicate 32 ((0 : UInt8) : UInt8))), a1, true), 0)))
set_option maxRecDepth 100000 in
set_option maxHeartbeats 2000000 in
theorem anchor_New_ok (Fu : Nat) {S0 : Snap} (csa0 : List Value) (a0 : List UInt8) (hsa0 : (tyA 32 ty8).rep S0 csa0 a0) (a1 : Int) (hra1 : r64 a1) (r : Sum Int (((Int × (List UInt8) × (List UInt8)) × Int × Bool) × Int)) (hf : anchor_New Fu a0 a1 = some r) (w0 : World) (hm : Mem w0 (ownL ([] ++ [.sn S0])) ([] ++ [.sn S0]) w0) :
    Calls Try.prog 69 #[.agg csa0.toArray, .int .i64 a1] w0 (Ret w0 S0 [] (fun v L1 S1 => (∃ r0, r = .inl r0 ∧ v = .tuple #[.pointer none, .int .i64 r0] ∧ L1 = [] ∧ r64 r0 ∧ True) ∨ (∃ r0, r = .inr r0 ∧ ∃ (g8 : Nat), ∃ (k10 : List Value), ∃ (k13 : List Value), v = .tuple #[.pointer (some ⟨g8, 0, none⟩), .int .i64 r0.2] ∧ L1 = [.box g8 104 (([.int .i64 r0.1.1.1] : List Value) ++ (k10 ++ (k13 ++ ([.int .i64 r0.1.2.1, .bool r0.1.2.2]))))] ∧ r64 r0.1.1.1 ∧ reps ty8 S1 k10 r0.1.1.2.1 ∧ r0.1.1.2.1.length = 32 ∧ reps ty8 S1 k13 r0.1.1.2.2 ∧ r0.1.1.2.2.length = 32 ∧ r64 r0.1.2.1 ∧ r64 r0.2 ∧ True))) := by
  unfold anchor_New at hf
  obtain ⟨hs1, hl2⟩ := hsa0
  refine c_enterM Try.func69 rfl 17 rfl (by simp) _ hm _ rfl (fun a h => ?_)
  refine c_rs ?_ -- region 0
  refine s_box h rfl rfl rfl (by decide) rfl (cs := csa0) (by rfl) (fun a w g3 h => ?_)
  refine s_assign h rfl _ rfl rfl (by decide) rfl (fun a h => ?_)
  refine s_assign h rfl _ rfl rfl (by decide) rfl (fun a h => ?_)
  refine l_end ?_
  refine wp_seq ?_
  refine c_rs ?_ -- region 1
  refine s_move h rfl _ rfl rfl (by decide) rfl (fun a h => ?_)
  refine s_x h rfl rfl (by decide) (x_bin h.k rfl rfl rfl ib_lss) (fun a h => ?_)
  refine s_move h rfl _ rfl rfl (by decide) rfl (fun a h => ?_)
  refine q_grp h 3 (t := 8) 11 ((decide (a1 < 0)) || (decide (1099511627776 < a1))) rfl (fun hB2 => ?_) (fun hB2 => ?_) (fun a w h => ?_)
  · refine g_no h rfl rfl rfl rfl hB2 rfl (by decide) (fun a h => ?_)
    refine g_no h rfl rfl rfl rfl hB2 rfl (by decide) (fun a h => ?_)
    refine s_x h rfl rfl (by decide) (x_pick (u' := undef) h.k rfl rfl (fun _ => rfl) (fun hh => absurd (hB2.symm.trans hh) (by decide))) (fun a h => ?_)
    exact (h.mid 2 rfl).val (by first | rfl | (rw [hB2]; first | rfl | simp))
  · refine g_yes h rfl rfl rfl rfl hB2 ?_
    refine s_move h rfl _ rfl rfl (by decide) rfl (fun a h => ?_)
    refine g_yes h rfl rfl rfl rfl hB2 ?_
    refine s_x h rfl rfl (by decide) (x_bin h.k rfl rfl rfl ib_gtr) (fun a h => ?_)
    refine s_x h rfl rfl (by decide) (x_pick (u' := undef) h.k rfl rfl (fun hh => absurd (hB2.symm.trans hh) (by decide)) (fun _ => rfl)) (fun a h => ?_)
    exact (h.mid 2 rfl).val (by first | rfl | (rw [hB2]; first | rfl | simp))
  refine l_end ?_
  refine c_cond h rfl (fun hb => ?_) (fun hb => ?_)
  · rw [if_pos hb] at hf
    refine c_rs ?_ -- region 2
    refine s_assign h rfl _ rfl rfl (by decide) rfl (fun a h => ?_)
    refine s_assign h rfl _ rfl rfl (by decide) rfl (fun a h => ?_)
    refine l_end ?_
    refine wp_ret ?_
    refine e_thenR ?_
    rw [← Option.some.inj hf]
    exact r_ret2 h rfl (rv_tmp h rfl) (rv_tmp h rfl) ⟨_, [], _, rfl, (.inl ⟨_, rfl, ⟨rfl, rfl, (show r64 2 from ⟨by decide, by decide⟩), trivial⟩⟩), rfl, (Up.refl _ _ _), (h.m.pick [1] _ (by decide) rfl)⟩
  · rw [if_neg (by rw [hb]; decide)] at hf
    refine wp_skip ?_
    refine e_thenN ?_
    refine c_rs ?_ -- region 3
    refine s_x h rfl rfl (by decide) (x_ldR h.k rfl ag_A32_uint8 rfl csa0 ((hs1).len.trans (by rw [hl2]; rfl)) (h.m.range0 (i := 0) rfl)) (fun a h => ?_)
    refine s_x h rfl rfl (by decide) (x_build h.k rfl [(1, .agg csa0.toArray)] rfl (([.int .i64 0] : List Value) ++ (csa0 ++ (List.replicate 32 (.int .u8 0 : Value)))) (builtS Try.underlying69 zi_api_Root (places := [(0, 1), (1, 32), (33, 32)]) (by kernel_rfl) (cs := ([.int .i64 0] : List Value) ++ ((List.replicate 32 (.int .u8 0 : Value)) ++ (List.replicate 32 (.int .u8 0 : Value)))) (by kernel_rfl) (built_step (X := [.int .i64 0]) (Y := (List.replicate 32 (.int .u8 0 : Value))) (Z := (List.replicate 32 (.int .u8 0 : Value))) (V := csa0) (off := 1) (n := 32) (by simp only [List.append_assoc, List.cons_append, List.nil_append, List.append_nil]) rfl rfl (by first | rfl | simp_all) rfl ((hs1).len.trans (by rw [hl2]; rfl)) (built_nil (by simp only [List.append_assoc, List.cons_append, List.nil_append, List.append_nil]))))) (fun a h => ?_)
    refine s_move h rfl _ rfl rfl (by decide) rfl (fun a h => ?_)
    refine s_x h rfl rfl (by decide) (x_build h.k rfl [(0, .agg (([.int .i64 0] : List Value) ++ (csa0 ++ (List.replicate 32 (.int .u8 0 : Value)))).toArray), (1, .int .i64 a1), (2, .bool true)] rfl (([.int .i64 0] : List Value) ++ (csa0 ++ ((List.replicate 32 (.int .u8 0 : Value)) ++ ([.int .i64 a1, .bool true])))) (builtS Try.underlying104 zi_anchor_Slot (places := [(0, 65), (65, 1), (66, 1)]) (by kernel_rfl) (cs := ([.int .i64 0] : List Value) ++ ((List.replicate 32 (.int .u8 0 : Value)) ++ ((List.replicate 32 (.int .u8 0 : Value)) ++ ([.int .i64 0, .bool false])))) (by kernel_rfl) (built_step (X := []) (Y := ([.int .i64 0] : List Value) ++ ((List.replicate 32 (.int .u8 0 : Value)) ++ (List.replicate 32 (.int .u8 0 : Value)))) (Z := ([.int .i64 0] : List Value) ++ ([.bool false])) (V := ([.int .i64 0] : List Value) ++ (csa0 ++ (List.replicate 32 (.int .u8 0 : Value)))) (off := 0) (n := 65) (by simp only [List.append_assoc, List.cons_append, List.nil_append, List.append_nil]) rfl rfl (show (([.int .i64 0] : List Value) ++ ((List.replicate 32 (.int .u8 0 : Value)) ++ (List.replicate 32 (.int .u8 0 : Value))) : List Value).length = 65 from by simp only [List.length_append, List.length_cons, List.length_nil, (show ((List.replicate 32 (.int .u8 0 : Value)) : List Value).length = 32 from (by first | rfl | simp_all))]) rfl (show (([.int .i64 0] : List Value) ++ (csa0 ++ (List.replicate 32 (.int .u8 0 : Value))) : List Value).length = 65 from by simp only [List.length_append, List.length_cons, List.length_nil, (show (csa0 : List Value).length = 32 from ((hs1).len.trans (by rw [hl2]; rfl))), (show ((List.replicate 32 (.int .u8 0 : Value)) : List Value).length = 32 from (by first | rfl | simp_all))]) (built_step (X := ([.int .i64 0] : List Value) ++ (csa0 ++ (List.replicate 32 (.int .u8 0 : Value)))) (Y := [.int .i64 0]) (Z := [.bool false]) (V := [.int .i64 a1]) (off := 65) (n := 1) (by simp only [List.append_assoc, List.cons_append, List.nil_append, List.append_nil]) rfl (show (([.int .i64 0] : List Value) ++ (csa0 ++ (List.replicate 32 (.int .u8 0 : Value))) : List Value).length = 65 from by simp only [List.length_append, List.length_cons, List.length_nil, (show (csa0 : List Value).length = 32 from ((hs1).len.trans (by rw [hl2]; rfl))), (show ((List.replicate 32 (.int .u8 0 : Value)) : List Value).length = 32 from (by first | rfl | simp_all))]) rfl rfl rfl (built_step (X := ([.int .i64 0] : List Value) ++ (csa0 ++ (List.replicate 32 (.int .u8 0 : Value))) ++ ([.int .i64 a1])) (Y := [.bool false]) (Z := []) (V := [.bool true]) (off := 66) (n := 1) (by simp only [List.append_assoc, List.cons_append, List.nil_append, List.append_nil]) rfl (show (([.int .i64 0] : List Value) ++ (csa0 ++ (List.replicate 32 (.int .u8 0 : Value))) ++ ([.int .i64 a1]) : List Value).length = 66 from by simp only [List.length_append, List.length_cons, List.length_nil, (show (csa0 : List Value).length = 32 from ((hs1).len.trans (by rw [hl2]; rfl))), (show ((List.replicate 32 (.int .u8 0 : Value)) : List Value).length = 32 from (by first | rfl | simp_all))]) rfl rfl rfl (built_nil (by simp only [List.append_assoc, List.cons_append, List.nil_append, List.append_nil]))))))) (fun a h => ?_)
    refine s_box h rfl rfl rfl (by decide) rfl (cs := ([.int .i64 0] : List Value) ++ (csa0 ++ ((List.replicate 32 (.int .u8 0 : Value)) ++ ([.int .i64 a1, .bool true])))) (by rfl) (fun a w g6 h => ?_)
    refine s_assign h rfl _ rfl rfl (by decide) rfl (fun a h => ?_)
    refine s_assign h rfl _ rfl rfl (by decide) rfl (fun a h => ?_)
    refine l_end ?_
    refine wp_ret ?_
    obtain rfl := Option.some.inj hf
    exact r_ret2 h rfl (rv_tmp h rfl) (rv_tmp h rfl) ⟨_, [.box g6 104 (([.int .i64 0] : List Value) ++ (csa0 ++ ((List.replicate 32 (.int .u8 0 : Value)) ++ ([.int .i64 a1, .bool true]))))], _, rfl, (.inr ⟨_, rfl, ⟨g6, csa0, (List.replicate 32 (.int .u8 0 : Value)), rfl, rfl, (show r64 0 from ⟨by decide, by decide⟩), hs1, hl2, (show reps ty8 S0 (List.replicate 32 (.int .u8 0 : Value)) (List.replicate 32 ((0 : UInt8) : UInt8)) from repsRep1 (x := ((0 : UInt8) : UInt8)) rfl), (show (List.replicate 32 ((0 : UInt8) : UInt8)).length = 32 from List.length_replicate), hra1, (show r64 0 from ⟨by decide, by decide⟩), trivial⟩⟩), rfl, (Up.refl _ _ _), (h.m.pick [0, 2] _ (by decide) rfl)⟩
def anchor_Slot_made (Fu : Nat) (a0 : (Int × (List UInt8) × (List UInt8)) × Int × Bool) : Option Bool :=
  some a0.2.2
set_option maxRecDepth 100000 in
set_option maxHeartbeats 2000000 in
theorem anchor_Slot_made_ok (Fu : Nat) {S0 : Snap} (ga0 : Nat) (a0 : (Int × (List UInt8) × (List UInt8)) × Int × Bool) (hpa0 : ptS (tyP (tyP tyI (tyP (tyA 32 ty8) (tyA 32 ty8))) (tyP tyI tyB)) S0 ga0 a0) (r : Bool) (hf : anchor_Slot_made Fu a0 = some r) (w0 : World) (hm : Mem w0 (ownL ([] ++ [.sn S0])) ([] ++ [.sn S0]) w0) :
    Calls Try.prog 70 #[.pointer (some ⟨ga0, 0, none⟩)] w0 (Ret w0 S0 [] (fun v L1 S1 => v = .bool r ∧ L1 = [] ∧ True)) := by
  unfold anchor_Slot_made at hf
  refine c_enterM Try.func70 rfl 11 rfl (by simp) _ hm _ rfl (fun a h => ?_)
  refine c_rs ?_ -- region 0
  refine s_assign h rfl _ rfl rfl (by decide) rfl (fun a h => ?_)
  refine l_end ?_
  refine c_rs ?_ -- region 1
  refine s_move h rfl _ rfl rfl (by decide) rfl (fun a h => ?_)
  refine s_x h rfl rfl (by decide) (x_neq_pn h.k rfl Try.underlying66 rfl rfl) (fun a h => ?_)
  refine s_move h rfl _ rfl rfl (by decide) rfl (fun a h => ?_)
  refine q_grp h 5 (t := 5) 10 a0.2.2 rfl (fun hB2 => ?_) (fun hB2 => ?_) (fun a w h => ?_)
  · refine g_yes h rfl rfl rfl rfl hB2 ?_
    refine s_move h rfl _ rfl rfl (by decide) rfl (fun a h => ?_)
    refine g_yes h rfl rfl rfl rfl hB2 ?_
    obtain ⟨k3, hc4, ⟨k5, k6, rfl, ⟨k7, k8, rfl, ⟨rfl, hr9⟩, ⟨k10, k11, rfl, ⟨hs12, hl13⟩, ⟨hs14, hl15⟩⟩⟩, ⟨k16, k17, rfl, ⟨rfl, hr18⟩, rfl⟩⟩⟩ := id hpa0
    refine s_x h rfl rfl (by decide) (x_nil h.k rfl rfl) (fun a h => ?_)
    refine g_yes h rfl rfl rfl rfl hB2 ?_
    refine s_x h rfl rfl (by decide) (x_faddr h.k rfl Try.underlying104 rfl sz_bool rfl) (fun a h => ?_)
    refine g_yes h rfl rfl rfl rfl hB2 ?_
    refine s_x h rfl rfl (by decide) (x_ld h.k rfl Try.underlying4 rfl rfl (hc4 _ (h.m.snOK (i := 0) rfl) 66 _ (cell_oneE (X := ([.int .i64 a0.1.1] : List Value) ++ (k10 ++ k11) ++ ([.int .i64 a0.2.1])) (Z := []) (off := 66) (u := .bool a0.2.2) (by simp only [List.append_assoc, List.cons_append, List.nil_append, List.append_nil]) (show (([.int .i64 a0.1.1] : List Value) ++ (k10 ++ k11) ++ ([.int .i64 a0.2.1]) : List Value).length = 66 from by simp only [List.length_append, List.length_cons, List.length_nil, (show (k10 : List Value).length = 32 from ((hs12).len.trans (by rw [hl13]; rfl))), (show (k11 : List Value).length = 32 from ((hs14).len.trans (by rw [hl15]; rfl)))])))) (fun a h => ?_)
    refine s_x h rfl rfl (by decide) (x_pick (u' := undef) h.k rfl rfl (fun _ => rfl) (fun hh => absurd (hB2.symm.trans hh) (by decide))) (fun a h => ?_)
    exact (h.mid 4 rfl).val (by first | rfl | (rw [hB2]; first | rfl | simp))
  · exact absurd hB2 (by decide)
  refine s_assign h rfl _ rfl rfl (by decide) rfl (fun a h => ?_)
  refine l_end ?_
  refine wp_ret ?_
  obtain rfl := Option.some.inj hf
  exact r_ret1 h rfl (rv_tmp h rfl) ⟨_, [], _, rfl, ⟨rfl, rfl, trivial⟩, rfl, (Up.refl _ _ _), h.m⟩
def anchor_Slot_made_nil0 (Fu : Nat) : Option Bool :=
  some false
set_option maxRecDepth 100000 in
set_option maxHeartbeats 2000000 in
theorem anchor_Slot_made_nil0_ok (Fu : Nat) {S0 : Snap}  (r : Bool) (hf : anchor_Slot_made_nil0 Fu = some r) (w0 : World) (hm : Mem w0 (ownL ([] ++ [.sn S0])) ([] ++ [.sn S0]) w0) :
    Calls Try.prog 70 #[.pointer none] w0 (Ret w0 S0 [] (fun v L1 S1 => v = .bool r ∧ L1 = [] ∧ True)) := by
  unfold anchor_Slot_made_nil0 at hf
  refine c_enterM Try.func70 rfl 11 rfl (by simp) _ hm _ rfl (fun a h => ?_)
  refine c_rs ?_ -- region 0
  refine s_assign h rfl _ rfl rfl (by decide) rfl (fun a h => ?_)
  refine l_end ?_
  refine c_rs ?_ -- region 1
  refine s_move h rfl _ rfl rfl (by decide) rfl (fun a h => ?_)
  refine s_x h rfl rfl (by decide) (x_neq_nn h.k rfl Try.underlying66 rfl rfl) (fun a h => ?_)
  refine s_move h rfl _ rfl rfl (by decide) rfl (fun a h => ?_)
  refine q_grp h 5 (t := 5) 10 false rfl (fun hB2 => ?_) (fun hB2 => ?_) (fun a w h => ?_)
  · exact absurd hB2 (by decide)
  · refine g_no h rfl rfl rfl rfl hB2 rfl (by decide) (fun a h => ?_)
    refine g_no h rfl rfl rfl rfl hB2 rfl (by decide) (fun a h => ?_)
    refine g_no h rfl rfl rfl rfl hB2 rfl (by decide) (fun a h => ?_)
    refine g_no h rfl rfl rfl rfl hB2 rfl (by decide) (fun a h => ?_)
    refine s_x h rfl rfl (by decide) (x_pick (u' := undef) h.k rfl rfl (fun hh => absurd (hB2.symm.trans hh) (by decide)) (fun _ => rfl)) (fun a h => ?_)
    exact (h.mid 4 rfl).val (by first | rfl | (rw [hB2]; first | rfl | simp))
  refine s_assign h rfl _ rfl rfl (by decide) rfl (fun a h => ?_)
  refine l_end ?_
  refine wp_ret ?_
  rw [← Option.some.inj hf]
  exact r_ret1 h rfl (rv_tmp h rfl) ⟨_, [], _, rfl, ⟨rfl, rfl, trivial⟩, rfl, (Up.refl _ _ _), h.m⟩
def anchor_Slot_Get (Fu : Nat) (a0 : (Int × (List UInt8) × (List UInt8)) × Int × Bool) : Option ((Int × (List UInt8) × (List UInt8))) :=
  (anchor_Slot_made Fu a0).bind fun x2 => if (!x2) = true then (some (0, (List.replicate 32 ((0 : UInt8) : UInt8)), (List.replicate 32 ((0 : UInt8) : UInt8)))) else (some a0.1)
set_option maxRecDepth 100000 in
set_option maxHeartbeats 2000000 in
theorem anchor_Slot_Get_ok (Fu : Nat) {S0 : Snap} (ga0 : Nat) (a0 : (Int × (List UInt8) × (List UInt8)) × Int × Bool) (hpa0 : ptS (tyP (tyP tyI (tyP (tyA 32 ty8) (tyA 32 ty8))) (tyP tyI tyB)) S0 ga0 a0) (r : (Int × (List UInt8) × (List UInt8))) (hf : anchor_Slot_Get Fu a0 = some r) (w0 : World) (hm : Mem w0 (ownL ([] ++ [.sn S0])) ([] ++ [.sn S0]) w0) :
    Calls Try.prog 38 #[.pointer (some ⟨ga0, 0, none⟩)] w0 (Ret w0 S0 [] (fun v L1 S1 => ∃ (k21 : List Value), v = .agg k21.toArray ∧ L1 = [] ∧ (tyP tyI (tyP (tyA 32 ty8) (tyA 32 ty8))).rep S1 k21 r ∧ True)) := by
  unfold anchor_Slot_Get at hf
  refine c_enterM Try.func38 rfl 11 rfl (by simp) _ hm _ rfl (fun a h => ?_)
  refine c_rs ?_ -- region 0
  refine s_alloc h rfl rfl rfl (by decide) zi_api_Root rfl (fun a w g1 h => ?_)
  refine l_end ?_
  refine wp_seq ?_
  refine c_rs ?_ -- region 1
  refine s_move h rfl _ rfl rfl (by decide) rfl (fun a h => ?_)
  obtain ⟨x2, h3, hf⟩ := bsome hf
  have hX := anchor_Slot_made_ok Fu (S0 := snapAll _) ga0 a0 (hpa0.mono (h.m.leAll (i := 1) rfl)) _ h3 _ h.startAll
  refine q_callX hX h rfl rfl rfl (by decide) Try.func70 rfl rfl rfl (fun a w v L1 S1 hR hb1 h => ?_)
  obtain ⟨rfl, rfl, _⟩ := hR
  refine s_x h rfl rfl (by decide) (x_not h.k rfl rfl) (fun a h => ?_)
  refine l_end ?_
  refine c_cond h rfl (fun hb => ?_) (fun hb => ?_)
  · rw [if_pos hb] at hf
    refine c_rs ?_ -- region 2
    refine s_x h rfl rfl (by decide) (x_build h.k rfl [] rfl (([.int .i64 0] : List Value) ++ ((List.replicate 32 (.int .u8 0 : Value)) ++ (List.replicate 32 (.int .u8 0 : Value)))) (by kernel_rfl)) (fun a h => ?_)
    refine s_stW h rfl rfl rfl ag_api_Root rfl (es := ([.int .i64 0] : List Value) ++ ((List.replicate 32 (.int .u8 0 : Value)) ++ (List.replicate 32 (.int .u8 0 : Value)))) rfl (show (([.int .i64 0] : List Value) ++ ((List.replicate 32 (.int .u8 0 : Value)) ++ (List.replicate 32 (.int .u8 0 : Value))) : List Value).length = 65 from by simp only [List.length_append, List.length_cons, List.length_nil, (show ((List.replicate 32 (.int .u8 0 : Value)) : List Value).length = 32 from (by first | rfl | simp_all))]) ((tyP tyI (tyP (tyA 32 ty8) (tyA 32 ty8))).one (show (tyP tyI (tyP (tyA 32 ty8) (tyA 32 ty8))).rep S0 (([.int .i64 0] : List Value) ++ ((List.replicate 32 (.int .u8 0 : Value)) ++ (List.replicate 32 (.int .u8 0 : Value)))) (0, (List.replicate 32 ((0 : UInt8) : UInt8)), (List.replicate 32 ((0 : UInt8) : UInt8))) from ⟨[.int .i64 0], (List.replicate 32 (.int .u8 0 : Value)) ++ (List.replicate 32 (.int .u8 0 : Value)), rfl, ⟨rfl, (show r64 0 from ⟨by decide, by decide⟩)⟩, ⟨(List.replicate 32 (.int .u8 0 : Value)), (List.replicate 32 (.int .u8 0 : Value)), rfl, ⟨(show reps ty8 S0 (List.replicate 32 (.int .u8 0 : Value)) (List.replicate 32 ((0 : UInt8) : UInt8)) from repsRep1 (x := ((0 : UInt8) : UInt8)) rfl), (show (List.replicate 32 ((0 : UInt8) : UInt8)).length = 32 from List.length_replicate)⟩, ⟨(show reps ty8 S0 (List.replicate 32 (.int .u8 0 : Value)) (List.replicate 32 ((0 : UInt8) : UInt8)) from repsRep1 (x := ((0 : UInt8) : UInt8)) rfl), (show (List.replicate 32 ((0 : UInt8) : UInt8)).length = 32 from List.length_replicate)⟩⟩⟩)) 0 rfl (show (([.int .i64 0] : List Value) ++ ((List.replicate 32 (.int .u8 0 : Value)) ++ (List.replicate 32 (.int .u8 0 : Value))) : List Value).length = 65 from by simp only [List.length_append, List.length_cons, List.length_nil, (show ((List.replicate 32 (.int .u8 0 : Value)) : List Value).length = 32 from (by first | rfl | simp_all))]) (fun a w h => ?_)
    refine l_end ?_
    refine wp_ret ?_
    refine e_thenR ?_
    obtain rfl := Option.some.inj hf
    exact r_ret1 h rfl (rv_cellA h rfl 0 rfl ag_api_Root (show (([.int .i64 0] : List Value) ++ ((List.replicate 32 (.int .u8 0 : Value)) ++ (List.replicate 32 (.int .u8 0 : Value))) : List Value).length = 65 from by simp only [List.length_append, List.length_cons, List.length_nil, (show ((List.replicate 32 (.int .u8 0 : Value)) : List Value).length = 32 from (by first | rfl | simp_all))])) ⟨_, [], _, rfl, ⟨([.int .i64 0] : List Value) ++ ((List.replicate 32 (.int .u8 0 : Value)) ++ (List.replicate 32 (.int .u8 0 : Value))), rfl, rfl, ⟨[.int .i64 0], (List.replicate 32 (.int .u8 0 : Value)) ++ (List.replicate 32 (.int .u8 0 : Value)), rfl, ⟨rfl, (show r64 0 from ⟨by decide, by decide⟩)⟩, ⟨(List.replicate 32 (.int .u8 0 : Value)), (List.replicate 32 (.int .u8 0 : Value)), rfl, ⟨(show reps ty8 S0 (List.replicate 32 (.int .u8 0 : Value)) (List.replicate 32 ((0 : UInt8) : UInt8)) from repsRep1 (x := ((0 : UInt8) : UInt8)) rfl), (show (List.replicate 32 ((0 : UInt8) : UInt8)).length = 32 from List.length_replicate)⟩, ⟨(show reps ty8 S0 (List.replicate 32 (.int .u8 0 : Value)) (List.replicate 32 ((0 : UInt8) : UInt8)) from repsRep1 (x := ((0 : UInt8) : UInt8)) rfl), (show (List.replicate 32 ((0 : UInt8) : UInt8)).length = 32 from List.length_replicate)⟩⟩⟩, trivial⟩, rfl, (Up.refl _ _ _), (h.m.pick [1] _ (by decide) rfl)⟩
  · rw [if_neg (by rw [hb]; decide)] at hf
    refine wp_skip ?_
    refine e_thenN ?_
    refine c_rs ?_ -- region 3
    refine s_move h rfl _ rfl rfl (by decide) rfl (fun a h => ?_)
    obtain ⟨k5, hc6, ⟨k7, k8, rfl, ⟨k9, k10, rfl, ⟨rfl, hr11⟩, ⟨k12, k13, rfl, ⟨hs14, hl15⟩, ⟨hs16, hl17⟩⟩⟩, ⟨k18, k19, rfl, ⟨rfl, hr20⟩, rfl⟩⟩⟩ := id hpa0
    refine s_x h rfl rfl (by decide) (x_nil h.k rfl rfl) (fun a h => ?_)
    refine s_x h rfl rfl (by decide) (x_faddr h.k rfl Try.underlying104 rfl sz_api_Root rfl) (fun a h => ?_)
    refine s_x h rfl rfl (by decide) (x_ldR h.k rfl ag_api_Root rfl (([.int .i64 a0.1.1] : List Value) ++ (k12 ++ k13)) (show (([.int .i64 a0.1.1] : List Value) ++ (k12 ++ k13) : List Value).length = 65 from by simp only [List.length_append, List.length_cons, List.length_nil, (show (k12 : List Value).length = 32 from ((hs14).len.trans (by rw [hl15]; rfl))), (show (k13 : List Value).length = 32 from ((hs16).len.trans (by rw [hl17]; rfl)))]) (rangeMidA (X := []) (Y := ([.int .i64 a0.1.1] : List Value) ++ (k12 ++ k13)) (Z := ([.int .i64 a0.2.1] : List Value) ++ ([.bool a0.2.2])) (off := 0) (hc6 _ (h.m.snOK (i := 1) rfl)) (by simp only [List.append_assoc, List.cons_append, List.nil_append, List.append_nil]) rfl)) (fun a h => ?_)
    refine s_stW h rfl rfl rfl ag_api_Root rfl (es := ([.int .i64 a0.1.1] : List Value) ++ (k12 ++ k13)) rfl (show (([.int .i64 a0.1.1] : List Value) ++ (k12 ++ k13) : List Value).length = 65 from by simp only [List.length_append, List.length_cons, List.length_nil, (show (k12 : List Value).length = 32 from ((hs14).len.trans (by rw [hl15]; rfl))), (show (k13 : List Value).length = 32 from ((hs16).len.trans (by rw [hl17]; rfl)))]) ((tyP tyI (tyP (tyA 32 ty8) (tyA 32 ty8))).one (show (tyP tyI (tyP (tyA 32 ty8) (tyA 32 ty8))).rep S0 (([.int .i64 a0.1.1] : List Value) ++ (k12 ++ k13)) a0.1 from ⟨[.int .i64 a0.1.1], k12 ++ k13, rfl, ⟨rfl, hr11⟩, ⟨k12, k13, rfl, ⟨hs14, hl15⟩, ⟨hs16, hl17⟩⟩⟩)) 0 rfl (show (([.int .i64 0] : List Value) ++ ((List.replicate 32 (.int .u8 0 : Value)) ++ (List.replicate 32 (.int .u8 0 : Value))) : List Value).length = 65 from by simp only [List.length_append, List.length_cons, List.length_nil, (show ((List.replicate 32 (.int .u8 0 : Value)) : List Value).length = 32 from (by first | rfl | simp_all))]) (fun a w h => ?_)
    refine l_end ?_
    refine wp_ret ?_
    obtain rfl := Option.some.inj hf
    exact r_ret1 h rfl (rv_cellA h rfl 0 rfl ag_api_Root (show (([.int .i64 a0.1.1] : List Value) ++ (k12 ++ k13) : List Value).length = 65 from by simp only [List.length_append, List.length_cons, List.length_nil, (show (k12 : List Value).length = 32 from ((hs14).len.trans (by rw [hl15]; rfl))), (show (k13 : List Value).length = 32 from ((hs16).len.trans (by rw [hl17]; rfl)))])) ⟨_, [], _, rfl, ⟨([.int .i64 a0.1.1] : List Value) ++ (k12 ++ k13), rfl, rfl, ⟨[.int .i64 a0.1.1], k12 ++ k13, rfl, ⟨rfl, hr11⟩, ⟨k12, k13, rfl, ⟨hs14, hl15⟩, ⟨hs16, hl17⟩⟩⟩, trivial⟩, rfl, (Up.refl _ _ _), (h.m.pick [1] _ (by decide) rfl)⟩
def anchor_Slot_Get_nil0 (Fu : Nat) : Option ((Int × (List UInt8) × (List UInt8))) :=
  (anchor_Slot_made_nil0 Fu).bind fun x2 => some (0, (List.replicate 32 ((0 : UInt8) : UInt8)), (List.replicate 32 ((0 : UInt8) : UInt8)))
set_option maxRecDepth 100000 in
set_option maxHeartbeats 2000000 in
theorem anchor_Slot_Get_nil0_ok (Fu : Nat) {S0 : Snap}  (r : (Int × (List UInt8) × (List UInt8))) (hf : anchor_Slot_Get_nil0 Fu = some r) (w0 : World) (hm : Mem w0 (ownL ([] ++ [.sn S0])) ([] ++ [.sn S0]) w0) :
    Calls Try.prog 38 #[.pointer none] w0 (Ret w0 S0 [] (fun v L1 S1 => ∃ (k5 : List Value), v = .agg k5.toArray ∧ L1 = [] ∧ (tyP tyI (tyP (tyA 32 ty8) (tyA 32 ty8))).rep S1 k5 r ∧ True)) := by
  unfold anchor_Slot_Get_nil0 at hf
  refine c_enterM Try.func38 rfl 11 rfl (by simp) _ hm _ rfl (fun a h => ?_)
  refine c_rs ?_ -- region 0
  refine s_alloc h rfl rfl rfl (by decide) zi_api_Root rfl (fun a w g1 h => ?_)
  refine l_end ?_
  refine wp_seq ?_
  refine c_rs ?_ -- region 1
  refine s_move h rfl _ rfl rfl (by decide) rfl (fun a h => ?_)
  obtain ⟨x2, h3, hf⟩ := bsome hf
  have hX := anchor_Slot_made_nil0_ok Fu (S0 := snapAll _)  _ h3 _ h.startAll
  refine q_callX hX h rfl rfl rfl (by decide) Try.func70 rfl rfl rfl (fun a w v L1 S1 hR hb1 h => ?_)
  obtain ⟨rfl, rfl, _⟩ := hR
  obtain rfl : x2 = false := by unfold anchor_Slot_made_nil0 at h3; exact (Option.some.inj h3).symm
  refine s_x h rfl rfl (by decide) (x_not h.k rfl rfl) (fun a h => ?_)
  refine l_end ?_
  refine c_cond h rfl (fun hb => ?_) (fun hb => ?_)
  · refine c_rs ?_ -- region 2
    refine s_x h rfl rfl (by decide) (x_build h.k rfl [] rfl (([.int .i64 0] : List Value) ++ ((List.replicate 32 (.int .u8 0 : Value)) ++ (List.replicate 32 (.int .u8 0 : Value)))) (by kernel_rfl)) (fun a h => ?_)
    refine s_stW h rfl rfl rfl ag_api_Root rfl (es := ([.int .i64 0] : List Value) ++ ((List.replicate 32 (.int .u8 0 : Value)) ++ (List.replicate 32 (.int .u8 0 : Value)))) rfl (show (([.int .i64 0] : List Value) ++ ((List.replicate 32 (.int .u8 0 : Value)) ++ (List.replicate 32 (.int .u8 0 : Value))) : List Value).length = 65 from by simp only [List.length_append, List.length_cons, List.length_nil, (show ((List.replicate 32 (.int .u8 0 : Value)) : List Value).length = 32 from (by first | rfl | simp_all))]) ((tyP tyI (tyP (tyA 32 ty8) (tyA 32 ty8))).one (show (tyP tyI (tyP (tyA 32 ty8) (tyA 32 ty8))).rep S0 (([.int .i64 0] : List Value) ++ ((List.replicate 32 (.int .u8 0 : Value)) ++ (List.replicate 32 (.int .u8 0 : Value)))) (0, (List.replicate 32 ((0 : UInt8) : UInt8)), (List.replicate 32 ((0 : UInt8) : UInt8))) from ⟨[.int .i64 0], (List.replicate 32 (.int .u8 0 : Value)) ++ (List.replicate 32 (.int .u8 0 : Value)), rfl, ⟨rfl, (show r64 0 from ⟨by decide, by decide⟩)⟩, ⟨(List.replicate 32 (.int .u8 0 : Value)), (List.replicate 32 (.int .u8 0 : Value)), rfl, ⟨(show reps ty8 S0 (List.replicate 32 (.int .u8 0 : Value)) (List.replicate 32 ((0 : UInt8) : UInt8)) from repsRep1 (x := ((0 : UInt8) : UInt8)) rfl), (show (List.replicate 32 ((0 : UInt8) : UInt8)).length = 32 from List.length_replicate)⟩, ⟨(show reps ty8 S0 (List.replicate 32 (.int .u8 0 : Value)) (List.replicate 32 ((0 : UInt8) : UInt8)) from repsRep1 (x := ((0 : UInt8) : UInt8)) rfl), (show (List.replicate 32 ((0 : UInt8) : UInt8)).length = 32 from List.length_replicate)⟩⟩⟩)) 0 rfl (show (([.int .i64 0] : List Value) ++ ((List.replicate 32 (.int .u8 0 : Value)) ++ (List.replicate 32 (.int .u8 0 : Value))) : List Value).length = 65 from by simp only [List.length_append, List.length_cons, List.length_nil, (show ((List.replicate 32 (.int .u8 0 : Value)) : List Value).length = 32 from (by first | rfl | simp_all))]) (fun a w h => ?_)
    refine l_end ?_
    refine wp_ret ?_
    refine e_thenR ?_
    obtain rfl := Option.some.inj hf
    exact r_ret1 h rfl (rv_cellA h rfl 0 rfl ag_api_Root (show (([.int .i64 0] : List Value) ++ ((List.replicate 32 (.int .u8 0 : Value)) ++ (List.replicate 32 (.int .u8 0 : Value))) : List Value).length = 65 from by simp only [List.length_append, List.length_cons, List.length_nil, (show ((List.replicate 32 (.int .u8 0 : Value)) : List Value).length = 32 from (by first | rfl | simp_all))])) ⟨_, [], _, rfl, ⟨([.int .i64 0] : List Value) ++ ((List.replicate 32 (.int .u8 0 : Value)) ++ (List.replicate 32 (.int .u8 0 : Value))), rfl, rfl, ⟨[.int .i64 0], (List.replicate 32 (.int .u8 0 : Value)) ++ (List.replicate 32 (.int .u8 0 : Value)), rfl, ⟨rfl, (show r64 0 from ⟨by decide, by decide⟩)⟩, ⟨(List.replicate 32 (.int .u8 0 : Value)), (List.replicate 32 (.int .u8 0 : Value)), rfl, ⟨(show reps ty8 S0 (List.replicate 32 (.int .u8 0 : Value)) (List.replicate 32 ((0 : UInt8) : UInt8)) from repsRep1 (x := ((0 : UInt8) : UInt8)) rfl), (show (List.replicate 32 ((0 : UInt8) : UInt8)).length = 32 from List.length_replicate)⟩, ⟨(show reps ty8 S0 (List.replicate 32 (.int .u8 0 : Value)) (List.replicate 32 ((0 : UInt8) : UInt8)) from repsRep1 (x := ((0 : UInt8) : UInt8)) rfl), (show (List.replicate 32 ((0 : UInt8) : UInt8)).length = 32 from List.length_replicate)⟩⟩⟩, trivial⟩, rfl, (Up.refl _ _ _), (h.m.pick [1] _ (by decide) rfl)⟩
  · exact absurd hb (by decide)
def anchor_Slot_Can (Fu : Nat) (a0 : (Int × (List UInt8) × (List UInt8)) × Int × Bool) : Option Bool :=
  (anchor_Slot_made Fu a0).bind fun x1 => some (x1 && (decide (a0.1.1 < a0.2.1)))
set_option maxRecDepth 100000 in
set_option maxHeartbeats 2000000 in
theorem anchor_Slot_Can_ok (Fu : Nat) {S0 : Snap} (ga0 : Nat) (a0 : (Int × (List UInt8) × (List UInt8)) × Int × Bool) (hpa0 : ptS (tyP (tyP tyI (tyP (tyA 32 ty8) (tyA 32 ty8))) (tyP tyI tyB)) S0 ga0 a0) (r : Bool) (hf : anchor_Slot_Can Fu a0 = some r) (w0 : World) (hm : Mem w0 (ownL ([] ++ [.sn S0])) ([] ++ [.sn S0]) w0) :
    Calls Try.prog 39 #[.pointer (some ⟨ga0, 0, none⟩)] w0 (Ret w0 S0 [] (fun v L1 S1 => v = .bool r ∧ L1 = [] ∧ True)) := by
  unfold anchor_Slot_Can at hf
  refine c_enterM Try.func39 rfl 17 rfl (by simp) _ hm _ rfl (fun a h => ?_)
  refine c_rs ?_ -- region 0
  refine s_assign h rfl _ rfl rfl (by decide) rfl (fun a h => ?_)
  refine l_end ?_
  refine wp_seq ?_
  -- region 1 draws
  obtain ⟨x1, h2, hf⟩ := bsome hf
  refine c_fin (fun a w => St 17 w0 (ownL ([] ++ [.sn S0])) [(2, .bool (x1 && (decide (a0.1.1 < a0.2.1))))] [.sn S0] a w) ?_ (fun a w h => ?_)
  · refine d_start h (Mem _ _ _) 15 15 rfl (by kernel_rfl) (fun _ _ _ _ _ h => h) (fun _ h => h) (fun Q a w HE HN h HS => ?_)
    refine d_takeP h (fun _ => HS) HN 0 rfl (by kernel_rfl) (by kernel_rfl) (by kernel_rfl) (by decide) rfl rfl (by decide) (fun w' => x_move h.k _ rfl rfl) (fun a h => ?_)
    refine d_alone 1 rfl (by kernel_rfl) (fun K hK => ?_)
    have hX := anchor_Slot_made_ok Fu (S0 := snapAll _) ga0 a0 (hpa0.mono (h.m.leAll (i := 0) rfl)) _ h2 _ h.startAll
    refine q_callX hX h rfl rfl rfl (by decide) Try.func70 rfl rfl rfl (fun a w v L1 S1 hR hb1 h => ?_)
    obtain ⟨rfl, rfl, _⟩ := hR
    refine hK _ _ (fun _ _ => HS.ext hb1) ?_
    replace HS := HS.ext hb1
    clear hK
    refine d_takeP h (fun _ => HS) HN 2 rfl (by kernel_rfl) (by kernel_rfl) (by kernel_rfl) (by decide) rfl rfl (by decide) (fun w' => x_move h.k _ rfl rfl) (fun a h => ?_)
    refine d_split (t := 5) h rfl (fun hB2 => ?_) (fun hB2 => ?_)
    · refine d_takeP h (fun _ => HS) HN 3 rfl (by kernel_rfl) (by kernel_rfl) (by kernel_rfl) (by decide) (by rw [g_want h rfl rfl rfl rfl hB2]; rfl) rfl (by decide) (fun w' => x_move h.k _ rfl rfl) (fun a h => ?_)
      obtain ⟨k6, hc7, ⟨k8, k9, rfl, ⟨k10, k11, rfl, ⟨rfl, hr12⟩, ⟨k13, k14, rfl, ⟨hs15, hl16⟩, ⟨hs17, hl18⟩⟩⟩, ⟨k19, k20, rfl, ⟨rfl, hr21⟩, rfl⟩⟩⟩ := id hpa0
      refine d_takeP h (fun _ => HS) HN 4 rfl (by kernel_rfl) (by kernel_rfl) (by kernel_rfl) (by decide) (by rw [g_want h rfl rfl rfl rfl hB2]; rfl) rfl (by decide) (fun w' => x_nil h.k rfl rfl) (fun a h => ?_)
      refine d_takeP h (fun _ => HS) HN 5 rfl (by kernel_rfl) (by kernel_rfl) (by kernel_rfl) (by decide) (by rw [g_want h rfl rfl rfl rfl hB2]; rfl) rfl (by decide) (fun w' => x_faddr h.k rfl Try.underlying104 rfl sz_api_Root rfl) (fun a h => ?_)
      refine d_takeP h (fun _ => HS) HN 6 rfl (by kernel_rfl) (by kernel_rfl) (by kernel_rfl) (by decide) (by rw [g_want h rfl rfl rfl rfl hB2]; rfl) rfl (by decide) (fun w' => x_faddr h.k rfl Try.underlying69 rfl sz_int rfl) (fun a h => ?_)
      refine d_takeY h HS HN 7 rfl (by kernel_rfl) (by kernel_rfl) (by kernel_rfl) (by kernel_rfl) (by kernel_rfl) (by rw [g_want h rfl rfl rfl rfl hB2]; rfl) rfl (by decide) (fun w' hw => x_ld h.k rfl Try.underlying3 rfl rfl (hc7 _ (hw.snOK (i := 0) rfl) 0 _ (cell_oneE (X := []) (Z := k13 ++ (k14 ++ (([.int .i64 a0.2.1] : List Value) ++ ([.bool a0.2.2])))) (off := 0) (u := .int .i64 a0.1.1) (by simp only [List.append_assoc, List.cons_append, List.nil_append, List.append_nil]) rfl))) (fun a h => ?_)
      refine d_takeP h (fun _ => HS) HN 8 rfl (by kernel_rfl) (by kernel_rfl) (by kernel_rfl) (by decide) (by rw [g_want h rfl rfl rfl rfl hB2]; rfl) rfl (by decide) (fun w' => x_move h.k _ rfl rfl) (fun a h => ?_)
      obtain ⟨k22, hc23, ⟨k24, k25, rfl, ⟨k26, k27, rfl, ⟨rfl, hr28⟩, ⟨k29, k30, rfl, ⟨hs31, hl32⟩, ⟨hs33, hl34⟩⟩⟩, ⟨k35, k36, rfl, ⟨rfl, hr37⟩, rfl⟩⟩⟩ := id hpa0
      refine d_takeP h (fun _ => HS) HN 9 rfl (by kernel_rfl) (by kernel_rfl) (by kernel_rfl) (by decide) (by rw [g_want h rfl rfl rfl rfl hB2]; rfl) rfl (by decide) (fun w' => x_nil h.k rfl rfl) (fun a h => ?_)
      refine d_takeP h (fun _ => HS) HN 10 rfl (by kernel_rfl) (by kernel_rfl) (by kernel_rfl) (by decide) (by rw [g_want h rfl rfl rfl rfl hB2]; rfl) rfl (by decide) (fun w' => x_faddr h.k rfl Try.underlying104 rfl sz_int rfl) (fun a h => ?_)
      refine d_takeY h HS HN 11 rfl (by kernel_rfl) (by kernel_rfl) (by kernel_rfl) (by kernel_rfl) (by kernel_rfl) (by rw [g_want h rfl rfl rfl rfl hB2]; rfl) rfl (by decide) (fun w' hw => x_ld h.k rfl Try.underlying3 rfl rfl (hc23 _ (hw.snOK (i := 0) rfl) 65 _ (cell_oneE (X := ([.int .i64 a0.1.1] : List Value) ++ (k29 ++ k30)) (Z := [.bool a0.2.2]) (off := 65) (u := .int .i64 a0.2.1) (by simp only [List.append_assoc, List.cons_append, List.nil_append, List.append_nil]) (show (([.int .i64 a0.1.1] : List Value) ++ (k29 ++ k30) : List Value).length = 65 from by simp only [List.length_append, List.length_cons, List.length_nil, (show (k29 : List Value).length = 32 from ((hs31).len.trans (by rw [hl32]; rfl))), (show (k30 : List Value).length = 32 from ((hs33).len.trans (by rw [hl34]; rfl)))])))) (fun a h => ?_)
      refine d_takeP h (fun _ => HS) HN 12 rfl (by kernel_rfl) (by kernel_rfl) (by kernel_rfl) (by decide) (by rw [g_want h rfl rfl rfl rfl hB2]; rfl) rfl (by decide) (fun w' => x_bin h.k rfl rfl rfl ib_lss) (fun a h => ?_)
      refine d_takeP h (fun _ => HS) HN 13 rfl (by kernel_rfl) (by kernel_rfl) (by kernel_rfl) (by decide) rfl rfl (by decide) (fun w' => x_pick (v := .bool (x1 && (decide (a0.1.1 < a0.2.1)))) (u' := undef) h.k rfl rfl (fun _ => by rw [hB2]; first | rfl | simp [ev, List.lookup]) (fun hh => absurd (hB2.symm.trans hh) (by decide))) (fun a h => ?_)
      refine d_takeP h (fun _ => HS) HN 14 rfl (by kernel_rfl) (by kernel_rfl) (by kernel_rfl) (by decide) rfl rfl (by decide) (fun w' => x_assign h.k _ rfl rfl) (fun a h => ?_)
      refine d_done (by kernel_rfl) (HE _ _ ?_) _
      refine e_thenN ?_
      exact h.has (by exact ⟨rfl, trivial⟩)
    · refine d_takeNP h (fun _ => HS) HN 3 rfl (by kernel_rfl) (by kernel_rfl) (by kernel_rfl) (by decide) (by rw [g_want h rfl rfl rfl rfl hB2]; rfl) rfl (by decide) (fun a h => ?_)
      refine d_takeNP h (fun _ => HS) HN 4 rfl (by kernel_rfl) (by kernel_rfl) (by kernel_rfl) (by decide) (by rw [g_want h rfl rfl rfl rfl hB2]; rfl) rfl (by decide) (fun a h => ?_)
      refine d_takeNP h (fun _ => HS) HN 5 rfl (by kernel_rfl) (by kernel_rfl) (by kernel_rfl) (by decide) (by rw [g_want h rfl rfl rfl rfl hB2]; rfl) rfl (by decide) (fun a h => ?_)
      refine d_takeNP h (fun _ => HS) HN 6 rfl (by kernel_rfl) (by kernel_rfl) (by kernel_rfl) (by decide) (by rw [g_want h rfl rfl rfl rfl hB2]; rfl) rfl (by decide) (fun a h => ?_)
      refine d_takeNP h (fun _ => HS) HN 7 rfl (by kernel_rfl) (by kernel_rfl) (by kernel_rfl) (by decide) (by rw [g_want h rfl rfl rfl rfl hB2]; rfl) rfl (by decide) (fun a h => ?_)
      refine d_takeNP h (fun _ => HS) HN 8 rfl (by kernel_rfl) (by kernel_rfl) (by kernel_rfl) (by decide) (by rw [g_want h rfl rfl rfl rfl hB2]; rfl) rfl (by decide) (fun a h => ?_)
      refine d_takeNP h (fun _ => HS) HN 9 rfl (by kernel_rfl) (by kernel_rfl) (by kernel_rfl) (by decide) (by rw [g_want h rfl rfl rfl rfl hB2]; rfl) rfl (by decide) (fun a h => ?_)
      refine d_takeNP h (fun _ => HS) HN 10 rfl (by kernel_rfl) (by kernel_rfl) (by kernel_rfl) (by decide) (by rw [g_want h rfl rfl rfl rfl hB2]; rfl) rfl (by decide) (fun a h => ?_)
      refine d_takeNP h (fun _ => HS) HN 11 rfl (by kernel_rfl) (by kernel_rfl) (by kernel_rfl) (by decide) (by rw [g_want h rfl rfl rfl rfl hB2]; rfl) rfl (by decide) (fun a h => ?_)
      refine d_takeNP h (fun _ => HS) HN 12 rfl (by kernel_rfl) (by kernel_rfl) (by kernel_rfl) (by decide) (by rw [g_want h rfl rfl rfl rfl hB2]; rfl) rfl (by decide) (fun a h => ?_)
      refine d_takeP h (fun _ => HS) HN 13 rfl (by kernel_rfl) (by kernel_rfl) (by kernel_rfl) (by decide) rfl rfl (by decide) (fun w' => x_pick (v := .bool (x1 && (decide (a0.1.1 < a0.2.1)))) (u' := undef) h.k rfl rfl (fun hh => absurd (hB2.symm.trans hh) (by decide)) (fun _ => by rw [hB2]; first | rfl | simp [ev, List.lookup])) (fun a h => ?_)
      refine d_takeP h (fun _ => HS) HN 14 rfl (by kernel_rfl) (by kernel_rfl) (by kernel_rfl) (by decide) rfl rfl (by decide) (fun w' => x_assign h.k _ rfl rfl) (fun a h => ?_)
      refine d_done (by kernel_rfl) (HE _ _ ?_) _
      refine e_thenN ?_
      exact h.has (by exact ⟨rfl, trivial⟩)
  refine e_thenN ?_
  refine wp_ret ?_
  obtain rfl := Option.some.inj hf
  exact r_ret1 h rfl (rv_tmp h rfl) ⟨_, [], _, rfl, ⟨rfl, rfl, trivial⟩, rfl, (Up.refl _ _ _), h.m⟩
def anchor_Slot_Can_nil0 (Fu : Nat) : Option Bool :=
  (anchor_Slot_made_nil0 Fu).bind fun x1 => some false
set_option maxRecDepth 100000 in
set_option maxHeartbeats 2000000 in
theorem anchor_Slot_Can_nil0_ok (Fu : Nat) {S0 : Snap}  (r : Bool) (hf : anchor_Slot_Can_nil0 Fu = some r) (w0 : World) (hm : Mem w0 (ownL ([] ++ [.sn S0])) ([] ++ [.sn S0]) w0) :
    Calls Try.prog 39 #[.pointer none] w0 (Ret w0 S0 [] (fun v L1 S1 => v = .bool r ∧ L1 = [] ∧ True)) := by
  unfold anchor_Slot_Can_nil0 at hf
  refine c_enterM Try.func39 rfl 17 rfl (by simp) _ hm _ rfl (fun a h => ?_)
  refine c_rs ?_ -- region 0
  refine s_assign h rfl _ rfl rfl (by decide) rfl (fun a h => ?_)
  refine l_end ?_
  refine wp_seq ?_
  -- region 1 draws
  obtain ⟨x1, h2, hf⟩ := bsome hf
  refine c_fin (fun a w => St 17 w0 (ownL ([] ++ [.sn S0])) [(2, .bool false)] [.sn S0] a w) ?_ (fun a w h => ?_)
  · refine d_start h (Mem _ _ _) 15 15 rfl (by kernel_rfl) (fun _ _ _ _ _ h => h) (fun _ h => h) (fun Q a w HE HN h HS => ?_)
    refine d_takeP h (fun _ => HS) HN 0 rfl (by kernel_rfl) (by kernel_rfl) (by kernel_rfl) (by decide) rfl rfl (by decide) (fun w' => x_move h.k _ rfl rfl) (fun a h => ?_)
    refine d_alone 1 rfl (by kernel_rfl) (fun K hK => ?_)
    have hX := anchor_Slot_made_nil0_ok Fu (S0 := snapAll _)  _ h2 _ h.startAll
    refine q_callX hX h rfl rfl rfl (by decide) Try.func70 rfl rfl rfl (fun a w v L1 S1 hR hb1 h => ?_)
    obtain ⟨rfl, rfl, _⟩ := hR
    obtain rfl : x1 = false := by unfold anchor_Slot_made_nil0 at h2; exact (Option.some.inj h2).symm
    refine hK _ _ (fun _ _ => HS.ext hb1) ?_
    replace HS := HS.ext hb1
    clear hK
    refine d_takeP h (fun _ => HS) HN 2 rfl (by kernel_rfl) (by kernel_rfl) (by kernel_rfl) (by decide) rfl rfl (by decide) (fun w' => x_move h.k _ rfl rfl) (fun a h => ?_)
    refine d_split (t := 5) h rfl (fun hB2 => ?_) (fun hB2 => ?_)
    · exact absurd hB2 (by decide)
    · refine d_takeNP h (fun _ => HS) HN 3 rfl (by kernel_rfl) (by kernel_rfl) (by kernel_rfl) (by decide) (by rw [g_want h rfl rfl rfl rfl hB2]; rfl) rfl (by decide) (fun a h => ?_)
      refine d_takeNP h (fun _ => HS) HN 4 rfl (by kernel_rfl) (by kernel_rfl) (by kernel_rfl) (by decide) (by rw [g_want h rfl rfl rfl rfl hB2]; rfl) rfl (by decide) (fun a h => ?_)
      refine d_takeNP h (fun _ => HS) HN 5 rfl (by kernel_rfl) (by kernel_rfl) (by kernel_rfl) (by decide) (by rw [g_want h rfl rfl rfl rfl hB2]; rfl) rfl (by decide) (fun a h => ?_)
      refine d_takeNP h (fun _ => HS) HN 6 rfl (by kernel_rfl) (by kernel_rfl) (by kernel_rfl) (by decide) (by rw [g_want h rfl rfl rfl rfl hB2]; rfl) rfl (by decide) (fun a h => ?_)
      refine d_takeNP h (fun _ => HS) HN 7 rfl (by kernel_rfl) (by kernel_rfl) (by kernel_rfl) (by decide) (by rw [g_want h rfl rfl rfl rfl hB2]; rfl) rfl (by decide) (fun a h => ?_)
      refine d_takeNP h (fun _ => HS) HN 8 rfl (by kernel_rfl) (by kernel_rfl) (by kernel_rfl) (by decide) (by rw [g_want h rfl rfl rfl rfl hB2]; rfl) rfl (by decide) (fun a h => ?_)
      refine d_takeNP h (fun _ => HS) HN 9 rfl (by kernel_rfl) (by kernel_rfl) (by kernel_rfl) (by decide) (by rw [g_want h rfl rfl rfl rfl hB2]; rfl) rfl (by decide) (fun a h => ?_)
      refine d_takeNP h (fun _ => HS) HN 10 rfl (by kernel_rfl) (by kernel_rfl) (by kernel_rfl) (by decide) (by rw [g_want h rfl rfl rfl rfl hB2]; rfl) rfl (by decide) (fun a h => ?_)
      refine d_takeNP h (fun _ => HS) HN 11 rfl (by kernel_rfl) (by kernel_rfl) (by kernel_rfl) (by decide) (by rw [g_want h rfl rfl rfl rfl hB2]; rfl) rfl (by decide) (fun a h => ?_)
      refine d_takeNP h (fun _ => HS) HN 12 rfl (by kernel_rfl) (by kernel_rfl) (by kernel_rfl) (by decide) (by rw [g_want h rfl rfl rfl rfl hB2]; rfl) rfl (by decide) (fun a h => ?_)
      refine d_takeP h (fun _ => HS) HN 13 rfl (by kernel_rfl) (by kernel_rfl) (by kernel_rfl) (by decide) rfl rfl (by decide) (fun w' => x_pick (v := .bool false) (u' := undef) h.k rfl rfl (fun hh => absurd (hB2.symm.trans hh) (by decide)) (fun _ => by rw [hB2]; first | rfl | simp [ev, List.lookup])) (fun a h => ?_)
      refine d_takeP h (fun _ => HS) HN 14 rfl (by kernel_rfl) (by kernel_rfl) (by kernel_rfl) (by decide) rfl rfl (by decide) (fun w' => x_assign h.k _ rfl rfl) (fun a h => ?_)
      refine d_done (by kernel_rfl) (HE _ _ ?_) _
      refine e_thenN ?_
      exact h.has (by exact ⟨rfl, trivial⟩)
  refine e_thenN ?_
  refine wp_ret ?_
  rw [← Option.some.inj hf]
  exact r_ret1 h rfl (rv_tmp h rfl) ⟨_, [], _, rfl, ⟨rfl, rfl, trivial⟩, rfl, (Up.refl _ _ _), h.m⟩
def anchor_Slot_Limit (Fu : Nat) (a0 : (Int × (List UInt8) × (List UInt8)) × Int × Bool) : Option Int :=
  (anchor_Slot_made Fu a0).bind fun x1 => if (!x1) = true then (some 0) else (some a0.2.1)
set_option maxRecDepth 100000 in
set_option maxHeartbeats 2000000 in
theorem anchor_Slot_Limit_ok (Fu : Nat) {S0 : Snap} (ga0 : Nat) (a0 : (Int × (List UInt8) × (List UInt8)) × Int × Bool) (hpa0 : ptS (tyP (tyP tyI (tyP (tyA 32 ty8) (tyA 32 ty8))) (tyP tyI tyB)) S0 ga0 a0) (r : Int) (hf : anchor_Slot_Limit Fu a0 = some r) (w0 : World) (hm : Mem w0 (ownL ([] ++ [.sn S0])) ([] ++ [.sn S0]) w0) :
    Calls Try.prog 40 #[.pointer (some ⟨ga0, 0, none⟩)] w0 (Ret w0 S0 [] (fun v L1 S1 => v = .int .i64 r ∧ L1 = [] ∧ r64 r ∧ True)) := by
  unfold anchor_Slot_Limit at hf
  refine c_enterM Try.func40 rfl 10 rfl (by simp) _ hm _ rfl (fun a h => ?_)
  refine c_rs ?_ -- region 0
  refine s_assign h rfl _ rfl rfl (by decide) rfl (fun a h => ?_)
  refine l_end ?_
  refine wp_seq ?_
  refine c_rs ?_ -- region 1
  refine s_move h rfl _ rfl rfl (by decide) rfl (fun a h => ?_)
  obtain ⟨x1, h2, hf⟩ := bsome hf
  have hX := anchor_Slot_made_ok Fu (S0 := snapAll _) ga0 a0 (hpa0.mono (h.m.leAll (i := 0) rfl)) _ h2 _ h.startAll
  refine q_callX hX h rfl rfl rfl (by decide) Try.func70 rfl rfl rfl (fun a w v L1 S1 hR hb1 h => ?_)
  obtain ⟨rfl, rfl, _⟩ := hR
  refine s_x h rfl rfl (by decide) (x_not h.k rfl rfl) (fun a h => ?_)
  refine l_end ?_
  refine c_cond h rfl (fun hb => ?_) (fun hb => ?_)
  · rw [if_pos hb] at hf
    refine c_rs ?_ -- region 2
    refine s_assign h rfl _ rfl rfl (by decide) rfl (fun a h => ?_)
    refine l_end ?_
    refine wp_ret ?_
    refine e_thenR ?_
    rw [← Option.some.inj hf]
    exact r_ret1 h rfl (rv_tmp h rfl) ⟨_, [], _, rfl, ⟨rfl, rfl, (show r64 0 from ⟨by decide, by decide⟩), trivial⟩, rfl, (Up.refl _ _ _), h.m⟩
  · rw [if_neg (by rw [hb]; decide)] at hf
    refine wp_skip ?_
    refine e_thenN ?_
    refine c_rs ?_ -- region 3
    refine s_move h rfl _ rfl rfl (by decide) rfl (fun a h => ?_)
    obtain ⟨k4, hc5, ⟨k6, k7, rfl, ⟨k8, k9, rfl, ⟨rfl, hr10⟩, ⟨k11, k12, rfl, ⟨hs13, hl14⟩, ⟨hs15, hl16⟩⟩⟩, ⟨k17, k18, rfl, ⟨rfl, hr19⟩, rfl⟩⟩⟩ := id hpa0
    refine s_x h rfl rfl (by decide) (x_nil h.k rfl rfl) (fun a h => ?_)
    refine s_x h rfl rfl (by decide) (x_faddr h.k rfl Try.underlying104 rfl sz_int rfl) (fun a h => ?_)
    refine s_x h rfl rfl (by decide) (x_ld h.k rfl Try.underlying3 rfl rfl (hc5 _ (h.m.snOK (i := 0) rfl) 65 _ (cell_oneE (X := ([.int .i64 a0.1.1] : List Value) ++ (k11 ++ k12)) (Z := [.bool a0.2.2]) (off := 65) (u := .int .i64 a0.2.1) (by simp only [List.append_assoc, List.cons_append, List.nil_append, List.append_nil]) (show (([.int .i64 a0.1.1] : List Value) ++ (k11 ++ k12) : List Value).length = 65 from by simp only [List.length_append, List.length_cons, List.length_nil, (show (k11 : List Value).length = 32 from ((hs13).len.trans (by rw [hl14]; rfl))), (show (k12 : List Value).length = 32 from ((hs15).len.trans (by rw [hl16]; rfl)))])))) (fun a h => ?_)
    refine s_assign h rfl _ rfl rfl (by decide) rfl (fun a h => ?_)
    refine l_end ?_
    refine wp_ret ?_
    obtain rfl := Option.some.inj hf
    exact r_ret1 h rfl (rv_tmp h rfl) ⟨_, [], _, rfl, ⟨rfl, rfl, hr19, trivial⟩, rfl, (Up.refl _ _ _), h.m⟩
def anchor_Slot_Limit_nil0 (Fu : Nat) : Option Int :=
  (anchor_Slot_made_nil0 Fu).bind fun x1 => some 0
set_option maxRecDepth 100000 in
set_option maxHeartbeats 2000000 in
theorem anchor_Slot_Limit_nil0_ok (Fu : Nat) {S0 : Snap}  (r : Int) (hf : anchor_Slot_Limit_nil0 Fu = some r) (w0 : World) (hm : Mem w0 (ownL ([] ++ [.sn S0])) ([] ++ [.sn S0]) w0) :
    Calls Try.prog 40 #[.pointer none] w0 (Ret w0 S0 [] (fun v L1 S1 => v = .int .i64 r ∧ L1 = [] ∧ r64 r ∧ True)) := by
  unfold anchor_Slot_Limit_nil0 at hf
  refine c_enterM Try.func40 rfl 10 rfl (by simp) _ hm _ rfl (fun a h => ?_)
  refine c_rs ?_ -- region 0
  refine s_assign h rfl _ rfl rfl (by decide) rfl (fun a h => ?_)
  refine l_end ?_
  refine wp_seq ?_
  refine c_rs ?_ -- region 1
  refine s_move h rfl _ rfl rfl (by decide) rfl (fun a h => ?_)
  obtain ⟨x1, h2, hf⟩ := bsome hf
  have hX := anchor_Slot_made_nil0_ok Fu (S0 := snapAll _)  _ h2 _ h.startAll
  refine q_callX hX h rfl rfl rfl (by decide) Try.func70 rfl rfl rfl (fun a w v L1 S1 hR hb1 h => ?_)
  obtain ⟨rfl, rfl, _⟩ := hR
  obtain rfl : x1 = false := by unfold anchor_Slot_made_nil0 at h2; exact (Option.some.inj h2).symm
  refine s_x h rfl rfl (by decide) (x_not h.k rfl rfl) (fun a h => ?_)
  refine l_end ?_
  refine c_cond h rfl (fun hb => ?_) (fun hb => ?_)
  · refine c_rs ?_ -- region 2
    refine s_assign h rfl _ rfl rfl (by decide) rfl (fun a h => ?_)
    refine l_end ?_
    refine wp_ret ?_
    refine e_thenR ?_
    rw [← Option.some.inj hf]
    exact r_ret1 h rfl (rv_tmp h rfl) ⟨_, [], _, rfl, ⟨rfl, rfl, (show r64 0 from ⟨by decide, by decide⟩), trivial⟩, rfl, (Up.refl _ _ _), h.m⟩
  · exact absurd hb (by decide)
def anchor_Slot_Set (Fu : Nat) (a0 : (Int × (List UInt8) × (List UInt8)) × Int × Bool) (a1 : List UInt8) (a2 : List UInt8) : Option (Int × ((Int × (List UInt8) × (List UInt8)) × Int × Bool)) :=
  (anchor_Slot_made Fu a0).bind fun x16 => if (!x16) = true then (some (1, a0)) else ((anchor_Slot_Can Fu a0).bind fun x19 => if (!x19) = true then (some (35, a0)) else (some (0, ((w64 (a0.1.1 + 1), a1, a2), a0.2.1, a0.2.2))))
set_option maxRecDepth 100000 in
set_option maxHeartbeats 2000000 in
theorem anchor_Slot_Set_ok (Fu : Nat) {S0 : Snap} (a0 : (Int × (List UInt8) × (List UInt8)) × Int × Bool) (g1 : Nat) (k3 : List Value) (k6 : List Value) (hr2 : r64 a0.1.1) (hs4 : reps ty8 S0 k3 a0.1.2.1) (hl5 : a0.1.2.1.length = 32) (hs7 : reps ty8 S0 k6 a0.1.2.2) (hl8 : a0.1.2.2.length = 32) (hr9 : r64 a0.2.1) (csa1 : List Value) (a1 : List UInt8) (hsa1 : (tyA 32 ty8).rep S0 csa1 a1) (csa2 : List Value) (a2 : List UInt8) (hsa2 : (tyA 32 ty8).rep S0 csa2 a2) (r : Int × ((Int × (List UInt8) × (List UInt8)) × Int × Bool)) (hf : anchor_Slot_Set Fu a0 a1 a2 = some r) (w0 : World) (hm : Mem w0 (ownL ([.box g1 104 (([.int .i64 a0.1.1] : List Value) ++ (k3 ++ (k6 ++ ([.int .i64 a0.2.1, .bool a0.2.2]))))] ++ [.sn S0])) ([.box g1 104 (([.int .i64 a0.1.1] : List Value) ++ (k3 ++ (k6 ++ ([.int .i64 a0.2.1, .bool a0.2.2]))))] ++ [.sn S0]) w0) :
    Calls Try.prog 42 #[.pointer (some ⟨g1, 0, none⟩), .agg csa1.toArray, .agg csa2.toArray] w0 (Ret w0 S0 [.box g1 104 (([.int .i64 a0.1.1] : List Value) ++ (k3 ++ (k6 ++ ([.int .i64 a0.2.1, .bool a0.2.2]))))] (fun v L1 S1 => ∃ (k24 : List Value), ∃ (k27 : List Value), v = .int .i64 r.1 ∧ L1 = [.box g1 104 (([.int .i64 r.2.1.1] : List Value) ++ (k24 ++ (k27 ++ ([.int .i64 r.2.2.1, .bool r.2.2.2]))))] ∧ r64 r.1 ∧ r64 r.2.1.1 ∧ reps ty8 S1 k24 r.2.1.2.1 ∧ r.2.1.2.1.length = 32 ∧ reps ty8 S1 k27 r.2.1.2.2 ∧ r.2.1.2.2.length = 32 ∧ r64 r.2.2.1 ∧ True)) := by
  unfold anchor_Slot_Set at hf
  obtain ⟨hs10, hl11⟩ := hsa1
  obtain ⟨hs12, hl13⟩ := hsa2
  obtain ⟨B0, hB0⟩ : ∃ B0, B0 = (ownL ([.box g1 104 (([.int .i64 a0.1.1] : List Value) ++ (k3 ++ (k6 ++ ([.int .i64 a0.2.1, .bool a0.2.2]))))] ++ [.sn S0])) := ⟨_, rfl⟩
  rw [← hB0] at hm
  refine c_enterM Try.func42 rfl 27 rfl (by simp) _ hm _ rfl (fun a h => ?_)
  refine c_rs ?_ -- region 0
  refine s_box h rfl rfl rfl (by decide) rfl (cs := csa1) (by rfl) (fun a w g14 h => ?_)
  refine s_box h rfl rfl rfl (by decide) rfl (cs := csa2) (by rfl) (fun a w g15 h => ?_)
  refine s_assign h rfl _ rfl rfl (by decide) rfl (fun a h => ?_)
  refine l_end ?_
  refine wp_seq ?_
  refine wp_block ?_
  refine c_rs ?_ -- region 1
  refine s_move h rfl _ rfl rfl (by decide) rfl (fun a h => ?_)
  obtain ⟨x16, h17, hf⟩ := bsome hf
  have hX := anchor_Slot_made_ok Fu (S0 := snapAll _) g1 a0 ⟨([.int .i64 a0.1.1] : List Value) ++ (k3 ++ (k6 ++ ([.int .i64 a0.2.1, .bool a0.2.2]))), h.m.boxAll (i := 2) rfl, ⟨([.int .i64 a0.1.1] : List Value) ++ (k3 ++ k6), [.int .i64 a0.2.1, .bool a0.2.2], (by simp only [List.append_assoc, List.cons_append, List.nil_append, List.append_nil]), ⟨[.int .i64 a0.1.1], k3 ++ k6, rfl, ⟨rfl, hr2⟩, ⟨k3, k6, rfl, ⟨(hs4).mono (h.m.leAll (i := 3) rfl), hl5⟩, ⟨(hs7).mono (h.m.leAll (i := 3) rfl), hl8⟩⟩⟩, ⟨[.int .i64 a0.2.1], [.bool a0.2.2], rfl, ⟨rfl, hr9⟩, rfl⟩⟩⟩ _ h17 _ h.startAll
  refine q_callX hX h rfl rfl rfl (by decide) Try.func70 rfl rfl rfl (fun a w v L1 S1 hR hb1 h => ?_)
  obtain ⟨rfl, rfl, _⟩ := hR
  refine s_x h rfl rfl (by decide) (x_not h.k rfl rfl) (fun a h => ?_)
  refine s_assign h rfl _ rfl rfl (by decide) rfl (fun a h => ?_)
  refine l_end ?_
  refine c_cond h rfl (fun hb => ?_) (fun hb => ?_)
  · rw [if_pos hb] at hf
    refine c_rs ?_ -- region 2
    refine s_assign h rfl _ rfl rfl (by decide) rfl (fun a h => ?_)
    refine l_end ?_
    refine wp_ret ?_
    refine e_blkR ?_
    refine e_thenR ?_
    obtain rfl := Option.some.inj hf
    subst hB0
    exact r_ret1 h rfl (rv_tmp h rfl) ⟨_, [.box g1 104 (([.int .i64 a0.1.1] : List Value) ++ (k3 ++ (k6 ++ ([.int .i64 a0.2.1, .bool a0.2.2]))))], _, rfl, ⟨k3, k6, rfl, rfl, (show r64 1 from ⟨by decide, by decide⟩), hr2, hs4, hl5, hs7, hl8, hr9, trivial⟩, rfl, (Up.refl _ _ _), (h.m.pick [2, 3] _ (by decide) rfl)⟩
  · rw [if_neg (by rw [hb]; decide)] at hf
    refine c_rs ?_ -- region 3
    refine s_move h rfl _ rfl rfl (by decide) rfl (fun a h => ?_)
    obtain ⟨x19, h20, hf⟩ := bsome hf
    have hX := anchor_Slot_Can_ok Fu (S0 := snapAll _) g1 a0 ⟨([.int .i64 a0.1.1] : List Value) ++ (k3 ++ (k6 ++ ([.int .i64 a0.2.1, .bool a0.2.2]))), h.m.boxAll (i := 2) rfl, ⟨([.int .i64 a0.1.1] : List Value) ++ (k3 ++ k6), [.int .i64 a0.2.1, .bool a0.2.2], (by simp only [List.append_assoc, List.cons_append, List.nil_append, List.append_nil]), ⟨[.int .i64 a0.1.1], k3 ++ k6, rfl, ⟨rfl, hr2⟩, ⟨k3, k6, rfl, ⟨(hs4).mono (h.m.leAll (i := 3) rfl), hl5⟩, ⟨(hs7).mono (h.m.leAll (i := 3) rfl), hl8⟩⟩⟩, ⟨[.int .i64 a0.2.1], [.bool a0.2.2], rfl, ⟨rfl, hr9⟩, rfl⟩⟩⟩ _ h20 _ h.startAll
    refine q_callX hX h rfl rfl rfl (by decide) Try.func39 rfl rfl rfl (fun a w v L1 S1 hR hb1 h => ?_)
    obtain ⟨rfl, rfl, _⟩ := hR
    refine s_x h rfl rfl (by decide) (x_not h.k rfl rfl) (fun a h => ?_)
    refine s_assign h rfl _ rfl rfl (by decide) rfl (fun a h => ?_)
    refine l_end ?_
    refine c_cond h rfl (fun hb => ?_) (fun hb => ?_)
    · rw [if_pos hb] at hf
      refine c_rs ?_ -- region 4
      refine s_assign h rfl _ rfl rfl (by decide) rfl (fun a h => ?_)
      refine l_end ?_
      refine wp_ret ?_
      refine e_blkR ?_
      refine e_thenR ?_
      obtain rfl := Option.some.inj hf
      subst hB0
      exact r_ret1 h rfl (rv_tmp h rfl) ⟨_, [.box g1 104 (([.int .i64 a0.1.1] : List Value) ++ (k3 ++ (k6 ++ ([.int .i64 a0.2.1, .bool a0.2.2]))))], _, rfl, ⟨k3, k6, rfl, rfl, (show r64 35 from ⟨by decide, by decide⟩), hr2, hs4, hl5, hs7, hl8, hr9, trivial⟩, rfl, (Up.refl _ _ _), (h.m.pick [2, 3] _ (by decide) rfl)⟩
    · rw [if_neg (by rw [hb]; decide)] at hf
      refine wp_skip ?_
      refine e_blkN ?_
      refine e_thenN ?_
      refine wp_seq ?_
      -- region 5 draws
      refine d_start h (Mem _ _ _) 12 13 rfl (by kernel_rfl) (fun _ _ _ _ _ h => h) (fun _ h => h) (fun Q a w HE HN h HS => ?_)
      refine d_takeP h (fun _ => HS) HN 0 rfl (by kernel_rfl) (by kernel_rfl) (by kernel_rfl) (by decide) rfl rfl (by decide) (fun w' => x_move h.k _ rfl rfl) (fun a h => ?_)
      refine d_takeP h (fun _ => HS) HN 1 rfl (by kernel_rfl) (by kernel_rfl) (by kernel_rfl) (by decide) rfl rfl (by decide) (fun w' => x_move h.k _ rfl rfl) (fun a h => ?_)
      refine d_takeP h (fun _ => HS) HN 2 rfl (by kernel_rfl) (by kernel_rfl) (by kernel_rfl) (by decide) rfl rfl (by decide) (fun w' => x_nil h.k rfl rfl) (fun a h => ?_)
      refine d_takeP h (fun _ => HS) HN 3 rfl (by kernel_rfl) (by kernel_rfl) (by kernel_rfl) (by decide) rfl rfl (by decide) (fun w' => x_faddr h.k rfl Try.underlying104 rfl sz_api_Root rfl) (fun a h => ?_)
      refine d_takeP h (fun _ => HS) HN 4 rfl (by kernel_rfl) (by kernel_rfl) (by kernel_rfl) (by decide) rfl rfl (by decide) (fun w' => x_faddr h.k rfl Try.underlying69 rfl sz_int rfl) (fun a h => ?_)
      refine d_take h HS HN 5 rfl (by kernel_rfl) (by kernel_rfl) (by kernel_rfl) (by kernel_rfl) (by kernel_rfl) rfl rfl (by decide) (fun w' hw => x_ld h.k rfl Try.underlying3 rfl rfl ((hw.cell (i := 2) rfl 0).trans (cell_oneE (X := []) (Z := k3 ++ (k6 ++ (([.int .i64 a0.2.1] : List Value) ++ ([.bool a0.2.2])))) (off := 0) (u := .int .i64 a0.1.1) (by simp only [List.append_assoc, List.cons_append, List.nil_append, List.append_nil]) rfl))) (fun a h => ?_)
      refine d_takeP h (fun _ => HS) HN 6 rfl (by kernel_rfl) (by kernel_rfl) (by kernel_rfl) (by decide) rfl rfl (by decide) (fun w' => x_bin h.k rfl rfl rfl (ib_add rfl)) (fun a h => ?_)
      refine d_take h HS HN 7 rfl (by kernel_rfl) (by kernel_rfl) (by kernel_rfl) (by kernel_rfl) (by kernel_rfl) rfl rfl (by decide) (fun w' hw => x_ldR h.k rfl ag_A32_uint8 rfl csa1 ((hs10).len.trans (by rw [hl11]; rfl)) (hw.range0 (i := 1) rfl)) (fun a h => ?_)
      refine d_take h HS HN 8 rfl (by kernel_rfl) (by kernel_rfl) (by kernel_rfl) (by kernel_rfl) (by kernel_rfl) rfl rfl (by decide) (fun w' hw => x_ldR h.k rfl ag_A32_uint8 rfl csa2 ((hs12).len.trans (by rw [hl13]; rfl)) (hw.range0 (i := 0) rfl)) (fun a h => ?_)
      refine d_takeP h (fun _ => HS) HN 9 rfl (by kernel_rfl) (by kernel_rfl) (by kernel_rfl) (by decide) rfl rfl (by decide) (fun w' => x_build h.k rfl [(0, .int .i64 (w64 (a0.1.1 + 1))), (1, .agg csa1.toArray), (2, .agg csa2.toArray)] rfl (([.int .i64 (w64 (a0.1.1 + 1))] : List Value) ++ (csa1 ++ csa2)) (builtS Try.underlying69 zi_api_Root (places := [(0, 1), (1, 32), (33, 32)]) (by kernel_rfl) (cs := ([.int .i64 0] : List Value) ++ ((List.replicate 32 (.int .u8 0 : Value)) ++ (List.replicate 32 (.int .u8 0 : Value)))) (by kernel_rfl) (built_step (X := []) (Y := [.int .i64 0]) (Z := (List.replicate 32 (.int .u8 0 : Value)) ++ ((List.replicate 32 (.int .u8 0 : Value)))) (V := [.int .i64 (w64 (a0.1.1 + 1))]) (off := 0) (n := 1) (by simp only [List.append_assoc, List.cons_append, List.nil_append, List.append_nil]) rfl rfl rfl rfl rfl (built_step (X := [.int .i64 (w64 (a0.1.1 + 1))]) (Y := (List.replicate 32 (.int .u8 0 : Value))) (Z := (List.replicate 32 (.int .u8 0 : Value))) (V := csa1) (off := 1) (n := 32) (by simp only [List.append_assoc, List.cons_append, List.nil_append, List.append_nil]) rfl rfl (by first | rfl | simp_all) rfl ((hs10).len.trans (by rw [hl11]; rfl)) (built_step (X := ([.int .i64 (w64 (a0.1.1 + 1))] : List Value) ++ (csa1)) (Y := (List.replicate 32 (.int .u8 0 : Value))) (Z := []) (V := csa2) (off := 33) (n := 32) (by simp only [List.append_assoc, List.cons_append, List.nil_append, List.append_nil]) rfl (show (([.int .i64 (w64 (a0.1.1 + 1))] : List Value) ++ (csa1) : List Value).length = 33 from by simp only [List.length_append, List.length_cons, List.length_nil, (show (csa1 : List Value).length = 32 from ((hs10).len.trans (by rw [hl11]; rfl))), (show ((List.replicate 32 (.int .u8 0 : Value)) : List Value).length = 32 from (by first | rfl | simp_all))]) (by first | rfl | simp_all) rfl ((hs12).len.trans (by rw [hl13]; rfl)) (built_nil (by simp only [List.append_assoc, List.cons_append, List.nil_append, List.append_nil]))))))) (fun a h => ?_)
      refine d_takeP h (fun _ => HS) HN 10 rfl (by kernel_rfl) (by kernel_rfl) (by kernel_rfl) (by decide) rfl rfl (by decide) (fun w' => x_nil h.k rfl rfl) (fun a h => ?_)
      refine d_takeP h (fun _ => HS) HN 11 rfl (by kernel_rfl) (by kernel_rfl) (by kernel_rfl) (by decide) rfl rfl (by decide) (fun w' => x_faddr h.k rfl Try.underlying104 rfl sz_api_Root rfl) (fun a h => ?_)
      refine d_alone 12 rfl (by kernel_rfl) (fun K hK => ?_)
      refine s_stP h rfl rfl rfl ag_api_Root rfl (es := ([.int .i64 (w64 (a0.1.1 + 1))] : List Value) ++ (csa1 ++ csa2)) rfl (show (([.int .i64 (w64 (a0.1.1 + 1))] : List Value) ++ (csa1 ++ csa2) : List Value).length = 65 from by simp only [List.length_append, List.length_cons, List.length_nil, (show (csa1 : List Value).length = 32 from ((hs10).len.trans (by rw [hl11]; rfl))), (show (csa2 : List Value).length = 32 from ((hs12).len.trans (by rw [hl13]; rfl)))]) ((tyP tyI (tyP (tyA 32 ty8) (tyA 32 ty8))).one (show (tyP tyI (tyP (tyA 32 ty8) (tyA 32 ty8))).rep S0 (([.int .i64 (w64 (a0.1.1 + 1))] : List Value) ++ (csa1 ++ csa2)) (w64 (a0.1.1 + 1), a1, a2) from ⟨[.int .i64 (w64 (a0.1.1 + 1))], csa1 ++ csa2, rfl, ⟨rfl, (w64_r _)⟩, ⟨csa1, csa2, rfl, ⟨hs10, hl11⟩, ⟨hs12, hl13⟩⟩⟩)) 2 rfl ([]) (([.int .i64 a0.1.1] : List Value) ++ (k3 ++ k6)) (([.int .i64 a0.2.1] : List Value) ++ ([.bool a0.2.2])) (by simp only [List.append_assoc, List.cons_append, List.nil_append, List.append_nil]) rfl (show (([.int .i64 a0.1.1] : List Value) ++ (k3 ++ k6) : List Value).length = 65 from by simp only [List.length_append, List.length_cons, List.length_nil, (show (k3 : List Value).length = 32 from ((hs4).len.trans (by rw [hl5]; rfl))), (show (k6 : List Value).length = 32 from ((hs7).len.trans (by rw [hl8]; rfl)))]) (fun a w h => ?_)
      have h := h.parts (L' := [.box g15 67 csa2, .box g14 67 csa1, .box g1 104 (([.int .i64 (w64 (a0.1.1 + 1))] : List Value) ++ (csa1 ++ (csa2 ++ ([.int .i64 a0.2.1, .bool a0.2.2])))), .sn S0]) (by simp only [List.set, List.append_assoc, List.cons_append, List.nil_append, List.append_nil])
      refine hK _ _ (fun hne _ => absurd rfl hne) ?_
      clear hK
      refine d_done (by kernel_rfl) (HE _ _ ?_) _
      refine e_thenN ?_
      refine c_rs ?_ -- region 6
      refine s_assign h rfl _ rfl rfl (by decide) rfl (fun a h => ?_)
      refine l_end ?_
      refine wp_ret ?_
      obtain rfl := Option.some.inj hf
      subst hB0
      exact r_ret1 h rfl (rv_tmp h rfl) ⟨_, [.box g1 104 (([.int .i64 (w64 (a0.1.1 + 1))] : List Value) ++ (csa1 ++ (csa2 ++ ([.int .i64 a0.2.1, .bool a0.2.2]))))], _, rfl, ⟨csa1, csa2, rfl, rfl, (show r64 0 from ⟨by decide, by decide⟩), (w64_r _), hs10, hl11, hs12, hl13, hr9, trivial⟩, rfl, (Up.refl _ _ _), (h.m.pick [2, 3] _ (by decide) rfl)⟩
def anchor_Slot_Set_nil0 (Fu : Nat) (a1 : List UInt8) (a2 : List UInt8) : Option Int :=
  (anchor_Slot_made_nil0 Fu).bind fun x7 => some 1
set_option maxRecDepth 100000 in
set_option maxHeartbeats 2000000 in
theorem anchor_Slot_Set_nil0_ok (Fu : Nat) {S0 : Snap} (csa1 : List Value) (a1 : List UInt8) (hsa1 : (tyA 32 ty8).rep S0 csa1 a1) (csa2 : List Value) (a2 : List UInt8) (hsa2 : (tyA 32 ty8).rep S0 csa2 a2) (r : Int) (hf : anchor_Slot_Set_nil0 Fu a1 a2 = some r) (w0 : World) (hm : Mem w0 (ownL ([] ++ [.sn S0])) ([] ++ [.sn S0]) w0) :
    Calls Try.prog 42 #[.pointer none, .agg csa1.toArray, .agg csa2.toArray] w0 (Ret w0 S0 [] (fun v L1 S1 => v = .int .i64 r ∧ L1 = [] ∧ r64 r ∧ True)) := by
  unfold anchor_Slot_Set_nil0 at hf
  obtain ⟨hs1, hl2⟩ := hsa1
  obtain ⟨hs3, hl4⟩ := hsa2
  refine c_enterM Try.func42 rfl 27 rfl (by simp) _ hm _ rfl (fun a h => ?_)
  refine c_rs ?_ -- region 0
  refine s_box h rfl rfl rfl (by decide) rfl (cs := csa1) (by rfl) (fun a w g5 h => ?_)
  refine s_box h rfl rfl rfl (by decide) rfl (cs := csa2) (by rfl) (fun a w g6 h => ?_)
  refine s_assign h rfl _ rfl rfl (by decide) rfl (fun a h => ?_)
  refine l_end ?_
  refine wp_seq ?_
  refine wp_block ?_
  refine c_rs ?_ -- region 1
  refine s_move h rfl _ rfl rfl (by decide) rfl (fun a h => ?_)
  obtain ⟨x7, h8, hf⟩ := bsome hf
  have hX := anchor_Slot_made_nil0_ok Fu (S0 := snapAll _)  _ h8 _ h.startAll
  refine q_callX hX h rfl rfl rfl (by decide) Try.func70 rfl rfl rfl (fun a w v L1 S1 hR hb1 h => ?_)
  obtain ⟨rfl, rfl, _⟩ := hR
  obtain rfl : x7 = false := by unfold anchor_Slot_made_nil0 at h8; exact (Option.some.inj h8).symm
  refine s_x h rfl rfl (by decide) (x_not h.k rfl rfl) (fun a h => ?_)
  refine s_assign h rfl _ rfl rfl (by decide) rfl (fun a h => ?_)
  refine l_end ?_
  refine c_cond h rfl (fun hb => ?_) (fun hb => ?_)
  · refine c_rs ?_ -- region 2
    refine s_assign h rfl _ rfl rfl (by decide) rfl (fun a h => ?_)
    refine l_end ?_
    refine wp_ret ?_
    refine e_blkR ?_
    refine e_thenR ?_
    rw [← Option.some.inj hf]
    exact r_ret1 h rfl (rv_tmp h rfl) ⟨_, [], _, rfl, ⟨rfl, rfl, (show r64 1 from ⟨by decide, by decide⟩), trivial⟩, rfl, (Up.refl _ _ _), (h.m.pick [2] _ (by decide) rfl)⟩
  · exact absurd hb (by decide)
def anchor_Slot_Bytes (Fu : Nat) (a0 : (Int × (List UInt8) × (List UInt8)) × Int × Bool) : Option ((List UInt8)) :=
  (anchor_Slot_made Fu a0).bind fun x1 => if (!x1) = true then (some ([])) else ((field_Writer_Number Fu (0, []) a0.1.1 8).bind fun x22 => (field_Writer_Number Fu x22 a0.2.1 8).bind fun x50 => (field_Writer_Fixed Fu x50 a0.1.2.1).bind fun x78 => (field_Writer_Fixed Fu x78 a0.1.2.2).bind fun x106 => (field_Writer_Out Fu x106).bind fun x117 => some x117.1)
set_option maxRecDepth 100000 in
set_option maxHeartbeats 2000000 in
theorem anchor_Slot_Bytes_ok (Fu : Nat) {S0 : Snap} (ga0 : Nat) (a0 : (Int × (List UInt8) × (List UInt8)) × Int × Bool) (hpa0 : ptS (tyP (tyP tyI (tyP (tyA 32 ty8) (tyA 32 ty8))) (tyP tyI tyB)) S0 ga0 a0) (r : (List UInt8)) (hf : anchor_Slot_Bytes Fu a0 = some r) (w0 : World) (hm : Mem w0 (ownL ([] ++ [.sn S0])) ([] ++ [.sn S0]) w0) :
    Calls Try.prog 41 #[.pointer (some ⟨ga0, 0, none⟩)] w0 (Ret w0 S0 [] (fun v L1 S1 => ∃ (A126 : Option Addr), ∃ (c127 : Nat), ∃ (cs128 : List Value), v = .slice A126 r.length c127 ∧ L1 = [.row (.slice A126 r.length c127) 5 1 r.length cs128] ∧ reps ty8 S1 cs128 r ∧ True)) := by
  unfold anchor_Slot_Bytes at hf
  refine c_enterM Try.func41 rfl 37 rfl (by simp) _ hm _ rfl (fun a h => ?_)
  refine c_rs ?_ -- region 0
  refine s_assign h rfl _ rfl rfl (by decide) rfl (fun a h => ?_)
  refine l_end ?_
  refine wp_seq ?_
  refine c_rs ?_ -- region 1
  refine s_move h rfl _ rfl rfl (by decide) rfl (fun a h => ?_)
  obtain ⟨x1, h2, hf⟩ := bsome hf
  have hX := anchor_Slot_made_ok Fu (S0 := snapAll _) ga0 a0 (hpa0.mono (h.m.leAll (i := 0) rfl)) _ h2 _ h.startAll
  refine q_callX hX h rfl rfl rfl (by decide) Try.func70 rfl rfl rfl (fun a w v L1 S1 hR hb1 h => ?_)
  obtain ⟨rfl, rfl, _⟩ := hR
  refine s_x h rfl rfl (by decide) (x_not h.k rfl rfl) (fun a h => ?_)
  refine l_end ?_
  refine c_cond h rfl (fun hb => ?_) (fun hb => ?_)
  · rw [if_pos hb] at hf
    refine c_rs ?_ -- region 2
    refine s_assign h rfl _ rfl rfl (by decide) rfl (fun a h => ?_)
    refine l_end ?_
    refine wp_ret ?_
    refine e_thenR ?_
    obtain rfl := Option.some.inj hf
    have h := h.mem (h.m.nilrow 5 1)
    exact r_ret1 h rfl (rv_tmp h rfl) ⟨_, [.row (.slice none ([]).length 0) 5 1 ([]).length []], _, rfl, ⟨none, 0, [], rfl, rfl, (show reps ty8 S0 [] [] from rfl), trivial⟩, rfl, (Up.refl _ _ _), h.m⟩
  · rw [if_neg (by rw [hb]; decide)] at hf
    refine wp_skip ?_
    refine e_thenN ?_
    refine c_rs ?_ -- region 3
    refine s_alloc h rfl rfl rfl (by decide) zi_field_Writer rfl (fun a w g5 h => ?_)
    refine l_end ?_
    refine c_rs ?_ -- region 4
    refine s_move h rfl _ rfl rfl (by decide) rfl (fun a h => ?_)
    obtain ⟨k6, hc7, ⟨k8, k9, rfl, ⟨k10, k11, rfl, ⟨rfl, hr12⟩, ⟨k13, k14, rfl, ⟨hs15, hl16⟩, ⟨hs17, hl18⟩⟩⟩, ⟨k19, k20, rfl, ⟨rfl, hr21⟩, rfl⟩⟩⟩ := id hpa0
    refine s_x h rfl rfl (by decide) (x_nil h.k rfl rfl) (fun a h => ?_)
    refine s_x h rfl rfl (by decide) (x_faddr h.k rfl Try.underlying104 rfl sz_api_Root rfl) (fun a h => ?_)
    refine s_x h rfl rfl (by decide) (x_faddr h.k rfl Try.underlying69 rfl sz_int rfl) (fun a h => ?_)
    refine s_x h rfl rfl (by decide) (x_ld h.k rfl Try.underlying3 rfl rfl (hc7 _ (h.m.snOK (i := 1) rfl) 0 _ (cell_oneE (X := []) (Z := k13 ++ (k14 ++ (([.int .i64 a0.2.1] : List Value) ++ ([.bool a0.2.2])))) (off := 0) (u := .int .i64 a0.1.1) (by simp only [List.append_assoc, List.cons_append, List.nil_append, List.append_nil]) rfl))) (fun a h => ?_)
    obtain ⟨x22, h23, hf⟩ := bsome hf
    have h := h.mem (h.m.nilrow 5 1)
    have h := h.pick [1, 0, 2] (by decide) rfl
    have hX := field_Writer_Number_ok Fu (S0 := S0) (0, []) g5 none 0 [] (show r64 0 from ⟨by decide, by decide⟩) (show reps ty8 S0 [] [] from rfl) a0.1.1 hr12 8 (show r64 8 from ⟨by decide, by decide⟩) _ h23 _ (h.sub (Ls := [.box g5 108 ([.int .i64 0, .slice none ([]).length 0]), .row (.slice none ([]).length 0) 5 1 ([]).length []]))
    refine q_callY (Ls := [.box g5 108 ([.int .i64 0, .slice none ([]).length 0]), .row (.slice none ([]).length 0) 5 1 ([]).length []]) hX h (Up.refl _ _ _) rfl rfl rfl (by decide) Try.func71 rfl rfl rfl (fun a w v L1 S26 hR le28 up27 h => ?_)
    obtain ⟨A30, c31, cs32, rfl, rfl, hr29, hq33, _⟩ := hR
    refine l_end ?_
    refine c_rs ?_ -- region 5
    refine s_move h rfl _ rfl rfl (by decide) rfl (fun a h => ?_)
    obtain ⟨k34, hc35, ⟨k36, k37, rfl, ⟨k38, k39, rfl, ⟨rfl, hr40⟩, ⟨k41, k42, rfl, ⟨hs43, hl44⟩, ⟨hs45, hl46⟩⟩⟩, ⟨k47, k48, rfl, ⟨rfl, hr49⟩, rfl⟩⟩⟩ := id (hpa0.mono le28)
    refine s_x h rfl rfl (by decide) (x_nil h.k rfl rfl) (fun a h => ?_)
    refine s_x h rfl rfl (by decide) (x_faddr h.k rfl Try.underlying104 rfl sz_int rfl) (fun a h => ?_)
    refine s_x h rfl rfl (by decide) (x_ld h.k rfl Try.underlying3 rfl rfl (hc35 _ (h.m.snOK (i := 2) rfl) 65 _ (cell_oneE (X := ([.int .i64 a0.1.1] : List Value) ++ (k41 ++ k42)) (Z := [.bool a0.2.2]) (off := 65) (u := .int .i64 a0.2.1) (by simp only [List.append_assoc, List.cons_append, List.nil_append, List.append_nil]) (show (([.int .i64 a0.1.1] : List Value) ++ (k41 ++ k42) : List Value).length = 65 from by simp only [List.length_append, List.length_cons, List.length_nil, (show (k41 : List Value).length = 32 from ((hs43).len.trans (by rw [hl44]; rfl))), (show (k42 : List Value).length = 32 from ((hs45).len.trans (by rw [hl46]; rfl)))])))) (fun a h => ?_)
    obtain ⟨x50, h51, hf⟩ := bsome hf
    have hX := field_Writer_Number_ok Fu (S0 := S26) x22 g5 A30 c31 cs32 hr29 hq33 a0.2.1 hr49 8 (show r64 8 from ⟨by decide, by decide⟩) _ h51 _ (h.sub (Ls := [.box g5 108 ([.int .i64 x22.1, .slice A30 x22.2.length c31]), .row (.slice A30 x22.2.length c31) 5 1 x22.2.length cs32]))
    refine q_callY (Ls := [.box g5 108 ([.int .i64 x22.1, .slice A30 x22.2.length c31]), .row (.slice A30 x22.2.length c31) 5 1 x22.2.length cs32]) hX h up27 rfl rfl rfl (by decide) Try.func71 rfl rfl rfl (fun a w v L1 S53 hR le55 up54 h => ?_)
    obtain ⟨A57, c58, cs59, rfl, rfl, hr56, hq60, _⟩ := hR
    refine l_end ?_
    refine c_rs ?_ -- region 6
    refine s_move h rfl _ rfl rfl (by decide) rfl (fun a h => ?_)
    obtain ⟨k61, hc62, ⟨k63, k64, rfl, ⟨k65, k66, rfl, ⟨rfl, hr67⟩, ⟨k68, k69, rfl, ⟨hs70, hl71⟩, ⟨hs72, hl73⟩⟩⟩, ⟨k74, k75, rfl, ⟨rfl, hr76⟩, rfl⟩⟩⟩ := id (hpa0.mono (le28.trans le55))
    refine s_x h rfl rfl (by decide) (x_nil h.k rfl rfl) (fun a h => ?_)
    refine s_x h rfl rfl (by decide) (x_faddr h.k rfl Try.underlying104 rfl sz_api_Root rfl) (fun a h => ?_)
    refine s_x h rfl rfl (by decide) (x_faddr h.k rfl Try.underlying69 rfl sz_A32_uint8 rfl) (fun a h => ?_)
    have hs77 : slS ty8 S53 (some ⟨ga0, 1, none⟩) 32 a0.1.2.1 := slS_arr (fun w hw => rangeMidA (X := [.int .i64 a0.1.1]) (Y := k68) (Z := k69 ++ (([.int .i64 a0.2.1] : List Value) ++ ([.bool a0.2.2]))) (off := 1) (hc62 w hw) (by simp only [List.append_assoc, List.cons_append, List.nil_append, List.append_nil]) rfl) hs70 hl71 (by decide)
    have hhs77 : a0.1.2.1.length = 32 := hl71
    refine s_x h rfl rfl (by decide) (x_slAllE (p := a0.1.2.1) h.k rfl Try.underlying67 sz_uint8 rfl (by decide) hhs77) (fun a h => ?_)
    obtain ⟨x78, h79, hf⟩ := bsome hf
    have hX := field_Writer_Fixed_ok Fu (S0 := S53) x50 g5 A57 c58 cs59 hr56 hq60 (some ⟨ga0, 1, none⟩) 32 a0.1.2.1 hs77 _ h79 _ (h.sub (Ls := [.box g5 108 ([.int .i64 x50.1, .slice A57 x50.2.length c58]), .row (.slice A57 x50.2.length c58) 5 1 x50.2.length cs59]))
    refine q_callY (Ls := [.box g5 108 ([.int .i64 x50.1, .slice A57 x50.2.length c58]), .row (.slice A57 x50.2.length c58) 5 1 x50.2.length cs59]) hX h up54 rfl rfl rfl (by decide) Try.func72 rfl rfl rfl (fun a w v L1 S81 hR le83 up82 h => ?_)
    obtain ⟨A85, c86, cs87, rfl, rfl, hr84, hq88, _⟩ := hR
    refine l_end ?_
    refine c_rs ?_ -- region 7
    refine s_move h rfl _ rfl rfl (by decide) rfl (fun a h => ?_)
    obtain ⟨k89, hc90, ⟨k91, k92, rfl, ⟨k93, k94, rfl, ⟨rfl, hr95⟩, ⟨k96, k97, rfl, ⟨hs98, hl99⟩, ⟨hs100, hl101⟩⟩⟩, ⟨k102, k103, rfl, ⟨rfl, hr104⟩, rfl⟩⟩⟩ := id (hpa0.mono ((le28.trans le55).trans le83))
    refine s_x h rfl rfl (by decide) (x_nil h.k rfl rfl) (fun a h => ?_)
    refine s_x h rfl rfl (by decide) (x_faddr h.k rfl Try.underlying104 rfl sz_api_Root rfl) (fun a h => ?_)
    refine s_x h rfl rfl (by decide) (x_faddr h.k rfl Try.underlying69 rfl sz_A32_uint8 rfl) (fun a h => ?_)
    have hs105 : slS ty8 S81 (some ⟨ga0, 33, none⟩) 32 a0.1.2.2 := slS_arr (fun w hw => rangeMidA (X := ([.int .i64 a0.1.1] : List Value) ++ (k96)) (Y := k97) (Z := ([.int .i64 a0.2.1] : List Value) ++ ([.bool a0.2.2])) (off := 33) (hc90 w hw) (by simp only [List.append_assoc, List.cons_append, List.nil_append, List.append_nil]) (show (([.int .i64 a0.1.1] : List Value) ++ (k96) : List Value).length = 33 from by simp only [List.length_append, List.length_cons, List.length_nil, (show (k96 : List Value).length = 32 from ((hs98).len.trans (by rw [hl99]; rfl))), (show (k97 : List Value).length = 32 from ((hs100).len.trans (by rw [hl101]; rfl)))])) hs100 hl101 (by decide)
    have hhs105 : a0.1.2.2.length = 32 := hl101
    refine s_x h rfl rfl (by decide) (x_slAllE (p := a0.1.2.2) h.k rfl Try.underlying67 sz_uint8 rfl (by decide) hhs105) (fun a h => ?_)
    obtain ⟨x106, h107, hf⟩ := bsome hf
    have hX := field_Writer_Fixed_ok Fu (S0 := S81) x78 g5 A85 c86 cs87 hr84 hq88 (some ⟨ga0, 33, none⟩) 32 a0.1.2.2 hs105 _ h107 _ (h.sub (Ls := [.box g5 108 ([.int .i64 x78.1, .slice A85 x78.2.length c86]), .row (.slice A85 x78.2.length c86) 5 1 x78.2.length cs87]))
    refine q_callY (Ls := [.box g5 108 ([.int .i64 x78.1, .slice A85 x78.2.length c86]), .row (.slice A85 x78.2.length c86) 5 1 x78.2.length cs87]) hX h up82 rfl rfl rfl (by decide) Try.func72 rfl rfl rfl (fun a w v L1 S109 hR le111 up110 h => ?_)
    obtain ⟨A113, c114, cs115, rfl, rfl, hr112, hq116, _⟩ := hR
    refine l_end ?_
    refine c_rs ?_ -- region 8
    obtain ⟨x117, h118, hf⟩ := bsome hf
    have hX := field_Writer_Out_ok Fu (S0 := snapAll _) g5 x106 ⟨[.int .i64 x106.1, .slice A113 x106.2.length c114], h.m.boxAll (i := 0) rfl, ⟨[.int .i64 x106.1], [.slice A113 x106.2.length c114], rfl, ⟨rfl, hr112⟩, ⟨_, _, rfl, h.m.rowAll (i := 1) rfl (j := 2) rfl hq116⟩⟩⟩ _ h118 _ h.startAll
    refine q_callX hX h rfl rfl rfl (by decide) Try.func73 rfl rfl rfl (fun a w v L1 S1 hR hb1 h => ?_)
    obtain ⟨A120, c121, cs122, rfl, rfl, hq123, hr124, _⟩ := hR
    have hq125 := hq123.fl (S' := S109) fl_8
    refine s_move h rfl _ rfl rfl (by decide) rfl (fun a h => ?_)
    refine s_x h rfl rfl (by decide) (x_ext h.k rfl rfl rfl) (fun a h => ?_)
    refine s_x h rfl rfl (by decide) (x_ext h.k rfl rfl rfl) (fun a h => ?_)
    refine s_assign h rfl _ rfl rfl (by decide) rfl (fun a h => ?_)
    refine s_assign h rfl _ rfl rfl (by decide) rfl (fun a h => ?_)
    refine l_end ?_
    refine c_rs ?_ -- region 9
    refine s_move h rfl _ rfl rfl (by decide) rfl (fun a h => ?_)
    refine s_assign h rfl _ rfl rfl (by decide) rfl (fun a h => ?_)
    refine l_end ?_
    refine wp_ret ?_
    obtain rfl := Option.some.inj hf
    exact r_ret1 h rfl (rv_tmp h rfl) ⟨_, [.row (.slice A120 x117.1.length c121) 5 1 x117.1.length cs122], _, rfl, ⟨A120, c121, cs122, rfl, rfl, hq125, trivial⟩, rfl, up110, (h.m.pick [0, 3] _ (by decide) rfl)⟩
def anchor_Slot_Bytes_nil0 (Fu : Nat) : Option ((List UInt8)) :=
  (anchor_Slot_made_nil0 Fu).bind fun x1 => some ([])
set_option maxRecDepth 100000 in
set_option maxHeartbeats 2000000 in
theorem anchor_Slot_Bytes_nil0_ok (Fu : Nat) {S0 : Snap}  (r : (List UInt8)) (hf : anchor_Slot_Bytes_nil0 Fu = some r) (w0 : World) (hm : Mem w0 (ownL ([] ++ [.sn S0])) ([] ++ [.sn S0]) w0) :
    Calls Try.prog 41 #[.pointer none] w0 (Ret w0 S0 [] (fun v L1 S1 => ∃ (A5 : Option Addr), ∃ (c6 : Nat), ∃ (cs7 : List Value), v = .slice A5 r.length c6 ∧ L1 = [.row (.slice A5 r.length c6) 5 1 r.length cs7] ∧ reps ty8 S1 cs7 r ∧ True)) := by
  unfold anchor_Slot_Bytes_nil0 at hf
  refine c_enterM Try.func41 rfl 37 rfl (by simp) _ hm _ rfl (fun a h => ?_)
  refine c_rs ?_ -- region 0
  refine s_assign h rfl _ rfl rfl (by decide) rfl (fun a h => ?_)
  refine l_end ?_
  refine wp_seq ?_
  refine c_rs ?_ -- region 1
  refine s_move h rfl _ rfl rfl (by decide) rfl (fun a h => ?_)
  obtain ⟨x1, h2, hf⟩ := bsome hf
  have hX := anchor_Slot_made_nil0_ok Fu (S0 := snapAll _)  _ h2 _ h.startAll
  refine q_callX hX h rfl rfl rfl (by decide) Try.func70 rfl rfl rfl (fun a w v L1 S1 hR hb1 h => ?_)
  obtain ⟨rfl, rfl, _⟩ := hR
  obtain rfl : x1 = false := by unfold anchor_Slot_made_nil0 at h2; exact (Option.some.inj h2).symm
  refine s_x h rfl rfl (by decide) (x_not h.k rfl rfl) (fun a h => ?_)
  refine l_end ?_
  refine c_cond h rfl (fun hb => ?_) (fun hb => ?_)
  · refine c_rs ?_ -- region 2
    refine s_assign h rfl _ rfl rfl (by decide) rfl (fun a h => ?_)
    refine l_end ?_
    refine wp_ret ?_
    refine e_thenR ?_
    obtain rfl := Option.some.inj hf
    have h := h.mem (h.m.nilrow 5 1)
    exact r_ret1 h rfl (rv_tmp h rfl) ⟨_, [.row (.slice none ([]).length 0) 5 1 ([]).length []], _, rfl, ⟨none, 0, [], rfl, rfl, (show reps ty8 S0 [] [] from rfl), trivial⟩, rfl, (Up.refl _ _ _), h.m⟩
  · exact absurd hb (by decide)
def anchor_Of (Fu : Nat) (a0 : List UInt8) : Option (Sum Int (((Int × (List UInt8) × (List UInt8)) × Int × Bool) × Int)) :=
  if (a0.length : Int) < 80 then (some (.inl 10)) else (if 80 < (a0.length : Int) then (some (.inl 13)) else ((field_Read Fu a0).bind fun x1 => (field_Reader_Number Fu x1 8 1099511627776).bind fun x12 => (field_Reader_Number Fu x12.2 8 1099511627776).bind fun x23 => (field_Reader_Fixed Fu x23.2 32).bind fun x36 => (field_Reader_Fixed Fu x36.2 32).bind fun x70 => (field_Reader_Done Fu x70.2).bind fun x103 => if ((decide (x103 ≠ 0)) || (decide ((((((x12.1, (cpy (List.replicate 32 ((0 : UInt8) : UInt8)) 0 32 x36.1), (List.replicate 32 ((0 : UInt8) : UInt8))), x23.1, true).1).1, (((x12.1, (cpy (List.replicate 32 ((0 : UInt8) : UInt8)) 0 32 x36.1), (List.replicate 32 ((0 : UInt8) : UInt8))), x23.1, true).1).2.1, (cpy ((((x12.1, (cpy (List.replicate 32 ((0 : UInt8) : UInt8)) 0 32 x36.1), (List.replicate 32 ((0 : UInt8) : UInt8))), x23.1, true).1).2.2) 0 32 x70.1)), ((x12.1, (cpy (List.replicate 32 ((0 : UInt8) : UInt8)) 0 32 x36.1), (List.replicate 32 ((0 : UInt8) : UInt8))), x23.1, true).2.1, ((x12.1, (cpy (List.replicate 32 ((0 : UInt8) : UInt8)) 0 32 x36.1), (List.replicate 32 ((0 : UInt8) : UInt8))), x23.1, true).2.2).2.1 < x12.1))) = true then (some (.inl 11)) else (some (.inr ((((((x12.1, (cpy (List.replicate 32 ((0 : UInt8) : UInt8)) 0 32 x36.1), (List.replicate 32 ((0 : UInt8) : UInt8))), x23.1, true).1).1, (((x12.1, (cpy (List.replicate 32 ((0 : UInt8) : UInt8)) 0 32 x36.1), (List.replicate 32 ((0 : UInt8) : UInt8))), x23.1, true).1).2.1, (cpy ((((x12.1, (cpy (List.replicate 32 ((0 : UInt8) : UInt8)) 0 32 x36.1), (List.replicate 32 ((0 : UInt8) : UInt8))), x23.1, true).1).2.2) 0 32 x70.1)), ((x12.1, (cpy (List.replicate 32 ((0 : UInt8) : UInt8)) 0 32 x36.1), (List.replicate 32 ((0 : UInt8) : UInt8))), x23.1, true).2.1, ((x12.1, (cpy (List.replicate 32 ((0 : UInt8) : UInt8)) 0 32 x36.1), (List.replicate 32 ((0 : UInt8) : UInt8))), x23.1, true).2.2), 0)))))
set_option maxRecDepth 100000 in
set_option maxHeartbeats 2000000 in
theorem anchor_Of_ok (Fu : Nat) {S0 : Snap} (Aa0 : Option Addr) (ca0 : Nat) (a0 : List UInt8) (hsa0 : slS ty8 S0 Aa0 ca0 a0) (r : Sum Int (((Int × (List UInt8) × (List UInt8)) × Int × Bool) × Int)) (hf : anchor_Of Fu a0 = some r) (w0 : World) (hm : Mem w0 (ownL ([] ++ [.sn S0])) ([] ++ [.sn S0]) w0) :
    Calls Try.prog 43 #[.slice Aa0 a0.length ca0] w0 (Ret w0 S0 [] (fun v L1 S1 => (∃ r0, r = .inl r0 ∧ v = .tuple #[.pointer none, .int .i64 r0] ∧ L1 = [] ∧ r64 r0 ∧ True) ∨ (∃ r0, r = .inr r0 ∧ ∃ (g110 : Nat), ∃ (k112 : List Value), ∃ (k115 : List Value), v = .tuple #[.pointer (some ⟨g110, 0, none⟩), .int .i64 r0.2] ∧ L1 = [.box g110 104 (([.int .i64 r0.1.1.1] : List Value) ++ (k112 ++ (k115 ++ ([.int .i64 r0.1.2.1, .bool r0.1.2.2]))))] ∧ r64 r0.1.1.1 ∧ reps ty8 S1 k112 r0.1.1.2.1 ∧ r0.1.1.2.1.length = 32 ∧ reps ty8 S1 k115 r0.1.1.2.2 ∧ r0.1.1.2.2.length = 32 ∧ r64 r0.1.2.1 ∧ r64 r0.2 ∧ True))) := by
  unfold anchor_Of at hf
  refine c_enterM Try.func43 rfl 56 rfl (by simp) _ hm _ rfl (fun a h => ?_)
  refine c_rs ?_ -- region 0
  refine s_assign h rfl _ rfl rfl (by decide) rfl (fun a h => ?_)
  refine s_assign h rfl _ rfl rfl (by decide) rfl (fun a h => ?_)
  refine l_end ?_
  refine wp_seq ?_
  refine wp_block ?_
  refine c_rs ?_ -- region 1
  refine s_move h rfl _ rfl rfl (by decide) rfl (fun a h => ?_)
  refine s_x h rfl rfl (by decide) (x_len h.k rfl Try.underlying22 rfl) (fun a h => ?_)
  refine s_x h rfl rfl (by decide) (x_bin h.k rfl rfl rfl ib_lss) (fun a h => ?_)
  refine s_assign h rfl _ rfl rfl (by decide) rfl (fun a h => ?_)
  refine l_end ?_
  refine c_cond h rfl (fun hb => ?_) (fun hb => ?_)
  · rw [if_pos (of_decide_eq_true hb)] at hf
    refine c_rs ?_ -- region 2
    refine s_assign h rfl _ rfl rfl (by decide) rfl (fun a h => ?_)
    refine s_assign h rfl _ rfl rfl (by decide) rfl (fun a h => ?_)
    refine l_end ?_
    refine wp_ret ?_
    refine e_blkR ?_
    refine e_thenR ?_
    rw [← Option.some.inj hf]
    exact r_ret2 h rfl (rv_tmp h rfl) (rv_tmp h rfl) ⟨_, [], _, rfl, (.inl ⟨_, rfl, ⟨rfl, rfl, (show r64 10 from ⟨by decide, by decide⟩), trivial⟩⟩), rfl, (Up.refl _ _ _), h.m⟩
  · rw [if_neg (of_decide_eq_false hb)] at hf
    refine c_rs ?_ -- region 3
    refine s_move h rfl _ rfl rfl (by decide) rfl (fun a h => ?_)
    refine s_x h rfl rfl (by decide) (x_len h.k rfl Try.underlying22 rfl) (fun a h => ?_)
    refine s_x h rfl rfl (by decide) (x_bin h.k rfl rfl rfl ib_gtr) (fun a h => ?_)
    refine s_assign h rfl _ rfl rfl (by decide) rfl (fun a h => ?_)
    refine l_end ?_
    refine c_cond h rfl (fun hb => ?_) (fun hb => ?_)
    · rw [if_pos (of_decide_eq_true hb)] at hf
      refine c_rs ?_ -- region 4
      refine s_assign h rfl _ rfl rfl (by decide) rfl (fun a h => ?_)
      refine s_assign h rfl _ rfl rfl (by decide) rfl (fun a h => ?_)
      refine l_end ?_
      refine wp_ret ?_
      refine e_blkR ?_
      refine e_thenR ?_
      rw [← Option.some.inj hf]
      exact r_ret2 h rfl (rv_tmp h rfl) (rv_tmp h rfl) ⟨_, [], _, rfl, (.inl ⟨_, rfl, ⟨rfl, rfl, (show r64 13 from ⟨by decide, by decide⟩), trivial⟩⟩), rfl, (Up.refl _ _ _), h.m⟩
    · rw [if_neg (of_decide_eq_false hb)] at hf
      refine wp_skip ?_
      refine e_blkN ?_
      refine e_thenN ?_
      refine c_rs ?_ -- region 5
      refine s_move h rfl _ rfl rfl (by decide) rfl (fun a h => ?_)
      obtain ⟨x1, h2, hf⟩ := bsome hf
      have hX := field_Read_ok Fu (S0 := S0) Aa0 ca0 a0 hsa0 _ h2 _ (h.sub (Ls := []))
      refine q_callY (Ls := []) hX h (Up.refl _ _ _) rfl rfl rfl (by decide) Try.func74 rfl rfl rfl (fun a w v L1 S4 hR le6 up5 h => ?_)
      obtain ⟨g7, A9, c10, rfl, rfl, hr8, hs11, _⟩ := hR
      refine s_assign h rfl _ rfl rfl (by decide) rfl (fun a h => ?_)
      refine l_end ?_
      refine c_rs ?_ -- region 6
      refine s_move h rfl _ rfl rfl (by decide) rfl (fun a h => ?_)
      obtain ⟨x12, h13, hf⟩ := bsome hf
      have hX := field_Reader_Number_ok Fu (S0 := S4) x1 g7 A9 c10 hr8 hs11 8 (show r64 8 from ⟨by decide, by decide⟩) 1099511627776 (show r64 1099511627776 from ⟨by decide, by decide⟩) _ h13 _ (h.sub (Ls := [.box g7 132 ([.int .i64 x1.1, .slice A9 x1.2.1.length c10, .bool x1.2.2])]))
      refine q_callY (Ls := [.box g7 132 ([.int .i64 x1.1, .slice A9 x1.2.1.length c10, .bool x1.2.2])]) hX h up5 rfl rfl rfl (by decide) Try.func75 rfl rfl rfl (fun a w v L1 S15 hR le17 up16 h => ?_)
      obtain ⟨A20, c21, rfl, rfl, hr18, hr19, hs22, _⟩ := hR
      refine s_assign h rfl _ rfl rfl (by decide) rfl (fun a h => ?_)
      refine l_end ?_
      refine c_rs ?_ -- region 7
      refine s_move h rfl _ rfl rfl (by decide) rfl (fun a h => ?_)
      obtain ⟨x23, h24, hf⟩ := bsome hf
      have hX := field_Reader_Number_ok Fu (S0 := S15) x12.2 g7 A20 c21 hr19 hs22 8 (show r64 8 from ⟨by decide, by decide⟩) 1099511627776 (show r64 1099511627776 from ⟨by decide, by decide⟩) _ h24 _ (h.sub (Ls := [.box g7 132 ([.int .i64 x12.2.1, .slice A20 x12.2.2.1.length c21, .bool x12.2.2.2])]))
      refine q_callY (Ls := [.box g7 132 ([.int .i64 x12.2.1, .slice A20 x12.2.2.1.length c21, .bool x12.2.2.2])]) hX h up16 rfl rfl rfl (by decide) Try.func75 rfl rfl rfl (fun a w v L1 S26 hR le28 up27 h => ?_)
      obtain ⟨A31, c32, rfl, rfl, hr29, hr30, hs33, _⟩ := hR
      refine s_x h rfl rfl (by decide) (x_build h.k rfl [(1, .int .i64 x23.1), (2, .bool true)] rfl (([.int .i64 0] : List Value) ++ ((List.replicate 32 (.int .u8 0 : Value)) ++ ((List.replicate 32 (.int .u8 0 : Value)) ++ ([.int .i64 x23.1, .bool true])))) (by kernel_rfl)) (fun a h => ?_)
      refine s_box h rfl rfl rfl (by decide) rfl (cs := ([.int .i64 0] : List Value) ++ ((List.replicate 32 (.int .u8 0 : Value)) ++ ((List.replicate 32 (.int .u8 0 : Value)) ++ ([.int .i64 x23.1, .bool true])))) (by rfl) (fun a w g34 h => ?_)
      refine s_assign h rfl _ rfl rfl (by decide) rfl (fun a h => ?_)
      refine l_end ?_
      refine c_rs ?_ -- region 8
      refine s_move h rfl _ rfl rfl (by decide) rfl (fun a h => ?_)
      refine s_move h rfl _ rfl rfl (by decide) rfl (fun a h => ?_)
      refine s_x h rfl rfl (by decide) (x_nil h.k rfl rfl) (fun a h => ?_)
      refine s_x h rfl rfl (by decide) (x_faddr h.k rfl Try.underlying104 rfl sz_api_Root rfl) (fun a h => ?_)
      refine s_x h rfl rfl (by decide) (x_faddr h.k rfl Try.underlying69 rfl sz_int rfl) (fun a h => ?_)
      have h := h.parts (L' := [.box g34 104 ([] ++ ([.int .i64 0] ++ ((List.replicate 32 (.int .u8 0 : Value)) ++ ((List.replicate 32 (.int .u8 0 : Value)) ++ (([.int .i64 x23.1] : List Value) ++ ([.bool true])))))), .box g7 132 ([.int .i64 x23.2.1, .slice A31 x23.2.2.1.length c32, .bool x23.2.2.2]), .sn S26]) (by simp only [List.append_assoc, List.cons_append, List.nil_append, List.append_nil])
      refine s_stM (X := []) (Z := (List.replicate 32 (.int .u8 0 : Value)) ++ ((List.replicate 32 (.int .u8 0 : Value)) ++ (([.int .i64 x23.1] : List Value) ++ ([.bool true])))) h rfl rfl rfl sz_int rfl rfl rfl 0 rfl rfl (fun a w h => ?_)
      have h := h.parts (L' := [.box g34 104 (([.int .i64 x12.1] : List Value) ++ ((List.replicate 32 (.int .u8 0 : Value)) ++ ((List.replicate 32 (.int .u8 0 : Value)) ++ ([.int .i64 x23.1, .bool true])))), .box g7 132 ([.int .i64 x23.2.1, .slice A31 x23.2.2.1.length c32, .bool x23.2.2.2]), .sn S26]) (by simp only [List.set, List.append_assoc, List.cons_append, List.nil_append, List.append_nil])
      refine l_end ?_
      refine wp_seq ?_
      -- region 9 draws
      obtain ⟨x36, h37, hf⟩ := bsome hf
      refine c_fin (fun a w => ∃ (S54 : Snap), ∃ (A58 : Option Addr), ∃ (c59 : Nat), ∃ (k62 : List Value), ∃ (k65 : List Value), Snap.le S26 S54 ∧ Up (ownL ([] ++ [.sn S0])) w0 S0 S54 ∧ r64 x36.2.1 ∧ slS ty8 S54 A58 c59 x36.2.2.1 ∧ r64 ((((x12.1, (cpy (List.replicate 32 ((0 : UInt8) : UInt8)) 0 32 x36.1), (List.replicate 32 ((0 : UInt8) : UInt8))), x23.1, true).1).1) ∧ reps ty8 S54 k62 ((((x12.1, (cpy (List.replicate 32 ((0 : UInt8) : UInt8)) 0 32 x36.1), (List.replicate 32 ((0 : UInt8) : UInt8))), x23.1, true).1).2.1) ∧ ((((x12.1, (cpy (List.replicate 32 ((0 : UInt8) : UInt8)) 0 32 x36.1), (List.replicate 32 ((0 : UInt8) : UInt8))), x23.1, true).1).2.1).length = 32 ∧ reps ty8 S54 k65 ((((x12.1, (cpy (List.replicate 32 ((0 : UInt8) : UInt8)) 0 32 x36.1), (List.replicate 32 ((0 : UInt8) : UInt8))), x23.1, true).1).2.2) ∧ ((((x12.1, (cpy (List.replicate 32 ((0 : UInt8) : UInt8)) 0 32 x36.1), (List.replicate 32 ((0 : UInt8) : UInt8))), x23.1, true).1).2.2).length = 32 ∧ r64 (((x12.1, (cpy (List.replicate 32 ((0 : UInt8) : UInt8)) 0 32 x36.1), (List.replicate 32 ((0 : UInt8) : UInt8))), x23.1, true).2.1) ∧ St 56 w0 (ownL ([] ++ [.sn S0])) [(4, .pointer (some ⟨g7, 0, none⟩)), (5, .int .i64 x12.1), (6, .pointer (some ⟨g34, 0, none⟩))] [.box g7 132 ([.int .i64 x36.2.1, .slice A58 x36.2.2.1.length c59, .bool x36.2.2.2]), .box g34 104 (([.int .i64 ((((x12.1, (cpy (List.replicate 32 ((0 : UInt8) : UInt8)) 0 32 x36.1), (List.replicate 32 ((0 : UInt8) : UInt8))), x23.1, true).1).1)] : List Value) ++ (k62 ++ (k65 ++ ([.int .i64 (((x12.1, (cpy (List.replicate 32 ((0 : UInt8) : UInt8)) 0 32 x36.1), (List.replicate 32 ((0 : UInt8) : UInt8))), x23.1, true).2.1), .bool (((x12.1, (cpy (List.replicate 32 ((0 : UInt8) : UInt8)) 0 32 x36.1), (List.replicate 32 ((0 : UInt8) : UInt8))), x23.1, true).2.2)])))), .sn S54] a w) ?_ (fun a w h => ?_)
      · refine d_start h (Mem _ _ _) 8 8 rfl (by kernel_rfl) (fun _ _ _ _ _ h => h) (fun _ h => h.pick [] [] (by decide) rfl) (fun Q a w HE HN h HS => ?_)
        refine d_takeP h (fun _ => HS) HN 0 rfl (by kernel_rfl) (by kernel_rfl) (by kernel_rfl) (by decide) rfl rfl (by decide) (fun w' => x_move h.k _ rfl rfl) (fun a h => ?_)
        refine d_takeP h (fun _ => HS) HN 1 rfl (by kernel_rfl) (by kernel_rfl) (by kernel_rfl) (by decide) rfl rfl (by decide) (fun w' => x_nil h.k rfl rfl) (fun a h => ?_)
        refine d_takeP h (fun _ => HS) HN 2 rfl (by kernel_rfl) (by kernel_rfl) (by kernel_rfl) (by decide) rfl rfl (by decide) (fun w' => x_faddr h.k rfl Try.underlying104 rfl sz_api_Root rfl) (fun a h => ?_)
        refine d_takeP h (fun _ => HS) HN 3 rfl (by kernel_rfl) (by kernel_rfl) (by kernel_rfl) (by decide) rfl rfl (by decide) (fun w' => x_faddr h.k rfl Try.underlying69 rfl sz_A32_uint8 rfl) (fun a h => ?_)
        have hl35 : (List.replicate 32 ((0 : UInt8) : UInt8)).length = 32 := (show (List.replicate 32 ((0 : UInt8) : UInt8)).length = 32 from List.length_replicate)
        refine d_takeP h (fun _ => HS) HN 4 rfl (by kernel_rfl) (by kernel_rfl) (by kernel_rfl) (by decide) rfl rfl (by decide) (fun w' => x_slAllE (p := (List.replicate 32 ((0 : UInt8) : UInt8))) h.k rfl Try.underlying67 sz_uint8 rfl (by decide) hl35) (fun a h => ?_)
        refine d_takeP h (fun _ => HS) HN 5 rfl (by kernel_rfl) (by kernel_rfl) (by kernel_rfl) (by decide) rfl rfl (by decide) (fun w' => x_move h.k _ rfl rfl) (fun a h => ?_)
        refine d_alone 6 rfl (by kernel_rfl) (fun K hK => ?_)
        have h := h.pick [1, 2, 0] (by decide) rfl
        have hX := field_Reader_Fixed_ok Fu (S0 := S26) x23.2 g7 A31 c32 hr30 hs33 32 (show r64 32 from ⟨by decide, by decide⟩) _ h37 _ (h.sub (Ls := [.box g7 132 ([.int .i64 x23.2.1, .slice A31 x23.2.2.1.length c32, .bool x23.2.2.2])]))
        refine q_callY (Ls := [.box g7 132 ([.int .i64 x23.2.1, .slice A31 x23.2.2.1.length c32, .bool x23.2.2.2])]) hX h up27 rfl rfl rfl (by decide) Try.func76 rfl rfl rfl (fun a w v L1 S39 hR le41 up40 h => ?_)
        obtain ⟨A42, c43, cs44, A47, c48, rfl, rfl, hq45, hr46, hs49, _⟩ := hR
        replace HS := h.m.pick [] [] (by decide) rfl
        refine hK _ _ (fun _ _ => HS) ?_
        clear hK
        refine d_alone 7 rfl (by kernel_rfl) (fun K hK => ?_)
        have h := h.parts (L' := [.row (.slice A42 x36.1.length c43) 5 1 x36.1.length cs44, .box g7 132 ([.int .i64 x36.2.1, .slice A47 x36.2.2.1.length c48, .bool x36.2.2.2]), .sn S39, .box g34 104 ([.int .i64 x12.1] ++ ((List.replicate 32 (.int .u8 0 : Value)) ++ ((List.replicate 32 (.int .u8 0 : Value)) ++ (([.int .i64 x23.1] : List Value) ++ ([.bool true])))))]) (by simp only [List.append_assoc, List.cons_append, List.nil_append, List.append_nil])
        refine q_copyM (T := ty8) (S := S39) (X := [.int .i64 x12.1]) (cs := (List.replicate 32 (.int .u8 0 : Value))) (Z := (List.replicate 32 (.int .u8 0 : Value)) ++ (([.int .i64 x23.1] : List Value) ++ ([.bool true]))) h rfl rfl rfl (by decide) Try.underlying22 sz_uint8 rfl rfl 3 rfl rfl rfl (show reps ty8 S39 (List.replicate 32 (.int .u8 0 : Value)) (List.replicate 32 ((0 : UInt8) : UInt8)) from repsRep1 (x := ((0 : UInt8) : UInt8)) rfl) hq45 (h.m.rdRowA (i := 0) rfl) rfl (show (List.replicate 32 ((0 : UInt8) : UInt8)).length = 32 from List.length_replicate) (fun a w cs50 n51 hq52 h => ?_)
        have hl53 : (cpy (List.replicate 32 ((0 : UInt8) : UInt8)) 0 32 x36.1).length = 32 := (cpy_len _ (Nat.zero_le _) (Nat.le_of_eq ((show (List.replicate 32 ((0 : UInt8) : UInt8)).length = 32 from List.length_replicate)).symm)).trans (show (List.replicate 32 ((0 : UInt8) : UInt8)).length = 32 from List.length_replicate)
        have h := h.parts (L' := [.row (.slice A42 x36.1.length c43) 5 1 x36.1.length cs44, .box g7 132 ([.int .i64 x36.2.1, .slice A47 x36.2.2.1.length c48, .bool x36.2.2.2]), .sn S39, .box g34 104 (([.int .i64 x12.1] : List Value) ++ (cs50 ++ ((List.replicate 32 (.int .u8 0 : Value)) ++ ([.int .i64 x23.1, .bool true]))))]) (by simp only [List.set, List.append_assoc, List.cons_append, List.nil_append, List.append_nil])
        replace HS := h.m.pick [] [] (by decide) rfl
        refine hK _ _ (fun _ _ => HS) ?_
        clear hK
        refine d_done (by kernel_rfl) (HE _ _ ?_) _
        refine e_thenN ?_
        have h := h.pick [1, 3, 2] (by decide) rfl
        exact ⟨S39, A47, c48, cs50, (List.replicate 32 (.int .u8 0 : Value)), le41, up40, hr46, hs49, hr18, hq52, hl53, (show reps ty8 S39 (List.replicate 32 (.int .u8 0 : Value)) (List.replicate 32 ((0 : UInt8) : UInt8)) from repsRep1 (x := ((0 : UInt8) : UInt8)) rfl), (show (List.replicate 32 ((0 : UInt8) : UInt8)).length = 32 from List.length_replicate), hr29, h.has (by exact ⟨rfl, rfl, rfl, trivial⟩)⟩
      obtain ⟨S54, A58, c59, k62, k65, le55, up56, hr57, hs60, hr61, hs63, hl64, hs66, hl67, hr68, h⟩ := h
      refine e_thenN ?_
      refine wp_seq ?_
      -- region 10 draws
      obtain ⟨x70, h71, hf⟩ := bsome hf
      refine c_fin (fun a w => ∃ (S88 : Snap), ∃ (A92 : Option Addr), ∃ (c93 : Nat), ∃ (k96 : List Value), ∃ (k99 : List Value), Snap.le S54 S88 ∧ Up (ownL ([] ++ [.sn S0])) w0 S0 S88 ∧ r64 x70.2.1 ∧ slS ty8 S88 A92 c93 x70.2.2.1 ∧ r64 (((((((x12.1, (cpy (List.replicate 32 ((0 : UInt8) : UInt8)) 0 32 x36.1), (List.replicate 32 ((0 : UInt8) : UInt8))), x23.1, true).1).1, (((x12.1, (cpy (List.replicate 32 ((0 : UInt8) : UInt8)) 0 32 x36.1), (List.replicate 32 ((0 : UInt8) : UInt8))), x23.1, true).1).2.1, (cpy ((((x12.1, (cpy (List.replicate 32 ((0 : UInt8) : UInt8)) 0 32 x36.1), (List.replicate 32 ((0 : UInt8) : UInt8))), x23.1, true).1).2.2) 0 32 x70.1)), ((x12.1, (cpy (List.replicate 32 ((0 : UInt8) : UInt8)) 0 32 x36.1), (List.replicate 32 ((0 : UInt8) : UInt8))), x23.1, true).2.1, ((x12.1, (cpy (List.replicate 32 ((0 : UInt8) : UInt8)) 0 32 x36.1), (List.replicate 32 ((0 : UInt8) : UInt8))), x23.1, true).2.2).1).1) ∧ reps ty8 S88 k96 (((((((x12.1, (cpy (List.replicate 32 ((0 : UInt8) : UInt8)) 0 32 x36.1), (List.replicate 32 ((0 : UInt8) : UInt8))), x23.1, true).1).1, (((x12.1, (cpy (List.replicate 32 ((0 : UInt8) : UInt8)) 0 32 x36.1), (List.replicate 32 ((0 : UInt8) : UInt8))), x23.1, true).1).2.1, (cpy ((((x12.1, (cpy (List.replicate 32 ((0 : UInt8) : UInt8)) 0 32 x36.1), (List.replicate 32 ((0 : UInt8) : UInt8))), x23.1, true).1).2.2) 0 32 x70.1)), ((x12.1, (cpy (List.replicate 32 ((0 : UInt8) : UInt8)) 0 32 x36.1), (List.replicate 32 ((0 : UInt8) : UInt8))), x23.1, true).2.1, ((x12.1, (cpy (List.replicate 32 ((0 : UInt8) : UInt8)) 0 32 x36.1), (List.replicate 32 ((0 : UInt8) : UInt8))), x23.1, true).2.2).1).2.1) ∧ (((((((x12.1, (cpy (List.replicate 32 ((0 : UInt8) : UInt8)) 0 32 x36.1), (List.replicate 32 ((0 : UInt8) : UInt8))), x23.1, true).1).1, (((x12.1, (cpy (List.replicate 32 ((0 : UInt8) : UInt8)) 0 32 x36.1), (List.replicate 32 ((0 : UInt8) : UInt8))), x23.1, true).1).2.1, (cpy ((((x12.1, (cpy (List.replicate 32 ((0 : UInt8) : UInt8)) 0 32 x36.1), (List.replicate 32 ((0 : UInt8) : UInt8))), x23.1, true).1).2.2) 0 32 x70.1)), ((x12.1, (cpy (List.replicate 32 ((0 : UInt8) : UInt8)) 0 32 x36.1), (List.replicate 32 ((0 : UInt8) : UInt8))), x23.1, true).2.1, ((x12.1, (cpy (List.replicate 32 ((0 : UInt8) : UInt8)) 0 32 x36.1), (List.replicate 32 ((0 : UInt8) : UInt8))), x23.1, true).2.2).1).2.1).length = 32 ∧ reps ty8 S88 k99 (((((((x12.1, (cpy (List.replicate 32 ((0 : UInt8) : UInt8)) 0 32 x36.1), (List.replicate 32 ((0 : UInt8) : UInt8))), x23.1, true).1).1, (((x12.1, (cpy (List.replicate 32 ((0 : UInt8) : UInt8)) 0 32 x36.1), (List.replicate 32 ((0 : UInt8) : UInt8))), x23.1, true).1).2.1, (cpy ((((x12.1, (cpy (List.replicate 32 ((0 : UInt8) : UInt8)) 0 32 x36.1), (List.replicate 32 ((0 : UInt8) : UInt8))), x23.1, true).1).2.2) 0 32 x70.1)), ((x12.1, (cpy (List.replicate 32 ((0 : UInt8) : UInt8)) 0 32 x36.1), (List.replicate 32 ((0 : UInt8) : UInt8))), x23.1, true).2.1, ((x12.1, (cpy (List.replicate 32 ((0 : UInt8) : UInt8)) 0 32 x36.1), (List.replicate 32 ((0 : UInt8) : UInt8))), x23.1, true).2.2).1).2.2) ∧ (((((((x12.1, (cpy (List.replicate 32 ((0 : UInt8) : UInt8)) 0 32 x36.1), (List.replicate 32 ((0 : UInt8) : UInt8))), x23.1, true).1).1, (((x12.1, (cpy (List.replicate 32 ((0 : UInt8) : UInt8)) 0 32 x36.1), (List.replicate 32 ((0 : UInt8) : UInt8))), x23.1, true).1).2.1, (cpy ((((x12.1, (cpy (List.replicate 32 ((0 : UInt8) : UInt8)) 0 32 x36.1), (List.replicate 32 ((0 : UInt8) : UInt8))), x23.1, true).1).2.2) 0 32 x70.1)), ((x12.1, (cpy (List.replicate 32 ((0 : UInt8) : UInt8)) 0 32 x36.1), (List.replicate 32 ((0 : UInt8) : UInt8))), x23.1, true).2.1, ((x12.1, (cpy (List.replicate 32 ((0 : UInt8) : UInt8)) 0 32 x36.1), (List.replicate 32 ((0 : UInt8) : UInt8))), x23.1, true).2.2).1).2.2).length = 32 ∧ r64 ((((((x12.1, (cpy (List.replicate 32 ((0 : UInt8) : UInt8)) 0 32 x36.1), (List.replicate 32 ((0 : UInt8) : UInt8))), x23.1, true).1).1, (((x12.1, (cpy (List.replicate 32 ((0 : UInt8) : UInt8)) 0 32 x36.1), (List.replicate 32 ((0 : UInt8) : UInt8))), x23.1, true).1).2.1, (cpy ((((x12.1, (cpy (List.replicate 32 ((0 : UInt8) : UInt8)) 0 32 x36.1), (List.replicate 32 ((0 : UInt8) : UInt8))), x23.1, true).1).2.2) 0 32 x70.1)), ((x12.1, (cpy (List.replicate 32 ((0 : UInt8) : UInt8)) 0 32 x36.1), (List.replicate 32 ((0 : UInt8) : UInt8))), x23.1, true).2.1, ((x12.1, (cpy (List.replicate 32 ((0 : UInt8) : UInt8)) 0 32 x36.1), (List.replicate 32 ((0 : UInt8) : UInt8))), x23.1, true).2.2).2.1) ∧ St 56 w0 (ownL ([] ++ [.sn S0])) [(4, .pointer (some ⟨g7, 0, none⟩)), (5, .int .i64 x12.1), (6, .pointer (some ⟨g34, 0, none⟩))] [.box g7 132 ([.int .i64 x70.2.1, .slice A92 x70.2.2.1.length c93, .bool x70.2.2.2]), .box g34 104 (([.int .i64 (((((((x12.1, (cpy (List.replicate 32 ((0 : UInt8) : UInt8)) 0 32 x36.1), (List.replicate 32 ((0 : UInt8) : UInt8))), x23.1, true).1).1, (((x12.1, (cpy (List.replicate 32 ((0 : UInt8) : UInt8)) 0 32 x36.1), (List.replicate 32 ((0 : UInt8) : UInt8))), x23.1, true).1).2.1, (cpy ((((x12.1, (cpy (List.replicate 32 ((0 : UInt8) : UInt8)) 0 32 x36.1), (List.replicate 32 ((0 : UInt8) : UInt8))), x23.1, true).1).2.2) 0 32 x70.1)), ((x12.1, (cpy (List.replicate 32 ((0 : UInt8) : UInt8)) 0 32 x36.1), (List.replicate 32 ((0 : UInt8) : UInt8))), x23.1, true).2.1, ((x12.1, (cpy (List.replicate 32 ((0 : UInt8) : UInt8)) 0 32 x36.1), (List.replicate 32 ((0 : UInt8) : UInt8))), x23.1, true).2.2).1).1)] : List Value) ++ (k96 ++ (k99 ++ ([.int .i64 ((((((x12.1, (cpy (List.replicate 32 ((0 : UInt8) : UInt8)) 0 32 x36.1), (List.replicate 32 ((0 : UInt8) : UInt8))), x23.1, true).1).1, (((x12.1, (cpy (List.replicate 32 ((0 : UInt8) : UInt8)) 0 32 x36.1), (List.replicate 32 ((0 : UInt8) : UInt8))), x23.1, true).1).2.1, (cpy ((((x12.1, (cpy (List.replicate 32 ((0 : UInt8) : UInt8)) 0 32 x36.1), (List.replicate 32 ((0 : UInt8) : UInt8))), x23.1, true).1).2.2) 0 32 x70.1)), ((x12.1, (cpy (List.replicate 32 ((0 : UInt8) : UInt8)) 0 32 x36.1), (List.replicate 32 ((0 : UInt8) : UInt8))), x23.1, true).2.1, ((x12.1, (cpy (List.replicate 32 ((0 : UInt8) : UInt8)) 0 32 x36.1), (List.replicate 32 ((0 : UInt8) : UInt8))), x23.1, true).2.2).2.1), .bool ((((((x12.1, (cpy (List.replicate 32 ((0 : UInt8) : UInt8)) 0 32 x36.1), (List.replicate 32 ((0 : UInt8) : UInt8))), x23.1, true).1).1, (((x12.1, (cpy (List.replicate 32 ((0 : UInt8) : UInt8)) 0 32 x36.1), (List.replicate 32 ((0 : UInt8) : UInt8))), x23.1, true).1).2.1, (cpy ((((x12.1, (cpy (List.replicate 32 ((0 : UInt8) : UInt8)) 0 32 x36.1), (List.replicate 32 ((0 : UInt8) : UInt8))), x23.1, true).1).2.2) 0 32 x70.1)), ((x12.1, (cpy (List.replicate 32 ((0 : UInt8) : UInt8)) 0 32 x36.1), (List.replicate 32 ((0 : UInt8) : UInt8))), x23.1, true).2.1, ((x12.1, (cpy (List.replicate 32 ((0 : UInt8) : UInt8)) 0 32 x36.1), (List.replicate 32 ((0 : UInt8) : UInt8))), x23.1, true).2.2).2.2)])))), .sn S88] a w) ?_ (fun a w h => ?_)
      · refine d_start h (Mem _ _ _) 8 8 rfl (by kernel_rfl) (fun _ _ _ _ _ h => h) (fun _ h => h.pick [] [] (by decide) rfl) (fun Q a w HE HN h HS => ?_)
        refine d_takeP h (fun _ => HS) HN 0 rfl (by kernel_rfl) (by kernel_rfl) (by kernel_rfl) (by decide) rfl rfl (by decide) (fun w' => x_move h.k _ rfl rfl) (fun a h => ?_)
        refine d_takeP h (fun _ => HS) HN 1 rfl (by kernel_rfl) (by kernel_rfl) (by kernel_rfl) (by decide) rfl rfl (by decide) (fun w' => x_nil h.k rfl rfl) (fun a h => ?_)
        refine d_takeP h (fun _ => HS) HN 2 rfl (by kernel_rfl) (by kernel_rfl) (by kernel_rfl) (by decide) rfl rfl (by decide) (fun w' => x_faddr h.k rfl Try.underlying104 rfl sz_api_Root rfl) (fun a h => ?_)
        refine d_takeP h (fun _ => HS) HN 3 rfl (by kernel_rfl) (by kernel_rfl) (by kernel_rfl) (by decide) rfl rfl (by decide) (fun w' => x_faddr h.k rfl Try.underlying69 rfl sz_A32_uint8 rfl) (fun a h => ?_)
        have hl69 : ((((x12.1, (cpy (List.replicate 32 ((0 : UInt8) : UInt8)) 0 32 x36.1), (List.replicate 32 ((0 : UInt8) : UInt8))), x23.1, true).1).2.2).length = 32 := hl67
        refine d_takeP h (fun _ => HS) HN 4 rfl (by kernel_rfl) (by kernel_rfl) (by kernel_rfl) (by decide) rfl rfl (by decide) (fun w' => x_slAllE (p := ((((x12.1, (cpy (List.replicate 32 ((0 : UInt8) : UInt8)) 0 32 x36.1), (List.replicate 32 ((0 : UInt8) : UInt8))), x23.1, true).1).2.2)) h.k rfl Try.underlying67 sz_uint8 rfl (by decide) hl69) (fun a h => ?_)
        refine d_takeP h (fun _ => HS) HN 5 rfl (by kernel_rfl) (by kernel_rfl) (by kernel_rfl) (by decide) rfl rfl (by decide) (fun w' => x_move h.k _ rfl rfl) (fun a h => ?_)
        refine d_alone 6 rfl (by kernel_rfl) (fun K hK => ?_)
        have h := h.pick [0, 2, 1] (by decide) rfl
        have hX := field_Reader_Fixed_ok Fu (S0 := S54) x36.2 g7 A58 c59 hr57 hs60 32 (show r64 32 from ⟨by decide, by decide⟩) _ h71 _ (h.sub (Ls := [.box g7 132 ([.int .i64 x36.2.1, .slice A58 x36.2.2.1.length c59, .bool x36.2.2.2])]))
        refine q_callY (Ls := [.box g7 132 ([.int .i64 x36.2.1, .slice A58 x36.2.2.1.length c59, .bool x36.2.2.2])]) hX h up56 rfl rfl rfl (by decide) Try.func76 rfl rfl rfl (fun a w v L1 S73 hR le75 up74 h => ?_)
        obtain ⟨A76, c77, cs78, A81, c82, rfl, rfl, hq79, hr80, hs83, _⟩ := hR
        replace HS := h.m.pick [] [] (by decide) rfl
        refine hK _ _ (fun _ _ => HS) ?_
        clear hK
        refine d_alone 7 rfl (by kernel_rfl) (fun K hK => ?_)
        have h := h.parts (L' := [.row (.slice A76 x70.1.length c77) 5 1 x70.1.length cs78, .box g7 132 ([.int .i64 x70.2.1, .slice A81 x70.2.2.1.length c82, .bool x70.2.2.2]), .sn S73, .box g34 104 ((([.int .i64 ((((x12.1, (cpy (List.replicate 32 ((0 : UInt8) : UInt8)) 0 32 x36.1), (List.replicate 32 ((0 : UInt8) : UInt8))), x23.1, true).1).1)] : List Value) ++ (k62)) ++ (k65 ++ (([.int .i64 (((x12.1, (cpy (List.replicate 32 ((0 : UInt8) : UInt8)) 0 32 x36.1), (List.replicate 32 ((0 : UInt8) : UInt8))), x23.1, true).2.1)] : List Value) ++ ([.bool (((x12.1, (cpy (List.replicate 32 ((0 : UInt8) : UInt8)) 0 32 x36.1), (List.replicate 32 ((0 : UInt8) : UInt8))), x23.1, true).2.2)]))))]) (by simp only [List.append_assoc, List.cons_append, List.nil_append, List.append_nil])
        refine q_copyM (T := ty8) (S := S73) (X := ([.int .i64 ((((x12.1, (cpy (List.replicate 32 ((0 : UInt8) : UInt8)) 0 32 x36.1), (List.replicate 32 ((0 : UInt8) : UInt8))), x23.1, true).1).1)] : List Value) ++ (k62)) (cs := k65) (Z := ([.int .i64 (((x12.1, (cpy (List.replicate 32 ((0 : UInt8) : UInt8)) 0 32 x36.1), (List.replicate 32 ((0 : UInt8) : UInt8))), x23.1, true).2.1)] : List Value) ++ ([.bool (((x12.1, (cpy (List.replicate 32 ((0 : UInt8) : UInt8)) 0 32 x36.1), (List.replicate 32 ((0 : UInt8) : UInt8))), x23.1, true).2.2)])) h rfl rfl rfl (by decide) Try.underlying22 sz_uint8 rfl rfl 3 rfl (show (([.int .i64 ((((x12.1, (cpy (List.replicate 32 ((0 : UInt8) : UInt8)) 0 32 x36.1), (List.replicate 32 ((0 : UInt8) : UInt8))), x23.1, true).1).1)] : List Value) ++ (k62) : List Value).length = 33 from by simp only [List.length_append, List.length_cons, List.length_nil, (show (k62 : List Value).length = 32 from (((hs63.mono le75)).len.trans (by rw [hl64]; rfl))), (show (k65 : List Value).length = 32 from (((hs66.mono le75)).len.trans (by rw [hl67]; rfl)))]) rfl (hs66.mono le75) hq79 (h.m.rdRowA (i := 0) rfl) rfl hl67 (fun a w cs84 n85 hq86 h => ?_)
        have hl87 : (cpy ((((x12.1, (cpy (List.replicate 32 ((0 : UInt8) : UInt8)) 0 32 x36.1), (List.replicate 32 ((0 : UInt8) : UInt8))), x23.1, true).1).2.2) 0 32 x70.1).length = 32 := (cpy_len _ (Nat.zero_le _) (Nat.le_of_eq (hl67).symm)).trans hl67
        have h := h.parts (L' := [.row (.slice A76 x70.1.length c77) 5 1 x70.1.length cs78, .box g7 132 ([.int .i64 x70.2.1, .slice A81 x70.2.2.1.length c82, .bool x70.2.2.2]), .sn S73, .box g34 104 (([.int .i64 ((((x12.1, (cpy (List.replicate 32 ((0 : UInt8) : UInt8)) 0 32 x36.1), (List.replicate 32 ((0 : UInt8) : UInt8))), x23.1, true).1).1)] : List Value) ++ (k62 ++ (cs84 ++ ([.int .i64 (((x12.1, (cpy (List.replicate 32 ((0 : UInt8) : UInt8)) 0 32 x36.1), (List.replicate 32 ((0 : UInt8) : UInt8))), x23.1, true).2.1), .bool (((x12.1, (cpy (List.replicate 32 ((0 : UInt8) : UInt8)) 0 32 x36.1), (List.replicate 32 ((0 : UInt8) : UInt8))), x23.1, true).2.2)]))))]) (by simp only [List.set, List.append_assoc, List.cons_append, List.nil_append, List.append_nil])
        replace HS := h.m.pick [] [] (by decide) rfl
        refine hK _ _ (fun _ _ => HS) ?_
        clear hK
        refine d_done (by kernel_rfl) (HE _ _ ?_) _
        refine e_thenN ?_
        have h := h.pick [1, 3, 2] (by decide) rfl
        exact ⟨S73, A81, c82, k62, cs84, le75, up74, hr80, hs83, hr61, (hs63.mono le75), hl64, hq86, hl87, hr68, h.has (by exact ⟨rfl, rfl, rfl, trivial⟩)⟩
      obtain ⟨S88, A92, c93, k96, k99, le89, up90, hr91, hs94, hr95, hs97, hl98, hs100, hl101, hr102, h⟩ := h
      refine e_thenN ?_
      refine wp_seq ?_
      refine c_rs ?_ -- region 11
      refine s_move h rfl _ rfl rfl (by decide) rfl (fun a h => ?_)
      obtain ⟨x103, h104, hf⟩ := bsome hf
      have hX := field_Reader_Done_ok Fu (S0 := snapAll _) g7 x70.2 ⟨[.int .i64 x70.2.1, .slice A92 x70.2.2.1.length c93, .bool x70.2.2.2], h.m.boxAll (i := 0) rfl, ⟨[.int .i64 x70.2.1], [.slice A92 x70.2.2.1.length c93, .bool x70.2.2.2], rfl, ⟨rfl, hr91⟩, ⟨[.slice A92 x70.2.2.1.length c93], [.bool x70.2.2.2], rfl, ⟨_, _, rfl, (hs94).mono (h.m.leAll (i := 2) rfl)⟩, rfl⟩⟩⟩ _ h104 _ h.startAll
      refine q_callX hX h rfl rfl rfl (by decide) Try.func77 rfl rfl rfl (fun a w v L1 S1 hR hb1 h => ?_)
      obtain ⟨rfl, rfl, hr106, _⟩ := hR
      refine s_x h rfl rfl (by decide) (x_bin h.k rfl rfl rfl ib_neq) (fun a h => ?_)
      refine s_move h rfl _ rfl rfl (by decide) rfl (fun a h => ?_)
      refine q_grp h 7 (t := 47) 54 ((decide (x103 ≠ 0)) || (decide ((((((x12.1, (cpy (List.replicate 32 ((0 : UInt8) : UInt8)) 0 32 x36.1), (List.replicate 32 ((0 : UInt8) : UInt8))), x23.1, true).1).1, (((x12.1, (cpy (List.replicate 32 ((0 : UInt8) : UInt8)) 0 32 x36.1), (List.replicate 32 ((0 : UInt8) : UInt8))), x23.1, true).1).2.1, (cpy ((((x12.1, (cpy (List.replicate 32 ((0 : UInt8) : UInt8)) 0 32 x36.1), (List.replicate 32 ((0 : UInt8) : UInt8))), x23.1, true).1).2.2) 0 32 x70.1)), ((x12.1, (cpy (List.replicate 32 ((0 : UInt8) : UInt8)) 0 32 x36.1), (List.replicate 32 ((0 : UInt8) : UInt8))), x23.1, true).2.1, ((x12.1, (cpy (List.replicate 32 ((0 : UInt8) : UInt8)) 0 32 x36.1), (List.replicate 32 ((0 : UInt8) : UInt8))), x23.1, true).2.2).2.1 < x12.1))) rfl (fun hB3 => ?_) (fun hB3 => ?_) (fun a w h => ?_)
      · refine g_no h rfl rfl rfl rfl hB3 rfl (by decide) (fun a h => ?_)
        refine g_no h rfl rfl rfl rfl hB3 rfl (by decide) (fun a h => ?_)
        refine g_no h rfl rfl rfl rfl hB3 rfl (by decide) (fun a h => ?_)
        refine g_no h rfl rfl rfl rfl hB3 rfl (by decide) (fun a h => ?_)
        refine g_no h rfl rfl rfl rfl hB3 rfl (by decide) (fun a h => ?_)
        refine g_no h rfl rfl rfl rfl hB3 rfl (by decide) (fun a h => ?_)
        refine s_x h rfl rfl (by decide) (x_pick (u' := undef) h.k rfl rfl (fun _ => rfl) (fun hh => absurd (hB3.symm.trans hh) (by decide))) (fun a h => ?_)
        exact (h.mid 6 rfl).val (by first | rfl | (rw [hB3]; first | rfl | simp))
      · refine g_yes h rfl rfl rfl rfl hB3 ?_
        refine s_move h rfl _ rfl rfl (by decide) rfl (fun a h => ?_)
        refine g_yes h rfl rfl rfl rfl hB3 ?_
        refine s_move h rfl _ rfl rfl (by decide) rfl (fun a h => ?_)
        refine g_yes h rfl rfl rfl rfl hB3 ?_
        refine s_x h rfl rfl (by decide) (x_nil h.k rfl rfl) (fun a h => ?_)
        refine g_yes h rfl rfl rfl rfl hB3 ?_
        refine s_x h rfl rfl (by decide) (x_faddr h.k rfl Try.underlying104 rfl sz_int rfl) (fun a h => ?_)
        refine g_yes h rfl rfl rfl rfl hB3 ?_
        refine s_x h rfl rfl (by decide) (x_ld h.k rfl Try.underlying3 rfl rfl ((h.m.cell (i := 1) rfl 65).trans (cell_oneE (X := ([.int .i64 (((((((x12.1, (cpy (List.replicate 32 ((0 : UInt8) : UInt8)) 0 32 x36.1), (List.replicate 32 ((0 : UInt8) : UInt8))), x23.1, true).1).1, (((x12.1, (cpy (List.replicate 32 ((0 : UInt8) : UInt8)) 0 32 x36.1), (List.replicate 32 ((0 : UInt8) : UInt8))), x23.1, true).1).2.1, (cpy ((((x12.1, (cpy (List.replicate 32 ((0 : UInt8) : UInt8)) 0 32 x36.1), (List.replicate 32 ((0 : UInt8) : UInt8))), x23.1, true).1).2.2) 0 32 x70.1)), ((x12.1, (cpy (List.replicate 32 ((0 : UInt8) : UInt8)) 0 32 x36.1), (List.replicate 32 ((0 : UInt8) : UInt8))), x23.1, true).2.1, ((x12.1, (cpy (List.replicate 32 ((0 : UInt8) : UInt8)) 0 32 x36.1), (List.replicate 32 ((0 : UInt8) : UInt8))), x23.1, true).2.2).1).1)] : List Value) ++ (k96 ++ k99)) (Z := [.bool ((((((x12.1, (cpy (List.replicate 32 ((0 : UInt8) : UInt8)) 0 32 x36.1), (List.replicate 32 ((0 : UInt8) : UInt8))), x23.1, true).1).1, (((x12.1, (cpy (List.replicate 32 ((0 : UInt8) : UInt8)) 0 32 x36.1), (List.replicate 32 ((0 : UInt8) : UInt8))), x23.1, true).1).2.1, (cpy ((((x12.1, (cpy (List.replicate 32 ((0 : UInt8) : UInt8)) 0 32 x36.1), (List.replicate 32 ((0 : UInt8) : UInt8))), x23.1, true).1).2.2) 0 32 x70.1)), ((x12.1, (cpy (List.replicate 32 ((0 : UInt8) : UInt8)) 0 32 x36.1), (List.replicate 32 ((0 : UInt8) : UInt8))), x23.1, true).2.1, ((x12.1, (cpy (List.replicate 32 ((0 : UInt8) : UInt8)) 0 32 x36.1), (List.replicate 32 ((0 : UInt8) : UInt8))), x23.1, true).2.2).2.2)]) (off := 65) (u := .int .i64 ((((((x12.1, (cpy (List.replicate 32 ((0 : UInt8) : UInt8)) 0 32 x36.1), (List.replicate 32 ((0 : UInt8) : UInt8))), x23.1, true).1).1, (((x12.1, (cpy (List.replicate 32 ((0 : UInt8) : UInt8)) 0 32 x36.1), (List.replicate 32 ((0 : UInt8) : UInt8))), x23.1, true).1).2.1, (cpy ((((x12.1, (cpy (List.replicate 32 ((0 : UInt8) : UInt8)) 0 32 x36.1), (List.replicate 32 ((0 : UInt8) : UInt8))), x23.1, true).1).2.2) 0 32 x70.1)), ((x12.1, (cpy (List.replicate 32 ((0 : UInt8) : UInt8)) 0 32 x36.1), (List.replicate 32 ((0 : UInt8) : UInt8))), x23.1, true).2.1, ((x12.1, (cpy (List.replicate 32 ((0 : UInt8) : UInt8)) 0 32 x36.1), (List.replicate 32 ((0 : UInt8) : UInt8))), x23.1, true).2.2).2.1)) (by simp only [List.append_assoc, List.cons_append, List.nil_append, List.append_nil]) (show (([.int .i64 (((((((x12.1, (cpy (List.replicate 32 ((0 : UInt8) : UInt8)) 0 32 x36.1), (List.replicate 32 ((0 : UInt8) : UInt8))), x23.1, true).1).1, (((x12.1, (cpy (List.replicate 32 ((0 : UInt8) : UInt8)) 0 32 x36.1), (List.replicate 32 ((0 : UInt8) : UInt8))), x23.1, true).1).2.1, (cpy ((((x12.1, (cpy (List.replicate 32 ((0 : UInt8) : UInt8)) 0 32 x36.1), (List.replicate 32 ((0 : UInt8) : UInt8))), x23.1, true).1).2.2) 0 32 x70.1)), ((x12.1, (cpy (List.replicate 32 ((0 : UInt8) : UInt8)) 0 32 x36.1), (List.replicate 32 ((0 : UInt8) : UInt8))), x23.1, true).2.1, ((x12.1, (cpy (List.replicate 32 ((0 : UInt8) : UInt8)) 0 32 x36.1), (List.replicate 32 ((0 : UInt8) : UInt8))), x23.1, true).2.2).1).1)] : List Value) ++ (k96 ++ k99) : List Value).length = 65 from by simp only [List.length_append, List.length_cons, List.length_nil, (show (k96 : List Value).length = 32 from ((hs97).len.trans (by rw [hl98]; rfl))), (show (k99 : List Value).length = 32 from ((hs100).len.trans (by rw [hl101]; rfl)))])))) (fun a h => ?_)
        refine g_yes h rfl rfl rfl rfl hB3 ?_
        refine s_x h rfl rfl (by decide) (x_bin h.k rfl rfl rfl ib_gtr) (fun a h => ?_)
        refine s_x h rfl rfl (by decide) (x_pick (u' := undef) h.k rfl rfl (fun hh => absurd (hB3.symm.trans hh) (by decide)) (fun _ => rfl)) (fun a h => ?_)
        exact (h.mid 6 rfl).val (by first | rfl | (rw [hB3]; first | rfl | simp))
      refine l_end ?_
      refine c_cond h rfl (fun hb => ?_) (fun hb => ?_)
      · rw [if_pos hb] at hf
        refine c_rs ?_ -- region 12
        refine s_assign h rfl _ rfl rfl (by decide) rfl (fun a h => ?_)
        refine s_assign h rfl _ rfl rfl (by decide) rfl (fun a h => ?_)
        refine l_end ?_
        refine wp_ret ?_
        refine e_thenR ?_
        rw [← Option.some.inj hf]
        exact r_ret2 h rfl (rv_tmp h rfl) (rv_tmp h rfl) ⟨_, [], _, rfl, (.inl ⟨_, rfl, ⟨rfl, rfl, (show r64 11 from ⟨by decide, by decide⟩), trivial⟩⟩), rfl, up90, (h.m.pick [2] _ (by decide) rfl)⟩
      · rw [if_neg (by rw [hb]; decide)] at hf
        refine wp_skip ?_
        refine e_thenN ?_
        refine c_rs ?_ -- region 13
        refine s_move h rfl _ rfl rfl (by decide) rfl (fun a h => ?_)
        refine s_assign h rfl _ rfl rfl (by decide) rfl (fun a h => ?_)
        refine s_assign h rfl _ rfl rfl (by decide) rfl (fun a h => ?_)
        refine l_end ?_
        refine wp_ret ?_
        obtain rfl := Option.some.inj hf
        exact r_ret2 h rfl (rv_tmp h rfl) (rv_tmp h rfl) ⟨_, [.box g34 104 (([.int .i64 (((((((x12.1, (cpy (List.replicate 32 ((0 : UInt8) : UInt8)) 0 32 x36.1), (List.replicate 32 ((0 : UInt8) : UInt8))), x23.1, true).1).1, (((x12.1, (cpy (List.replicate 32 ((0 : UInt8) : UInt8)) 0 32 x36.1), (List.replicate 32 ((0 : UInt8) : UInt8))), x23.1, true).1).2.1, (cpy ((((x12.1, (cpy (List.replicate 32 ((0 : UInt8) : UInt8)) 0 32 x36.1), (List.replicate 32 ((0 : UInt8) : UInt8))), x23.1, true).1).2.2) 0 32 x70.1)), ((x12.1, (cpy (List.replicate 32 ((0 : UInt8) : UInt8)) 0 32 x36.1), (List.replicate 32 ((0 : UInt8) : UInt8))), x23.1, true).2.1, ((x12.1, (cpy (List.replicate 32 ((0 : UInt8) : UInt8)) 0 32 x36.1), (List.replicate 32 ((0 : UInt8) : UInt8))), x23.1, true).2.2).1).1)] : List Value) ++ (k96 ++ (k99 ++ ([.int .i64 ((((((x12.1, (cpy (List.replicate 32 ((0 : UInt8) : UInt8)) 0 32 x36.1), (List.replicate 32 ((0 : UInt8) : UInt8))), x23.1, true).1).1, (((x12.1, (cpy (List.replicate 32 ((0 : UInt8) : UInt8)) 0 32 x36.1), (List.replicate 32 ((0 : UInt8) : UInt8))), x23.1, true).1).2.1, (cpy ((((x12.1, (cpy (List.replicate 32 ((0 : UInt8) : UInt8)) 0 32 x36.1), (List.replicate 32 ((0 : UInt8) : UInt8))), x23.1, true).1).2.2) 0 32 x70.1)), ((x12.1, (cpy (List.replicate 32 ((0 : UInt8) : UInt8)) 0 32 x36.1), (List.replicate 32 ((0 : UInt8) : UInt8))), x23.1, true).2.1, ((x12.1, (cpy (List.replicate 32 ((0 : UInt8) : UInt8)) 0 32 x36.1), (List.replicate 32 ((0 : UInt8) : UInt8))), x23.1, true).2.2).2.1), .bool ((((((x12.1, (cpy (List.replicate 32 ((0 : UInt8) : UInt8)) 0 32 x36.1), (List.replicate 32 ((0 : UInt8) : UInt8))), x23.1, true).1).1, (((x12.1, (cpy (List.replicate 32 ((0 : UInt8) : UInt8)) 0 32 x36.1), (List.replicate 32 ((0 : UInt8) : UInt8))), x23.1, true).1).2.1, (cpy ((((x12.1, (cpy (List.replicate 32 ((0 : UInt8) : UInt8)) 0 32 x36.1), (List.replicate 32 ((0 : UInt8) : UInt8))), x23.1, true).1).2.2) 0 32 x70.1)), ((x12.1, (cpy (List.replicate 32 ((0 : UInt8) : UInt8)) 0 32 x36.1), (List.replicate 32 ((0 : UInt8) : UInt8))), x23.1, true).2.1, ((x12.1, (cpy (List.replicate 32 ((0 : UInt8) : UInt8)) 0 32 x36.1), (List.replicate 32 ((0 : UInt8) : UInt8))), x23.1, true).2.2).2.2)]))))], _, rfl, (.inr ⟨_, rfl, ⟨g34, k96, k99, rfl, rfl, hr95, hs97, hl98, hs100, hl101, hr102, (show r64 0 from ⟨by decide, by decide⟩), trivial⟩⟩), rfl, up90, (h.m.pick [1, 2] _ (by decide) rfl)⟩
end Go.Proofs.Ytoimllmmlbehgaa
