/- Fi: Go functions as plain functions, and that they are so (written by xt.py). -/
import Derived.Test.YtcjleeclpmgbjaaDoorWd
set_option linter.unusedVariables false
set_option linter.unusedSimpArgs false
namespace Go.Proofs.YtcjleeclpmgbjaaDoor
open Go.RowKit
def slices_Clone___byte_byte (Fu : Nat) (a0 : List UInt8) : Option ((List UInt8)) :=
  (app 1 [] a0).bind fun x6 => some x6
set_option maxRecDepth 100000 in
set_option maxHeartbeats 2000000 in
theorem slices_Clone___byte_byte_ok (Fu : Nat) {S0 : Snap} (Aa0 : Option Addr) (ca0 : Nat) (a0 : List UInt8) (hsa0 : slS ty8 S0 Aa0 ca0 a0) (r : (List UInt8)) (hf : slices_Clone___byte_byte Fu a0 = some r) (w0 : World) (hm : Mem w0 (ownL ([] ++ [.sn S0])) ([] ++ [.sn S0]) w0) :
    Calls Tryd.prog 49 #[.slice Aa0 a0.length ca0] w0 (Ret w0 S0 [] (fun v L1 S1 => ∃ (A11 : Option Addr), ∃ (c12 : Nat), ∃ (cs13 : List Value), v = .slice A11 r.length c12 ∧ L1 = [.row (.slice A11 r.length c12) 5 1 r.length cs13] ∧ reps ty8 S1 cs13 r ∧ True)) := by
  unfold slices_Clone___byte_byte at hf
  refine c_enterM Tryd.func49 rfl 8 rfl (by simp) _ hm _ rfl (fun a h => ?_)
  obtain _ | ad := Aa0
  · obtain rfl := slS.none_nil hsa0 (hm.snOK (i := 0) rfl) (by decide)
    replace hf : some [] = some r := by simpa [app, maxLen] using hf
    have h := h.slots (ρ' := [(0, .slice none 0 ca0)]) (by simp)
    refine c_rs ?_ -- region 0
    refine s_assign h rfl _ rfl rfl (by decide) rfl (fun a h => ?_)
    refine l_end ?_
    refine wp_seq ?_
    refine c_rs ?_ -- region 1
    refine s_move h rfl _ rfl rfl (by decide) rfl (fun a h => ?_)
    refine s_x h rfl rfl (by decide) (x_eqlSNn h.k rfl Tryd.underlying23 rfl rfl) (fun a h => ?_)
    refine l_end ?_
    refine c_cond h rfl (fun hb => ?_) (fun hb => ?_)
    · refine c_rs ?_ -- region 2
      refine s_assign h rfl _ rfl rfl (by decide) rfl (fun a h => ?_)
      refine l_end ?_
      refine wp_ret ?_
      refine e_thenR ?_
      obtain rfl := Option.some.inj hf
      have h := h.mem (h.m.nilrow 5 1)
      exact r_ret1 h rfl (rv_tmp h rfl) ⟨_, [.row (.slice none ([]).length 0) 5 1 ([]).length []], _, rfl, ⟨none, 0, [], rfl, rfl, (show reps ty8 S0 [] [] from rfl), trivial⟩, rfl, (Up.refl _ _ _), h.m⟩
    · exact absurd hb (by decide)
  · refine c_rs ?_ -- region 0
    refine s_assign h rfl _ rfl rfl (by decide) rfl (fun a h => ?_)
    refine l_end ?_
    refine wp_seq ?_
    refine c_rs ?_ -- region 1
    refine s_move h rfl _ rfl rfl (by decide) rfl (fun a h => ?_)
    refine s_x h rfl rfl (by decide) (x_eqlSNs h.k rfl Tryd.underlying23 rfl rfl) (fun a h => ?_)
    refine l_end ?_
    refine c_cond h rfl (fun hb => ?_) (fun hb => ?_)
    · exact absurd hb (by decide)
    · refine wp_skip ?_
      refine e_thenN ?_
      refine c_rs ?_ -- region 3
      refine q_bslice0 h rfl rfl rfl (by decide) Tryd.underlying23 sz_uint8 (fun a w A1 h => ?_)
      refine s_move h rfl _ rfl rfl (by decide) rfl (fun a h => ?_)
      obtain ⟨x2, h3, hf⟩ := bsome hf
      obtain ⟨_, _, vs4, hrd5, hrp6⟩ := id hsa0
      refine q_append (T := ty8) (S := S0) h rfl rfl rfl (by decide) Tryd.underlying23 zb_uint8 rfl (by decide) rfl 0 rfl (show reps ty8 S0 [] [] from rfl) rfl hrp6 (hrd5 _ (h.m.snOK (i := 1) rfl)) h3 (fun a w A7 c8 cs9 hq10 h => ?_)
      refine s_assign h rfl _ rfl rfl (by decide) rfl (fun a h => ?_)
      refine l_end ?_
      refine wp_ret ?_
      rw [← Option.some.inj hf]
      exact r_ret1 h rfl (rv_tmp h rfl) ⟨_, [.row (.slice A7 x2.length c8) 5 1 x2.length cs9], _, rfl, ⟨A7, c8, cs9, rfl, rfl, hq10, trivial⟩, rfl, (Up.refl _ _ _), h.m⟩
def field_state_fail_at0_field_Writer_0 (Fu : Nat) (a0 : Int × (List UInt8)) (a1 : Int) : Option ((Int × (List UInt8))) :=
  if a0.1 = 0 then (some (a1, a0.2)) else (some a0)
set_option maxRecDepth 100000 in
set_option maxHeartbeats 2000000 in
theorem field_state_fail_at0_field_Writer_0_ok (Fu : Nat) {S0 : Snap} (a0 : Int × (List UInt8)) (g1 : Nat) (A3 : Option Addr) (c4 : Nat) (cs5 : List Value) (hr2 : r64 a0.1) (hq6 : reps ty8 S0 cs5 a0.2) (a1 : Int) (hra1 : r64 a1) (r : (Int × (List UInt8))) (hf : field_state_fail_at0_field_Writer_0 Fu a0 a1 = some r) (w0 : World) (hm : Mem w0 (ownL ([.box g1 50 ([.int .i64 a0.1, .slice A3 a0.2.length c4]), .row (.slice A3 a0.2.length c4) 5 1 a0.2.length cs5] ++ [.sn S0])) ([.box g1 50 ([.int .i64 a0.1, .slice A3 a0.2.length c4]), .row (.slice A3 a0.2.length c4) 5 1 a0.2.length cs5] ++ [.sn S0]) w0) :
    Calls Tryd.prog 47 #[.pointer (some ⟨g1, 0, none⟩), .int .i64 a1] w0 (Ret w0 S0 [.box g1 50 ([.int .i64 a0.1, .slice A3 a0.2.length c4]), .row (.slice A3 a0.2.length c4) 5 1 a0.2.length cs5] (fun v L1 S1 => ∃ (A8 : Option Addr), ∃ (c9 : Nat), ∃ (cs10 : List Value), v = .tuple #[] ∧ L1 = [.box g1 50 ([.int .i64 r.1, .slice A8 r.2.length c9]), .row (.slice A8 r.2.length c9) 5 1 r.2.length cs10] ∧ r64 r.1 ∧ reps ty8 S1 cs10 r.2 ∧ True)) := by
  unfold field_state_fail_at0_field_Writer_0 at hf
  obtain ⟨B0, hB0⟩ : ∃ B0, B0 = (ownL ([.box g1 50 ([.int .i64 a0.1, .slice A3 a0.2.length c4]), .row (.slice A3 a0.2.length c4) 5 1 a0.2.length cs5] ++ [.sn S0])) := ⟨_, rfl⟩
  rw [← hB0] at hm
  refine c_enterM Tryd.func47 rfl 13 rfl (by simp) _ hm _ rfl (fun a h => ?_)
  refine c_rs ?_ -- region 0
  refine s_move h rfl _ rfl rfl (by decide) rfl (fun a h => ?_)
  refine s_x h rfl rfl (by decide) (x_nil h.k rfl rfl) (fun a h => ?_)
  refine s_x h rfl rfl (by decide) (x_faddr h.k rfl Tryd.underlying48 rfl sz_api_Errno rfl) (fun a h => ?_)
  refine s_x h rfl rfl (by decide) (x_ld h.k rfl Tryd.underlying22 rfl rfl ((h.m.cell (i := 0) rfl 0).trans rfl)) (fun a h => ?_)
  refine s_x h rfl rfl (by decide) (x_bin h.k rfl rfl rfl ib_eql) (fun a h => ?_)
  refine l_end ?_
  refine c_cond h rfl (fun hb => ?_) (fun hb => ?_)
  · rw [if_pos (of_decide_eq_true hb)] at hf
    refine c_r ?_ -- region 1
    refine s_move h rfl _ rfl rfl (by decide) rfl (fun a h => ?_)
    refine s_move h rfl _ rfl rfl (by decide) rfl (fun a h => ?_)
    refine s_x h rfl rfl (by decide) (x_nil h.k rfl rfl) (fun a h => ?_)
    refine s_x h rfl rfl (by decide) (x_faddr h.k rfl Tryd.underlying48 rfl sz_api_Errno rfl) (fun a h => ?_)
    refine s_stb h rfl rfl rfl sz_api_Errno rfl rfl rfl 0 rfl (by first | decide | simp) (fun a w h => ?_)
    refine l_nil ?_
    obtain rfl := Option.some.inj hf
    subst hB0
    exact r_ret0 h rfl  ⟨_, [.box g1 50 ([.int .i64 a1, .slice A3 a0.2.length c4]), .row (.slice A3 a0.2.length c4) 5 1 a0.2.length cs5], _, rfl, ⟨A3, c4, cs5, rfl, rfl, hra1, hq6, trivial⟩, rfl, (Up.refl _ _ _), h.m⟩
  · rw [if_neg (of_decide_eq_false hb)] at hf
    refine wp_skip ?_
    rw [← Option.some.inj hf]
    subst hB0
    exact r_ret0 h rfl  ⟨_, [.box g1 50 ([.int .i64 a0.1, .slice A3 a0.2.length c4]), .row (.slice A3 a0.2.length c4) 5 1 a0.2.length cs5], _, rfl, ⟨A3, c4, cs5, rfl, rfl, hr2, hq6, trivial⟩, rfl, (Up.refl _ _ _), h.m⟩
def field_state_good_at0_field_Writer_0 (Fu : Nat) (a0 : Int × (List UInt8)) : Option (Bool × (Int × (List UInt8))) :=
  some ((decide (a0.1 = 0)), a0)
set_option maxRecDepth 100000 in
set_option maxHeartbeats 2000000 in
theorem field_state_good_at0_field_Writer_0_ok (Fu : Nat) {S0 : Snap} (a0 : Int × (List UInt8)) (g1 : Nat) (A3 : Option Addr) (c4 : Nat) (cs5 : List Value) (hr2 : r64 a0.1) (hq6 : reps ty8 S0 cs5 a0.2) (r : Bool × (Int × (List UInt8))) (hf : field_state_good_at0_field_Writer_0 Fu a0 = some r) (w0 : World) (hm : Mem w0 (ownL ([.box g1 50 ([.int .i64 a0.1, .slice A3 a0.2.length c4]), .row (.slice A3 a0.2.length c4) 5 1 a0.2.length cs5] ++ [.sn S0])) ([.box g1 50 ([.int .i64 a0.1, .slice A3 a0.2.length c4]), .row (.slice A3 a0.2.length c4) 5 1 a0.2.length cs5] ++ [.sn S0]) w0) :
    Calls Tryd.prog 48 #[.pointer (some ⟨g1, 0, none⟩)] w0 (Ret w0 S0 [.box g1 50 ([.int .i64 a0.1, .slice A3 a0.2.length c4]), .row (.slice A3 a0.2.length c4) 5 1 a0.2.length cs5] (fun v L1 S1 => ∃ (A8 : Option Addr), ∃ (c9 : Nat), ∃ (cs10 : List Value), v = .bool r.1 ∧ L1 = [.box g1 50 ([.int .i64 r.2.1, .slice A8 r.2.2.length c9]), .row (.slice A8 r.2.2.length c9) 5 1 r.2.2.length cs10] ∧ r64 r.2.1 ∧ reps ty8 S1 cs10 r.2.2 ∧ True)) := by
  unfold field_state_good_at0_field_Writer_0 at hf
  obtain ⟨B0, hB0⟩ : ∃ B0, B0 = (ownL ([.box g1 50 ([.int .i64 a0.1, .slice A3 a0.2.length c4]), .row (.slice A3 a0.2.length c4) 5 1 a0.2.length cs5] ++ [.sn S0])) := ⟨_, rfl⟩
  rw [← hB0] at hm
  refine c_enterM Tryd.func48 rfl 8 rfl (by simp) _ hm _ rfl (fun a h => ?_)
  refine c_rs ?_ -- region 0
  refine s_assign h rfl _ rfl rfl (by decide) rfl (fun a h => ?_)
  refine l_end ?_
  refine c_rs ?_ -- region 1
  refine s_move h rfl _ rfl rfl (by decide) rfl (fun a h => ?_)
  refine s_x h rfl rfl (by decide) (x_nil h.k rfl rfl) (fun a h => ?_)
  refine s_x h rfl rfl (by decide) (x_faddr h.k rfl Tryd.underlying48 rfl sz_api_Errno rfl) (fun a h => ?_)
  refine s_x h rfl rfl (by decide) (x_ld h.k rfl Tryd.underlying22 rfl rfl ((h.m.cell (i := 0) rfl 0).trans rfl)) (fun a h => ?_)
  refine s_x h rfl rfl (by decide) (x_bin h.k rfl rfl rfl ib_eql) (fun a h => ?_)
  refine s_assign h rfl _ rfl rfl (by decide) rfl (fun a h => ?_)
  refine l_end ?_
  refine wp_ret ?_
  obtain rfl := Option.some.inj hf
  subst hB0
  exact r_ret1 h rfl (rv_tmp h rfl) ⟨_, [.box g1 50 ([.int .i64 a0.1, .slice A3 a0.2.length c4]), .row (.slice A3 a0.2.length c4) 5 1 a0.2.length cs5], _, rfl, ⟨A3, c4, cs5, rfl, rfl, hr2, hq6, trivial⟩, rfl, (Up.refl _ _ _), h.m⟩
def field_Writer_put (Fu : Nat) (a0 : Int × (List UInt8)) (a1 : List UInt8) (a2 : Int) : Option ((Int × (List UInt8))) :=
  (if a2 ≠ 0 then ((field_state_fail_at0_field_Writer_0 Fu a0 2).bind fun x18 => some x18) else (some a0)).bind fun x12 => (field_state_good_at0_field_Writer_0 Fu x12).bind fun x29 => if x29.1 = true then ((app 1 x29.2.2 a1).bind fun x40 => some (x29.2.1, x40)) else (some x29.2)
set_option maxRecDepth 100000 in
set_option maxHeartbeats 2000000 in
theorem field_Writer_put_ok (Fu : Nat) {S0 : Snap} (a0 : Int × (List UInt8)) (g1 : Nat) (A3 : Option Addr) (c4 : Nat) (cs5 : List Value) (hr2 : r64 a0.1) (hq6 : reps ty8 S0 cs5 a0.2) (Aa1 : Option Addr) (ca1 : Nat) (a1 : List UInt8) (hsa1 : slS ty8 S0 Aa1 ca1 a1) (a2 : Int) (hra2 : r64 a2) (r : (Int × (List UInt8))) (hf : field_Writer_put Fu a0 a1 a2 = some r) (w0 : World) (hm : Mem w0 (ownL ([.box g1 50 ([.int .i64 a0.1, .slice A3 a0.2.length c4]), .row (.slice A3 a0.2.length c4) 5 1 a0.2.length cs5] ++ [.sn S0])) ([.box g1 50 ([.int .i64 a0.1, .slice A3 a0.2.length c4]), .row (.slice A3 a0.2.length c4) 5 1 a0.2.length cs5] ++ [.sn S0]) w0) :
    Calls Tryd.prog 45 #[.pointer (some ⟨g1, 0, none⟩), .slice Aa1 a1.length ca1, .int .i64 a2] w0 (Ret w0 S0 [.box g1 50 ([.int .i64 a0.1, .slice A3 a0.2.length c4]), .row (.slice A3 a0.2.length c4) 5 1 a0.2.length cs5] (fun v L1 S1 => ∃ (A51 : Option Addr), ∃ (c52 : Nat), ∃ (cs53 : List Value), v = .tuple #[] ∧ L1 = [.box g1 50 ([.int .i64 r.1, .slice A51 r.2.length c52]), .row (.slice A51 r.2.length c52) 5 1 r.2.length cs53] ∧ r64 r.1 ∧ reps ty8 S1 cs53 r.2 ∧ True)) := by
  unfold field_Writer_put at hf
  obtain ⟨B0, hB0⟩ : ∃ B0, B0 = (ownL ([.box g1 50 ([.int .i64 a0.1, .slice A3 a0.2.length c4]), .row (.slice A3 a0.2.length c4) 5 1 a0.2.length cs5] ++ [.sn S0])) := ⟨_, rfl⟩
  rw [← hB0] at hm
  refine c_enterM Tryd.func45 rfl 25 rfl (by simp) _ hm _ rfl (fun a h => ?_)
  obtain ⟨o7, hc8, hf⟩ := bsome hf
  refine c_cut (fun a w => ∃ (S9 : Snap), ∃ (x12 : Int × (List UInt8)), ∃ (A14 : Option Addr), ∃ (c15 : Nat), ∃ (cs16 : List Value), x12 = o7 ∧ Snap.le S0 S9 ∧ Up B0 w0 S0 S9 ∧ r64 x12.1 ∧ reps ty8 S9 cs16 x12.2 ∧ St 25 w0 B0 [(0, .pointer (some ⟨g1, 0, none⟩)), (1, .slice Aa1 a1.length ca1)] [.box g1 50 ([.int .i64 x12.1, .slice A14 x12.2.length c15]), .row (.slice A14 x12.2.length c15) 5 1 x12.2.length cs16, .sn S9] a w) ?_ ?_
  · refine c_rs ?_ -- region 0
    refine s_move h rfl _ rfl rfl (by decide) rfl (fun a h => ?_)
    refine s_x h rfl rfl (by decide) (x_bin h.k rfl rfl rfl ib_neq) (fun a h => ?_)
    refine l_end ?_
    refine c_cond h rfl (fun hb => ?_) (fun hb => ?_)
    · rw [if_pos (of_decide_eq_true hb)] at hc8
      refine c_r ?_ -- region 1
      refine s_move h rfl _ rfl rfl (by decide) rfl (fun a h => ?_)
      refine s_x h rfl rfl (by decide) (x_nil h.k rfl rfl) (fun a h => ?_)
      refine s_x h rfl rfl (by decide) (x_faddr h.k rfl Tryd.underlying50 rfl sz_field_state rfl) (fun a h => ?_)
      obtain ⟨x18, h19, hc8⟩ := bsome hc8
      have hX := field_state_fail_at0_field_Writer_0_ok Fu (S0 := S0) a0 g1 A3 c4 cs5 hr2 hq6 2 (show r64 2 from ⟨by decide, by decide⟩) _ h19 _ (h.sub (Ls := [.box g1 50 ([.int .i64 a0.1, .slice A3 a0.2.length c4]), .row (.slice A3 a0.2.length c4) 5 1 a0.2.length cs5]))
      refine q_callY (Ls := [.box g1 50 ([.int .i64 a0.1, .slice A3 a0.2.length c4]), .row (.slice A3 a0.2.length c4) 5 1 a0.2.length cs5]) hX h (Up.refl _ _ _) rfl rfl rfl (by decide) Tryd.func47 rfl rfl rfl (fun a w v L1 S21 hR le23 up22 h => ?_)
      obtain ⟨A25, c26, cs27, rfl, rfl, hr24, hq28, _⟩ := hR
      refine l_nil ?_
      refine e_thenN ?_
      exact ⟨S21, x18, A25, c26, cs27, (Option.some.inj hc8), le23, up22, hr24, hq28, h.has (by exact ⟨rfl, rfl, trivial⟩)⟩
    · rw [if_neg (of_decide_eq_false hb)] at hc8
      refine wp_skip ?_
      refine e_thenN ?_
      exact ⟨S0, a0, A3, c4, cs5, (Option.some.inj hc8), (Snap.le.refl _), (Up.refl _ _ _), hr2, hq6, h.has (by exact ⟨rfl, rfl, trivial⟩)⟩
  · rintro a w ⟨S9, x12, A14, c15, cs16, rfl, le10, up11, hr13, hq17, h⟩
    refine c_rs ?_ -- region 2
    refine s_move h rfl _ rfl rfl (by decide) rfl (fun a h => ?_)
    refine s_x h rfl rfl (by decide) (x_nil h.k rfl rfl) (fun a h => ?_)
    refine s_x h rfl rfl (by decide) (x_faddr h.k rfl Tryd.underlying50 rfl sz_field_state rfl) (fun a h => ?_)
    obtain ⟨x29, h30, hf⟩ := bsome hf
    have hX := field_state_good_at0_field_Writer_0_ok Fu (S0 := S9) x12 g1 A14 c15 cs16 hr13 hq17 _ h30 _ (h.sub (Ls := [.box g1 50 ([.int .i64 x12.1, .slice A14 x12.2.length c15]), .row (.slice A14 x12.2.length c15) 5 1 x12.2.length cs16]))
    refine q_callY (Ls := [.box g1 50 ([.int .i64 x12.1, .slice A14 x12.2.length c15]), .row (.slice A14 x12.2.length c15) 5 1 x12.2.length cs16]) hX h up11 rfl rfl rfl (by decide) Tryd.func48 rfl rfl rfl (fun a w v L1 S32 hR le34 up33 h => ?_)
    obtain ⟨A36, c37, cs38, rfl, rfl, hr35, hq39, _⟩ := hR
    refine l_end ?_
    refine c_cond h rfl (fun hb => ?_) (fun hb => ?_)
    · rw [if_pos hb] at hf
      refine c_r ?_ -- region 3
      refine s_move h rfl _ rfl rfl (by decide) rfl (fun a h => ?_)
      refine s_move h rfl _ rfl rfl (by decide) rfl (fun a h => ?_)
      refine s_x h rfl rfl (by decide) (x_nil h.k rfl rfl) (fun a h => ?_)
      refine s_x h rfl rfl (by decide) (x_faddr h.k rfl Tryd.underlying50 rfl sz_Suint8 rfl) (fun a h => ?_)
      refine s_x h rfl rfl (by decide) (x_ld h.k rfl Tryd.underlying23 rfl rfl ((h.m.cell (i := 0) rfl 1).trans rfl)) (fun a h => ?_)
      refine s_move h rfl _ rfl rfl (by decide) rfl (fun a h => ?_)
      obtain ⟨x40, h41, hf⟩ := bsome hf
      obtain ⟨_, _, vs42, hrd43, hrp44⟩ := id (hsa1.mono (le10.trans le34))
      refine q_append (T := ty8) (S := S32) h rfl rfl rfl (by decide) Tryd.underlying23 zb_uint8 rfl (by decide) rfl 1 rfl hq39 rfl hrp44 (hrd43 _ (h.m.snOK (i := 2) rfl)) h41 (fun a w A45 c46 cs47 hq48 h => ?_)
      refine s_x h rfl rfl (by decide) (x_nil h.k rfl rfl) (fun a h => ?_)
      refine s_x h rfl rfl (by decide) (x_faddr h.k rfl Tryd.underlying50 rfl sz_Suint8 rfl) (fun a h => ?_)
      refine s_stb h rfl rfl rfl sz_Suint8 rfl rfl rfl 0 rfl (by first | decide | simp) (fun a w h => ?_)
      refine l_nil ?_
      obtain rfl := Option.some.inj hf
      subst hB0
      exact r_ret0 h rfl  ⟨_, [.box g1 50 ([.int .i64 x29.2.1, .slice A45 x40.length c46]), .row (.slice A45 x40.length c46) 5 1 x40.length cs47], _, rfl, ⟨A45, c46, cs47, rfl, rfl, hr35, hq48, trivial⟩, rfl, up33, h.m⟩
    · rw [if_neg (by rw [hb]; decide)] at hf
      refine wp_skip ?_
      obtain rfl := Option.some.inj hf
      subst hB0
      exact r_ret0 h rfl  ⟨_, [.box g1 50 ([.int .i64 x29.2.1, .slice A36 x29.2.2.length c37]), .row (.slice A36 x29.2.2.length c37) 5 1 x29.2.2.length cs38], _, rfl, ⟨A36, c37, cs38, rfl, rfl, hr35, hq39, trivial⟩, rfl, up33, h.m⟩
def field_Writer_Number (Fu : Nat) (a0 : Int × (List UInt8)) (a1 : Int) (a2 : Int) : Option ((Int × (List UInt8))) :=
  (word_Put Fu a1 a2).bind fun x7 => (field_Writer_put Fu a0 x7.1 x7.2).bind fun x20 => some x20
set_option maxRecDepth 100000 in
set_option maxHeartbeats 2000000 in
theorem field_Writer_Number_ok (Fu : Nat) {S0 : Snap} (a0 : Int × (List UInt8)) (g1 : Nat) (A3 : Option Addr) (c4 : Nat) (cs5 : List Value) (hr2 : r64 a0.1) (hq6 : reps ty8 S0 cs5 a0.2) (a1 : Int) (hra1 : r64 a1) (a2 : Int) (hra2 : r64 a2) (r : (Int × (List UInt8))) (hf : field_Writer_Number Fu a0 a1 a2 = some r) (w0 : World) (hm : Mem w0 (ownL ([.box g1 50 ([.int .i64 a0.1, .slice A3 a0.2.length c4]), .row (.slice A3 a0.2.length c4) 5 1 a0.2.length cs5] ++ [.sn S0])) ([.box g1 50 ([.int .i64 a0.1, .slice A3 a0.2.length c4]), .row (.slice A3 a0.2.length c4) 5 1 a0.2.length cs5] ++ [.sn S0]) w0) :
    Calls Tryd.prog 20 #[.pointer (some ⟨g1, 0, none⟩), .int .i64 a1, .int .i64 a2] w0 (Ret w0 S0 [.box g1 50 ([.int .i64 a0.1, .slice A3 a0.2.length c4]), .row (.slice A3 a0.2.length c4) 5 1 a0.2.length cs5] (fun v L1 S1 => ∃ (A32 : Option Addr), ∃ (c33 : Nat), ∃ (cs34 : List Value), v = .tuple #[] ∧ L1 = [.box g1 50 ([.int .i64 r.1, .slice A32 r.2.length c33]), .row (.slice A32 r.2.length c33) 5 1 r.2.length cs34] ∧ r64 r.1 ∧ reps ty8 S1 cs34 r.2 ∧ True)) := by
  unfold field_Writer_Number at hf
  obtain ⟨B0, hB0⟩ : ∃ B0, B0 = (ownL ([.box g1 50 ([.int .i64 a0.1, .slice A3 a0.2.length c4]), .row (.slice A3 a0.2.length c4) 5 1 a0.2.length cs5] ++ [.sn S0])) := ⟨_, rfl⟩
  rw [← hB0] at hm
  refine c_enterM Tryd.func20 rfl 15 rfl (by simp) _ hm _ rfl (fun a h => ?_)
  refine c_rs ?_ -- region 0
  refine s_move h rfl _ rfl rfl (by decide) rfl (fun a h => ?_)
  refine s_x h rfl rfl (by decide) (x_neq_pn h.k rfl Tryd.underlying84 rfl rfl) (fun a h => ?_)
  refine l_end ?_
  refine c_cond h rfl (fun hb => ?_) (fun hb => ?_)
  · refine c_r ?_ -- region 1
    refine s_move h rfl _ rfl rfl (by decide) rfl (fun a h => ?_)
    refine s_move h rfl _ rfl rfl (by decide) rfl (fun a h => ?_)
    refine s_move h rfl _ rfl rfl (by decide) rfl (fun a h => ?_)
    obtain ⟨x7, h8, hf⟩ := bsome hf
    have hX := word_Put_ok Fu (S0 := snapAll _) a1 hra1 a2 hra2 _ h8 _ h.startAll
    refine q_callX hX h rfl rfl rfl (by decide) Tryd.func46 rfl rfl rfl (fun a w v L1 S1 hR hb1 h => ?_)
    obtain ⟨A10, c11, cs12, rfl, rfl, hq13, hr14, _⟩ := hR
    have hq15 := hq13.fl (S' := S0) fl_8
    refine s_x h rfl rfl (by decide) (x_ext h.k rfl rfl rfl) (fun a h => ?_)
    refine s_x h rfl rfl (by decide) (x_ext h.k rfl rfl rfl) (fun a h => ?_)
    have h := h.pick [0, 3, 1, 2] (by decide) rfl
    obtain ⟨S16, le17, up18, hs19, h⟩ := q_freeze (T := ty8) h (Up.refl _ _ _) hq15
    obtain ⟨x20, h21, hf⟩ := bsome hf
    have h := h.pick [1, 2, 0] (by decide) rfl
    have hX := field_Writer_put_ok Fu (S0 := S16) a0 g1 A3 c4 cs5 hr2 (hq6.mono le17) A10 c11 x7.1 hs19 x7.2 hr14 _ h21 _ (h.sub (Ls := [.box g1 50 ([.int .i64 a0.1, .slice A3 a0.2.length c4]), .row (.slice A3 a0.2.length c4) 5 1 a0.2.length cs5]))
    refine q_callY (Ls := [.box g1 50 ([.int .i64 a0.1, .slice A3 a0.2.length c4]), .row (.slice A3 a0.2.length c4) 5 1 a0.2.length cs5]) hX h up18 rfl rfl rfl (by decide) Tryd.func45 rfl rfl rfl (fun a w v L1 S23 hR le25 up24 h => ?_)
    obtain ⟨A27, c28, cs29, rfl, rfl, hr26, hq30, _⟩ := hR
    refine l_nil ?_
    rw [← Option.some.inj hf]
    subst hB0
    exact r_ret0 h rfl  ⟨_, [.box g1 50 ([.int .i64 x20.1, .slice A27 x20.2.length c28]), .row (.slice A27 x20.2.length c28) 5 1 x20.2.length cs29], _, rfl, ⟨A27, c28, cs29, rfl, rfl, hr26, hq30, trivial⟩, rfl, up24, h.m⟩
  · exact absurd hb (by decide)
def field_Writer_Bytes (Fu : Nat) (a0 : Int × (List UInt8)) (a1 : List UInt8) : Option ((Int × (List UInt8))) :=
  (if 65535 < (a1.length : Int) then ((field_state_fail_at0_field_Writer_0 Fu a0 2).bind fun x18 => some x18) else (some a0)).bind fun x12 => (word_Put Fu (mn (a1.length : Int) 65535) 2).bind fun x29 => (field_Writer_put Fu x12 x29.1 x29.2).bind fun x42 => (field_Writer_put Fu x42 a1 0).bind fun x53 => some x53
set_option maxRecDepth 100000 in
set_option maxHeartbeats 2000000 in
theorem field_Writer_Bytes_ok (Fu : Nat) {S0 : Snap} (a0 : Int × (List UInt8)) (g1 : Nat) (A3 : Option Addr) (c4 : Nat) (cs5 : List Value) (hr2 : r64 a0.1) (hq6 : reps ty8 S0 cs5 a0.2) (Aa1 : Option Addr) (ca1 : Nat) (a1 : List UInt8) (hsa1 : slS ty8 S0 Aa1 ca1 a1) (r : (Int × (List UInt8))) (hf : field_Writer_Bytes Fu a0 a1 = some r) (w0 : World) (hm : Mem w0 (ownL ([.box g1 50 ([.int .i64 a0.1, .slice A3 a0.2.length c4]), .row (.slice A3 a0.2.length c4) 5 1 a0.2.length cs5] ++ [.sn S0])) ([.box g1 50 ([.int .i64 a0.1, .slice A3 a0.2.length c4]), .row (.slice A3 a0.2.length c4) 5 1 a0.2.length cs5] ++ [.sn S0]) w0) :
    Calls Tryd.prog 21 #[.pointer (some ⟨g1, 0, none⟩), .slice Aa1 a1.length ca1] w0 (Ret w0 S0 [.box g1 50 ([.int .i64 a0.1, .slice A3 a0.2.length c4]), .row (.slice A3 a0.2.length c4) 5 1 a0.2.length cs5] (fun v L1 S1 => ∃ (A66 : Option Addr), ∃ (c67 : Nat), ∃ (cs68 : List Value), v = .tuple #[] ∧ L1 = [.box g1 50 ([.int .i64 r.1, .slice A66 r.2.length c67]), .row (.slice A66 r.2.length c67) 5 1 r.2.length cs68] ∧ r64 r.1 ∧ reps ty8 S1 cs68 r.2 ∧ True)) := by
  unfold field_Writer_Bytes at hf
  obtain ⟨B0, hB0⟩ : ∃ B0, B0 = (ownL ([.box g1 50 ([.int .i64 a0.1, .slice A3 a0.2.length c4]), .row (.slice A3 a0.2.length c4) 5 1 a0.2.length cs5] ++ [.sn S0])) := ⟨_, rfl⟩
  rw [← hB0] at hm
  refine c_enterM Tryd.func21 rfl 24 rfl (by simp) _ hm _ rfl (fun a h => ?_)
  refine wp_seq ?_
  refine c_rs ?_ -- region 0
  refine s_move h rfl _ rfl rfl (by decide) rfl (fun a h => ?_)
  refine s_x h rfl rfl (by decide) (x_eql_pn h.k rfl Tryd.underlying84 rfl rfl) (fun a h => ?_)
  refine l_end ?_
  refine c_cond h rfl (fun hb => ?_) (fun hb => ?_)
  · exact absurd hb (by decide)
  · refine wp_skip ?_
    refine e_thenN ?_
    obtain ⟨o7, hc8, hf⟩ := bsome hf
    refine c_cut (fun a w => ∃ (S9 : Snap), ∃ (x12 : Int × (List UInt8)), ∃ (A14 : Option Addr), ∃ (c15 : Nat), ∃ (cs16 : List Value), x12 = o7 ∧ Snap.le S0 S9 ∧ Up B0 w0 S0 S9 ∧ r64 x12.1 ∧ reps ty8 S9 cs16 x12.2 ∧ St 24 w0 B0 [(0, .pointer (some ⟨g1, 0, none⟩)), (1, .slice Aa1 a1.length ca1)] [.box g1 50 ([.int .i64 x12.1, .slice A14 x12.2.length c15]), .row (.slice A14 x12.2.length c15) 5 1 x12.2.length cs16, .sn S9] a w) ?_ ?_
    · refine c_rs ?_ -- region 1
      refine s_move h rfl _ rfl rfl (by decide) rfl (fun a h => ?_)
      refine s_x h rfl rfl (by decide) (x_len h.k rfl Tryd.underlying23 rfl) (fun a h => ?_)
      refine s_x h rfl rfl (by decide) (x_bin h.k rfl rfl rfl ib_gtr) (fun a h => ?_)
      refine l_end ?_
      refine c_cond h rfl (fun hb => ?_) (fun hb => ?_)
      · rw [if_pos (of_decide_eq_true hb)] at hc8
        refine c_r ?_ -- region 2
        refine s_move h rfl _ rfl rfl (by decide) rfl (fun a h => ?_)
        refine s_x h rfl rfl (by decide) (x_nil h.k rfl rfl) (fun a h => ?_)
        refine s_x h rfl rfl (by decide) (x_faddr h.k rfl Tryd.underlying50 rfl sz_field_state rfl) (fun a h => ?_)
        obtain ⟨x18, h19, hc8⟩ := bsome hc8
        have hX := field_state_fail_at0_field_Writer_0_ok Fu (S0 := S0) a0 g1 A3 c4 cs5 hr2 hq6 2 (show r64 2 from ⟨by decide, by decide⟩) _ h19 _ (h.sub (Ls := [.box g1 50 ([.int .i64 a0.1, .slice A3 a0.2.length c4]), .row (.slice A3 a0.2.length c4) 5 1 a0.2.length cs5]))
        refine q_callY (Ls := [.box g1 50 ([.int .i64 a0.1, .slice A3 a0.2.length c4]), .row (.slice A3 a0.2.length c4) 5 1 a0.2.length cs5]) hX h (Up.refl _ _ _) rfl rfl rfl (by decide) Tryd.func47 rfl rfl rfl (fun a w v L1 S21 hR le23 up22 h => ?_)
        obtain ⟨A25, c26, cs27, rfl, rfl, hr24, hq28, _⟩ := hR
        refine l_nil ?_
        refine e_thenN ?_
        exact ⟨S21, x18, A25, c26, cs27, (Option.some.inj hc8), le23, up22, hr24, hq28, h.has (by exact ⟨rfl, rfl, trivial⟩)⟩
      · rw [if_neg (of_decide_eq_false hb)] at hc8
        refine wp_skip ?_
        refine e_thenN ?_
        exact ⟨S0, a0, A3, c4, cs5, (Option.some.inj hc8), (Snap.le.refl _), (Up.refl _ _ _), hr2, hq6, h.has (by exact ⟨rfl, rfl, trivial⟩)⟩
    · rintro a w ⟨S9, x12, A14, c15, cs16, rfl, le10, up11, hr13, hq17, h⟩
      refine c_rs ?_ -- region 3
      refine s_move h rfl _ rfl rfl (by decide) rfl (fun a h => ?_)
      refine s_move h rfl _ rfl rfl (by decide) rfl (fun a h => ?_)
      refine s_x h rfl rfl (by decide) (x_len h.k rfl Tryd.underlying23 rfl) (fun a h => ?_)
      refine s_x h rfl rfl (by decide) (x_mn h.k rfl rfl rfl) (fun a h => ?_)
      obtain ⟨x29, h30, hf⟩ := bsome hf
      have hX := word_Put_ok Fu (S0 := snapAll _) (mn (a1.length : Int) 65535) (mn_r (len_r ((hsa1.mono le10)).len) (show r64 65535 from ⟨by decide, by decide⟩)) 2 (show r64 2 from ⟨by decide, by decide⟩) _ h30 _ h.startAll
      refine q_callX hX h rfl rfl rfl (by decide) Tryd.func46 rfl rfl rfl (fun a w v L1 S1 hR hb1 h => ?_)
      obtain ⟨A32, c33, cs34, rfl, rfl, hq35, hr36, _⟩ := hR
      have hq37 := hq35.fl (S' := S9) fl_8
      refine s_x h rfl rfl (by decide) (x_ext h.k rfl rfl rfl) (fun a h => ?_)
      refine s_x h rfl rfl (by decide) (x_ext h.k rfl rfl rfl) (fun a h => ?_)
      have h := h.pick [0, 3, 1, 2] (by decide) rfl
      obtain ⟨S38, le39, up40, hs41, h⟩ := q_freeze (T := ty8) h up11 hq37
      obtain ⟨x42, h43, hf⟩ := bsome hf
      have h := h.pick [1, 2, 0] (by decide) rfl
      have hX := field_Writer_put_ok Fu (S0 := S38) x12 g1 A14 c15 cs16 hr13 (hq17.mono le39) A32 c33 x29.1 hs41 x29.2 hr36 _ h43 _ (h.sub (Ls := [.box g1 50 ([.int .i64 x12.1, .slice A14 x12.2.length c15]), .row (.slice A14 x12.2.length c15) 5 1 x12.2.length cs16]))
      refine q_callY (Ls := [.box g1 50 ([.int .i64 x12.1, .slice A14 x12.2.length c15]), .row (.slice A14 x12.2.length c15) 5 1 x12.2.length cs16]) hX h up40 rfl rfl rfl (by decide) Tryd.func45 rfl rfl rfl (fun a w v L1 S45 hR le47 up46 h => ?_)
      obtain ⟨A49, c50, cs51, rfl, rfl, hr48, hq52, _⟩ := hR
      refine l_end ?_
      refine c_r ?_ -- region 4
      refine s_move h rfl _ rfl rfl (by decide) rfl (fun a h => ?_)
      refine s_move h rfl _ rfl rfl (by decide) rfl (fun a h => ?_)
      obtain ⟨x53, h54, hf⟩ := bsome hf
      have hX := field_Writer_put_ok Fu (S0 := S45) x42 g1 A49 c50 cs51 hr48 hq52 Aa1 ca1 a1 (hsa1.mono ((le10.trans le39).trans le47)) 0 (show r64 0 from ⟨by decide, by decide⟩) _ h54 _ (h.sub (Ls := [.box g1 50 ([.int .i64 x42.1, .slice A49 x42.2.length c50]), .row (.slice A49 x42.2.length c50) 5 1 x42.2.length cs51]))
      refine q_callY (Ls := [.box g1 50 ([.int .i64 x42.1, .slice A49 x42.2.length c50]), .row (.slice A49 x42.2.length c50) 5 1 x42.2.length cs51]) hX h up46 rfl rfl rfl (by decide) Tryd.func45 rfl rfl rfl (fun a w v L1 S56 hR le58 up57 h => ?_)
      obtain ⟨A60, c61, cs62, rfl, rfl, hr59, hq63, _⟩ := hR
      refine l_nil ?_
      rw [← Option.some.inj hf]
      subst hB0
      exact r_ret0 h rfl  ⟨_, [.box g1 50 ([.int .i64 x53.1, .slice A60 x53.2.length c61]), .row (.slice A60 x53.2.length c61) 5 1 x53.2.length cs62], _, rfl, ⟨A60, c61, cs62, rfl, rfl, hr59, hq63, trivial⟩, rfl, up57, h.m⟩
def field_state_good_fat0_field_Writer_0 (Fu : Nat) (a0 : Int × (List UInt8)) : Option Bool :=
  some (decide (a0.1 = 0))
set_option maxRecDepth 100000 in
set_option maxHeartbeats 2000000 in
theorem field_state_good_fat0_field_Writer_0_ok (Fu : Nat) {S0 : Snap} (ga0 : Nat) (a0 : Int × (List UInt8)) (hpa0 : ptS (tyP tyI (tyL ty8)) S0 ga0 a0) (r : Bool) (hf : field_state_good_fat0_field_Writer_0 Fu a0 = some r) (w0 : World) (hm : Mem w0 (ownL ([] ++ [.sn S0])) ([] ++ [.sn S0]) w0) :
    Calls Tryd.prog 48 #[.pointer (some ⟨ga0, 0, none⟩)] w0 (Ret w0 S0 [] (fun v L1 S1 => v = .bool r ∧ L1 = [] ∧ True)) := by
  unfold field_state_good_fat0_field_Writer_0 at hf
  refine c_enterM Tryd.func48 rfl 8 rfl (by simp) _ hm _ rfl (fun a h => ?_)
  refine c_rs ?_ -- region 0
  refine s_assign h rfl _ rfl rfl (by decide) rfl (fun a h => ?_)
  refine l_end ?_
  refine c_rs ?_ -- region 1
  refine s_move h rfl _ rfl rfl (by decide) rfl (fun a h => ?_)
  obtain ⟨k1, hc2, ⟨k3, k4, rfl, ⟨rfl, hr5⟩, ⟨A6, c7, rfl, hs8⟩⟩⟩ := id hpa0
  refine s_x h rfl rfl (by decide) (x_nil h.k rfl rfl) (fun a h => ?_)
  refine s_x h rfl rfl (by decide) (x_faddr h.k rfl Tryd.underlying48 rfl sz_api_Errno rfl) (fun a h => ?_)
  refine s_x h rfl rfl (by decide) (x_ld h.k rfl Tryd.underlying22 rfl rfl (hc2 _ (h.m.snOK (i := 0) rfl) 0 _ rfl)) (fun a h => ?_)
  refine s_x h rfl rfl (by decide) (x_bin h.k rfl rfl rfl ib_eql) (fun a h => ?_)
  refine s_assign h rfl _ rfl rfl (by decide) rfl (fun a h => ?_)
  refine l_end ?_
  refine wp_ret ?_
  obtain rfl := Option.some.inj hf
  exact r_ret1 h rfl (rv_tmp h rfl) ⟨_, [], _, rfl, ⟨rfl, rfl, trivial⟩, rfl, (Up.refl _ _ _), h.m⟩
def field_Writer_Out (Fu : Nat) (a0 : Int × (List UInt8)) : Option ((List UInt8) × Int) :=
  (field_state_good_fat0_field_Writer_0 Fu a0).bind fun x9 => if (!x9) = true then (some ([], a0.1)) else ((slices_Clone___byte_byte Fu a0.2).bind fun x29 => some (x29, 0))
set_option maxRecDepth 100000 in
set_option maxHeartbeats 2000000 in
theorem field_Writer_Out_ok (Fu : Nat) {S0 : Snap} (ga0 : Nat) (a0 : Int × (List UInt8)) (hpa0 : ptS (tyP tyI (tyL ty8)) S0 ga0 a0) (r : (List UInt8) × Int) (hf : field_Writer_Out Fu a0 = some r) (w0 : World) (hm : Mem w0 (ownL ([] ++ [.sn S0])) ([] ++ [.sn S0]) w0) :
    Calls Tryd.prog 22 #[.pointer (some ⟨ga0, 0, none⟩)] w0 (Ret w0 S0 [] (fun v L1 S1 => ∃ (A37 : Option Addr), ∃ (c38 : Nat), ∃ (cs39 : List Value), v = .tuple #[.slice A37 r.1.length c38, .int .i64 r.2] ∧ L1 = [.row (.slice A37 r.1.length c38) 5 1 r.1.length cs39] ∧ reps ty8 S1 cs39 r.1 ∧ r64 r.2 ∧ True)) := by
  unfold field_Writer_Out at hf
  refine c_enterM Tryd.func22 rfl 23 rfl (by simp) _ hm _ rfl (fun a h => ?_)
  refine c_rs ?_ -- region 0
  refine s_assign h rfl _ rfl rfl (by decide) rfl (fun a h => ?_)
  refine s_assign h rfl _ rfl rfl (by decide) rfl (fun a h => ?_)
  refine l_end ?_
  refine wp_seq ?_
  refine wp_block ?_
  refine c_rs ?_ -- region 1
  refine s_move h rfl _ rfl rfl (by decide) rfl (fun a h => ?_)
  refine s_x h rfl rfl (by decide) (x_eql_pn h.k rfl Tryd.underlying84 rfl rfl) (fun a h => ?_)
  refine s_assign h rfl _ rfl rfl (by decide) rfl (fun a h => ?_)
  refine l_end ?_
  refine c_cond h rfl (fun hb => ?_) (fun hb => ?_)
  · exact absurd hb (by decide)
  · refine c_rs ?_ -- region 3
    refine s_move h rfl _ rfl rfl (by decide) rfl (fun a h => ?_)
    obtain ⟨k1, hc2, ⟨k3, k4, rfl, ⟨rfl, hr5⟩, ⟨A6, c7, rfl, hs8⟩⟩⟩ := id hpa0
    refine s_x h rfl rfl (by decide) (x_nil h.k rfl rfl) (fun a h => ?_)
    refine s_x h rfl rfl (by decide) (x_faddr h.k rfl Tryd.underlying50 rfl sz_field_state rfl) (fun a h => ?_)
    obtain ⟨x9, h10, hf⟩ := bsome hf
    have hX := field_state_good_fat0_field_Writer_0_ok Fu (S0 := snapAll _) ga0 a0 (hpa0.mono (h.m.leAll (i := 0) rfl)) _ h10 _ h.startAll
    refine q_callX hX h rfl rfl rfl (by decide) Tryd.func48 rfl rfl rfl (fun a w v L1 S1 hR hb1 h => ?_)
    obtain ⟨rfl, rfl, _⟩ := hR
    refine s_x h rfl rfl (by decide) (x_not h.k rfl rfl) (fun a h => ?_)
    refine s_assign h rfl _ rfl rfl (by decide) rfl (fun a h => ?_)
    refine l_end ?_
    refine c_cond h rfl (fun hb => ?_) (fun hb => ?_)
    · rw [if_pos hb] at hf
      refine wp_seq ?_
      -- region 4 draws
      refine d_start h (Mem _ _ _) 7 7 rfl (by kernel_rfl) (fun _ _ _ _ _ h => h) (fun _ h => h) (fun Q a w HE HN h HS => ?_)
      refine d_takeP h (fun _ => HS) HN 0 rfl (by kernel_rfl) (by kernel_rfl) (by kernel_rfl) (by decide) rfl rfl (by decide) (fun w' => x_move h.k _ rfl rfl) (fun a h => ?_)
      obtain ⟨k12, hc13, ⟨k14, k15, rfl, ⟨rfl, hr16⟩, ⟨A17, c18, rfl, hs19⟩⟩⟩ := id hpa0
      refine d_takeP h (fun _ => HS) HN 1 rfl (by kernel_rfl) (by kernel_rfl) (by kernel_rfl) (by decide) rfl rfl (by decide) (fun w' => x_nil h.k rfl rfl) (fun a h => ?_)
      refine d_takeP h (fun _ => HS) HN 2 rfl (by kernel_rfl) (by kernel_rfl) (by kernel_rfl) (by decide) rfl rfl (by decide) (fun w' => x_faddr h.k rfl Tryd.underlying50 rfl sz_field_state rfl) (fun a h => ?_)
      refine d_takeP h (fun _ => HS) HN 3 rfl (by kernel_rfl) (by kernel_rfl) (by kernel_rfl) (by decide) rfl rfl (by decide) (fun w' => x_faddr h.k rfl Tryd.underlying48 rfl sz_api_Errno rfl) (fun a h => ?_)
      refine d_take h HS HN 4 rfl (by kernel_rfl) (by kernel_rfl) (by kernel_rfl) (by kernel_rfl) (by kernel_rfl) rfl rfl (by decide) (fun w' hw => x_ld h.k rfl Tryd.underlying22 rfl rfl (hc13 _ (hw.snOK (i := 0) rfl) 0 _ rfl)) (fun a h => ?_)
      refine d_takeP h (fun _ => HS) HN 5 rfl (by kernel_rfl) (by kernel_rfl) (by kernel_rfl) (by decide) rfl rfl (by decide) (fun w' => x_assign h.k _ rfl rfl) (fun a h => ?_)
      refine d_takeP h (fun _ => HS) HN 6 rfl (by kernel_rfl) (by kernel_rfl) (by kernel_rfl) (by decide) rfl rfl (by decide) (fun w' => x_assign h.k _ rfl rfl) (fun a h => ?_)
      refine d_done (by kernel_rfl) (HE _ _ ?_) _
      refine e_thenN ?_
      refine wp_ret ?_
      refine e_blkR ?_
      refine e_thenR ?_
      obtain rfl := Option.some.inj hf
      have h := h.mem (h.m.nilrow 5 1)
      exact r_ret2 h rfl (rv_tmp h rfl) (rv_tmp h rfl) ⟨_, [.row (.slice none ([]).length 0) 5 1 ([]).length []], _, rfl, ⟨none, 0, [], rfl, rfl, (show reps ty8 S0 [] [] from rfl), hr16, trivial⟩, rfl, (Up.refl _ _ _), h.m⟩
    · rw [if_neg (by rw [hb]; decide)] at hf
      refine wp_skip ?_
      refine e_blkN ?_
      refine e_thenN ?_
      refine c_rs ?_ -- region 5
      refine s_move h rfl _ rfl rfl (by decide) rfl (fun a h => ?_)
      obtain ⟨k21, hc22, ⟨k23, k24, rfl, ⟨rfl, hr25⟩, ⟨A26, c27, rfl, hs28⟩⟩⟩ := id hpa0
      refine s_x h rfl rfl (by decide) (x_nil h.k rfl rfl) (fun a h => ?_)
      refine s_x h rfl rfl (by decide) (x_faddr h.k rfl Tryd.underlying50 rfl sz_Suint8 rfl) (fun a h => ?_)
      refine s_x h rfl rfl (by decide) (x_ld h.k rfl Tryd.underlying23 rfl rfl (hc22 _ (h.m.snOK (i := 0) rfl) 1 _ rfl)) (fun a h => ?_)
      obtain ⟨x29, h30, hf⟩ := bsome hf
      have hX := slices_Clone___byte_byte_ok Fu (S0 := snapAll _) A26 c27 a0.2 (hs28.mono (h.m.leAll (i := 0) rfl)) _ h30 _ h.startAll
      refine q_callX hX h rfl rfl rfl (by decide) Tryd.func49 rfl rfl rfl (fun a w v L1 S1 hR hb1 h => ?_)
      obtain ⟨A32, c33, cs34, rfl, rfl, hq35, _⟩ := hR
      have hq36 := hq35.fl (S' := S0) fl_8
      refine s_assign h rfl _ rfl rfl (by decide) rfl (fun a h => ?_)
      refine s_assign h rfl _ rfl rfl (by decide) rfl (fun a h => ?_)
      refine l_end ?_
      refine wp_ret ?_
      obtain rfl := Option.some.inj hf
      exact r_ret2 h rfl (rv_tmp h rfl) (rv_tmp h rfl) ⟨_, [.row (.slice A32 x29.length c33) 5 1 x29.length cs34], _, rfl, ⟨A32, c33, cs34, rfl, rfl, hq36, (show r64 0 from ⟨by decide, by decide⟩), trivial⟩, rfl, (Up.refl _ _ _), h.m⟩
def field_Reader_made (Fu : Nat) (a0 : Int × (List UInt8) × Bool) : Option Bool :=
  some a0.2.2
set_option maxRecDepth 100000 in
set_option maxHeartbeats 2000000 in
theorem field_Reader_made_ok (Fu : Nat) {S0 : Snap} (ga0 : Nat) (a0 : Int × (List UInt8) × Bool) (hpa0 : ptS (tyP tyI (tyP (tyL ty8) tyB)) S0 ga0 a0) (r : Bool) (hf : field_Reader_made Fu a0 = some r) (w0 : World) (hm : Mem w0 (ownL ([] ++ [.sn S0])) ([] ++ [.sn S0]) w0) :
    Calls Tryd.prog 50 #[.pointer (some ⟨ga0, 0, none⟩)] w0 (Ret w0 S0 [] (fun v L1 S1 => v = .bool r ∧ L1 = [] ∧ True)) := by
  unfold field_Reader_made at hf
  refine c_enterM Tryd.func50 rfl 11 rfl (by simp) _ hm _ rfl (fun a h => ?_)
  refine c_rs ?_ -- region 0
  refine s_assign h rfl _ rfl rfl (by decide) rfl (fun a h => ?_)
  refine l_end ?_
  refine c_rs ?_ -- region 1
  refine s_move h rfl _ rfl rfl (by decide) rfl (fun a h => ?_)
  refine s_x h rfl rfl (by decide) (x_neq_pn h.k rfl Tryd.underlying54 rfl rfl) (fun a h => ?_)
  refine s_move h rfl _ rfl rfl (by decide) rfl (fun a h => ?_)
  refine q_grp h 5 (t := 5) 10 a0.2.2 rfl (fun hB2 => ?_) (fun hB2 => ?_) (fun a w h => ?_)
  · refine g_yes h rfl rfl rfl rfl hB2 ?_
    refine s_move h rfl _ rfl rfl (by decide) rfl (fun a h => ?_)
    refine g_yes h rfl rfl rfl rfl hB2 ?_
    obtain ⟨k3, hc4, ⟨k5, k6, rfl, ⟨rfl, hr7⟩, ⟨k8, k9, rfl, ⟨A10, c11, rfl, hs12⟩, rfl⟩⟩⟩ := id hpa0
    refine s_x h rfl rfl (by decide) (x_nil h.k rfl rfl) (fun a h => ?_)
    refine g_yes h rfl rfl rfl rfl hB2 ?_
    refine s_x h rfl rfl (by decide) (x_faddr h.k rfl Tryd.underlying90 rfl sz_bool rfl) (fun a h => ?_)
    refine g_yes h rfl rfl rfl rfl hB2 ?_
    refine s_x h rfl rfl (by decide) (x_ld h.k rfl Tryd.underlying4 rfl rfl (hc4 _ (h.m.snOK (i := 0) rfl) 2 _ rfl)) (fun a h => ?_)
    refine s_x h rfl rfl (by decide) (x_pick (u' := undef) h.k rfl rfl (fun _ => rfl) (fun hh => absurd (hB2.symm.trans hh) (by decide))) (fun a h => ?_)
    exact (h.mid 4 rfl).val (by first | rfl | (rw [hB2]; first | rfl | simp))
  · exact absurd hB2 (by decide)
  refine s_assign h rfl _ rfl rfl (by decide) rfl (fun a h => ?_)
  refine l_end ?_
  refine wp_ret ?_
  obtain rfl := Option.some.inj hf
  exact r_ret1 h rfl (rv_tmp h rfl) ⟨_, [], _, rfl, ⟨rfl, rfl, trivial⟩, rfl, (Up.refl _ _ _), h.m⟩
def field_Read (Fu : Nat) (a0 : List UInt8) : Option ((Int × (List UInt8) × Bool)) :=
  some (0, a0, true)
set_option maxRecDepth 100000 in
set_option maxHeartbeats 2000000 in
theorem field_Read_ok (Fu : Nat) {S0 : Snap} (Aa0 : Option Addr) (ca0 : Nat) (a0 : List UInt8) (hsa0 : slS ty8 S0 Aa0 ca0 a0) (r : (Int × (List UInt8) × Bool)) (hf : field_Read Fu a0 = some r) (w0 : World) (hm : Mem w0 (ownL ([] ++ [.sn S0])) ([] ++ [.sn S0]) w0) :
    Calls Tryd.prog 23 #[.slice Aa0 a0.length ca0] w0 (Ret w0 S0 [] (fun v L1 S1 => ∃ (g2 : Nat), ∃ (A4 : Option Addr), ∃ (c5 : Nat), v = .pointer (some ⟨g2, 0, none⟩) ∧ L1 = [.box g2 90 ([.int .i64 r.1, .slice A4 r.2.1.length c5, .bool r.2.2])] ∧ r64 r.1 ∧ slS ty8 S1 A4 c5 r.2.1 ∧ True)) := by
  unfold field_Read at hf
  refine c_enterM Tryd.func23 rfl 6 rfl (by simp) _ hm _ rfl (fun a h => ?_)
  refine c_rs ?_ -- region 0
  refine s_assign h rfl _ rfl rfl (by decide) rfl (fun a h => ?_)
  refine l_end ?_
  refine c_rs ?_ -- region 1
  refine s_move h rfl _ rfl rfl (by decide) rfl (fun a h => ?_)
  refine s_x h rfl rfl (by decide) (x_build h.k rfl [(1, .slice Aa0 a0.length ca0), (2, .bool true)] rfl ([.int .i64 0, .slice Aa0 a0.length ca0, .bool true]) (by kernel_rfl)) (fun a h => ?_)
  refine s_box h rfl rfl rfl (by decide) rfl (cs := [.int .i64 0, .slice Aa0 a0.length ca0, .bool true]) (by rfl) (fun a w g1 h => ?_)
  refine s_assign h rfl _ rfl rfl (by decide) rfl (fun a h => ?_)
  refine l_end ?_
  refine wp_ret ?_
  obtain rfl := Option.some.inj hf
  exact r_ret1 h rfl (rv_tmp h rfl) ⟨_, [.box g1 90 ([.int .i64 0, .slice Aa0 a0.length ca0, .bool true])], _, rfl, ⟨g1, Aa0, ca0, rfl, rfl, (show r64 0 from ⟨by decide, by decide⟩), hsa0, trivial⟩, rfl, (Up.refl _ _ _), h.m⟩
def field_state_fail_at0_field_Reader_0 (Fu : Nat) (a0 : Int × (List UInt8) × Bool) (a1 : Int) : Option ((Int × (List UInt8) × Bool)) :=
  if a0.1 = 0 then (some (a1, a0.2.1, a0.2.2)) else (some a0)
set_option maxRecDepth 100000 in
set_option maxHeartbeats 2000000 in
theorem field_state_fail_at0_field_Reader_0_ok (Fu : Nat) {S0 : Snap} (a0 : Int × (List UInt8) × Bool) (g1 : Nat) (A3 : Option Addr) (c4 : Nat) (hr2 : r64 a0.1) (hs5 : slS ty8 S0 A3 c4 a0.2.1) (a1 : Int) (hra1 : r64 a1) (r : (Int × (List UInt8) × Bool)) (hf : field_state_fail_at0_field_Reader_0 Fu a0 a1 = some r) (w0 : World) (hm : Mem w0 (ownL ([.box g1 90 ([.int .i64 a0.1, .slice A3 a0.2.1.length c4, .bool a0.2.2])] ++ [.sn S0])) ([.box g1 90 ([.int .i64 a0.1, .slice A3 a0.2.1.length c4, .bool a0.2.2])] ++ [.sn S0]) w0) :
    Calls Tryd.prog 47 #[.pointer (some ⟨g1, 0, none⟩), .int .i64 a1] w0 (Ret w0 S0 [.box g1 90 ([.int .i64 a0.1, .slice A3 a0.2.1.length c4, .bool a0.2.2])] (fun v L1 S1 => ∃ (A7 : Option Addr), ∃ (c8 : Nat), v = .tuple #[] ∧ L1 = [.box g1 90 ([.int .i64 r.1, .slice A7 r.2.1.length c8, .bool r.2.2])] ∧ r64 r.1 ∧ slS ty8 S1 A7 c8 r.2.1 ∧ True)) := by
  unfold field_state_fail_at0_field_Reader_0 at hf
  obtain ⟨B0, hB0⟩ : ∃ B0, B0 = (ownL ([.box g1 90 ([.int .i64 a0.1, .slice A3 a0.2.1.length c4, .bool a0.2.2])] ++ [.sn S0])) := ⟨_, rfl⟩
  rw [← hB0] at hm
  refine c_enterM Tryd.func47 rfl 13 rfl (by simp) _ hm _ rfl (fun a h => ?_)
  refine c_rs ?_ -- region 0
  refine s_move h rfl _ rfl rfl (by decide) rfl (fun a h => ?_)
  refine s_x h rfl rfl (by decide) (x_nil h.k rfl rfl) (fun a h => ?_)
  refine s_x h rfl rfl (by decide) (x_faddr h.k rfl Tryd.underlying48 rfl sz_api_Errno rfl) (fun a h => ?_)
  refine s_x h rfl rfl (by decide) (x_ld h.k rfl Tryd.underlying22 rfl rfl ((h.m.cell (i := 0) rfl 0).trans rfl)) (fun a h => ?_)
  refine s_x h rfl rfl (by decide) (x_bin h.k rfl rfl rfl ib_eql) (fun a h => ?_)
  refine l_end ?_
  refine c_cond h rfl (fun hb => ?_) (fun hb => ?_)
  · rw [if_pos (of_decide_eq_true hb)] at hf
    refine c_r ?_ -- region 1
    refine s_move h rfl _ rfl rfl (by decide) rfl (fun a h => ?_)
    refine s_move h rfl _ rfl rfl (by decide) rfl (fun a h => ?_)
    refine s_x h rfl rfl (by decide) (x_nil h.k rfl rfl) (fun a h => ?_)
    refine s_x h rfl rfl (by decide) (x_faddr h.k rfl Tryd.underlying48 rfl sz_api_Errno rfl) (fun a h => ?_)
    refine s_stb h rfl rfl rfl sz_api_Errno rfl rfl rfl 0 rfl (by first | decide | simp) (fun a w h => ?_)
    refine l_nil ?_
    obtain rfl := Option.some.inj hf
    subst hB0
    exact r_ret0 h rfl  ⟨_, [.box g1 90 ([.int .i64 a1, .slice A3 a0.2.1.length c4, .bool a0.2.2])], _, rfl, ⟨A3, c4, rfl, rfl, hra1, hs5, trivial⟩, rfl, (Up.refl _ _ _), h.m⟩
  · rw [if_neg (of_decide_eq_false hb)] at hf
    refine wp_skip ?_
    rw [← Option.some.inj hf]
    subst hB0
    exact r_ret0 h rfl  ⟨_, [.box g1 90 ([.int .i64 a0.1, .slice A3 a0.2.1.length c4, .bool a0.2.2])], _, rfl, ⟨A3, c4, rfl, rfl, hr2, hs5, trivial⟩, rfl, (Up.refl _ _ _), h.m⟩
def field_state_good_at0_field_Reader_0 (Fu : Nat) (a0 : Int × (List UInt8) × Bool) : Option (Bool × (Int × (List UInt8) × Bool)) :=
  some ((decide (a0.1 = 0)), a0)
set_option maxRecDepth 100000 in
set_option maxHeartbeats 2000000 in
theorem field_state_good_at0_field_Reader_0_ok (Fu : Nat) {S0 : Snap} (a0 : Int × (List UInt8) × Bool) (g1 : Nat) (A3 : Option Addr) (c4 : Nat) (hr2 : r64 a0.1) (hs5 : slS ty8 S0 A3 c4 a0.2.1) (r : Bool × (Int × (List UInt8) × Bool)) (hf : field_state_good_at0_field_Reader_0 Fu a0 = some r) (w0 : World) (hm : Mem w0 (ownL ([.box g1 90 ([.int .i64 a0.1, .slice A3 a0.2.1.length c4, .bool a0.2.2])] ++ [.sn S0])) ([.box g1 90 ([.int .i64 a0.1, .slice A3 a0.2.1.length c4, .bool a0.2.2])] ++ [.sn S0]) w0) :
    Calls Tryd.prog 48 #[.pointer (some ⟨g1, 0, none⟩)] w0 (Ret w0 S0 [.box g1 90 ([.int .i64 a0.1, .slice A3 a0.2.1.length c4, .bool a0.2.2])] (fun v L1 S1 => ∃ (A7 : Option Addr), ∃ (c8 : Nat), v = .bool r.1 ∧ L1 = [.box g1 90 ([.int .i64 r.2.1, .slice A7 r.2.2.1.length c8, .bool r.2.2.2])] ∧ r64 r.2.1 ∧ slS ty8 S1 A7 c8 r.2.2.1 ∧ True)) := by
  unfold field_state_good_at0_field_Reader_0 at hf
  obtain ⟨B0, hB0⟩ : ∃ B0, B0 = (ownL ([.box g1 90 ([.int .i64 a0.1, .slice A3 a0.2.1.length c4, .bool a0.2.2])] ++ [.sn S0])) := ⟨_, rfl⟩
  rw [← hB0] at hm
  refine c_enterM Tryd.func48 rfl 8 rfl (by simp) _ hm _ rfl (fun a h => ?_)
  refine c_rs ?_ -- region 0
  refine s_assign h rfl _ rfl rfl (by decide) rfl (fun a h => ?_)
  refine l_end ?_
  refine c_rs ?_ -- region 1
  refine s_move h rfl _ rfl rfl (by decide) rfl (fun a h => ?_)
  refine s_x h rfl rfl (by decide) (x_nil h.k rfl rfl) (fun a h => ?_)
  refine s_x h rfl rfl (by decide) (x_faddr h.k rfl Tryd.underlying48 rfl sz_api_Errno rfl) (fun a h => ?_)
  refine s_x h rfl rfl (by decide) (x_ld h.k rfl Tryd.underlying22 rfl rfl ((h.m.cell (i := 0) rfl 0).trans rfl)) (fun a h => ?_)
  refine s_x h rfl rfl (by decide) (x_bin h.k rfl rfl rfl ib_eql) (fun a h => ?_)
  refine s_assign h rfl _ rfl rfl (by decide) rfl (fun a h => ?_)
  refine l_end ?_
  refine wp_ret ?_
  obtain rfl := Option.some.inj hf
  subst hB0
  exact r_ret1 h rfl (rv_tmp h rfl) ⟨_, [.box g1 90 ([.int .i64 a0.1, .slice A3 a0.2.1.length c4, .bool a0.2.2])], _, rfl, ⟨A3, c4, rfl, rfl, hr2, hs5, trivial⟩, rfl, (Up.refl _ _ _), h.m⟩
def field_Reader_take (Fu : Nat) (a0 : Int × (List UInt8) × Bool) (a1 : Int) : Option ((List UInt8) × (Int × (List UInt8) × Bool)) :=
  (word_Cut Fu a0.2.1 a1).bind fun x6 => (if (!x6.2.2) = true then ((field_state_fail_at0_field_Reader_0 Fu a0 10).bind fun x28 => some x28) else (some a0)).bind fun x23 => (field_state_good_at0_field_Reader_0 Fu x23).bind fun x38 => if (!x38.1) = true then (some ([], x38.2)) else (some (x6.1, (x38.2.1, x6.2.1, x38.2.2.2)))
set_option maxRecDepth 100000 in
set_option maxHeartbeats 2000000 in
theorem field_Reader_take_ok (Fu : Nat) {S0 : Snap} (a0 : Int × (List UInt8) × Bool) (g1 : Nat) (A3 : Option Addr) (c4 : Nat) (hr2 : r64 a0.1) (hs5 : slS ty8 S0 A3 c4 a0.2.1) (a1 : Int) (hra1 : r64 a1) (r : (List UInt8) × (Int × (List UInt8) × Bool)) (hf : field_Reader_take Fu a0 a1 = some r) (w0 : World) (hm : Mem w0 (ownL ([.box g1 90 ([.int .i64 a0.1, .slice A3 a0.2.1.length c4, .bool a0.2.2])] ++ [.sn S0])) ([.box g1 90 ([.int .i64 a0.1, .slice A3 a0.2.1.length c4, .bool a0.2.2])] ++ [.sn S0]) w0) :
    Calls Tryd.prog 51 #[.pointer (some ⟨g1, 0, none⟩), .int .i64 a1] w0 (Ret w0 S0 [.box g1 90 ([.int .i64 a0.1, .slice A3 a0.2.1.length c4, .bool a0.2.2])] (fun v L1 S1 => ∃ (A49 : Option Addr), ∃ (c50 : Nat), ∃ (A53 : Option Addr), ∃ (c54 : Nat), v = .slice A49 r.1.length c50 ∧ L1 = [.box g1 90 ([.int .i64 r.2.1, .slice A53 r.2.2.1.length c54, .bool r.2.2.2])] ∧ slS ty8 S1 A49 c50 r.1 ∧ r64 r.2.1 ∧ slS ty8 S1 A53 c54 r.2.2.1 ∧ True)) := by
  unfold field_Reader_take at hf
  obtain ⟨B0, hB0⟩ : ∃ B0, B0 = (ownL ([.box g1 90 ([.int .i64 a0.1, .slice A3 a0.2.1.length c4, .bool a0.2.2])] ++ [.sn S0])) := ⟨_, rfl⟩
  rw [← hB0] at hm
  refine c_enterM Tryd.func51 rfl 34 rfl (by simp) _ hm _ rfl (fun a h => ?_)
  refine c_rs ?_ -- region 0
  refine s_assign h rfl _ rfl rfl (by decide) rfl (fun a h => ?_)
  refine l_end ?_
  refine c_rs ?_ -- region 1
  refine s_move h rfl _ rfl rfl (by decide) rfl (fun a h => ?_)
  refine s_x h rfl rfl (by decide) (x_nil h.k rfl rfl) (fun a h => ?_)
  refine s_x h rfl rfl (by decide) (x_faddr h.k rfl Tryd.underlying90 rfl sz_Suint8 rfl) (fun a h => ?_)
  refine s_x h rfl rfl (by decide) (x_ld h.k rfl Tryd.underlying23 rfl rfl ((h.m.cell (i := 0) rfl 1).trans rfl)) (fun a h => ?_)
  refine s_move h rfl _ rfl rfl (by decide) rfl (fun a h => ?_)
  obtain ⟨x6, h7, hf⟩ := bsome hf
  have h := h.pick [1, 0] (by decide) rfl
  have hX := word_Cut_ok Fu (S0 := S0) A3 c4 a0.2.1 hs5 a1 hra1 _ h7 _ (h.sub (Ls := []))
  refine q_callY (Ls := []) hX h (Up.refl _ _ _) rfl rfl rfl (by decide) Tryd.func63 rfl rfl rfl (fun a w v L1 S9 hR le11 up10 h => ?_)
  obtain ⟨A12, c13, A15, c16, rfl, rfl, hs14, hs17, _⟩ := hR
  refine s_move h rfl _ rfl rfl (by decide) rfl (fun a h => ?_)
  refine s_x h rfl rfl (by decide) (x_ext h.k rfl rfl rfl) (fun a h => ?_)
  refine s_x h rfl rfl (by decide) (x_ext h.k rfl rfl rfl) (fun a h => ?_)
  refine s_x h rfl rfl (by decide) (x_ext h.k rfl rfl rfl) (fun a h => ?_)
  refine s_assign h rfl _ rfl rfl (by decide) rfl (fun a h => ?_)
  refine s_assign h rfl _ rfl rfl (by decide) rfl (fun a h => ?_)
  refine s_assign h rfl _ rfl rfl (by decide) rfl (fun a h => ?_)
  refine l_end ?_
  obtain ⟨o18, hc19, hf⟩ := bsome hf
  refine c_cut (fun a w => ∃ (S20 : Snap), ∃ (x23 : Int × (List UInt8) × Bool), ∃ (A25 : Option Addr), ∃ (c26 : Nat), x23 = o18 ∧ Snap.le S9 S20 ∧ Up B0 w0 S0 S20 ∧ r64 x23.1 ∧ slS ty8 S20 A25 c26 x23.2.1 ∧ St 34 w0 B0 [(0, .pointer (some ⟨g1, 0, none⟩)), (5, .slice A12 x6.1.length c13), (6, .slice A15 x6.2.1.length c16)] [.box g1 90 ([.int .i64 x23.1, .slice A25 x23.2.1.length c26, .bool x23.2.2]), .sn S20] a w) ?_ ?_
  · refine c_rs ?_ -- region 2
    refine s_move h rfl _ rfl rfl (by decide) rfl (fun a h => ?_)
    refine s_x h rfl rfl (by decide) (x_not h.k rfl rfl) (fun a h => ?_)
    refine l_end ?_
    refine c_cond h rfl (fun hb => ?_) (fun hb => ?_)
    · rw [if_pos hb] at hc19
      refine c_r ?_ -- region 3
      refine s_move h rfl _ rfl rfl (by decide) rfl (fun a h => ?_)
      refine s_x h rfl rfl (by decide) (x_nil h.k rfl rfl) (fun a h => ?_)
      refine s_x h rfl rfl (by decide) (x_faddr h.k rfl Tryd.underlying90 rfl sz_field_state rfl) (fun a h => ?_)
      obtain ⟨x28, h29, hc19⟩ := bsome hc19
      have h := h.pick [1, 0] (by decide) rfl
      have hX := field_state_fail_at0_field_Reader_0_ok Fu (S0 := S9) a0 g1 A3 c4 hr2 (hs5.mono le11) 10 (show r64 10 from ⟨by decide, by decide⟩) _ h29 _ (h.sub (Ls := [.box g1 90 ([.int .i64 a0.1, .slice A3 a0.2.1.length c4, .bool a0.2.2])]))
      refine q_callY (Ls := [.box g1 90 ([.int .i64 a0.1, .slice A3 a0.2.1.length c4, .bool a0.2.2])]) hX h up10 rfl rfl rfl (by decide) Tryd.func47 rfl rfl rfl (fun a w v L1 S31 hR le33 up32 h => ?_)
      obtain ⟨A35, c36, rfl, rfl, hr34, hs37, _⟩ := hR
      refine l_nil ?_
      refine e_thenN ?_
      exact ⟨S31, x28, A35, c36, (Option.some.inj hc19), le33, up32, hr34, hs37, h.has (by exact ⟨rfl, rfl, rfl, trivial⟩)⟩
    · rw [if_neg (by rw [hb]; decide)] at hc19
      refine wp_skip ?_
      refine e_thenN ?_
      have h := h.pick [1, 0] (by decide) rfl
      exact ⟨S9, a0, A3, c4, (Option.some.inj hc19), (Snap.le.refl _), up10, hr2, (hs5.mono le11), h.has (by exact ⟨rfl, rfl, rfl, trivial⟩)⟩
  · rintro a w ⟨S20, x23, A25, c26, rfl, le21, up22, hr24, hs27, h⟩
    refine wp_seq ?_
    refine c_rs ?_ -- region 4
    refine s_move h rfl _ rfl rfl (by decide) rfl (fun a h => ?_)
    refine s_x h rfl rfl (by decide) (x_nil h.k rfl rfl) (fun a h => ?_)
    refine s_x h rfl rfl (by decide) (x_faddr h.k rfl Tryd.underlying90 rfl sz_field_state rfl) (fun a h => ?_)
    obtain ⟨x38, h39, hf⟩ := bsome hf
    have hX := field_state_good_at0_field_Reader_0_ok Fu (S0 := S20) x23 g1 A25 c26 hr24 hs27 _ h39 _ (h.sub (Ls := [.box g1 90 ([.int .i64 x23.1, .slice A25 x23.2.1.length c26, .bool x23.2.2])]))
    refine q_callY (Ls := [.box g1 90 ([.int .i64 x23.1, .slice A25 x23.2.1.length c26, .bool x23.2.2])]) hX h up22 rfl rfl rfl (by decide) Tryd.func48 rfl rfl rfl (fun a w v L1 S41 hR le43 up42 h => ?_)
    obtain ⟨A45, c46, rfl, rfl, hr44, hs47, _⟩ := hR
    refine s_x h rfl rfl (by decide) (x_not h.k rfl rfl) (fun a h => ?_)
    refine l_end ?_
    refine c_cond h rfl (fun hb => ?_) (fun hb => ?_)
    · rw [if_pos hb] at hf
      refine c_rs ?_ -- region 5
      refine s_assign h rfl _ rfl rfl (by decide) rfl (fun a h => ?_)
      refine l_end ?_
      refine wp_ret ?_
      refine e_thenR ?_
      obtain rfl := Option.some.inj hf
      subst hB0
      exact r_ret1 h rfl (rv_tmp h rfl) ⟨_, [.box g1 90 ([.int .i64 x38.2.1, .slice A45 x38.2.2.1.length c46, .bool x38.2.2.2])], _, rfl, ⟨none, 0, A45, c46, rfl, rfl, (slS.nil ty8 S41), hr44, hs47, trivial⟩, rfl, up42, h.m⟩
    · rw [if_neg (by rw [hb]; decide)] at hf
      refine wp_skip ?_
      refine e_thenN ?_
      refine c_rs ?_ -- region 6
      refine s_move h rfl _ rfl rfl (by decide) rfl (fun a h => ?_)
      refine s_move h rfl _ rfl rfl (by decide) rfl (fun a h => ?_)
      refine s_x h rfl rfl (by decide) (x_nil h.k rfl rfl) (fun a h => ?_)
      refine s_x h rfl rfl (by decide) (x_faddr h.k rfl Tryd.underlying90 rfl sz_Suint8 rfl) (fun a h => ?_)
      refine s_stb h rfl rfl rfl sz_Suint8 rfl rfl rfl 0 rfl (by first | decide | simp) (fun a w h => ?_)
      refine l_end ?_
      refine c_rs ?_ -- region 7
      refine s_move h rfl _ rfl rfl (by decide) rfl (fun a h => ?_)
      refine s_assign h rfl _ rfl rfl (by decide) rfl (fun a h => ?_)
      refine l_end ?_
      refine wp_ret ?_
      obtain rfl := Option.some.inj hf
      subst hB0
      exact r_ret1 h rfl (rv_tmp h rfl) ⟨_, [.box g1 90 ([.int .i64 x38.2.1, .slice A15 x6.2.1.length c16, .bool x38.2.2.2])], _, rfl, ⟨A12, c13, A15, c16, rfl, rfl, (hs14.mono (le21.trans le43)), hr44, (hs17.mono (le21.trans le43)), trivial⟩, rfl, up42, h.m⟩
def field_Reader_Number (Fu : Nat) (a0 : Int × (List UInt8) × Bool) (a1 : Int) (a2 : Int) : Option (Int × (Int × (List UInt8) × Bool)) :=
  (field_Reader_made Fu a0).bind fun x6 => if (!x6) = true then (some (0, a0)) else ((if ((decide (a1 < 1)) || (decide (8 < a1))) = true then ((field_state_fail_at0_field_Reader_0 Fu a0 2).bind fun x21 => some x21) else (some a0)).bind fun x14 => (field_Reader_take Fu x14 a1).bind fun x31 => (field_state_good_at0_field_Reader_0 Fu x31.2).bind fun x44 => if (!x44.1) = true then (some (0, x44.2)) else ((word_Get Fu x31.1).bind fun x54 => if ((decide (x54.2 ≠ 0)) || (decide (a2 < x54.1))) = true then ((field_state_fail_at0_field_Reader_0 Fu x44.2 11).bind fun x61 => some (0, x61)) else (some (x54.1, x44.2))))
set_option maxRecDepth 100000 in
set_option maxHeartbeats 2000000 in
theorem field_Reader_Number_ok (Fu : Nat) {S0 : Snap} (a0 : Int × (List UInt8) × Bool) (g1 : Nat) (A3 : Option Addr) (c4 : Nat) (hr2 : r64 a0.1) (hs5 : slS ty8 S0 A3 c4 a0.2.1) (a1 : Int) (hra1 : r64 a1) (a2 : Int) (hra2 : r64 a2) (r : Int × (Int × (List UInt8) × Bool)) (hf : field_Reader_Number Fu a0 a1 a2 = some r) (w0 : World) (hm : Mem w0 (ownL ([.box g1 90 ([.int .i64 a0.1, .slice A3 a0.2.1.length c4, .bool a0.2.2])] ++ [.sn S0])) ([.box g1 90 ([.int .i64 a0.1, .slice A3 a0.2.1.length c4, .bool a0.2.2])] ++ [.sn S0]) w0) :
    Calls Tryd.prog 24 #[.pointer (some ⟨g1, 0, none⟩), .int .i64 a1, .int .i64 a2] w0 (Ret w0 S0 [.box g1 90 ([.int .i64 a0.1, .slice A3 a0.2.1.length c4, .bool a0.2.2])] (fun v L1 S1 => ∃ (A74 : Option Addr), ∃ (c75 : Nat), v = .int .i64 r.1 ∧ L1 = [.box g1 90 ([.int .i64 r.2.1, .slice A74 r.2.2.1.length c75, .bool r.2.2.2])] ∧ r64 r.1 ∧ r64 r.2.1 ∧ slS ty8 S1 A74 c75 r.2.2.1 ∧ True)) := by
  unfold field_Reader_Number at hf
  obtain ⟨B0, hB0⟩ : ∃ B0, B0 = (ownL ([.box g1 90 ([.int .i64 a0.1, .slice A3 a0.2.1.length c4, .bool a0.2.2])] ++ [.sn S0])) := ⟨_, rfl⟩
  rw [← hB0] at hm
  refine c_enterM Tryd.func24 rfl 48 rfl (by simp) _ hm _ rfl (fun a h => ?_)
  refine c_rs ?_ -- region 0
  refine s_assign h rfl _ rfl rfl (by decide) rfl (fun a h => ?_)
  refine l_end ?_
  refine wp_seq ?_
  refine c_rs ?_ -- region 1
  refine s_move h rfl _ rfl rfl (by decide) rfl (fun a h => ?_)
  obtain ⟨x6, h7, hf⟩ := bsome hf
  have hX := field_Reader_made_ok Fu (S0 := snapAll _) g1 a0 ⟨[.int .i64 a0.1, .slice A3 a0.2.1.length c4, .bool a0.2.2], h.m.boxAll (i := 0) rfl, ⟨[.int .i64 a0.1], [.slice A3 a0.2.1.length c4, .bool a0.2.2], rfl, ⟨rfl, hr2⟩, ⟨[.slice A3 a0.2.1.length c4], [.bool a0.2.2], rfl, ⟨_, _, rfl, (hs5).mono (h.m.leAll (i := 1) rfl)⟩, rfl⟩⟩⟩ _ h7 _ h.startAll
  refine q_callX hX h rfl rfl rfl (by decide) Tryd.func50 rfl rfl rfl (fun a w v L1 S1 hR hb1 h => ?_)
  obtain ⟨rfl, rfl, _⟩ := hR
  refine s_x h rfl rfl (by decide) (x_not h.k rfl rfl) (fun a h => ?_)
  refine l_end ?_
  refine c_cond h rfl (fun hb => ?_) (fun hb => ?_)
  · rw [if_pos hb] at hf
    refine c_rs ?_ -- region 2
    refine s_assign h rfl _ rfl rfl (by decide) rfl (fun a h => ?_)
    refine l_end ?_
    refine wp_ret ?_
    refine e_thenR ?_
    obtain rfl := Option.some.inj hf
    subst hB0
    exact r_ret1 h rfl (rv_tmp h rfl) ⟨_, [.box g1 90 ([.int .i64 a0.1, .slice A3 a0.2.1.length c4, .bool a0.2.2])], _, rfl, ⟨A3, c4, rfl, rfl, (show r64 0 from ⟨by decide, by decide⟩), hr2, hs5, trivial⟩, rfl, (Up.refl _ _ _), h.m⟩
  · rw [if_neg (by rw [hb]; decide)] at hf
    refine wp_skip ?_
    refine e_thenN ?_
    obtain ⟨o9, hc10, hf⟩ := bsome hf
    refine c_cut (fun a w => ∃ (S11 : Snap), ∃ (x14 : Int × (List UInt8) × Bool), ∃ (A16 : Option Addr), ∃ (c17 : Nat), x14 = o9 ∧ Snap.le S0 S11 ∧ Up B0 w0 S0 S11 ∧ r64 x14.1 ∧ slS ty8 S11 A16 c17 x14.2.1 ∧ St 48 w0 B0 [(0, .pointer (some ⟨g1, 0, none⟩)), (1, .int .i64 a1), (2, .int .i64 a2)] [.box g1 90 ([.int .i64 x14.1, .slice A16 x14.2.1.length c17, .bool x14.2.2]), .sn S11] a w) ?_ ?_
    · refine c_rs ?_ -- region 3
      refine s_move h rfl _ rfl rfl (by decide) rfl (fun a h => ?_)
      refine s_x h rfl rfl (by decide) (x_bin h.k rfl rfl rfl ib_lss) (fun a h => ?_)
      refine s_move h rfl _ rfl rfl (by decide) rfl (fun a h => ?_)
      refine q_grp h 3 (t := 15) 18 ((decide (a1 < 1)) || (decide (8 < a1))) rfl (fun hB2 => ?_) (fun hB2 => ?_) (fun a w h => ?_)
      · refine g_no h rfl rfl rfl rfl hB2 rfl (by decide) (fun a h => ?_)
        refine g_no h rfl rfl rfl rfl hB2 rfl (by decide) (fun a h => ?_)
        refine s_x h rfl rfl (by decide) (x_pick (u' := undef) h.k rfl rfl (fun _ => rfl) (fun hh => absurd (hB2.symm.trans hh) (by decide))) (fun a h => ?_)
        exact (h.mid 2 rfl).val (by first | rfl | (rw [hB2]; first | rfl | simp))
      · refine g_yes h rfl rfl rfl rfl hB2 ?_
        refine s_move h rfl _ rfl rfl (by decide) rfl (fun a h => ?_)
        refine g_yes h rfl rfl rfl rfl hB2 ?_
        refine s_x h rfl rfl (by decide) (x_bin h.k rfl rfl rfl ib_gtr) (fun a h => ?_)
        refine s_x h rfl rfl (by decide) (x_pick (u' := undef) h.k rfl rfl (fun hh => absurd (hB2.symm.trans hh) (by decide)) (fun _ => rfl)) (fun a h => ?_)
        exact (h.mid 2 rfl).val (by first | rfl | (rw [hB2]; first | rfl | simp))
      refine l_end ?_
      refine c_cond h rfl (fun hb => ?_) (fun hb => ?_)
      · rw [if_pos hb] at hc10
        refine c_r ?_ -- region 4
        refine s_move h rfl _ rfl rfl (by decide) rfl (fun a h => ?_)
        refine s_x h rfl rfl (by decide) (x_nil h.k rfl rfl) (fun a h => ?_)
        refine s_x h rfl rfl (by decide) (x_faddr h.k rfl Tryd.underlying90 rfl sz_field_state rfl) (fun a h => ?_)
        obtain ⟨x21, h22, hc10⟩ := bsome hc10
        have hX := field_state_fail_at0_field_Reader_0_ok Fu (S0 := S0) a0 g1 A3 c4 hr2 hs5 2 (show r64 2 from ⟨by decide, by decide⟩) _ h22 _ (h.sub (Ls := [.box g1 90 ([.int .i64 a0.1, .slice A3 a0.2.1.length c4, .bool a0.2.2])]))
        refine q_callY (Ls := [.box g1 90 ([.int .i64 a0.1, .slice A3 a0.2.1.length c4, .bool a0.2.2])]) hX h (Up.refl _ _ _) rfl rfl rfl (by decide) Tryd.func47 rfl rfl rfl (fun a w v L1 S24 hR le26 up25 h => ?_)
        obtain ⟨A28, c29, rfl, rfl, hr27, hs30, _⟩ := hR
        refine l_nil ?_
        refine e_thenN ?_
        exact ⟨S24, x21, A28, c29, (Option.some.inj hc10), le26, up25, hr27, hs30, h.has (by exact ⟨rfl, rfl, rfl, trivial⟩)⟩
      · rw [if_neg (by rw [hb]; decide)] at hc10
        refine wp_skip ?_
        refine e_thenN ?_
        exact ⟨S0, a0, A3, c4, (Option.some.inj hc10), (Snap.le.refl _), (Up.refl _ _ _), hr2, hs5, h.has (by exact ⟨rfl, rfl, rfl, trivial⟩)⟩
    · rintro a w ⟨S11, x14, A16, c17, rfl, le12, up13, hr15, hs18, h⟩
      refine c_rs ?_ -- region 5
      refine s_move h rfl _ rfl rfl (by decide) rfl (fun a h => ?_)
      refine s_move h rfl _ rfl rfl (by decide) rfl (fun a h => ?_)
      obtain ⟨x31, h32, hf⟩ := bsome hf
      have hX := field_Reader_take_ok Fu (S0 := S11) x14 g1 A16 c17 hr15 hs18 a1 hra1 _ h32 _ (h.sub (Ls := [.box g1 90 ([.int .i64 x14.1, .slice A16 x14.2.1.length c17, .bool x14.2.2])]))
      refine q_callY (Ls := [.box g1 90 ([.int .i64 x14.1, .slice A16 x14.2.1.length c17, .bool x14.2.2])]) hX h up13 rfl rfl rfl (by decide) Tryd.func51 rfl rfl rfl (fun a w v L1 S34 hR le36 up35 h => ?_)
      obtain ⟨A37, c38, A41, c42, rfl, rfl, hs39, hr40, hs43, _⟩ := hR
      refine s_assign h rfl _ rfl rfl (by decide) rfl (fun a h => ?_)
      refine l_end ?_
      refine wp_seq ?_
      refine c_rs ?_ -- region 6
      refine s_move h rfl _ rfl rfl (by decide) rfl (fun a h => ?_)
      refine s_x h rfl rfl (by decide) (x_nil h.k rfl rfl) (fun a h => ?_)
      refine s_x h rfl rfl (by decide) (x_faddr h.k rfl Tryd.underlying90 rfl sz_field_state rfl) (fun a h => ?_)
      obtain ⟨x44, h45, hf⟩ := bsome hf
      have hX := field_state_good_at0_field_Reader_0_ok Fu (S0 := S34) x31.2 g1 A41 c42 hr40 hs43 _ h45 _ (h.sub (Ls := [.box g1 90 ([.int .i64 x31.2.1, .slice A41 x31.2.2.1.length c42, .bool x31.2.2.2])]))
      refine q_callY (Ls := [.box g1 90 ([.int .i64 x31.2.1, .slice A41 x31.2.2.1.length c42, .bool x31.2.2.2])]) hX h up35 rfl rfl rfl (by decide) Tryd.func48 rfl rfl rfl (fun a w v L1 S47 hR le49 up48 h => ?_)
      obtain ⟨A51, c52, rfl, rfl, hr50, hs53, _⟩ := hR
      refine s_x h rfl rfl (by decide) (x_not h.k rfl rfl) (fun a h => ?_)
      refine l_end ?_
      refine c_cond h rfl (fun hb => ?_) (fun hb => ?_)
      · rw [if_pos hb] at hf
        refine c_rs ?_ -- region 7
        refine s_assign h rfl _ rfl rfl (by decide) rfl (fun a h => ?_)
        refine l_end ?_
        refine wp_ret ?_
        refine e_thenR ?_
        obtain rfl := Option.some.inj hf
        subst hB0
        exact r_ret1 h rfl (rv_tmp h rfl) ⟨_, [.box g1 90 ([.int .i64 x44.2.1, .slice A51 x44.2.2.1.length c52, .bool x44.2.2.2])], _, rfl, ⟨A51, c52, rfl, rfl, (show r64 0 from ⟨by decide, by decide⟩), hr50, hs53, trivial⟩, rfl, up48, h.m⟩
      · rw [if_neg (by rw [hb]; decide)] at hf
        refine wp_skip ?_
        refine e_thenN ?_
        refine c_rs ?_ -- region 8
        refine s_move h rfl _ rfl rfl (by decide) rfl (fun a h => ?_)
        obtain ⟨x54, h55, hf⟩ := bsome hf
        have hX := word_Get_ok Fu (S0 := snapAll _) A37 c38 x31.1 ((hs39.mono le49).mono (h.m.leAll (i := 1) rfl)) _ h55 _ h.startAll
        refine q_callX hX h rfl rfl rfl (by decide) Tryd.func52 rfl rfl rfl (fun a w v L1 S1 hR hb1 h => ?_)
        obtain ⟨rfl, rfl, hr57, hr58, _⟩ := hR
        refine s_move h rfl _ rfl rfl (by decide) rfl (fun a h => ?_)
        refine s_x h rfl rfl (by decide) (x_ext h.k rfl rfl rfl) (fun a h => ?_)
        refine s_x h rfl rfl (by decide) (x_ext h.k rfl rfl rfl) (fun a h => ?_)
        refine s_assign h rfl _ rfl rfl (by decide) rfl (fun a h => ?_)
        refine s_assign h rfl _ rfl rfl (by decide) rfl (fun a h => ?_)
        refine l_end ?_
        refine wp_seq ?_
        refine c_rs ?_ -- region 9
        refine s_move h rfl _ rfl rfl (by decide) rfl (fun a h => ?_)
        refine s_x h rfl rfl (by decide) (x_bin h.k rfl rfl rfl ib_neq) (fun a h => ?_)
        refine s_move h rfl _ rfl rfl (by decide) rfl (fun a h => ?_)
        refine q_grp h 4 (t := 38) 42 ((decide (x54.2 ≠ 0)) || (decide (a2 < x54.1))) rfl (fun hB2 => ?_) (fun hB2 => ?_) (fun a w h => ?_)
        · refine g_no h rfl rfl rfl rfl hB2 rfl (by decide) (fun a h => ?_)
          refine g_no h rfl rfl rfl rfl hB2 rfl (by decide) (fun a h => ?_)
          refine g_no h rfl rfl rfl rfl hB2 rfl (by decide) (fun a h => ?_)
          refine s_x h rfl rfl (by decide) (x_pick (u' := undef) h.k rfl rfl (fun _ => rfl) (fun hh => absurd (hB2.symm.trans hh) (by decide))) (fun a h => ?_)
          exact (h.mid 3 rfl).val (by first | rfl | (rw [hB2]; first | rfl | simp))
        · refine g_yes h rfl rfl rfl rfl hB2 ?_
          refine s_move h rfl _ rfl rfl (by decide) rfl (fun a h => ?_)
          refine g_yes h rfl rfl rfl rfl hB2 ?_
          refine s_move h rfl _ rfl rfl (by decide) rfl (fun a h => ?_)
          refine g_yes h rfl rfl rfl rfl hB2 ?_
          refine s_x h rfl rfl (by decide) (x_bin h.k rfl rfl rfl ib_gtr) (fun a h => ?_)
          refine s_x h rfl rfl (by decide) (x_pick (u' := undef) h.k rfl rfl (fun hh => absurd (hB2.symm.trans hh) (by decide)) (fun _ => rfl)) (fun a h => ?_)
          exact (h.mid 3 rfl).val (by first | rfl | (rw [hB2]; first | rfl | simp))
        refine l_end ?_
        refine c_cond h rfl (fun hb => ?_) (fun hb => ?_)
        · rw [if_pos hb] at hf
          refine c_rs ?_ -- region 10
          refine s_move h rfl _ rfl rfl (by decide) rfl (fun a h => ?_)
          refine s_x h rfl rfl (by decide) (x_nil h.k rfl rfl) (fun a h => ?_)
          refine s_x h rfl rfl (by decide) (x_faddr h.k rfl Tryd.underlying90 rfl sz_field_state rfl) (fun a h => ?_)
          obtain ⟨x61, h62, hf⟩ := bsome hf
          have hX := field_state_fail_at0_field_Reader_0_ok Fu (S0 := S47) x44.2 g1 A51 c52 hr50 hs53 11 (show r64 11 from ⟨by decide, by decide⟩) _ h62 _ (h.sub (Ls := [.box g1 90 ([.int .i64 x44.2.1, .slice A51 x44.2.2.1.length c52, .bool x44.2.2.2])]))
          refine q_callY (Ls := [.box g1 90 ([.int .i64 x44.2.1, .slice A51 x44.2.2.1.length c52, .bool x44.2.2.2])]) hX h up48 rfl rfl rfl (by decide) Tryd.func47 rfl rfl rfl (fun a w v L1 S64 hR le66 up65 h => ?_)
          obtain ⟨A68, c69, rfl, rfl, hr67, hs70, _⟩ := hR
          refine l_end ?_
          refine c_rs ?_ -- region 11
          refine s_assign h rfl _ rfl rfl (by decide) rfl (fun a h => ?_)
          refine l_end ?_
          refine wp_ret ?_
          refine e_thenR ?_
          obtain rfl := Option.some.inj hf
          subst hB0
          exact r_ret1 h rfl (rv_tmp h rfl) ⟨_, [.box g1 90 ([.int .i64 x61.1, .slice A68 x61.2.1.length c69, .bool x61.2.2])], _, rfl, ⟨A68, c69, rfl, rfl, (show r64 0 from ⟨by decide, by decide⟩), hr67, hs70, trivial⟩, rfl, up65, h.m⟩
        · rw [if_neg (by rw [hb]; decide)] at hf
          refine wp_skip ?_
          refine e_thenN ?_
          refine c_rs ?_ -- region 12
          refine s_move h rfl _ rfl rfl (by decide) rfl (fun a h => ?_)
          refine s_assign h rfl _ rfl rfl (by decide) rfl (fun a h => ?_)
          refine l_end ?_
          refine wp_ret ?_
          obtain rfl := Option.some.inj hf
          subst hB0
          exact r_ret1 h rfl (rv_tmp h rfl) ⟨_, [.box g1 90 ([.int .i64 x44.2.1, .slice A51 x44.2.2.1.length c52, .bool x44.2.2.2])], _, rfl, ⟨A51, c52, rfl, rfl, hr57, hr50, hs53, trivial⟩, rfl, up48, h.m⟩
def field_Reader_Fixed (Fu : Nat) (a0 : Int × (List UInt8) × Bool) (a1 : Int) : Option ((List UInt8) × (Int × (List UInt8) × Bool)) :=
  (field_Reader_made Fu a0).bind fun x6 => if (!x6) = true then (some ([], a0)) else ((if a1 < 0 then ((field_state_fail_at0_field_Reader_0 Fu a0 2).bind fun x20 => some x20) else (some a0)).bind fun x15 => (field_Reader_take Fu x15 a1).bind fun x30 => (slices_Clone___byte_byte Fu x30.1).bind fun x43 => some (x43, x30.2))
set_option maxRecDepth 100000 in
set_option maxHeartbeats 2000000 in
theorem field_Reader_Fixed_ok (Fu : Nat) {S0 : Snap} (a0 : Int × (List UInt8) × Bool) (g1 : Nat) (A3 : Option Addr) (c4 : Nat) (hr2 : r64 a0.1) (hs5 : slS ty8 S0 A3 c4 a0.2.1) (a1 : Int) (hra1 : r64 a1) (r : (List UInt8) × (Int × (List UInt8) × Bool)) (hf : field_Reader_Fixed Fu a0 a1 = some r) (w0 : World) (hm : Mem w0 (ownL ([.box g1 90 ([.int .i64 a0.1, .slice A3 a0.2.1.length c4, .bool a0.2.2])] ++ [.sn S0])) ([.box g1 90 ([.int .i64 a0.1, .slice A3 a0.2.1.length c4, .bool a0.2.2])] ++ [.sn S0]) w0) :
    Calls Tryd.prog 53 #[.pointer (some ⟨g1, 0, none⟩), .int .i64 a1] w0 (Ret w0 S0 [.box g1 90 ([.int .i64 a0.1, .slice A3 a0.2.1.length c4, .bool a0.2.2])] (fun v L1 S1 => ∃ (A52 : Option Addr), ∃ (c53 : Nat), ∃ (cs54 : List Value), ∃ (A57 : Option Addr), ∃ (c58 : Nat), v = .slice A52 r.1.length c53 ∧ L1 = [.row (.slice A52 r.1.length c53) 5 1 r.1.length cs54, .box g1 90 ([.int .i64 r.2.1, .slice A57 r.2.2.1.length c58, .bool r.2.2.2])] ∧ reps ty8 S1 cs54 r.1 ∧ r64 r.2.1 ∧ slS ty8 S1 A57 c58 r.2.2.1 ∧ True)) := by
  unfold field_Reader_Fixed at hf
  obtain ⟨B0, hB0⟩ : ∃ B0, B0 = (ownL ([.box g1 90 ([.int .i64 a0.1, .slice A3 a0.2.1.length c4, .bool a0.2.2])] ++ [.sn S0])) := ⟨_, rfl⟩
  rw [← hB0] at hm
  refine c_enterM Tryd.func53 rfl 18 rfl (by simp) _ hm _ rfl (fun a h => ?_)
  refine c_rs ?_ -- region 0
  refine s_assign h rfl _ rfl rfl (by decide) rfl (fun a h => ?_)
  refine l_end ?_
  refine wp_seq ?_
  refine c_rs ?_ -- region 1
  refine s_move h rfl _ rfl rfl (by decide) rfl (fun a h => ?_)
  obtain ⟨x6, h7, hf⟩ := bsome hf
  have hX := field_Reader_made_ok Fu (S0 := snapAll _) g1 a0 ⟨[.int .i64 a0.1, .slice A3 a0.2.1.length c4, .bool a0.2.2], h.m.boxAll (i := 0) rfl, ⟨[.int .i64 a0.1], [.slice A3 a0.2.1.length c4, .bool a0.2.2], rfl, ⟨rfl, hr2⟩, ⟨[.slice A3 a0.2.1.length c4], [.bool a0.2.2], rfl, ⟨_, _, rfl, (hs5).mono (h.m.leAll (i := 1) rfl)⟩, rfl⟩⟩⟩ _ h7 _ h.startAll
  refine q_callX hX h rfl rfl rfl (by decide) Tryd.func50 rfl rfl rfl (fun a w v L1 S1 hR hb1 h => ?_)
  obtain ⟨rfl, rfl, _⟩ := hR
  refine s_x h rfl rfl (by decide) (x_not h.k rfl rfl) (fun a h => ?_)
  refine l_end ?_
  refine c_cond h rfl (fun hb => ?_) (fun hb => ?_)
  · rw [if_pos hb] at hf
    refine c_rs ?_ -- region 2
    refine s_assign h rfl _ rfl rfl (by decide) rfl (fun a h => ?_)
    refine l_end ?_
    refine wp_ret ?_
    refine e_thenR ?_
    obtain rfl := Option.some.inj hf
    have h := h.mem (h.m.nilrow 5 1)
    subst hB0
    exact r_ret1 h rfl (rv_tmp h rfl) ⟨_, [.row (.slice none ([]).length 0) 5 1 ([]).length [], .box g1 90 ([.int .i64 a0.1, .slice A3 a0.2.1.length c4, .bool a0.2.2])], _, rfl, ⟨none, 0, [], A3, c4, rfl, rfl, (show reps ty8 S0 [] [] from rfl), hr2, hs5, trivial⟩, rfl, (Up.refl _ _ _), h.m⟩
  · rw [if_neg (by rw [hb]; decide)] at hf
    refine wp_skip ?_
    refine e_thenN ?_
    obtain ⟨o10, hc11, hf⟩ := bsome hf
    refine c_cut (fun a w => ∃ (S12 : Snap), ∃ (x15 : Int × (List UInt8) × Bool), ∃ (A17 : Option Addr), ∃ (c18 : Nat), x15 = o10 ∧ Snap.le S0 S12 ∧ Up B0 w0 S0 S12 ∧ r64 x15.1 ∧ slS ty8 S12 A17 c18 x15.2.1 ∧ St 18 w0 B0 [(0, .pointer (some ⟨g1, 0, none⟩)), (1, .int .i64 a1)] [.box g1 90 ([.int .i64 x15.1, .slice A17 x15.2.1.length c18, .bool x15.2.2]), .sn S12] a w) ?_ ?_
    · refine c_rs ?_ -- region 3
      refine s_move h rfl _ rfl rfl (by decide) rfl (fun a h => ?_)
      refine s_x h rfl rfl (by decide) (x_bin h.k rfl rfl rfl ib_lss) (fun a h => ?_)
      refine l_end ?_
      refine c_cond h rfl (fun hb => ?_) (fun hb => ?_)
      · rw [if_pos (of_decide_eq_true hb)] at hc11
        refine c_r ?_ -- region 4
        refine s_move h rfl _ rfl rfl (by decide) rfl (fun a h => ?_)
        refine s_x h rfl rfl (by decide) (x_nil h.k rfl rfl) (fun a h => ?_)
        refine s_x h rfl rfl (by decide) (x_faddr h.k rfl Tryd.underlying90 rfl sz_field_state rfl) (fun a h => ?_)
        obtain ⟨x20, h21, hc11⟩ := bsome hc11
        have hX := field_state_fail_at0_field_Reader_0_ok Fu (S0 := S0) a0 g1 A3 c4 hr2 hs5 2 (show r64 2 from ⟨by decide, by decide⟩) _ h21 _ (h.sub (Ls := [.box g1 90 ([.int .i64 a0.1, .slice A3 a0.2.1.length c4, .bool a0.2.2])]))
        refine q_callY (Ls := [.box g1 90 ([.int .i64 a0.1, .slice A3 a0.2.1.length c4, .bool a0.2.2])]) hX h (Up.refl _ _ _) rfl rfl rfl (by decide) Tryd.func47 rfl rfl rfl (fun a w v L1 S23 hR le25 up24 h => ?_)
        obtain ⟨A27, c28, rfl, rfl, hr26, hs29, _⟩ := hR
        refine l_nil ?_
        refine e_thenN ?_
        exact ⟨S23, x20, A27, c28, (Option.some.inj hc11), le25, up24, hr26, hs29, h.has (by exact ⟨rfl, rfl, trivial⟩)⟩
      · rw [if_neg (of_decide_eq_false hb)] at hc11
        refine wp_skip ?_
        refine e_thenN ?_
        exact ⟨S0, a0, A3, c4, (Option.some.inj hc11), (Snap.le.refl _), (Up.refl _ _ _), hr2, hs5, h.has (by exact ⟨rfl, rfl, trivial⟩)⟩
    · rintro a w ⟨S12, x15, A17, c18, rfl, le13, up14, hr16, hs19, h⟩
      refine c_rs ?_ -- region 5
      refine s_move h rfl _ rfl rfl (by decide) rfl (fun a h => ?_)
      refine s_move h rfl _ rfl rfl (by decide) rfl (fun a h => ?_)
      obtain ⟨x30, h31, hf⟩ := bsome hf
      have hX := field_Reader_take_ok Fu (S0 := S12) x15 g1 A17 c18 hr16 hs19 a1 hra1 _ h31 _ (h.sub (Ls := [.box g1 90 ([.int .i64 x15.1, .slice A17 x15.2.1.length c18, .bool x15.2.2])]))
      refine q_callY (Ls := [.box g1 90 ([.int .i64 x15.1, .slice A17 x15.2.1.length c18, .bool x15.2.2])]) hX h up14 rfl rfl rfl (by decide) Tryd.func51 rfl rfl rfl (fun a w v L1 S33 hR le35 up34 h => ?_)
      obtain ⟨A36, c37, A40, c41, rfl, rfl, hs38, hr39, hs42, _⟩ := hR
      obtain ⟨x43, h44, hf⟩ := bsome hf
      have hX := slices_Clone___byte_byte_ok Fu (S0 := snapAll _) A36 c37 x30.1 (hs38.mono (h.m.leAll (i := 1) rfl)) _ h44 _ h.startAll
      refine q_callX hX h rfl rfl rfl (by decide) Tryd.func49 rfl rfl rfl (fun a w v L1 S1 hR hb1 h => ?_)
      obtain ⟨A46, c47, cs48, rfl, rfl, hq49, _⟩ := hR
      have hq50 := hq49.fl (S' := S33) fl_8
      refine s_assign h rfl _ rfl rfl (by decide) rfl (fun a h => ?_)
      refine l_end ?_
      refine wp_ret ?_
      obtain rfl := Option.some.inj hf
      subst hB0
      exact r_ret1 h rfl (rv_tmp h rfl) ⟨_, [.row (.slice A46 x43.length c47) 5 1 x43.length cs48, .box g1 90 ([.int .i64 x30.2.1, .slice A40 x30.2.2.1.length c41, .bool x30.2.2.2])], _, rfl, ⟨A46, c47, cs48, A40, c41, rfl, rfl, hq50, hr39, hs42, trivial⟩, rfl, up34, h.m⟩
def field_Reader_Bytes (Fu : Nat) (a0 : Int × (List UInt8) × Bool) (a1 : Int) : Option ((List UInt8) × (Int × (List UInt8) × Bool)) :=
  (field_Reader_made Fu a0).bind fun x6 => if (!x6) = true then (some ([], a0)) else ((field_Reader_Number Fu a0 2 (mn a1 65535)).bind fun x10 => (field_Reader_Fixed Fu x10.2 x10.1).bind fun x21 => some x21)
set_option maxRecDepth 100000 in
set_option maxHeartbeats 2000000 in
theorem field_Reader_Bytes_ok (Fu : Nat) {S0 : Snap} (a0 : Int × (List UInt8) × Bool) (g1 : Nat) (A3 : Option Addr) (c4 : Nat) (hr2 : r64 a0.1) (hs5 : slS ty8 S0 A3 c4 a0.2.1) (a1 : Int) (hra1 : r64 a1) (r : (List UInt8) × (Int × (List UInt8) × Bool)) (hf : field_Reader_Bytes Fu a0 a1 = some r) (w0 : World) (hm : Mem w0 (ownL ([.box g1 90 ([.int .i64 a0.1, .slice A3 a0.2.1.length c4, .bool a0.2.2])] ++ [.sn S0])) ([.box g1 90 ([.int .i64 a0.1, .slice A3 a0.2.1.length c4, .bool a0.2.2])] ++ [.sn S0]) w0) :
    Calls Tryd.prog 25 #[.pointer (some ⟨g1, 0, none⟩), .int .i64 a1] w0 (Ret w0 S0 [.box g1 90 ([.int .i64 a0.1, .slice A3 a0.2.1.length c4, .bool a0.2.2])] (fun v L1 S1 => ∃ (A35 : Option Addr), ∃ (c36 : Nat), ∃ (cs37 : List Value), ∃ (A40 : Option Addr), ∃ (c41 : Nat), v = .slice A35 r.1.length c36 ∧ L1 = [.row (.slice A35 r.1.length c36) 5 1 r.1.length cs37, .box g1 90 ([.int .i64 r.2.1, .slice A40 r.2.2.1.length c41, .bool r.2.2.2])] ∧ reps ty8 S1 cs37 r.1 ∧ r64 r.2.1 ∧ slS ty8 S1 A40 c41 r.2.2.1 ∧ True)) := by
  unfold field_Reader_Bytes at hf
  obtain ⟨B0, hB0⟩ : ∃ B0, B0 = (ownL ([.box g1 90 ([.int .i64 a0.1, .slice A3 a0.2.1.length c4, .bool a0.2.2])] ++ [.sn S0])) := ⟨_, rfl⟩
  rw [← hB0] at hm
  refine c_enterM Tryd.func25 rfl 16 rfl (by simp) _ hm _ rfl (fun a h => ?_)
  refine c_rs ?_ -- region 0
  refine s_assign h rfl _ rfl rfl (by decide) rfl (fun a h => ?_)
  refine l_end ?_
  refine wp_seq ?_
  refine c_rs ?_ -- region 1
  refine s_move h rfl _ rfl rfl (by decide) rfl (fun a h => ?_)
  obtain ⟨x6, h7, hf⟩ := bsome hf
  have hX := field_Reader_made_ok Fu (S0 := snapAll _) g1 a0 ⟨[.int .i64 a0.1, .slice A3 a0.2.1.length c4, .bool a0.2.2], h.m.boxAll (i := 0) rfl, ⟨[.int .i64 a0.1], [.slice A3 a0.2.1.length c4, .bool a0.2.2], rfl, ⟨rfl, hr2⟩, ⟨[.slice A3 a0.2.1.length c4], [.bool a0.2.2], rfl, ⟨_, _, rfl, (hs5).mono (h.m.leAll (i := 1) rfl)⟩, rfl⟩⟩⟩ _ h7 _ h.startAll
  refine q_callX hX h rfl rfl rfl (by decide) Tryd.func50 rfl rfl rfl (fun a w v L1 S1 hR hb1 h => ?_)
  obtain ⟨rfl, rfl, _⟩ := hR
  refine s_x h rfl rfl (by decide) (x_not h.k rfl rfl) (fun a h => ?_)
  refine l_end ?_
  refine c_cond h rfl (fun hb => ?_) (fun hb => ?_)
  · rw [if_pos hb] at hf
    refine c_rs ?_ -- region 2
    refine s_assign h rfl _ rfl rfl (by decide) rfl (fun a h => ?_)
    refine l_end ?_
    refine wp_ret ?_
    refine e_thenR ?_
    obtain rfl := Option.some.inj hf
    have h := h.mem (h.m.nilrow 5 1)
    subst hB0
    exact r_ret1 h rfl (rv_tmp h rfl) ⟨_, [.row (.slice none ([]).length 0) 5 1 ([]).length [], .box g1 90 ([.int .i64 a0.1, .slice A3 a0.2.1.length c4, .bool a0.2.2])], _, rfl, ⟨none, 0, [], A3, c4, rfl, rfl, (show reps ty8 S0 [] [] from rfl), hr2, hs5, trivial⟩, rfl, (Up.refl _ _ _), h.m⟩
  · rw [if_neg (by rw [hb]; decide)] at hf
    refine wp_skip ?_
    refine e_thenN ?_
    refine c_rs ?_ -- region 3
    refine s_move h rfl _ rfl rfl (by decide) rfl (fun a h => ?_)
    refine s_move h rfl _ rfl rfl (by decide) rfl (fun a h => ?_)
    refine s_x h rfl rfl (by decide) (x_mn h.k rfl rfl rfl) (fun a h => ?_)
    obtain ⟨x10, h11, hf⟩ := bsome hf
    have hX := field_Reader_Number_ok Fu (S0 := S0) a0 g1 A3 c4 hr2 hs5 2 (show r64 2 from ⟨by decide, by decide⟩) (mn a1 65535) (mn_r hra1 (show r64 65535 from ⟨by decide, by decide⟩)) _ h11 _ (h.sub (Ls := [.box g1 90 ([.int .i64 a0.1, .slice A3 a0.2.1.length c4, .bool a0.2.2])]))
    refine q_callY (Ls := [.box g1 90 ([.int .i64 a0.1, .slice A3 a0.2.1.length c4, .bool a0.2.2])]) hX h (Up.refl _ _ _) rfl rfl rfl (by decide) Tryd.func24 rfl rfl rfl (fun a w v L1 S13 hR le15 up14 h => ?_)
    obtain ⟨A18, c19, rfl, rfl, hr16, hr17, hs20, _⟩ := hR
    refine s_assign h rfl _ rfl rfl (by decide) rfl (fun a h => ?_)
    refine l_end ?_
    refine c_rs ?_ -- region 4
    refine s_move h rfl _ rfl rfl (by decide) rfl (fun a h => ?_)
    refine s_move h rfl _ rfl rfl (by decide) rfl (fun a h => ?_)
    obtain ⟨x21, h22, hf⟩ := bsome hf
    have hX := field_Reader_Fixed_ok Fu (S0 := S13) x10.2 g1 A18 c19 hr17 hs20 x10.1 hr16 _ h22 _ (h.sub (Ls := [.box g1 90 ([.int .i64 x10.2.1, .slice A18 x10.2.2.1.length c19, .bool x10.2.2.2])]))
    refine q_callY (Ls := [.box g1 90 ([.int .i64 x10.2.1, .slice A18 x10.2.2.1.length c19, .bool x10.2.2.2])]) hX h up14 rfl rfl rfl (by decide) Tryd.func53 rfl rfl rfl (fun a w v L1 S24 hR le26 up25 h => ?_)
    obtain ⟨A27, c28, cs29, A32, c33, rfl, rfl, hq30, hr31, hs34, _⟩ := hR
    refine s_assign h rfl _ rfl rfl (by decide) rfl (fun a h => ?_)
    refine l_end ?_
    refine wp_ret ?_
    rw [← Option.some.inj hf]
    subst hB0
    exact r_ret1 h rfl (rv_tmp h rfl) ⟨_, [.row (.slice A27 x21.1.length c28) 5 1 x21.1.length cs29, .box g1 90 ([.int .i64 x21.2.1, .slice A32 x21.2.2.1.length c33, .bool x21.2.2.2])], _, rfl, ⟨A27, c28, cs29, A32, c33, rfl, rfl, hq30, hr31, hs34, trivial⟩, rfl, up25, h.m⟩
def field_state_good_fat0_field_Reader_0 (Fu : Nat) (a0 : Int × (List UInt8) × Bool) : Option Bool :=
  some (decide (a0.1 = 0))
set_option maxRecDepth 100000 in
set_option maxHeartbeats 2000000 in
theorem field_state_good_fat0_field_Reader_0_ok (Fu : Nat) {S0 : Snap} (ga0 : Nat) (a0 : Int × (List UInt8) × Bool) (hpa0 : ptS (tyP tyI (tyP (tyL ty8) tyB)) S0 ga0 a0) (r : Bool) (hf : field_state_good_fat0_field_Reader_0 Fu a0 = some r) (w0 : World) (hm : Mem w0 (ownL ([] ++ [.sn S0])) ([] ++ [.sn S0]) w0) :
    Calls Tryd.prog 48 #[.pointer (some ⟨ga0, 0, none⟩)] w0 (Ret w0 S0 [] (fun v L1 S1 => v = .bool r ∧ L1 = [] ∧ True)) := by
  unfold field_state_good_fat0_field_Reader_0 at hf
  refine c_enterM Tryd.func48 rfl 8 rfl (by simp) _ hm _ rfl (fun a h => ?_)
  refine c_rs ?_ -- region 0
  refine s_assign h rfl _ rfl rfl (by decide) rfl (fun a h => ?_)
  refine l_end ?_
  refine c_rs ?_ -- region 1
  refine s_move h rfl _ rfl rfl (by decide) rfl (fun a h => ?_)
  obtain ⟨k1, hc2, ⟨k3, k4, rfl, ⟨rfl, hr5⟩, ⟨k6, k7, rfl, ⟨A8, c9, rfl, hs10⟩, rfl⟩⟩⟩ := id hpa0
  refine s_x h rfl rfl (by decide) (x_nil h.k rfl rfl) (fun a h => ?_)
  refine s_x h rfl rfl (by decide) (x_faddr h.k rfl Tryd.underlying48 rfl sz_api_Errno rfl) (fun a h => ?_)
  refine s_x h rfl rfl (by decide) (x_ld h.k rfl Tryd.underlying22 rfl rfl (hc2 _ (h.m.snOK (i := 0) rfl) 0 _ rfl)) (fun a h => ?_)
  refine s_x h rfl rfl (by decide) (x_bin h.k rfl rfl rfl ib_eql) (fun a h => ?_)
  refine s_assign h rfl _ rfl rfl (by decide) rfl (fun a h => ?_)
  refine l_end ?_
  refine wp_ret ?_
  obtain rfl := Option.some.inj hf
  exact r_ret1 h rfl (rv_tmp h rfl) ⟨_, [], _, rfl, ⟨rfl, rfl, trivial⟩, rfl, (Up.refl _ _ _), h.m⟩
def field_Reader_Done (Fu : Nat) (a0 : Int × (List UInt8) × Bool) : Option Int :=
  (field_Reader_made Fu a0).bind fun x1 => if (!x1) = true then (some 1) else ((field_state_good_fat0_field_Reader_0 Fu a0).bind fun x14 => if (!x14) = true then (some a0.1) else (if 0 < (a0.2.1.length : Int) then (some 13) else (some 0)))
set_option maxRecDepth 100000 in
set_option maxHeartbeats 2000000 in
theorem field_Reader_Done_ok (Fu : Nat) {S0 : Snap} (ga0 : Nat) (a0 : Int × (List UInt8) × Bool) (hpa0 : ptS (tyP tyI (tyP (tyL ty8) tyB)) S0 ga0 a0) (r : Int) (hf : field_Reader_Done Fu a0 = some r) (w0 : World) (hm : Mem w0 (ownL ([] ++ [.sn S0])) ([] ++ [.sn S0]) w0) :
    Calls Tryd.prog 26 #[.pointer (some ⟨ga0, 0, none⟩)] w0 (Ret w0 S0 [] (fun v L1 S1 => v = .int .i64 r ∧ L1 = [] ∧ r64 r ∧ True)) := by
  unfold field_Reader_Done at hf
  refine c_enterM Tryd.func26 rfl 25 rfl (by simp) _ hm _ rfl (fun a h => ?_)
  refine c_rs ?_ -- region 0
  refine s_assign h rfl _ rfl rfl (by decide) rfl (fun a h => ?_)
  refine l_end ?_
  refine wp_seq ?_
  refine wp_block ?_
  refine c_rs ?_ -- region 1
  refine s_move h rfl _ rfl rfl (by decide) rfl (fun a h => ?_)
  obtain ⟨x1, h2, hf⟩ := bsome hf
  have hX := field_Reader_made_ok Fu (S0 := snapAll _) ga0 a0 (hpa0.mono (h.m.leAll (i := 0) rfl)) _ h2 _ h.startAll
  refine q_callX hX h rfl rfl rfl (by decide) Tryd.func50 rfl rfl rfl (fun a w v L1 S1 hR hb1 h => ?_)
  obtain ⟨rfl, rfl, _⟩ := hR
  refine s_x h rfl rfl (by decide) (x_not h.k rfl rfl) (fun a h => ?_)
  refine s_assign h rfl _ rfl rfl (by decide) rfl (fun a h => ?_)
  refine l_end ?_
  refine c_cond h rfl (fun hb => ?_) (fun hb => ?_)
  · rw [if_pos hb] at hf
    refine c_rs ?_ -- region 2
    refine s_assign h rfl _ rfl rfl (by decide) rfl (fun a h => ?_)
    refine l_end ?_
    refine wp_ret ?_
    refine e_blkR ?_
    refine e_thenR ?_
    rw [← Option.some.inj hf]
    exact r_ret1 h rfl (rv_tmp h rfl) ⟨_, [], _, rfl, ⟨rfl, rfl, (show r64 1 from ⟨by decide, by decide⟩), trivial⟩, rfl, (Up.refl _ _ _), h.m⟩
  · rw [if_neg (by rw [hb]; decide)] at hf
    refine c_rs ?_ -- region 3
    refine s_move h rfl _ rfl rfl (by decide) rfl (fun a h => ?_)
    obtain ⟨k4, hc5, ⟨k6, k7, rfl, ⟨rfl, hr8⟩, ⟨k9, k10, rfl, ⟨A11, c12, rfl, hs13⟩, rfl⟩⟩⟩ := id hpa0
    refine s_x h rfl rfl (by decide) (x_nil h.k rfl rfl) (fun a h => ?_)
    refine s_x h rfl rfl (by decide) (x_faddr h.k rfl Tryd.underlying90 rfl sz_field_state rfl) (fun a h => ?_)
    obtain ⟨x14, h15, hf⟩ := bsome hf
    have hX := field_state_good_fat0_field_Reader_0_ok Fu (S0 := snapAll _) ga0 a0 (hpa0.mono (h.m.leAll (i := 0) rfl)) _ h15 _ h.startAll
    refine q_callX hX h rfl rfl rfl (by decide) Tryd.func48 rfl rfl rfl (fun a w v L1 S1 hR hb1 h => ?_)
    obtain ⟨rfl, rfl, _⟩ := hR
    refine s_x h rfl rfl (by decide) (x_not h.k rfl rfl) (fun a h => ?_)
    refine s_assign h rfl _ rfl rfl (by decide) rfl (fun a h => ?_)
    refine l_end ?_
    refine c_cond h rfl (fun hb => ?_) (fun hb => ?_)
    · rw [if_pos hb] at hf
      refine c_rs ?_ -- region 4
      refine s_move h rfl _ rfl rfl (by decide) rfl (fun a h => ?_)
      obtain ⟨k17, hc18, ⟨k19, k20, rfl, ⟨rfl, hr21⟩, ⟨k22, k23, rfl, ⟨A24, c25, rfl, hs26⟩, rfl⟩⟩⟩ := id hpa0
      refine s_x h rfl rfl (by decide) (x_nil h.k rfl rfl) (fun a h => ?_)
      refine s_x h rfl rfl (by decide) (x_faddr h.k rfl Tryd.underlying90 rfl sz_field_state rfl) (fun a h => ?_)
      refine s_x h rfl rfl (by decide) (x_faddr h.k rfl Tryd.underlying48 rfl sz_api_Errno rfl) (fun a h => ?_)
      refine s_x h rfl rfl (by decide) (x_ld h.k rfl Tryd.underlying22 rfl rfl (hc18 _ (h.m.snOK (i := 0) rfl) 0 _ rfl)) (fun a h => ?_)
      refine s_assign h rfl _ rfl rfl (by decide) rfl (fun a h => ?_)
      refine l_end ?_
      refine wp_ret ?_
      refine e_blkR ?_
      refine e_thenR ?_
      obtain rfl := Option.some.inj hf
      exact r_ret1 h rfl (rv_tmp h rfl) ⟨_, [], _, rfl, ⟨rfl, rfl, hr21, trivial⟩, rfl, (Up.refl _ _ _), h.m⟩
    · rw [if_neg (by rw [hb]; decide)] at hf
      refine c_rs ?_ -- region 5
      refine s_move h rfl _ rfl rfl (by decide) rfl (fun a h => ?_)
      obtain ⟨k27, hc28, ⟨k29, k30, rfl, ⟨rfl, hr31⟩, ⟨k32, k33, rfl, ⟨A34, c35, rfl, hs36⟩, rfl⟩⟩⟩ := id hpa0
      refine s_x h rfl rfl (by decide) (x_nil h.k rfl rfl) (fun a h => ?_)
      refine s_x h rfl rfl (by decide) (x_faddr h.k rfl Tryd.underlying90 rfl sz_Suint8 rfl) (fun a h => ?_)
      refine s_x h rfl rfl (by decide) (x_ld h.k rfl Tryd.underlying23 rfl rfl (hc28 _ (h.m.snOK (i := 0) rfl) 1 _ rfl)) (fun a h => ?_)
      refine s_x h rfl rfl (by decide) (x_len h.k rfl Tryd.underlying23 rfl) (fun a h => ?_)
      refine s_x h rfl rfl (by decide) (x_bin h.k rfl rfl rfl ib_gtr) (fun a h => ?_)
      refine s_assign h rfl _ rfl rfl (by decide) rfl (fun a h => ?_)
      refine l_end ?_
      refine c_cond h rfl (fun hb => ?_) (fun hb => ?_)
      · rw [if_pos (of_decide_eq_true hb)] at hf
        refine c_rs ?_ -- region 6
        refine s_assign h rfl _ rfl rfl (by decide) rfl (fun a h => ?_)
        refine l_end ?_
        refine wp_ret ?_
        refine e_blkR ?_
        refine e_thenR ?_
        rw [← Option.some.inj hf]
        exact r_ret1 h rfl (rv_tmp h rfl) ⟨_, [], _, rfl, ⟨rfl, rfl, (show r64 13 from ⟨by decide, by decide⟩), trivial⟩, rfl, (Up.refl _ _ _), h.m⟩
      · rw [if_neg (of_decide_eq_false hb)] at hf
        refine wp_skip ?_
        refine e_blkN ?_
        refine e_thenN ?_
        refine c_rs ?_ -- region 7
        refine s_assign h rfl _ rfl rfl (by decide) rfl (fun a h => ?_)
        refine l_end ?_
        refine wp_ret ?_
        rw [← Option.some.inj hf]
        exact r_ret1 h rfl (rv_tmp h rfl) ⟨_, [], _, rfl, ⟨rfl, rfl, (show r64 0 from ⟨by decide, by decide⟩), trivial⟩, rfl, (Up.refl _ _ _), h.m⟩
end Go.Proofs.YtcjleeclpmgbjaaDoor
