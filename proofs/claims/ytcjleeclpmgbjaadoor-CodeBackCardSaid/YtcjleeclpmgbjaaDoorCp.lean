/- Cp: Go functions as plain functions, and that they are so (written by xt.py). -/
import Derived.Test.YtcjleeclpmgbjaaDoorBd
import Derived.Test.YtcjleeclpmgbjaaDoorCb
set_option linter.unusedVariables false
set_option linter.unusedSimpArgs false
namespace Go.Proofs.YtcjleeclpmgbjaaDoor
open Go.RowKit
def code_tidy (Fu : Nat) (a0 : Int) : Option Int :=
  if ((decide (65 ≤ a0)) && (decide (a0 ≤ 90))) = true then (some (w32I ((w32I (a0 - 65)) + 97))) else (if a0 = 48 then (some 111) else (if a0 = 49 then (some 108) else (if a0 = 56 then (some 98) else (if a0 = 32 then (some (-1)) else (some a0)))))
set_option maxRecDepth 100000 in
set_option maxHeartbeats 2000000 in
theorem code_tidy_ok (Fu : Nat) {S0 : Snap} (a0 : Int) (hra0 : r32 a0) (r : Int) (hf : code_tidy Fu a0 = some r) (w0 : World) (hm : Mem w0 (ownL ([] ++ [.sn S0])) ([] ++ [.sn S0]) w0) :
    Calls Tryd.prog 41 #[.int .i32 a0] w0 (Ret w0 S0 [] (fun v L1 S1 => v = .int .i32 r ∧ L1 = [] ∧ r32 r ∧ True)) := by
  unfold code_tidy at hf
  refine c_enterM Tryd.func41 rfl 26 rfl (by simp) _ hm _ rfl (fun a h => ?_)
  refine c_rs ?_ -- region 0
  refine s_assign h rfl _ rfl rfl (by decide) rfl (fun a h => ?_)
  refine l_end ?_
  refine wp_seq ?_
  refine wp_block ?_
  refine c_rs ?_ -- region 1
  refine s_move h rfl _ rfl rfl (by decide) rfl (fun a h => ?_)
  refine s_x h rfl rfl (by decide) (x_bin h.k rfl rfl rfl ib_geq) (fun a h => ?_)
  refine s_move h rfl _ rfl rfl (by decide) rfl (fun a h => ?_)
  refine q_grp h 3 (t := 6) 9 ((decide (65 ≤ a0)) && (decide (a0 ≤ 90))) rfl (fun hB2 => ?_) (fun hB2 => ?_) (fun a w h => ?_)
  · refine g_yes h rfl rfl rfl rfl hB2 ?_
    refine s_move h rfl _ rfl rfl (by decide) rfl (fun a h => ?_)
    refine g_yes h rfl rfl rfl rfl hB2 ?_
    refine s_x h rfl rfl (by decide) (x_bin h.k rfl rfl rfl ib_leq) (fun a h => ?_)
    refine s_x h rfl rfl (by decide) (x_pick (u' := undef) h.k rfl rfl (fun _ => rfl) (fun hh => absurd (hB2.symm.trans hh) (by decide))) (fun a h => ?_)
    exact (h.mid 2 rfl).val (by first | rfl | (rw [hB2]; first | rfl | simp))
  · refine g_no h rfl rfl rfl rfl hB2 rfl (by decide) (fun a h => ?_)
    refine g_no h rfl rfl rfl rfl hB2 rfl (by decide) (fun a h => ?_)
    refine s_x h rfl rfl (by decide) (x_pick (u' := undef) h.k rfl rfl (fun hh => absurd (hB2.symm.trans hh) (by decide)) (fun _ => rfl)) (fun a h => ?_)
    exact (h.mid 2 rfl).val (by first | rfl | (rw [hB2]; first | rfl | simp))
  refine s_assign h rfl _ rfl rfl (by decide) rfl (fun a h => ?_)
  refine l_end ?_
  refine c_cond h rfl (fun hb => ?_) (fun hb => ?_)
  · rw [if_pos hb] at hf
    refine c_rs ?_ -- region 2
    refine s_move h rfl _ rfl rfl (by decide) rfl (fun a h => ?_)
    refine s_x h rfl rfl (by decide) (x_bin h.k rfl rfl rfl (ib_sub rfl)) (fun a h => ?_)
    refine s_x h rfl rfl (by decide) (x_bin h.k rfl rfl rfl (ib_add rfl)) (fun a h => ?_)
    refine s_assign h rfl _ rfl rfl (by decide) rfl (fun a h => ?_)
    refine l_end ?_
    refine wp_ret ?_
    refine e_blkR ?_
    refine e_thenR ?_
    obtain rfl := Option.some.inj hf
    exact r_ret1 h rfl (rv_tmp h rfl) ⟨_, [], _, rfl, ⟨rfl, rfl, (w32I_r _), trivial⟩, rfl, (Up.refl _ _ _), h.m⟩
  · rw [if_neg (by rw [hb]; decide)] at hf
    refine c_rs ?_ -- region 3
    refine s_move h rfl _ rfl rfl (by decide) rfl (fun a h => ?_)
    refine s_x h rfl rfl (by decide) (x_bin h.k rfl rfl rfl ib_eql) (fun a h => ?_)
    refine s_assign h rfl _ rfl rfl (by decide) rfl (fun a h => ?_)
    refine l_end ?_
    refine c_cond h rfl (fun hb => ?_) (fun hb => ?_)
    · rw [if_pos (of_decide_eq_true hb)] at hf
      refine c_rs ?_ -- region 4
      refine s_assign h rfl _ rfl rfl (by decide) rfl (fun a h => ?_)
      refine l_end ?_
      refine wp_ret ?_
      refine e_blkR ?_
      refine e_thenR ?_
      rw [← Option.some.inj hf]
      exact r_ret1 h rfl (rv_tmp h rfl) ⟨_, [], _, rfl, ⟨rfl, rfl, (show r32 111 from ⟨by decide, by decide⟩), trivial⟩, rfl, (Up.refl _ _ _), h.m⟩
    · rw [if_neg (of_decide_eq_false hb)] at hf
      refine c_rs ?_ -- region 5
      refine s_move h rfl _ rfl rfl (by decide) rfl (fun a h => ?_)
      refine s_x h rfl rfl (by decide) (x_bin h.k rfl rfl rfl ib_eql) (fun a h => ?_)
      refine s_assign h rfl _ rfl rfl (by decide) rfl (fun a h => ?_)
      refine l_end ?_
      refine c_cond h rfl (fun hb => ?_) (fun hb => ?_)
      · rw [if_pos (of_decide_eq_true hb)] at hf
        refine c_rs ?_ -- region 6
        refine s_assign h rfl _ rfl rfl (by decide) rfl (fun a h => ?_)
        refine l_end ?_
        refine wp_ret ?_
        refine e_blkR ?_
        refine e_thenR ?_
        rw [← Option.some.inj hf]
        exact r_ret1 h rfl (rv_tmp h rfl) ⟨_, [], _, rfl, ⟨rfl, rfl, (show r32 108 from ⟨by decide, by decide⟩), trivial⟩, rfl, (Up.refl _ _ _), h.m⟩
      · rw [if_neg (of_decide_eq_false hb)] at hf
        refine c_rs ?_ -- region 7
        refine s_move h rfl _ rfl rfl (by decide) rfl (fun a h => ?_)
        refine s_x h rfl rfl (by decide) (x_bin h.k rfl rfl rfl ib_eql) (fun a h => ?_)
        refine s_assign h rfl _ rfl rfl (by decide) rfl (fun a h => ?_)
        refine l_end ?_
        refine c_cond h rfl (fun hb => ?_) (fun hb => ?_)
        · rw [if_pos (of_decide_eq_true hb)] at hf
          refine c_rs ?_ -- region 8
          refine s_assign h rfl _ rfl rfl (by decide) rfl (fun a h => ?_)
          refine l_end ?_
          refine wp_ret ?_
          refine e_blkR ?_
          refine e_thenR ?_
          rw [← Option.some.inj hf]
          exact r_ret1 h rfl (rv_tmp h rfl) ⟨_, [], _, rfl, ⟨rfl, rfl, (show r32 98 from ⟨by decide, by decide⟩), trivial⟩, rfl, (Up.refl _ _ _), h.m⟩
        · rw [if_neg (of_decide_eq_false hb)] at hf
          refine c_rs ?_ -- region 9
          refine s_move h rfl _ rfl rfl (by decide) rfl (fun a h => ?_)
          refine s_x h rfl rfl (by decide) (x_bin h.k rfl rfl rfl ib_eql) (fun a h => ?_)
          refine s_assign h rfl _ rfl rfl (by decide) rfl (fun a h => ?_)
          refine l_end ?_
          refine c_cond h rfl (fun hb => ?_) (fun hb => ?_)
          · rw [if_pos (of_decide_eq_true hb)] at hf
            refine c_rs ?_ -- region 10
            refine s_assign h rfl _ rfl rfl (by decide) rfl (fun a h => ?_)
            refine l_end ?_
            refine wp_ret ?_
            refine e_blkR ?_
            refine e_thenR ?_
            obtain rfl := Option.some.inj hf
            exact r_ret1 h rfl (rv_tmp h rfl) ⟨_, [], _, rfl, ⟨rfl, rfl, (show r32 (-1) from ⟨by decide, by decide⟩), trivial⟩, rfl, (Up.refl _ _ _), h.m⟩
          · rw [if_neg (of_decide_eq_false hb)] at hf
            refine wp_skip ?_
            refine e_blkN ?_
            refine e_thenN ?_
            refine c_rs ?_ -- region 11
            refine s_move h rfl _ rfl rfl (by decide) rfl (fun a h => ?_)
            refine s_assign h rfl _ rfl rfl (by decide) rfl (fun a h => ?_)
            refine l_end ?_
            refine wp_ret ?_
            rw [← Option.some.inj hf]
            exact r_ret1 h rfl (rv_tmp h rfl) ⟨_, [], _, rfl, ⟨rfl, rfl, hra0, trivial⟩, rfl, (Up.refl _ _ _), h.m⟩
def code_Tidy_l0 (Fu : Nat) (a0 : List UInt8) : Nat → (List UInt8) → Int → Option ((List UInt8))
  | 0, _, _ => none
  | k + 1, x3, x8 => if x8 < (a0.length : Int) then (((idx a0 x8).bind fun x26 => (code_tidy Fu (x26.toNat : Int)).bind fun x31 => if 0 ≤ x31 then ((app 1 x3 ([u8I x31])).bind fun x37 => some x37) else (some x3)).bind fun x20 => code_Tidy_l0 Fu a0 k x20 (w64 (x8 + 1))) else (some x3)
def code_Tidy (Fu : Nat) (a0 : List UInt8) : Option ((List UInt8)) :=
  (code_Tidy_l0 Fu a0 Fu ([]) 0).bind fun x10 => some x10
set_option maxRecDepth 100000 in
set_option maxHeartbeats 2000000 in
theorem code_Tidy_ok (Fu : Nat) {S0 : Snap} (a0 : List UInt8) (hra0 : a0.length ≤ maxLen) (r : (List UInt8)) (hf : code_Tidy Fu a0 = some r) (w0 : World) (hm : Mem w0 (ownL ([] ++ [.sn S0])) ([] ++ [.sn S0]) w0) :
    Calls Tryd.prog 18 #[.string (sb a0)] w0 (Ret w0 S0 [] (fun v L1 S1 => v = .string (sb r) ∧ L1 = [] ∧ r.length ≤ maxLen ∧ True)) := by
  unfold code_Tidy at hf
  refine c_enterM Tryd.func18 rfl 26 rfl (by simp) _ hm _ rfl (fun a h => ?_)
  refine c_rs ?_ -- region 0
  refine s_assign h rfl _ rfl rfl (by decide) rfl (fun a h => ?_)
  refine l_end ?_
  refine c_rs ?_ -- region 1
  refine s_assign h rfl _ rfl rfl (by decide) rfl (fun a h => ?_)
  refine l_end ?_
  refine wp_seq ?_
  refine c_rs ?_ -- region 2
  refine s_move h rfl _ rfl rfl (by decide) rfl (fun a h => ?_)
  refine s_x h rfl rfl (by decide) (x_lenStr h.k rfl Tryd.underlying9 rfl) (fun a h => ?_)
  refine s_move h rfl _ rfl rfl (by decide) rfl (fun a h => ?_)
  refine l_end ?_
  obtain ⟨o1, hl2, hf⟩ := bsome hf
  refine c_fin (fun a w => ∃ (x10 : List UInt8), ∃ (A11 : Option Addr), ∃ (c12 : Nat), ∃ (cs13 : List Value), x10 = o1 ∧ reps ty8 S0 cs13 x10 ∧ St 26 w0 (ownL ([] ++ [.sn S0])) [(3, .slice A11 x10.length c12)] [.row (.slice A11 x10.length c12) 5 1 x10.length cs13, .sn S0] a w) ?_ ?_
  · refine wp_block ?_
    have h := h.mem (h.m.nilrow 5 1)
    refine c_loop (fun m16 a w => ∃ (x3 : List UInt8), ∃ (A4 : Option Addr), ∃ (c5 : Nat), ∃ (cs6 : List Value), ∃ (x8 : Int), code_Tidy_l0 Fu a0 m16 x3 x8 = some o1 ∧ reps ty8 S0 cs6 x3 ∧ r64 x8 ∧ St 26 w0 (ownL ([] ++ [.sn S0])) [(0, .string (sb a0)), (3, .slice A4 x3.length c5), (7, .int .i64 (a0.length : Int)), (8, .int .i64 x8)] [.row (.slice A4 x3.length c5) 5 1 x3.length cs6, .sn S0] a w) Fu ⟨[], none, 0, [], 0, hl2, (show reps ty8 S0 [] [] from rfl), (show r64 0 from ⟨by decide, by decide⟩), h.has (by exact ⟨rfl, rfl, rfl, rfl, trivial⟩)⟩ (fun m16 a w hI => ?_)
    obtain ⟨x3, A4, c5, cs6, x8, hl15, hq7, hr9, h⟩ := hI
    obtain _ | m16 := m16
    · rw [code_Tidy_l0] at hl15; cases hl15
    rw [code_Tidy_l0] at hl15
    refine c_rs ?_ -- region 3
    refine s_x h rfl rfl (by decide) (x_bin h.k rfl rfl rfl ib_lss) (fun a h => ?_)
    refine l_end ?_
    refine c_cs h rfl (fun hb => ?_) (fun hb => ?_)
    · rw [if_pos (of_decide_eq_true hb)] at hl15
      refine wp_skip ?_
      refine e_thenN ?_
      obtain ⟨o18, hc19, hl15⟩ := bsome hl15
      refine c_cut (fun a w => ∃ (x20 : List UInt8), ∃ (A21 : Option Addr), ∃ (c22 : Nat), ∃ (cs23 : List Value), x20 = o18 ∧ reps ty8 S0 cs23 x20 ∧ St 26 w0 (ownL ([] ++ [.sn S0])) [(0, .string (sb a0)), (3, .slice A21 x20.length c22), (7, .int .i64 (a0.length : Int)), (8, .int .i64 x8)] [.row (.slice A21 x20.length c22) 5 1 x20.length cs23, .sn S0] a w) ?_ ?_
      · refine wp_block ?_
        refine c_rs ?_ -- region 4
        refine s_move h rfl _ rfl rfl (by decide) rfl (fun a h => ?_)
        refine s_assign h rfl _ rfl rfl (by decide) rfl (fun a h => ?_)
        refine l_end ?_
        refine c_rs ?_ -- region 5
        refine s_move h rfl _ rfl rfl (by decide) rfl (fun a h => ?_)
        refine s_move h rfl _ rfl rfl (by decide) rfl (fun a h => ?_)
        obtain ⟨x26, h27, hc19⟩ := bsome hc19
        obtain ⟨m25, hi28, hm29, hx30⟩ := idx_some h27
        refine s_x h rfl rfl (by decide) (x_indexStr h.k rfl Tryd.underlying9 rfl rfl hi28 hx30) (fun a h => ?_)
        refine s_x h rfl rfl (by decide) (x_convE h.k rfl Tryd.underlying5 Tryd.underlying21 rfl (w32I_of (u8_r32 _))) (fun a h => ?_)
        obtain ⟨x31, h32, hc19⟩ := bsome hc19
        have hX := code_tidy_ok Fu (S0 := snapAll _) (x26.toNat : Int) (u8_r32 _) _ h32 _ h.startAll
        refine q_callX hX h rfl rfl rfl (by decide) Tryd.func41 rfl rfl rfl (fun a w v L1 S1 hR hb1 h => ?_)
        obtain ⟨rfl, rfl, hr34, _⟩ := hR
        refine s_assign h rfl _ rfl rfl (by decide) rfl (fun a h => ?_)
        refine l_end ?_
        refine c_rs ?_ -- region 6
        refine s_move h rfl _ rfl rfl (by decide) rfl (fun a h => ?_)
        refine s_x h rfl rfl (by decide) (x_bin h.k rfl rfl rfl ib_geq) (fun a h => ?_)
        refine l_end ?_
        refine c_cond h rfl (fun hb => ?_) (fun hb => ?_)
        · rw [if_pos (of_decide_eq_true hb)] at hc19
          refine c_r ?_ -- region 7
          refine s_move h rfl _ rfl rfl (by decide) rfl (fun a h => ?_)
          refine s_move h rfl _ rfl rfl (by decide) rfl (fun a h => ?_)
          refine s_x h rfl rfl (by decide) (x_convE h.k rfl Tryd.underlying21 Tryd.underlying5 rfl (u8I_wrap _)) (fun a h => ?_)
          refine q_bslice (T := ty8) (S := S0) h rfl rfl rfl (by decide) Tryd.underlying23 zi_uint8 (by decide) (by decide) (by decide) (by decide) [.int .u8 ((u8I x31).toNat : Int)] rfl rfl (C := [[.int .u8 ((u8I x31).toNat : Int)]]) rfl (xs := [u8I x31]) ⟨[.int .u8 ((u8I x31).toNat : Int)], _, rfl, rfl, rfl⟩ (by intro c hc; simp only [List.mem_cons, List.not_mem_nil, or_false] at hc; subst hc; rfl) (fun a w A35 h => ?_)
          have hb36 : reps ty8 S0 ([[.int .u8 ((u8I x31).toNat : Int)]] : List (List Value)).flatten [u8I x31] := ⟨[.int .u8 ((u8I x31).toNat : Int)], _, rfl, rfl, rfl⟩
          obtain ⟨x37, h38, hc19⟩ := bsome hc19
          refine q_append (T := ty8) (S := S0) h rfl rfl rfl (by decide) Tryd.underlying23 zb_uint8 rfl (by decide) rfl 1 rfl hq7 rfl hb36 (h.m.rdRowA (i := 0) rfl) h38 (fun a w A39 c40 cs41 hq42 h => ?_)
          refine s_assign h rfl _ rfl rfl (by decide) rfl (fun a h => ?_)
          refine l_nil ?_
          refine e_blkN ?_
          refine e_thenN ?_
          have h := h.pick [1, 2] (by decide) rfl
          exact ⟨x37, A39, c40, cs41, (Option.some.inj hc19), hq42, h.has (by exact ⟨rfl, rfl, rfl, rfl, trivial⟩)⟩
        · rw [if_neg (of_decide_eq_false hb)] at hc19
          refine wp_skip ?_
          refine e_blkN ?_
          refine e_thenN ?_
          exact ⟨x3, A4, c5, cs6, (Option.some.inj hc19), hq7, h.has (by exact ⟨rfl, rfl, rfl, rfl, trivial⟩)⟩
      · rintro a w ⟨x20, A21, c22, cs23, rfl, hq24, h⟩
        refine c_r ?_ -- region 8
        refine s_x h rfl rfl (by decide) (x_bin h.k rfl rfl rfl (ib_add rfl)) (fun a h => ?_)
        refine s_move h rfl _ rfl rfl (by decide) rfl (fun a h => ?_)
        refine l_nil ?_
        exact e_thenN ⟨m16, Nat.lt_succ_self _, x20, A21, c22, cs23, w64 (x8 + 1), hl15, hq24, (w64_r _), h.has (by exact ⟨rfl, rfl, rfl, rfl, trivial⟩)⟩
    · rw [if_neg (of_decide_eq_false hb)] at hl15
      refine wp_exit ?_
      refine e_thenX ?_
      refine e_thenX ?_
      refine e_blkX ?_
      refine e_thenN ?_
      exact ⟨x3, A4, c5, cs6, (Option.some.inj hl15), hq7, h.has (by exact ⟨rfl, trivial⟩)⟩
  · rintro a w ⟨x10, A11, c12, cs13, rfl, hq14, h⟩
    refine e_thenN ?_
    refine c_rs ?_ -- region 9
    refine s_move h rfl _ rfl rfl (by decide) rfl (fun a h => ?_)
    refine s_x h rfl rfl (by decide) (x_convBS (S := S0) h.k rfl Tryd.underlying23 Tryd.underlying5 Tryd.underlying9 rfl hq14 (h.m.rdRowA (i := 0) rfl)) (fun a h => ?_)
    refine s_assign h rfl _ rfl rfl (by decide) rfl (fun a h => ?_)
    refine l_end ?_
    refine wp_ret ?_
    rw [← Option.some.inj hf]
    exact r_ret1 h rfl (rv_tmp h rfl) ⟨_, [], _, rfl, ⟨rfl, rfl, (h.m.rowLen (i := 0) rfl), trivial⟩, rfl, (Up.refl _ _ _), (h.m.pick [1] _ (by decide) rfl)⟩
end Go.Proofs.YtcjleeclpmgbjaaDoor
