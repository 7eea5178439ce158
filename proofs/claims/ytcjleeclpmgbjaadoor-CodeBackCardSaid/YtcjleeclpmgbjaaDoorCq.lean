/- Cq: Go functions as plain functions, and that they are so (written by xt.py). -/
import Derived.Test.YtcjleeclpmgbjaaDoorCm
import Derived.Test.YtcjleeclpmgbjaaDoorPs
import Derived.Test.YtcjleeclpmgbjaaDoorCb
set_option linter.unusedVariables false
set_option linter.unusedSimpArgs false
namespace Go.Proofs.YtcjleeclpmgbjaaDoor
open Go.RowKit
def chatelaineref46_Grouped_l0 (Fu : Nat) (a0 : List UInt8) : Nat → (List UInt8) → Int → Option ((List UInt8))
  | 0, _, _ => none
  | k + 1, x3, x5 => if x5 < (a0.length : Int) then ((if ((decide (0 < x5)) && (decide (Int.tmod x5 5 = 0))) = true then ((sapp x3 ([45] : List UInt8)).bind fun x17 => some x17) else (some x3)).bind fun x13 => (sub a0 x5 (w64 (x5 + 1))).bind fun x19 => (sapp x13 x19).bind fun x28 => chatelaineref46_Grouped_l0 Fu a0 k x28 (w64 (x5 + 1))) else (some x3)
def chatelaineref46_Grouped (Fu : Nat) (a0 : List UInt8) : Option ((List UInt8)) :=
  (chatelaineref46_Grouped_l0 Fu a0 Fu ([] : List UInt8) 0).bind fun x7 => some x7
set_option maxRecDepth 100000 in
set_option maxHeartbeats 2000000 in
theorem chatelaineref46_Grouped_ok (Fu : Nat) {S0 : Snap} (a0 : List UInt8) (hra0 : a0.length ≤ maxLen) (r : (List UInt8)) (hf : chatelaineref46_Grouped Fu a0 = some r) (w0 : World) (hm : Mem w0 (ownL ([] ++ [.sn S0])) ([] ++ [.sn S0]) w0) :
    Calls Tryd.prog 36 #[.string (sb a0)] w0 (Ret w0 S0 [] (fun v L1 S1 => v = .string (sb r) ∧ L1 = [] ∧ r.length ≤ maxLen ∧ True)) := by
  unfold chatelaineref46_Grouped at hf
  refine c_enterM Tryd.func36 rfl 28 rfl (by simp) _ hm _ rfl (fun a h => ?_)
  refine c_rs ?_ -- region 0
  refine s_assign h rfl _ rfl rfl (by decide) rfl (fun a h => ?_)
  refine l_end ?_
  refine c_rs ?_ -- region 1
  refine s_assign h rfl _ rfl rfl (by decide) rfl (fun a h => ?_)
  refine l_end ?_
  refine wp_seq ?_
  refine c_rs ?_ -- region 2
  refine s_assign h rfl _ rfl rfl (by decide) rfl (fun a h => ?_)
  refine l_end ?_
  obtain ⟨o1, hl2, hf⟩ := bsome hf
  refine c_fin (fun a w => ∃ (x7 : List UInt8), x7 = o1 ∧ x7.length ≤ maxLen ∧ St 28 w0 (ownL ([] ++ [.sn S0])) [(3, .string (sb x7))] [.sn S0] a w) ?_ ?_
  · refine wp_block ?_
    refine c_loop (fun m10 a w => ∃ (x3 : List UInt8), ∃ (x5 : Int), chatelaineref46_Grouped_l0 Fu a0 m10 x3 x5 = some o1 ∧ x3.length ≤ maxLen ∧ r64 x5 ∧ St 28 w0 (ownL ([] ++ [.sn S0])) [(0, .string (sb a0)), (3, .string (sb x3)), (4, .int .i64 x5)] [.sn S0] a w) Fu ⟨([] : List UInt8), 0, hl2, (by decide), (show r64 0 from ⟨by decide, by decide⟩), h.has (by exact ⟨rfl, rfl, rfl, trivial⟩)⟩ (fun m10 a w hI => ?_)
    obtain ⟨x3, x5, hl9, hr4, hr6, h⟩ := hI
    obtain _ | m10 := m10
    · rw [chatelaineref46_Grouped_l0] at hl9; cases hl9
    rw [chatelaineref46_Grouped_l0] at hl9
    refine wp_seq ?_
    refine c_rs ?_ -- region 3
    refine s_move h rfl _ rfl rfl (by decide) rfl (fun a h => ?_)
    refine s_move h rfl _ rfl rfl (by decide) rfl (fun a h => ?_)
    refine s_x h rfl rfl (by decide) (x_lenStr h.k rfl Tryd.underlying9 rfl) (fun a h => ?_)
    refine s_x h rfl rfl (by decide) (x_bin h.k rfl rfl rfl ib_lss) (fun a h => ?_)
    refine l_end ?_
    refine c_cond h rfl (fun hb => ?_) (fun hb => ?_)
    · rw [if_pos (of_decide_eq_true hb)] at hl9
      refine wp_skip ?_
      refine e_thenN ?_
      refine wp_seq ?_
      refine wp_block ?_
      obtain ⟨o11, hc12, hl9⟩ := bsome hl9
      refine c_cut (fun a w => ∃ (x13 : List UInt8), x13 = o11 ∧ x13.length ≤ maxLen ∧ St 28 w0 (ownL ([] ++ [.sn S0])) [(0, .string (sb a0)), (3, .string (sb x13)), (4, .int .i64 x5)] [.sn S0] a w) ?_ ?_
      · refine c_rs ?_ -- region 5
        refine s_move h rfl _ rfl rfl (by decide) rfl (fun a h => ?_)
        refine s_x h rfl rfl (by decide) (x_bin h.k rfl rfl rfl ib_gtr) (fun a h => ?_)
        refine s_move h rfl _ rfl rfl (by decide) rfl (fun a h => ?_)
        refine q_grp h 4 (t := 13) 17 ((decide (0 < x5)) && (decide (Int.tmod x5 5 = 0))) rfl (fun hB2 => ?_) (fun hB2 => ?_) (fun a w h => ?_)
        · refine g_yes h rfl rfl rfl rfl hB2 ?_
          refine s_move h rfl _ rfl rfl (by decide) rfl (fun a h => ?_)
          refine g_yes h rfl rfl rfl rfl hB2 ?_
          refine s_x h rfl rfl (by decide) (x_bin h.k rfl rfl rfl (ib_remw (by decide))) (fun a h => ?_)
          refine g_yes h rfl rfl rfl rfl hB2 ?_
          refine s_x h rfl rfl (by decide) (x_bin h.k rfl rfl rfl ib_eql) (fun a h => ?_)
          refine s_x h rfl rfl (by decide) (x_pick (u' := undef) h.k rfl rfl (fun _ => rfl) (fun hh => absurd (hB2.symm.trans hh) (by decide))) (fun a h => ?_)
          exact (h.mid 3 rfl).val (by first | rfl | (rw [hB2]; first | rfl | simp))
        · refine g_no h rfl rfl rfl rfl hB2 rfl (by decide) (fun a h => ?_)
          refine g_no h rfl rfl rfl rfl hB2 rfl (by decide) (fun a h => ?_)
          refine g_no h rfl rfl rfl rfl hB2 rfl (by decide) (fun a h => ?_)
          refine s_x h rfl rfl (by decide) (x_pick (u' := undef) h.k rfl rfl (fun hh => absurd (hB2.symm.trans hh) (by decide)) (fun _ => rfl)) (fun a h => ?_)
          exact (h.mid 3 rfl).val (by first | rfl | (rw [hB2]; first | rfl | simp))
        refine l_end ?_
        refine c_cond h rfl (fun hb => ?_) (fun hb => ?_)
        · rw [if_pos hb] at hc12
          refine c_r ?_ -- region 6
          refine s_move h rfl _ rfl rfl (by decide) rfl (fun a h => ?_)
          obtain ⟨x17, h18, hc12⟩ := bsome hc12
          refine s_x h rfl rfl (by decide) (x_addS h.k rfl rfl rfl h18) (fun a h => ?_)
          refine s_assign h rfl _ rfl rfl (by decide) rfl (fun a h => ?_)
          refine l_nil ?_
          refine e_thenN ?_
          exact ⟨x17, (Option.some.inj hc12), (sapp_some h18).2, h.has (by exact ⟨rfl, rfl, rfl, trivial⟩)⟩
        · rw [if_neg (by rw [hb]; decide)] at hc12
          refine wp_skip ?_
          refine e_thenN ?_
          exact ⟨x3, (Option.some.inj hc12), hr4, h.has (by exact ⟨rfl, rfl, rfl, trivial⟩)⟩
      · rintro a w ⟨x13, rfl, hr14, h⟩
        refine c_r ?_ -- region 7
        refine s_move h rfl _ rfl rfl (by decide) rfl (fun a h => ?_)
        refine s_move h rfl _ rfl rfl (by decide) rfl (fun a h => ?_)
        refine s_move h rfl _ rfl rfl (by decide) rfl (fun a h => ?_)
        refine s_move h rfl _ rfl rfl (by decide) rfl (fun a h => ?_)
        refine s_x h rfl rfl (by decide) (x_bin h.k rfl rfl rfl (ib_add rfl)) (fun a h => ?_)
        obtain ⟨x19, h20, hl9⟩ := bsome hl9
        obtain ⟨m21, n22, hi23, hi24, hm25, hm26, hr27⟩ := sub_some h20
        refine s_x h rfl rfl (by decide) (x_sliceStr h.k rfl Tryd.underlying9 rfl hr27 (bd_some rfl hi23) (bd_some rfl hi24) hm25 hm26) (fun a h => ?_)
        obtain ⟨x28, h29, hl9⟩ := bsome hl9
        refine s_x h rfl rfl (by decide) (x_addS h.k rfl rfl rfl h29) (fun a h => ?_)
        refine s_assign h rfl _ rfl rfl (by decide) rfl (fun a h => ?_)
        refine l_nil ?_
        refine e_blkN ?_
        refine e_thenN ?_
        refine c_r ?_ -- region 4
        refine s_move h rfl _ rfl rfl (by decide) rfl (fun a h => ?_)
        refine s_x h rfl rfl (by decide) (x_bin h.k rfl rfl rfl (ib_add rfl)) (fun a h => ?_)
        refine s_assign h rfl _ rfl rfl (by decide) rfl (fun a h => ?_)
        refine l_nil ?_
        exact e_thenN ⟨m10, Nat.lt_succ_self _, x28, w64 (x5 + 1), hl9, (sapp_some h29).2, (w64_r _), h.has (by exact ⟨rfl, rfl, rfl, trivial⟩)⟩
    · rw [if_neg (of_decide_eq_false hb)] at hl9
      refine wp_exit ?_
      refine e_thenX ?_
      refine e_thenX ?_
      refine e_blkX ?_
      refine e_thenN ?_
      exact ⟨x3, (Option.some.inj hl9), hr4, h.has (by exact ⟨rfl, trivial⟩)⟩
  · rintro a w ⟨x7, rfl, hr8, h⟩
    refine e_thenN ?_
    refine c_rs ?_ -- region 8
    refine s_move h rfl _ rfl rfl (by decide) rfl (fun a h => ?_)
    refine s_assign h rfl _ rfl rfl (by decide) rfl (fun a h => ?_)
    refine l_end ?_
    refine wp_ret ?_
    rw [← Option.some.inj hf]
    exact r_ret1 h rfl (rv_tmp h rfl) ⟨_, [], _, rfl, ⟨rfl, rfl, hr8, trivial⟩, rfl, (Up.refl _ _ _), h.m⟩
def chatelaineref46_Put (Fu : Nat) (a0 : List UInt8) : Option ((List UInt8)) :=
  (chatelaineref05_Sum Fu a0).bind fun x1 => (app 1 ([]) a0).bind fun x11 => (ix 32 0).bind fun m20 => (x1[m20]?).bind fun x24 => (app 1 x11 ([x24])).bind fun x31 => (chatelaineref46_Letters Fu x31).bind fun x37 => (chatelaineref46_Grouped Fu x37).bind fun x41 => some x41
set_option maxRecDepth 100000 in
set_option maxHeartbeats 2000000 in
theorem chatelaineref46_Put_ok (Fu : Nat) {S0 : Snap} (Aa0 : Option Addr) (ca0 : Nat) (a0 : List UInt8) (hsa0 : slS ty8 S0 Aa0 ca0 a0) (r : (List UInt8)) (hf : chatelaineref46_Put Fu a0 = some r) (w0 : World) (hm : Mem w0 (ownL ([] ++ [.sn S0])) ([] ++ [.sn S0]) w0) :
    Calls Tryd.prog 15 #[.slice Aa0 a0.length ca0] w0 (Ret w0 S0 [] (fun v L1 S1 => v = .string (sb r) ∧ L1 = [] ∧ r.length ≤ maxLen ∧ True)) := by
  unfold chatelaineref46_Put at hf
  refine c_enterM Tryd.func15 rfl 17 rfl (by simp) _ hm _ rfl (fun a h => ?_)
  refine c_rs ?_ -- region 0
  refine s_assign h rfl _ rfl rfl (by decide) rfl (fun a h => ?_)
  refine l_end ?_
  refine c_rs ?_ -- region 1
  refine s_move h rfl _ rfl rfl (by decide) rfl (fun a h => ?_)
  obtain ⟨x1, h2, hf⟩ := bsome hf
  have hX := chatelaineref05_Sum_ok Fu (S0 := snapAll _) Aa0 ca0 a0 (hsa0.mono (h.m.leAll (i := 0) rfl)) _ h2 _ h.startAll
  refine q_callX hX h rfl rfl rfl (by decide) Tryd.func35 rfl rfl rfl (fun a w v L1 S1 hR hb1 h => ?_)
  obtain ⟨k4, rfl, rfl, hv5, _⟩ := hR
  obtain ⟨hs6, hl7⟩ := hv5
  have hq8 := hs6.fl (S' := S0) fl_8
  refine s_alloc h rfl rfl rfl (by decide) zi_A32_uint8 rfl (fun a w g9 h => ?_)
  refine s_stW h rfl rfl rfl ag_A32_uint8 rfl (es := k4) rfl ((hq8).len.trans (by rw [hl7]; rfl)) (hq8).one 0 rfl (by first | rfl | simp_all) (fun a w h => ?_)
  refine l_end ?_
  refine c_rs ?_ -- region 2
  refine s_assign h rfl _ rfl rfl (by decide) rfl (fun a h => ?_)
  refine l_end ?_
  refine c_rs ?_ -- region 3
  refine s_move h rfl _ rfl rfl (by decide) rfl (fun a h => ?_)
  refine s_move h rfl _ rfl rfl (by decide) rfl (fun a h => ?_)
  have h := h.mem (h.m.nilrow 5 1)
  obtain ⟨x11, h12, hf⟩ := bsome hf
  obtain ⟨_, _, vs13, hrd14, hrp15⟩ := id hsa0
  refine q_append (T := ty8) (S := S0) h rfl rfl rfl (by decide) Tryd.underlying23 zb_uint8 rfl (by decide) rfl 0 rfl (show reps ty8 S0 [] [] from rfl) rfl hrp15 (hrd14 _ (h.m.snOK (i := 2) rfl)) h12 (fun a w A16 c17 cs18 hq19 h => ?_)
  refine s_assign h rfl _ rfl rfl (by decide) rfl (fun a h => ?_)
  refine l_end ?_
  refine c_rs ?_ -- region 4
  refine s_move h rfl _ rfl rfl (by decide) rfl (fun a h => ?_)
  obtain ⟨m20, h21, hf⟩ := bsome hf
  obtain ⟨hi22, hm23⟩ := ix_some h21
  refine s_x h rfl rfl (by decide) (x_iaddrA h.k rfl Tryd.underlying68 sz_uint8 rfl rfl hi22 hm23 rfl) (fun a h => ?_)
  obtain ⟨x24, h25, hf⟩ := bsome hf
  obtain ⟨u26, hv27, hu28⟩ := (hq8).cell rfl h25
  cases hu28
  refine s_x h rfl rfl (by decide) (x_ld h.k rfl Tryd.underlying5 rfl rfl ((h.m.cell (i := 1) rfl _).trans (by rw [Nat.zero_add, Nat.mul_one]; exact hv27))) (fun a h => ?_)
  refine q_bslice (T := ty8) (S := S0) h rfl rfl rfl (by decide) Tryd.underlying23 zi_uint8 (by decide) (by decide) (by decide) (by decide) [.int .u8 (x24.toNat : Int)] rfl rfl (C := [[.int .u8 (x24.toNat : Int)]]) rfl (xs := [x24]) ⟨[.int .u8 (x24.toNat : Int)], _, rfl, rfl, rfl⟩ (by intro c hc; simp only [List.mem_cons, List.not_mem_nil, or_false] at hc; subst hc; rfl) (fun a w A29 h => ?_)
  have hb30 : reps ty8 S0 ([[.int .u8 (x24.toNat : Int)]] : List (List Value)).flatten [x24] := ⟨[.int .u8 (x24.toNat : Int)], _, rfl, rfl, rfl⟩
  obtain ⟨x31, h32, hf⟩ := bsome hf
  refine q_append (T := ty8) (S := S0) h rfl rfl rfl (by decide) Tryd.underlying23 zb_uint8 rfl (by decide) rfl 1 rfl hq19 rfl hb30 (h.m.rdRowA (i := 0) rfl) h32 (fun a w A33 c34 cs35 hq36 h => ?_)
  obtain ⟨x37, h38, hf⟩ := bsome hf
  have hX := chatelaineref46_Letters_ok Fu (S0 := snapAll _) A33 c34 x31 (h.m.rowAll (i := 1) rfl (j := 3) rfl hq36) _ h38 _ h.startAll
  refine q_callX hX h rfl rfl rfl (by decide) Tryd.func37 rfl rfl rfl (fun a w v L1 S1 hR hb1 h => ?_)
  obtain ⟨rfl, rfl, hr40, _⟩ := hR
  obtain ⟨x41, h42, hf⟩ := bsome hf
  have hX := chatelaineref46_Grouped_ok Fu (S0 := snapAll _) x37 hr40 _ h42 _ h.startAll
  refine q_callX hX h rfl rfl rfl (by decide) Tryd.func36 rfl rfl rfl (fun a w v L1 S1 hR hb1 h => ?_)
  obtain ⟨rfl, rfl, hr44, _⟩ := hR
  refine s_assign h rfl _ rfl rfl (by decide) rfl (fun a h => ?_)
  refine l_end ?_
  refine wp_ret ?_
  rw [← Option.some.inj hf]
  exact r_ret1 h rfl (rv_tmp h rfl) ⟨_, [], _, rfl, ⟨rfl, rfl, hr44, trivial⟩, rfl, (Up.refl _ _ _), (h.m.pick [3] _ (by decide) rfl)⟩
def chatelaineref46_Take_l0 (Fu : Nat) (a0 : List UInt8) : Nat → (List UInt8) → Int → Option ((List UInt8))
  | 0, _, _ => none
  | k + 1, x3, x5 => if x5 < (a0.length : Int) then (((idx a0 x5).bind fun x16 => if (x16.toNat : Int) ≠ 45 then ((sub a0 x5 (w64 (x5 + 1))).bind fun x21 => (sapp x3 x21).bind fun x30 => some x30) else (some x3)).bind fun x13 => chatelaineref46_Take_l0 Fu a0 k x13 (w64 (x5 + 1))) else (some x3)
def chatelaineref46_Take (Fu : Nat) (a0 : List UInt8) : Option ((List UInt8) × Int) :=
  if 200 < (a0.length : Int) then (some ([], 3)) else ((chatelaineref46_Take_l0 Fu a0 Fu ([] : List UInt8) 0).bind fun x7 => (chatelaineref46_Bytes Fu x7).bind fun x33 => (if (((!x33.2) || (decide ((x33.1.length : Int) < 2))) || (decide (65 < (x33.1.length : Int)))) = true then some true else (chatelaineref46_Grouped Fu x7).bind fun x50 => some (!(decide (x50 = a0)))).bind fun z48 => if z48 = true then (some ([], 11)) else ((sub x33.1 0 (w64 ((x33.1.length : Int) - 1))).bind fun x59 => (chatelaineref05_Sum Fu x59).bind fun x69 => (idx x69 0).bind fun x78 => (idx x33.1 (w64 ((x33.1.length : Int) - 1))).bind fun x86 => if (x78.toNat : Int) ≠ (x86.toNat : Int) then (some ([], 21)) else ((sub x33.1 0 (w64 ((x33.1.length : Int) - 1))).bind fun x98 => some (x98, 0))))
set_option maxRecDepth 100000 in
set_option maxHeartbeats 2000000 in
theorem chatelaineref46_Take_ok (Fu : Nat) {S0 : Snap} (a0 : List UInt8) (hra0 : a0.length ≤ maxLen) (r : (List UInt8) × Int) (hf : chatelaineref46_Take Fu a0 = some r) (w0 : World) (hm : Mem w0 (ownL ([] ++ [.sn S0])) ([] ++ [.sn S0]) w0) :
    Calls Tryd.prog 17 #[.string (sb a0)] w0 (Ret w0 S0 [] (fun v L1 S1 => ∃ (A109 : Option Addr), ∃ (c110 : Nat), v = .tuple #[.slice A109 r.1.length c110, .int .i64 r.2] ∧ L1 = [] ∧ slS ty8 S1 A109 c110 r.1 ∧ r64 r.2 ∧ True)) := by
  unfold chatelaineref46_Take at hf
  refine c_enterM Tryd.func17 rfl 68 rfl (by simp) _ hm _ rfl (fun a h => ?_)
  refine c_rs ?_ -- region 0
  refine s_assign h rfl _ rfl rfl (by decide) rfl (fun a h => ?_)
  refine s_assign h rfl _ rfl rfl (by decide) rfl (fun a h => ?_)
  refine l_end ?_
  refine wp_seq ?_
  refine c_rs ?_ -- region 1
  refine s_move h rfl _ rfl rfl (by decide) rfl (fun a h => ?_)
  refine s_x h rfl rfl (by decide) (x_lenStr h.k rfl Tryd.underlying9 rfl) (fun a h => ?_)
  refine s_x h rfl rfl (by decide) (x_bin h.k rfl rfl rfl ib_gtr) (fun a h => ?_)
  refine l_end ?_
  refine c_cond h rfl (fun hb => ?_) (fun hb => ?_)
  · rw [if_pos (of_decide_eq_true hb)] at hf
    refine c_rs ?_ -- region 2
    refine s_assign h rfl _ rfl rfl (by decide) rfl (fun a h => ?_)
    refine s_assign h rfl _ rfl rfl (by decide) rfl (fun a h => ?_)
    refine l_end ?_
    refine wp_ret ?_
    refine e_thenR ?_
    obtain rfl := Option.some.inj hf
    exact r_ret2 h rfl (rv_tmp h rfl) (rv_tmp h rfl) ⟨_, [], _, rfl, ⟨none, 0, rfl, rfl, (slS.nil ty8 S0), (show r64 3 from ⟨by decide, by decide⟩), trivial⟩, rfl, (Up.refl _ _ _), h.m⟩
  · rw [if_neg (of_decide_eq_false hb)] at hf
    refine wp_skip ?_
    refine e_thenN ?_
    refine c_rs ?_ -- region 3
    refine s_assign h rfl _ rfl rfl (by decide) rfl (fun a h => ?_)
    refine l_end ?_
    refine wp_seq ?_
    refine c_rs ?_ -- region 4
    refine s_assign h rfl _ rfl rfl (by decide) rfl (fun a h => ?_)
    refine l_end ?_
    obtain ⟨o1, hl2, hf⟩ := bsome hf
    refine c_fin (fun a w => ∃ (x7 : List UInt8), x7 = o1 ∧ x7.length ≤ maxLen ∧ St 68 w0 (ownL ([] ++ [.sn S0])) [(0, .string (sb a0)), (4, .string (sb x7))] [.sn S0] a w) ?_ ?_
    · refine wp_block ?_
      refine c_loop (fun m10 a w => ∃ (x3 : List UInt8), ∃ (x5 : Int), chatelaineref46_Take_l0 Fu a0 m10 x3 x5 = some o1 ∧ x3.length ≤ maxLen ∧ r64 x5 ∧ St 68 w0 (ownL ([] ++ [.sn S0])) [(0, .string (sb a0)), (4, .string (sb x3)), (5, .int .i64 x5)] [.sn S0] a w) Fu ⟨([] : List UInt8), 0, hl2, (by decide), (show r64 0 from ⟨by decide, by decide⟩), h.has (by exact ⟨rfl, rfl, rfl, trivial⟩)⟩ (fun m10 a w hI => ?_)
      obtain ⟨x3, x5, hl9, hr4, hr6, h⟩ := hI
      obtain _ | m10 := m10
      · rw [chatelaineref46_Take_l0] at hl9; cases hl9
      rw [chatelaineref46_Take_l0] at hl9
      refine wp_seq ?_
      refine c_rs ?_ -- region 5
      refine s_move h rfl _ rfl rfl (by decide) rfl (fun a h => ?_)
      refine s_move h rfl _ rfl rfl (by decide) rfl (fun a h => ?_)
      refine s_x h rfl rfl (by decide) (x_lenStr h.k rfl Tryd.underlying9 rfl) (fun a h => ?_)
      refine s_x h rfl rfl (by decide) (x_bin h.k rfl rfl rfl ib_lss) (fun a h => ?_)
      refine l_end ?_
      refine c_cond h rfl (fun hb => ?_) (fun hb => ?_)
      · rw [if_pos (of_decide_eq_true hb)] at hl9
        refine wp_skip ?_
        refine e_thenN ?_
        obtain ⟨o11, hc12, hl9⟩ := bsome hl9
        refine c_cut (fun a w => ∃ (x13 : List UInt8), x13 = o11 ∧ x13.length ≤ maxLen ∧ St 68 w0 (ownL ([] ++ [.sn S0])) [(0, .string (sb a0)), (4, .string (sb x13)), (5, .int .i64 x5)] [.sn S0] a w) ?_ ?_
        · refine wp_block ?_
          refine c_rs ?_ -- region 7
          refine s_move h rfl _ rfl rfl (by decide) rfl (fun a h => ?_)
          refine s_move h rfl _ rfl rfl (by decide) rfl (fun a h => ?_)
          obtain ⟨x16, h17, hc12⟩ := bsome hc12
          obtain ⟨m15, hi18, hm19, hx20⟩ := idx_some h17
          refine s_x h rfl rfl (by decide) (x_indexStr h.k rfl Tryd.underlying9 rfl rfl hi18 hx20) (fun a h => ?_)
          refine s_x h rfl rfl (by decide) (x_bin h.k rfl rfl rfl ib_neq) (fun a h => ?_)
          refine l_end ?_
          refine c_cond h rfl (fun hb => ?_) (fun hb => ?_)
          · rw [if_pos (of_decide_eq_true hb)] at hc12
            refine c_r ?_ -- region 8
            refine s_move h rfl _ rfl rfl (by decide) rfl (fun a h => ?_)
            refine s_move h rfl _ rfl rfl (by decide) rfl (fun a h => ?_)
            refine s_move h rfl _ rfl rfl (by decide) rfl (fun a h => ?_)
            refine s_move h rfl _ rfl rfl (by decide) rfl (fun a h => ?_)
            refine s_x h rfl rfl (by decide) (x_bin h.k rfl rfl rfl (ib_add rfl)) (fun a h => ?_)
            obtain ⟨x21, h22, hc12⟩ := bsome hc12
            obtain ⟨m23, n24, hi25, hi26, hm27, hm28, hr29⟩ := sub_some h22
            refine s_x h rfl rfl (by decide) (x_sliceStr h.k rfl Tryd.underlying9 rfl hr29 (bd_some rfl hi25) (bd_some rfl hi26) hm27 hm28) (fun a h => ?_)
            obtain ⟨x30, h31, hc12⟩ := bsome hc12
            refine s_x h rfl rfl (by decide) (x_addS h.k rfl rfl rfl h31) (fun a h => ?_)
            refine s_assign h rfl _ rfl rfl (by decide) rfl (fun a h => ?_)
            refine l_nil ?_
            refine e_blkN ?_
            refine e_thenN ?_
            exact ⟨x30, (Option.some.inj hc12), (sapp_some h31).2, h.has (by exact ⟨rfl, rfl, rfl, trivial⟩)⟩
          · rw [if_neg (of_decide_eq_false hb)] at hc12
            refine wp_skip ?_
            refine e_blkN ?_
            refine e_thenN ?_
            exact ⟨x3, (Option.some.inj hc12), hr4, h.has (by exact ⟨rfl, rfl, rfl, trivial⟩)⟩
        · rintro a w ⟨x13, rfl, hr14, h⟩
          refine c_r ?_ -- region 6
          refine s_move h rfl _ rfl rfl (by decide) rfl (fun a h => ?_)
          refine s_x h rfl rfl (by decide) (x_bin h.k rfl rfl rfl (ib_add rfl)) (fun a h => ?_)
          refine s_assign h rfl _ rfl rfl (by decide) rfl (fun a h => ?_)
          refine l_nil ?_
          exact e_thenN ⟨m10, Nat.lt_succ_self _, x13, w64 (x5 + 1), hl9, hr14, (w64_r _), h.has (by exact ⟨rfl, rfl, rfl, trivial⟩)⟩
      · rw [if_neg (of_decide_eq_false hb)] at hl9
        refine wp_exit ?_
        refine e_thenX ?_
        refine e_thenX ?_
        refine e_blkX ?_
        refine e_thenN ?_
        exact ⟨x3, (Option.some.inj hl9), hr4, h.has (by exact ⟨rfl, rfl, trivial⟩)⟩
    · rintro a w ⟨x7, rfl, hr8, h⟩
      refine e_thenN ?_
      refine c_rs ?_ -- region 9
      refine s_move h rfl _ rfl rfl (by decide) rfl (fun a h => ?_)
      obtain ⟨x33, h34, hf⟩ := bsome hf
      have hX := chatelaineref46_Bytes_ok Fu (S0 := snapAll _) x7 hr8 _ h34 _ h.startAll
      refine q_callX hX h rfl rfl rfl (by decide) Tryd.func40 rfl rfl rfl (fun a w v L1 S1 hR hb1 h => ?_)
      obtain ⟨A36, c37, cs38, rfl, rfl, hq39, _⟩ := hR
      have hq40 := hq39.fl (S' := S0) fl_8
      refine s_move h rfl _ rfl rfl (by decide) rfl (fun a h => ?_)
      refine s_x h rfl rfl (by decide) (x_ext h.k rfl rfl rfl) (fun a h => ?_)
      refine s_x h rfl rfl (by decide) (x_ext h.k rfl rfl rfl) (fun a h => ?_)
      refine s_assign h rfl _ rfl rfl (by decide) rfl (fun a h => ?_)
      refine s_assign h rfl _ rfl rfl (by decide) rfl (fun a h => ?_)
      refine l_end ?_
      refine wp_seq ?_
      refine c_rs ?_ -- region 10
      refine s_move h rfl _ rfl rfl (by decide) rfl (fun a h => ?_)
      refine s_x h rfl rfl (by decide) (x_not h.k rfl rfl) (fun a h => ?_)
      refine s_move h rfl _ rfl rfl (by decide) rfl (fun a h => ?_)
      refine q_grp h 4 (t := 36) 40 ((!x33.2) || (decide ((x33.1.length : Int) < 2))) rfl (fun hB2 => ?_) (fun hB2 => ?_) (fun a w h => ?_)
      · refine g_no h rfl rfl rfl rfl hB2 rfl (by decide) (fun a h => ?_)
        refine g_no h rfl rfl rfl rfl hB2 rfl (by decide) (fun a h => ?_)
        refine g_no h rfl rfl rfl rfl hB2 rfl (by decide) (fun a h => ?_)
        refine s_x h rfl rfl (by decide) (x_pick (u' := undef) h.k rfl rfl (fun _ => rfl) (fun hh => absurd (hB2.symm.trans hh) (by decide))) (fun a h => ?_)
        exact (h.mid 3 rfl).val (by first | rfl | (rw [hB2]; first | rfl | simp))
      · refine g_yes h rfl rfl rfl rfl hB2 ?_
        refine s_move h rfl _ rfl rfl (by decide) rfl (fun a h => ?_)
        refine g_yes h rfl rfl rfl rfl hB2 ?_
        have hr43 : r64 (x33.1.length : Int) := len_r (h.m.rowLen (i := 0) rfl)
        refine s_x h rfl rfl (by decide) (x_len h.k rfl Tryd.underlying23 rfl) (fun a h => ?_)
        refine g_yes h rfl rfl rfl rfl hB2 ?_
        refine s_x h rfl rfl (by decide) (x_bin h.k rfl rfl rfl ib_lss) (fun a h => ?_)
        refine s_x h rfl rfl (by decide) (x_pick (u' := undef) h.k rfl rfl (fun hh => absurd (hB2.symm.trans hh) (by decide)) (fun _ => rfl)) (fun a h => ?_)
        exact (h.mid 3 rfl).val (by first | rfl | (rw [hB2]; first | rfl | simp))
      refine s_move h rfl _ rfl rfl (by decide) rfl (fun a h => ?_)
      refine q_grp h 4 (t := 41) 45 (((!x33.2) || (decide ((x33.1.length : Int) < 2))) || (decide (65 < (x33.1.length : Int)))) rfl (fun hB7 => ?_) (fun hB7 => ?_) (fun a w h => ?_)
      · refine g_no h rfl rfl rfl rfl hB7 rfl (by decide) (fun a h => ?_)
        refine g_no h rfl rfl rfl rfl hB7 rfl (by decide) (fun a h => ?_)
        refine g_no h rfl rfl rfl rfl hB7 rfl (by decide) (fun a h => ?_)
        refine s_x h rfl rfl (by decide) (x_pick (u' := undef) h.k rfl rfl (fun _ => rfl) (fun hh => absurd (hB7.symm.trans hh) (by decide))) (fun a h => ?_)
        exact (h.mid 3 rfl).val (by first | rfl | (rw [hB7]; first | rfl | simp))
      · refine g_yes h rfl rfl rfl rfl hB7 ?_
        refine s_move h rfl _ rfl rfl (by decide) rfl (fun a h => ?_)
        refine g_yes h rfl rfl rfl rfl hB7 ?_
        have hr46 : r64 (x33.1.length : Int) := len_r (h.m.rowLen (i := 0) rfl)
        refine s_x h rfl rfl (by decide) (x_len h.k rfl Tryd.underlying23 rfl) (fun a h => ?_)
        refine g_yes h rfl rfl rfl rfl hB7 ?_
        refine s_x h rfl rfl (by decide) (x_bin h.k rfl rfl rfl ib_gtr) (fun a h => ?_)
        refine s_x h rfl rfl (by decide) (x_pick (u' := undef) h.k rfl rfl (fun hh => absurd (hB7.symm.trans hh) (by decide)) (fun _ => rfl)) (fun a h => ?_)
        exact (h.mid 3 rfl).val (by first | rfl | (rw [hB7]; first | rfl | simp))
      refine s_move h rfl _ rfl rfl (by decide) rfl (fun a h => ?_)
      obtain ⟨z48, hz47, hf⟩ := bsome hf
      refine q_grp h 5 (t := 46) 51 z48 rfl (fun hB12 => ?_) (fun hB12 => ?_) (fun a w h => ?_)
      · refine g_no h rfl rfl rfl rfl hB12 rfl (by decide) (fun a h => ?_)
        refine g_no h rfl rfl rfl rfl hB12 rfl (by decide) (fun a h => ?_)
        refine g_no h rfl rfl rfl rfl hB12 rfl (by decide) (fun a h => ?_)
        refine g_no h rfl rfl rfl rfl hB12 rfl (by decide) (fun a h => ?_)
        rw [if_pos hB12] at hz47
        refine s_x h rfl rfl (by decide) (x_pick (u' := undef) h.k rfl rfl (fun _ => rfl) (fun hh => absurd (hB12.symm.trans hh) (by decide))) (fun a h => ?_)
        exact (h.mid 4 rfl).val (by rw [Option.some.inj hz47])
      · rw [if_neg (by rw [hB12]; decide)] at hz47
        refine g_yes h rfl rfl rfl rfl hB12 ?_
        refine s_move h rfl _ rfl rfl (by decide) rfl (fun a h => ?_)
        refine g_yes h rfl rfl rfl rfl hB12 ?_
        obtain ⟨x50, h51, hz47⟩ := bsome hz47
        have hX := chatelaineref46_Grouped_ok Fu (S0 := snapAll _) x7 hr8 _ h51 _ h.startAll
        refine q_callX hX h rfl rfl rfl (by decide) Tryd.func36 rfl rfl rfl (fun a w v L1 S1 hR hb1 h => ?_)
        obtain ⟨rfl, rfl, hr53, _⟩ := hR
        refine g_yes h rfl rfl rfl rfl hB12 ?_
        refine s_move h rfl _ rfl rfl (by decide) rfl (fun a h => ?_)
        refine g_yes h rfl rfl rfl rfl hB12 ?_
        refine s_x h rfl rfl (by decide) (x_neqStr h.k rfl rfl rfl) (fun a h => ?_)
        refine s_x h rfl rfl (by decide) (x_pick (u' := undef) h.k rfl rfl (fun hh => absurd (hB12.symm.trans hh) (by decide)) (fun _ => rfl)) (fun a h => ?_)
        exact (h.mid 4 rfl).val (by rw [Option.some.inj hz47])
      refine l_end ?_
      refine c_cond h rfl (fun hb => ?_) (fun hb => ?_)
      · rw [if_pos hb] at hf
        refine c_rs ?_ -- region 11
        refine s_assign h rfl _ rfl rfl (by decide) rfl (fun a h => ?_)
        refine s_assign h rfl _ rfl rfl (by decide) rfl (fun a h => ?_)
        refine l_end ?_
        refine wp_ret ?_
        refine e_thenR ?_
        obtain rfl := Option.some.inj hf
        exact r_ret2 h rfl (rv_tmp h rfl) (rv_tmp h rfl) ⟨_, [], _, rfl, ⟨none, 0, rfl, rfl, (slS.nil ty8 S0), (show r64 11 from ⟨by decide, by decide⟩), trivial⟩, rfl, (Up.refl _ _ _), (h.m.pick [1] _ (by decide) rfl)⟩
      · rw [if_neg (by rw [hb]; decide)] at hf
        refine wp_skip ?_
        refine e_thenN ?_
        refine c_rs ?_ -- region 12
        refine s_move h rfl _ rfl rfl (by decide) rfl (fun a h => ?_)
        have hr54 : r64 (x33.1.length : Int) := len_r (h.m.rowLen (i := 0) rfl)
        refine s_x h rfl rfl (by decide) (x_len h.k rfl Tryd.underlying23 rfl) (fun a h => ?_)
        refine s_x h rfl rfl (by decide) (x_bin h.k rfl rfl rfl (ib_sub rfl)) (fun a h => ?_)
        refine s_assign h rfl _ rfl rfl (by decide) rfl (fun a h => ?_)
        refine l_end ?_
        refine wp_seq ?_
        obtain ⟨S55, le56, up57, hs58, h⟩ := q_freeze (T := ty8) h (Up.refl _ _ _) hq40
        refine wp_seq ?_
        -- region 13 draws
        obtain ⟨x59, h60, hf⟩ := bsome hf
        obtain ⟨x69, h70, hf⟩ := bsome hf
        obtain ⟨x78, h79, hf⟩ := bsome hf
        obtain ⟨x86, h90, hf⟩ := bsome hf
        refine d_start h (Mem _ _ _) 10 10 rfl (by kernel_rfl) (fun _ _ _ _ _ h => h) (fun _ h => h) (fun Q a w HE HN h HS => ?_)
        refine d_takeP h (fun _ => HS) HN 0 rfl (by kernel_rfl) (by kernel_rfl) (by kernel_rfl) (by decide) rfl rfl (by decide) (fun w' => x_move h.k _ rfl rfl) (fun a h => ?_)
        refine d_takeP h (fun _ => HS) HN 1 rfl (by kernel_rfl) (by kernel_rfl) (by kernel_rfl) (by decide) rfl rfl (by decide) (fun w' => x_move h.k _ rfl rfl) (fun a h => ?_)
        obtain ⟨m61, n62, hi63, hi64, hm65, hm66, hr67⟩ := sub_some h60
        have hs68 := slS.sub (hs58) hm65 hm66 (Nat.le_trans hm66 (hs58).1) (Nat.le_refl _) hr67
        refine d_takeP h (fun _ => HS) HN 2 rfl (by kernel_rfl) (by kernel_rfl) (by kernel_rfl) (by decide) rfl rfl (by decide) (fun w' => x_sliceE h.k rfl Tryd.underlying23 sz_uint8 rfl c37 hr67 (bd_none (by omega)) (bd_some rfl hi64) (bd_none rfl) (by intro hh; cases hh) hm65 hm66 (Nat.le_trans hm66 (hs58).1) (Nat.le_refl _)) (fun a h => ?_)
        refine d_takeP h (fun _ => HS) HN 5 rfl (by kernel_rfl) (by kernel_rfl) (by kernel_rfl) (by decide) rfl rfl (by decide) (fun w' => x_move h.k _ rfl rfl) (fun a h => ?_)
        refine d_takeP h (fun _ => HS) HN 6 rfl (by kernel_rfl) (by kernel_rfl) (by kernel_rfl) (by decide) rfl rfl (by decide) (fun w' => x_move h.k _ rfl rfl) (fun a h => ?_)
        obtain ⟨m87, hi91, hm92, hx93⟩ := idx_some h90
        obtain ⟨b88, off89, k94, hA95, hu96, hc97⟩ := (hs58).at1 rfl hx93 (h.m.snOK (i := 0) rfl)
        cases hu96
        refine d_takeP h (fun _ => HS) HN 7 rfl (by kernel_rfl) (by kernel_rfl) (by kernel_rfl) (by decide) rfl rfl (by decide) (fun w' => x_iaddrE h.k rfl Tryd.underlying23 sz_uint8 hA95 rfl rfl hi91 hm92) (fun a h => ?_)
        refine d_take h HS HN 8 rfl (by kernel_rfl) (by kernel_rfl) (by kernel_rfl) (by kernel_rfl) (by kernel_rfl) rfl rfl (by decide) (fun w' hw => x_ld h.k rfl Tryd.underlying5 rfl rfl (hc97 _ (hw.snOK (i := 0) rfl))) (fun a h => ?_)
        refine d_alone 3 rfl (by kernel_rfl) (fun K hK => ?_)
        have hX := chatelaineref05_Sum_ok Fu (S0 := snapAll _) (sA A36 c37 m61 1) (c37 - m61) x59 (hs68.mono (h.m.leAll (i := 0) rfl)) _ h70 _ h.startAll
        refine q_callX hX h rfl rfl rfl (by decide) Tryd.func35 rfl rfl rfl (fun a w v L1 S1 hR hb1 h => ?_)
        obtain ⟨k72, rfl, rfl, hv73, _⟩ := hR
        obtain ⟨hs74, hl75⟩ := hv73
        have hq76 := hs74.fl (S' := S55) fl_8
        refine hK _ _ (fun _ _ => HS.ext hb1) ?_
        replace HS := HS.ext hb1
        clear hK
        obtain ⟨m77, hi80, hm81, hx82⟩ := idx_some h79
        obtain ⟨u83, hv84, hu85⟩ := (hq76).cell rfl hx82
        cases hu85
        refine d_takeP h (fun _ => HS) HN 4 rfl (by kernel_rfl) (by kernel_rfl) (by kernel_rfl) (by decide) rfl rfl (by decide) (fun w' => x_index h.k rfl Tryd.underlying68 Tryd.underlying5 rfl sz_uint8 rfl rfl hi80 (Nat.lt_of_lt_of_eq hm81 hl75) (by simpa using hv84)) (fun a h => ?_)
        refine d_takeP h (fun _ => HS) HN 9 rfl (by kernel_rfl) (by kernel_rfl) (by kernel_rfl) (by decide) rfl rfl (by decide) (fun w' => x_bin h.k rfl rfl rfl ib_neq) (fun a h => ?_)
        refine d_done (by kernel_rfl) (HE _ _ ?_) _
        refine e_thenN ?_
        refine c_cond h rfl (fun hb => ?_) (fun hb => ?_)
        · rw [if_pos (of_decide_eq_true hb)] at hf
          refine c_rs ?_ -- region 14
          refine s_assign h rfl _ rfl rfl (by decide) rfl (fun a h => ?_)
          refine s_assign h rfl _ rfl rfl (by decide) rfl (fun a h => ?_)
          refine l_end ?_
          refine wp_ret ?_
          refine e_thenR ?_
          obtain rfl := Option.some.inj hf
          exact r_ret2 h rfl (rv_tmp h rfl) (rv_tmp h rfl) ⟨_, [], _, rfl, ⟨none, 0, rfl, rfl, (slS.nil ty8 S55), (show r64 21 from ⟨by decide, by decide⟩), trivial⟩, rfl, up57, h.m⟩
        · rw [if_neg (of_decide_eq_false hb)] at hf
          refine wp_skip ?_
          refine e_thenN ?_
          refine c_rs ?_ -- region 15
          refine s_move h rfl _ rfl rfl (by decide) rfl (fun a h => ?_)
          refine s_move h rfl _ rfl rfl (by decide) rfl (fun a h => ?_)
          obtain ⟨x98, h99, hf⟩ := bsome hf
          obtain ⟨m100, n101, hi102, hi103, hm104, hm105, hr106⟩ := sub_some h99
          have hs107 := slS.sub (hs58) hm104 hm105 (Nat.le_trans hm105 (hs58).1) (Nat.le_refl _) hr106
          refine s_x h rfl rfl (by decide) (x_sliceE h.k rfl Tryd.underlying23 sz_uint8 rfl c37 hr106 (bd_none (by omega)) (bd_some rfl hi103) (bd_none rfl) (by intro hh; cases hh) hm104 hm105 (Nat.le_trans hm105 (hs58).1) (Nat.le_refl _)) (fun a h => ?_)
          refine s_assign h rfl _ rfl rfl (by decide) rfl (fun a h => ?_)
          refine s_assign h rfl _ rfl rfl (by decide) rfl (fun a h => ?_)
          refine l_end ?_
          refine wp_ret ?_
          obtain rfl := Option.some.inj hf
          exact r_ret2 h rfl (rv_tmp h rfl) (rv_tmp h rfl) ⟨_, [], _, rfl, ⟨(sA A36 c37 m100 1), (c37 - m100), rfl, rfl, hs107, (show r64 0 from ⟨by decide, by decide⟩), trivial⟩, rfl, up57, h.m⟩
end Go.Proofs.YtcjleeclpmgbjaaDoor
