/- Sk: Go functions as plain functions, and that they are so (written by xt.py). -/
import Derived.Test.YtnmeelkfpmodgaaDoorSd
set_option linter.unusedVariables false
set_option linter.unusedSimpArgs false
namespace Go.Proofs.YtnmeelkfpmodgaaDoor
open Go.RowKit
def chatelaineref42_Table_l2 (Fu : Nat) (x57 : List UInt8) : Nat → Int → Option (Sum ((List UInt8) × Bool) Unit)
  | 0, _ => none
  | k + 1, x73 => if x73 < (x57.length : Int) then ((idx x57 x73).bind fun x78 => (if (x78.toNat : Int) < 32 then some true else (idx x57 x73).bind fun x87 => some (decide (126 < (x87.toNat : Int)))).bind fun z84 => if z84 = true then (some (.inl (([] : List UInt8), false))) else (chatelaineref42_Table_l2 Fu x57 k (w64 (x73 + 1)))) else (some (.inr ()))
def chatelaineref42_Table_l3 (Fu : Nat) (a0 : List (List (List UInt8))) (x15 : Int) : Nat → Int → Int → Option Int
  | 0, _, _ => none
  | k + 1, x112, x114 => if x114 < (a0.length : Int) then (((idx a0 x114).bind fun x124 => (if x15 < (x124.length : Int) then (idx a0 x114).bind fun x143 => (idx x143 x15).bind fun x159 => some (decide (x112 < (x159.length : Int))) else some false).bind fun z141 => if z141 = true then ((idx a0 x114).bind fun x173 => (idx x173 x15).bind fun x189 => some (x189.length : Int)) else (some x112)).bind fun x122 => chatelaineref42_Table_l3 Fu a0 x15 k x122 (w64 (x114 + 1))) else (some x112)
def chatelaineref42_Table_l4 (Fu : Nat) (x116 : Int) : Nat → (List UInt8) → Int → Option ((List UInt8))
  | 0, _, _ => none
  | k + 1, x206, x208 => if x208 ≤ x116 then ((sapp x206 ([32] : List UInt8)).bind fun x214 => chatelaineref42_Table_l4 Fu x116 k x214 (w64 (x208 + 1))) else (some x206)
def chatelaineref42_Table_l1 (Fu : Nat) (a0 : List (List (List UInt8))) (x5 : Int) : Nat → (List UInt8) → Int → Option (Sum ((List UInt8) × Bool) ((List UInt8)))
  | 0, _, _ => none
  | k + 1, x13, x15 => (idx a0 x5).bind fun x21 => if x15 < (x21.length : Int) then (((idx a0 x5).bind fun x41 => (idx x41 x15).bind fun x57 => (chatelaineref42_Table_l2 Fu x57 Fu 0).bind fun o => match o with | .inl r218 => some (.inl r218) | .inr _ => (sapp x13 x57).bind fun x92 => (idx a0 x5).bind fun x94 => if w64 (x15 + 1) = (x94.length : Int) then (some (.inr x92)) else ((chatelaineref42_Table_l3 Fu a0 x15 Fu 0 0).bind fun x116 => (chatelaineref42_Table_l4 Fu x116 Fu x92 (x57.length : Int)).bind fun x210 => some (.inr x210)) : Option (Sum ((List UInt8) × Bool) ((List UInt8)))).bind fun o => match o with | .inl r219 => some (.inl r219) | .inr x39 => chatelaineref42_Table_l1 Fu a0 x5 k x39 (w64 (x15 + 1))) else (some (.inr x13))
def chatelaineref42_Table_l0 (Fu : Nat) (a0 : List (List (List UInt8))) : Nat → (List UInt8) → Int → Option (Sum ((List UInt8) × Bool) ((List UInt8)))
  | 0, _, _ => none
  | k + 1, x3, x5 => if x5 < (a0.length : Int) then ((chatelaineref42_Table_l1 Fu a0 x5 Fu x3 0).bind fun o => match o with | .inl r222 => some (.inl r222) | .inr x17 => (sapp x17 ([10] : List UInt8)).bind fun x220 => chatelaineref42_Table_l0 Fu a0 k x220 (w64 (x5 + 1))) else (some (.inr x3))
def chatelaineref42_Table (Fu : Nat) (a0 : List (List (List UInt8))) : Option ((List UInt8) × Bool) :=
  (chatelaineref42_Table_l0 Fu a0 Fu ([] : List UInt8) 0).bind fun o => match o with | .inl r223 => some r223 | .inr x7 => some (x7, true)
set_option maxRecDepth 100000 in
set_option maxHeartbeats 2000000 in
theorem chatelaineref42_Table_ok (Fu : Nat) {S0 : Snap} (Aa0 : Option Addr) (ca0 : Nat) (a0 : List (List (List UInt8))) (hsa0 : slS (tyL tyS) S0 Aa0 ca0 a0) (r : (List UInt8) × Bool) (hf : chatelaineref42_Table Fu a0 = some r) (w0 : World) (hm : Mem w0 (ownL ([] ++ [.sn S0])) ([] ++ [.sn S0]) w0) :
    Calls Tryd.prog 14 #[.slice Aa0 a0.length ca0] w0 (Ret w0 S0 [] (fun v L1 S1 => v = .tuple #[.string (sb r.1), .bool r.2] ∧ L1 = [] ∧ r.1.length ≤ maxLen ∧ True)) := by
  unfold chatelaineref42_Table at hf
  refine c_enterM Tryd.func14 rfl 106 rfl (by simp) _ hm _ rfl (fun a h => ?_)
  refine c_rs ?_ -- region 0
  refine s_assign h rfl _ rfl rfl (by decide) rfl (fun a h => ?_)
  refine s_assign h rfl _ rfl rfl (by decide) rfl (fun a h => ?_)
  refine l_end ?_
  refine c_rs ?_ -- region 1
  refine s_assign h rfl _ rfl rfl (by decide) rfl (fun a h => ?_)
  refine l_end ?_
  refine wp_seq ?_
  refine c_rs ?_ -- region 2
  refine s_assign h rfl _ rfl rfl (by decide) rfl (fun a h => ?_)
  refine l_end ?_
  obtain ⟨o1, hl2, hf⟩ := bsome hf
  refine c_fin (fun a w => ∃ (x7 : List UInt8), (.inr x7) = o1 ∧ x7.length ≤ maxLen ∧ St 106 w0 (ownL ([] ++ [.sn S0])) [(4, .string (sb x7))] [.sn S0] a w) ?_ ?_
  · refine wp_block ?_
    refine c_loop (fun m10 a w => ∃ (x3 : List UInt8), ∃ (x5 : Int), chatelaineref42_Table_l0 Fu a0 m10 x3 x5 = some o1 ∧ x3.length ≤ maxLen ∧ r64 x5 ∧ St 106 w0 (ownL ([] ++ [.sn S0])) [(0, .slice Aa0 a0.length ca0), (4, .string (sb x3)), (5, .int .i64 x5)] [.sn S0] a w) Fu ⟨([] : List UInt8), 0, hl2, (by decide), (show r64 0 from ⟨by decide, by decide⟩), h.has (by exact ⟨rfl, rfl, rfl, trivial⟩)⟩ (fun m10 a w hI => ?_)
    obtain ⟨x3, x5, hl9, hr4, hr6, h⟩ := hI
    obtain _ | m10 := m10
    · rw [chatelaineref42_Table_l0] at hl9; cases hl9
    rw [chatelaineref42_Table_l0] at hl9
    refine wp_seq ?_
    refine c_rs ?_ -- region 3
    refine s_move h rfl _ rfl rfl (by decide) rfl (fun a h => ?_)
    refine s_move h rfl _ rfl rfl (by decide) rfl (fun a h => ?_)
    refine s_x h rfl rfl (by decide) (x_len h.k rfl Tryd.underlying38 rfl) (fun a h => ?_)
    refine s_x h rfl rfl (by decide) (x_bin h.k rfl rfl rfl ib_lss) (fun a h => ?_)
    refine l_end ?_
    refine c_cond h rfl (fun hb => ?_) (fun hb => ?_)
    · rw [if_pos (of_decide_eq_true hb)] at hl9
      refine wp_skip ?_
      refine e_thenN ?_
      refine wp_seq ?_
      refine wp_block ?_
      refine wp_seq ?_
      refine c_rs ?_ -- region 5
      refine s_assign h rfl _ rfl rfl (by decide) rfl (fun a h => ?_)
      refine l_end ?_
      obtain ⟨o11, hl12, hl9⟩ := bsome hl9
      refine c_fin (fun a w => ∃ (x17 : List UInt8), (.inr x17) = o11 ∧ x17.length ≤ maxLen ∧ St 106 w0 (ownL ([] ++ [.sn S0])) [(0, .slice Aa0 a0.length ca0), (4, .string (sb x17)), (5, .int .i64 x5)] [.sn S0] a w) ?_ ?_
      · refine wp_block ?_
        refine c_loop (fun m20 a w => ∃ (x13 : List UInt8), ∃ (x15 : Int), chatelaineref42_Table_l1 Fu a0 x5 m20 x13 x15 = some o11 ∧ x13.length ≤ maxLen ∧ r64 x15 ∧ St 106 w0 (ownL ([] ++ [.sn S0])) [(0, .slice Aa0 a0.length ca0), (4, .string (sb x13)), (5, .int .i64 x5), (6, .int .i64 x15)] [.sn S0] a w) Fu ⟨x3, 0, hl12, hr4, (show r64 0 from ⟨by decide, by decide⟩), h.has (by exact ⟨rfl, rfl, rfl, rfl, trivial⟩)⟩ (fun m20 a w hI => ?_)
        obtain ⟨x13, x15, hl19, hr14, hr16, h⟩ := hI
        obtain _ | m20 := m20
        · rw [chatelaineref42_Table_l1] at hl19; cases hl19
        rw [chatelaineref42_Table_l1] at hl19
        refine wp_seq ?_
        refine c_rs ?_ -- region 6
        refine s_move h rfl _ rfl rfl (by decide) rfl (fun a h => ?_)
        refine s_move h rfl _ rfl rfl (by decide) rfl (fun a h => ?_)
        refine s_move h rfl _ rfl rfl (by decide) rfl (fun a h => ?_)
        obtain ⟨x21, h25, hl19⟩ := bsome hl19
        obtain ⟨m22, hi26, hm27, hx28⟩ := idx_some h25
        obtain ⟨b23, off24, k29, hA30, hu31, hc32⟩ := (hsa0).at1 rfl hx28 (h.m.snOK (i := 0) rfl)
        obtain ⟨A33, c34, e36, hs35⟩ := hu31
        cases e36
        refine s_x h rfl rfl (by decide) (x_iaddrE h.k rfl Tryd.underlying38 sz_Sstring hA30 rfl rfl hi26 hm27) (fun a h => ?_)
        refine s_x h rfl rfl (by decide) (x_ld h.k rfl Tryd.underlying39 rfl rfl (hc32 _ (h.m.snOK (i := 0) rfl))) (fun a h => ?_)
        refine s_x h rfl rfl (by decide) (x_len h.k rfl Tryd.underlying39 rfl) (fun a h => ?_)
        refine s_x h rfl rfl (by decide) (x_bin h.k rfl rfl rfl ib_lss) (fun a h => ?_)
        refine l_end ?_
        refine c_cond h rfl (fun hb => ?_) (fun hb => ?_)
        · rw [if_pos (of_decide_eq_true hb)] at hl19
          refine wp_skip ?_
          refine e_thenN ?_
          obtain ⟨o37, hc38, hl19⟩ := bsome hl19
          refine c_cut (fun a w => ∃ (x39 : List UInt8), (.inr x39) = o37 ∧ x39.length ≤ maxLen ∧ St 106 w0 (ownL ([] ++ [.sn S0])) [(0, .slice Aa0 a0.length ca0), (4, .string (sb x39)), (5, .int .i64 x5), (6, .int .i64 x15)] [.sn S0] a w) ?_ ?_
          · refine wp_block ?_
            refine c_rs ?_ -- region 8
            refine s_move h rfl _ rfl rfl (by decide) rfl (fun a h => ?_)
            refine s_move h rfl _ rfl rfl (by decide) rfl (fun a h => ?_)
            obtain ⟨x41, h45, hc38⟩ := bsome hc38
            obtain ⟨m42, hi46, hm47, hx48⟩ := idx_some h45
            obtain ⟨b43, off44, k49, hA50, hu51, hc52⟩ := (hsa0).at1 rfl hx48 (h.m.snOK (i := 0) rfl)
            obtain ⟨A53, c54, e56, hs55⟩ := hu51
            cases e56
            refine s_x h rfl rfl (by decide) (x_iaddrE h.k rfl Tryd.underlying38 sz_Sstring hA50 rfl rfl hi46 hm47) (fun a h => ?_)
            refine s_x h rfl rfl (by decide) (x_ld h.k rfl Tryd.underlying39 rfl rfl (hc52 _ (h.m.snOK (i := 0) rfl))) (fun a h => ?_)
            refine s_move h rfl _ rfl rfl (by decide) rfl (fun a h => ?_)
            obtain ⟨x57, h61, hc38⟩ := bsome hc38
            obtain ⟨m58, hi62, hm63, hx64⟩ := idx_some h61
            obtain ⟨b59, off60, k65, hA66, hu67, hc68⟩ := (hs55).at1 rfl hx64 (h.m.snOK (i := 0) rfl)
            obtain ⟨e70, hr69⟩ := hu67
            cases e70
            refine s_x h rfl rfl (by decide) (x_iaddrE h.k rfl Tryd.underlying39 sz_string hA66 rfl rfl hi62 hm63) (fun a h => ?_)
            refine s_x h rfl rfl (by decide) (x_ld h.k rfl Tryd.underlying9 rfl rfl (hc68 _ (h.m.snOK (i := 0) rfl))) (fun a h => ?_)
            refine s_assign h rfl _ rfl rfl (by decide) rfl (fun a h => ?_)
            refine l_end ?_
            refine wp_seq ?_
            refine c_rs ?_ -- region 9
            refine s_assign h rfl _ rfl rfl (by decide) rfl (fun a h => ?_)
            refine l_end ?_
            obtain ⟨o71, hl72, hc38⟩ := bsome hc38
            refine c_fin (fun a w => (.inr ()) = o71 ∧ St 106 w0 (ownL ([] ++ [.sn S0])) [(0, .slice Aa0 a0.length ca0), (4, .string (sb x13)), (5, .int .i64 x5), (6, .int .i64 x15), (7, .string (sb x57))] [.sn S0] a w) ?_ ?_
            · refine wp_block ?_
              refine c_loop (fun m76 a w => ∃ (x73 : Int), chatelaineref42_Table_l2 Fu x57 m76 x73 = some o71 ∧ r64 x73 ∧ St 106 w0 (ownL ([] ++ [.sn S0])) [(0, .slice Aa0 a0.length ca0), (4, .string (sb x13)), (5, .int .i64 x5), (6, .int .i64 x15), (7, .string (sb x57)), (8, .int .i64 x73)] [.sn S0] a w) Fu ⟨0, hl72, (show r64 0 from ⟨by decide, by decide⟩), h.has (by exact ⟨rfl, rfl, rfl, rfl, rfl, rfl, trivial⟩)⟩ (fun m76 a w hI => ?_)
              obtain ⟨x73, hl75, hr74, h⟩ := hI
              obtain _ | m76 := m76
              · rw [chatelaineref42_Table_l2] at hl75; cases hl75
              rw [chatelaineref42_Table_l2] at hl75
              refine wp_seq ?_
              refine c_rs ?_ -- region 10
              refine s_move h rfl _ rfl rfl (by decide) rfl (fun a h => ?_)
              refine s_move h rfl _ rfl rfl (by decide) rfl (fun a h => ?_)
              refine s_x h rfl rfl (by decide) (x_lenStr h.k rfl Tryd.underlying9 rfl) (fun a h => ?_)
              refine s_x h rfl rfl (by decide) (x_bin h.k rfl rfl rfl ib_lss) (fun a h => ?_)
              refine l_end ?_
              refine c_cond h rfl (fun hb => ?_) (fun hb => ?_)
              · rw [if_pos (of_decide_eq_true hb)] at hl75
                refine wp_skip ?_
                refine e_thenN ?_
                refine wp_seq ?_
                refine wp_block ?_
                refine c_rs ?_ -- region 12
                refine s_move h rfl _ rfl rfl (by decide) rfl (fun a h => ?_)
                refine s_move h rfl _ rfl rfl (by decide) rfl (fun a h => ?_)
                obtain ⟨x78, h79, hl75⟩ := bsome hl75
                obtain ⟨m77, hi80, hm81, hx82⟩ := idx_some h79
                refine s_x h rfl rfl (by decide) (x_indexStr h.k rfl Tryd.underlying9 rfl rfl hi80 hx82) (fun a h => ?_)
                refine s_x h rfl rfl (by decide) (x_bin h.k rfl rfl rfl ib_lss) (fun a h => ?_)
                refine s_move h rfl _ rfl rfl (by decide) rfl (fun a h => ?_)
                obtain ⟨z84, hz83, hl75⟩ := bsome hl75
                refine q_grp h 5 (t := 44) 49 z84 rfl (fun hB4 => ?_) (fun hB4 => ?_) (fun a w h => ?_)
                · refine g_no h rfl rfl rfl rfl hB4 rfl (by decide) (fun a h => ?_)
                  refine g_no h rfl rfl rfl rfl hB4 rfl (by decide) (fun a h => ?_)
                  refine g_no h rfl rfl rfl rfl hB4 rfl (by decide) (fun a h => ?_)
                  refine g_no h rfl rfl rfl rfl hB4 rfl (by decide) (fun a h => ?_)
                  rw [if_pos (of_decide_eq_true hB4)] at hz83
                  refine s_x h rfl rfl (by decide) (x_pick (u' := undef) h.k rfl rfl (fun _ => rfl) (fun hh => absurd (hB4.symm.trans hh) (by decide))) (fun a h => ?_)
                  exact (h.mid 4 rfl).val (by rw [Option.some.inj hz83])
                · rw [if_neg (of_decide_eq_false hB4)] at hz83
                  refine g_yes h rfl rfl rfl rfl hB4 ?_
                  refine s_move h rfl _ rfl rfl (by decide) rfl (fun a h => ?_)
                  refine g_yes h rfl rfl rfl rfl hB4 ?_
                  refine s_move h rfl _ rfl rfl (by decide) rfl (fun a h => ?_)
                  refine g_yes h rfl rfl rfl rfl hB4 ?_
                  obtain ⟨x87, h88, hz83⟩ := bsome hz83
                  obtain ⟨m86, hi89, hm90, hx91⟩ := idx_some h88
                  refine s_x h rfl rfl (by decide) (x_indexStr h.k rfl Tryd.underlying9 rfl rfl hi89 hx91) (fun a h => ?_)
                  refine g_yes h rfl rfl rfl rfl hB4 ?_
                  refine s_x h rfl rfl (by decide) (x_bin h.k rfl rfl rfl ib_gtr) (fun a h => ?_)
                  refine s_x h rfl rfl (by decide) (x_pick (u' := undef) h.k rfl rfl (fun hh => absurd (hB4.symm.trans hh) (by decide)) (fun _ => rfl)) (fun a h => ?_)
                  exact (h.mid 4 rfl).val (by rw [Option.some.inj hz83])
                refine l_end ?_
                refine c_cond h rfl (fun hb => ?_) (fun hb => ?_)
                · rw [if_pos hb] at hl75
                  refine c_rs ?_ -- region 13
                  refine s_assign h rfl _ rfl rfl (by decide) rfl (fun a h => ?_)
                  refine s_assign h rfl _ rfl rfl (by decide) rfl (fun a h => ?_)
                  refine l_end ?_
                  refine wp_ret ?_
                  refine e_blkR ?_
                  refine e_thenR ?_
                  refine e_thenR ?_
                  refine e_blkR ?_
                  refine e_thenR ?_
                  cases hl75
                  try dsimp only at hc38
                  refine e_thenR ?_
                  refine e_blkR ?_
                  refine e_thenR ?_
                  cases hc38
                  try dsimp only at hl19
                  refine e_thenR ?_
                  refine e_blkR ?_
                  refine e_thenR ?_
                  cases hl19
                  try dsimp only at hl9
                  refine e_thenR ?_
                  refine e_blkR ?_
                  refine e_thenR ?_
                  refine e_thenR ?_
                  refine e_blkR ?_
                  refine e_thenR ?_
                  cases hl9
                  try dsimp only at hf
                  refine e_thenR ?_
                  obtain rfl := Option.some.inj hf
                  exact r_ret2 h rfl (rv_tmp h rfl) (rv_tmp h rfl) ⟨_, [], _, rfl, ⟨rfl, rfl, (by decide), trivial⟩, rfl, (Up.refl _ _ _), h.m⟩
                · rw [if_neg (by rw [hb]; decide)] at hl75
                  refine wp_skip ?_
                  refine e_blkN ?_
                  refine e_thenN ?_
                  refine c_r ?_ -- region 11
                  refine s_move h rfl _ rfl rfl (by decide) rfl (fun a h => ?_)
                  refine s_x h rfl rfl (by decide) (x_bin h.k rfl rfl rfl (ib_add rfl)) (fun a h => ?_)
                  refine s_assign h rfl _ rfl rfl (by decide) rfl (fun a h => ?_)
                  refine l_nil ?_
                  exact e_thenN ⟨m76, Nat.lt_succ_self _, w64 (x73 + 1), hl75, (w64_r _), h.has (by exact ⟨rfl, rfl, rfl, rfl, rfl, rfl, trivial⟩)⟩
              · rw [if_neg (of_decide_eq_false hb)] at hl75
                refine wp_exit ?_
                refine e_thenX ?_
                refine e_thenX ?_
                refine e_blkX ?_
                refine e_thenN ?_
                exact ⟨(Option.some.inj hl75), h.has (by exact ⟨rfl, rfl, rfl, rfl, rfl, trivial⟩)⟩
            · rintro a w ⟨rfl, h⟩
              try dsimp only at hc38
              refine e_thenN ?_
              refine c_rs ?_ -- region 14
              refine s_move h rfl _ rfl rfl (by decide) rfl (fun a h => ?_)
              refine s_move h rfl _ rfl rfl (by decide) rfl (fun a h => ?_)
              obtain ⟨x92, h93, hc38⟩ := bsome hc38
              refine s_x h rfl rfl (by decide) (x_addS h.k rfl rfl rfl h93) (fun a h => ?_)
              refine s_assign h rfl _ rfl rfl (by decide) rfl (fun a h => ?_)
              refine l_end ?_
              refine wp_seq ?_
              refine c_rs ?_ -- region 15
              refine s_move h rfl _ rfl rfl (by decide) rfl (fun a h => ?_)
              refine s_x h rfl rfl (by decide) (x_bin h.k rfl rfl rfl (ib_add rfl)) (fun a h => ?_)
              refine s_move h rfl _ rfl rfl (by decide) rfl (fun a h => ?_)
              refine s_move h rfl _ rfl rfl (by decide) rfl (fun a h => ?_)
              obtain ⟨x94, h98, hc38⟩ := bsome hc38
              obtain ⟨m95, hi99, hm100, hx101⟩ := idx_some h98
              obtain ⟨b96, off97, k102, hA103, hu104, hc105⟩ := (hsa0).at1 rfl hx101 (h.m.snOK (i := 0) rfl)
              obtain ⟨A106, c107, e109, hs108⟩ := hu104
              cases e109
              refine s_x h rfl rfl (by decide) (x_iaddrE h.k rfl Tryd.underlying38 sz_Sstring hA103 rfl rfl hi99 hm100) (fun a h => ?_)
              refine s_x h rfl rfl (by decide) (x_ld h.k rfl Tryd.underlying39 rfl rfl (hc105 _ (h.m.snOK (i := 0) rfl))) (fun a h => ?_)
              refine s_x h rfl rfl (by decide) (x_len h.k rfl Tryd.underlying39 rfl) (fun a h => ?_)
              refine s_x h rfl rfl (by decide) (x_bin h.k rfl rfl rfl ib_eql) (fun a h => ?_)
              refine l_end ?_
              refine c_cond h rfl (fun hb => ?_) (fun hb => ?_)
              · rw [if_pos (of_decide_eq_true hb)] at hc38
                refine wp_exit ?_
                refine e_thenX ?_
                refine e_blkX ?_
                refine e_thenN ?_
                exact ⟨x92, (Option.some.inj hc38), (sapp_some h93).2, h.has (by exact ⟨rfl, rfl, rfl, rfl, trivial⟩)⟩
              · rw [if_neg (of_decide_eq_false hb)] at hc38
                refine wp_skip ?_
                refine e_thenN ?_
                refine c_rs ?_ -- region 16
                refine s_assign h rfl _ rfl rfl (by decide) rfl (fun a h => ?_)
                refine l_end ?_
                refine wp_seq ?_
                refine c_rs ?_ -- region 17
                refine s_assign h rfl _ rfl rfl (by decide) rfl (fun a h => ?_)
                refine l_end ?_
                obtain ⟨o110, hl111, hc38⟩ := bsome hc38
                refine c_fin (fun a w => ∃ (x116 : Int), x116 = o110 ∧ r64 x116 ∧ St 106 w0 (ownL ([] ++ [.sn S0])) [(0, .slice Aa0 a0.length ca0), (4, .string (sb x92)), (5, .int .i64 x5), (6, .int .i64 x15), (7, .string (sb x57)), (9, .int .i64 x116)] [.sn S0] a w) ?_ ?_
                · refine wp_block ?_
                  refine c_loop (fun m119 a w => ∃ (x112 : Int), ∃ (x114 : Int), chatelaineref42_Table_l3 Fu a0 x15 m119 x112 x114 = some o110 ∧ r64 x112 ∧ r64 x114 ∧ St 106 w0 (ownL ([] ++ [.sn S0])) [(0, .slice Aa0 a0.length ca0), (4, .string (sb x92)), (5, .int .i64 x5), (6, .int .i64 x15), (7, .string (sb x57)), (9, .int .i64 x112), (10, .int .i64 x114)] [.sn S0] a w) Fu ⟨0, 0, hl111, (show r64 0 from ⟨by decide, by decide⟩), (show r64 0 from ⟨by decide, by decide⟩), h.has (by exact ⟨rfl, rfl, rfl, rfl, rfl, rfl, rfl, trivial⟩)⟩ (fun m119 a w hI => ?_)
                  obtain ⟨x112, x114, hl118, hr113, hr115, h⟩ := hI
                  obtain _ | m119 := m119
                  · rw [chatelaineref42_Table_l3] at hl118; cases hl118
                  rw [chatelaineref42_Table_l3] at hl118
                  refine wp_seq ?_
                  refine c_rs ?_ -- region 18
                  refine s_move h rfl _ rfl rfl (by decide) rfl (fun a h => ?_)
                  refine s_move h rfl _ rfl rfl (by decide) rfl (fun a h => ?_)
                  refine s_x h rfl rfl (by decide) (x_len h.k rfl Tryd.underlying38 rfl) (fun a h => ?_)
                  refine s_x h rfl rfl (by decide) (x_bin h.k rfl rfl rfl ib_lss) (fun a h => ?_)
                  refine l_end ?_
                  refine c_cond h rfl (fun hb => ?_) (fun hb => ?_)
                  · rw [if_pos (of_decide_eq_true hb)] at hl118
                    refine wp_skip ?_
                    refine e_thenN ?_
                    obtain ⟨o120, hc121, hl118⟩ := bsome hl118
                    refine c_cut (fun a w => ∃ (x122 : Int), x122 = o120 ∧ r64 x122 ∧ St 106 w0 (ownL ([] ++ [.sn S0])) [(0, .slice Aa0 a0.length ca0), (4, .string (sb x92)), (5, .int .i64 x5), (6, .int .i64 x15), (7, .string (sb x57)), (9, .int .i64 x122), (10, .int .i64 x114)] [.sn S0] a w) ?_ ?_
                    · refine wp_block ?_
                      refine c_rs ?_ -- region 20
                      refine s_move h rfl _ rfl rfl (by decide) rfl (fun a h => ?_)
                      refine s_move h rfl _ rfl rfl (by decide) rfl (fun a h => ?_)
                      refine s_move h rfl _ rfl rfl (by decide) rfl (fun a h => ?_)
                      obtain ⟨x124, h128, hc121⟩ := bsome hc121
                      obtain ⟨m125, hi129, hm130, hx131⟩ := idx_some h128
                      obtain ⟨b126, off127, k132, hA133, hu134, hc135⟩ := (hsa0).at1 rfl hx131 (h.m.snOK (i := 0) rfl)
                      obtain ⟨A136, c137, e139, hs138⟩ := hu134
                      cases e139
                      refine s_x h rfl rfl (by decide) (x_iaddrE h.k rfl Tryd.underlying38 sz_Sstring hA133 rfl rfl hi129 hm130) (fun a h => ?_)
                      refine s_x h rfl rfl (by decide) (x_ld h.k rfl Tryd.underlying39 rfl rfl (hc135 _ (h.m.snOK (i := 0) rfl))) (fun a h => ?_)
                      refine s_x h rfl rfl (by decide) (x_len h.k rfl Tryd.underlying39 rfl) (fun a h => ?_)
                      refine s_x h rfl rfl (by decide) (x_bin h.k rfl rfl rfl ib_lss) (fun a h => ?_)
                      refine s_move h rfl _ rfl rfl (by decide) rfl (fun a h => ?_)
                      obtain ⟨z141, hz140, hc121⟩ := bsome hc121
                      refine q_grp h 11 (t := 74) 85 z141 rfl (fun hB7 => ?_) (fun hB7 => ?_) (fun a w h => ?_)
                      · rw [if_pos (of_decide_eq_true hB7)] at hz140
                        refine g_yes h rfl rfl rfl rfl hB7 ?_
                        refine s_move h rfl _ rfl rfl (by decide) rfl (fun a h => ?_)
                        refine g_yes h rfl rfl rfl rfl hB7 ?_
                        refine s_move h rfl _ rfl rfl (by decide) rfl (fun a h => ?_)
                        refine g_yes h rfl rfl rfl rfl hB7 ?_
                        obtain ⟨x143, h147, hz140⟩ := bsome hz140
                        obtain ⟨m144, hi148, hm149, hx150⟩ := idx_some h147
                        obtain ⟨b145, off146, k151, hA152, hu153, hc154⟩ := (hsa0).at1 rfl hx150 (h.m.snOK (i := 0) rfl)
                        obtain ⟨A155, c156, e158, hs157⟩ := hu153
                        cases e158
                        refine s_x h rfl rfl (by decide) (x_iaddrE h.k rfl Tryd.underlying38 sz_Sstring hA152 rfl rfl hi148 hm149) (fun a h => ?_)
                        refine g_yes h rfl rfl rfl rfl hB7 ?_
                        refine s_x h rfl rfl (by decide) (x_ld h.k rfl Tryd.underlying39 rfl rfl (hc154 _ (h.m.snOK (i := 0) rfl))) (fun a h => ?_)
                        refine g_yes h rfl rfl rfl rfl hB7 ?_
                        refine s_move h rfl _ rfl rfl (by decide) rfl (fun a h => ?_)
                        refine g_yes h rfl rfl rfl rfl hB7 ?_
                        obtain ⟨x159, h163, hz140⟩ := bsome hz140
                        obtain ⟨m160, hi164, hm165, hx166⟩ := idx_some h163
                        obtain ⟨b161, off162, k167, hA168, hu169, hc170⟩ := (hs157).at1 rfl hx166 (h.m.snOK (i := 0) rfl)
                        obtain ⟨e172, hr171⟩ := hu169
                        cases e172
                        refine s_x h rfl rfl (by decide) (x_iaddrE h.k rfl Tryd.underlying39 sz_string hA168 rfl rfl hi164 hm165) (fun a h => ?_)
                        refine g_yes h rfl rfl rfl rfl hB7 ?_
                        refine s_x h rfl rfl (by decide) (x_ld h.k rfl Tryd.underlying9 rfl rfl (hc170 _ (h.m.snOK (i := 0) rfl))) (fun a h => ?_)
                        refine g_yes h rfl rfl rfl rfl hB7 ?_
                        refine s_x h rfl rfl (by decide) (x_lenStr h.k rfl Tryd.underlying9 rfl) (fun a h => ?_)
                        refine g_yes h rfl rfl rfl rfl hB7 ?_
                        refine s_move h rfl _ rfl rfl (by decide) rfl (fun a h => ?_)
                        refine g_yes h rfl rfl rfl rfl hB7 ?_
                        refine s_x h rfl rfl (by decide) (x_bin h.k rfl rfl rfl ib_gtr) (fun a h => ?_)
                        refine s_x h rfl rfl (by decide) (x_pick (u' := undef) h.k rfl rfl (fun _ => rfl) (fun hh => absurd (hB7.symm.trans hh) (by decide))) (fun a h => ?_)
                        exact (h.mid 10 rfl).val (by rw [Option.some.inj hz140])
                      · refine g_no h rfl rfl rfl rfl hB7 rfl (by decide) (fun a h => ?_)
                        refine g_no h rfl rfl rfl rfl hB7 rfl (by decide) (fun a h => ?_)
                        refine g_no h rfl rfl rfl rfl hB7 rfl (by decide) (fun a h => ?_)
                        refine g_no h rfl rfl rfl rfl hB7 rfl (by decide) (fun a h => ?_)
                        refine g_no h rfl rfl rfl rfl hB7 rfl (by decide) (fun a h => ?_)
                        refine g_no h rfl rfl rfl rfl hB7 rfl (by decide) (fun a h => ?_)
                        refine g_no h rfl rfl rfl rfl hB7 rfl (by decide) (fun a h => ?_)
                        refine g_no h rfl rfl rfl rfl hB7 rfl (by decide) (fun a h => ?_)
                        refine g_no h rfl rfl rfl rfl hB7 rfl (by decide) (fun a h => ?_)
                        refine g_no h rfl rfl rfl rfl hB7 rfl (by decide) (fun a h => ?_)
                        rw [if_neg (of_decide_eq_false hB7)] at hz140
                        refine s_x h rfl rfl (by decide) (x_pick (u' := undef) h.k rfl rfl (fun hh => absurd (hB7.symm.trans hh) (by decide)) (fun _ => rfl)) (fun a h => ?_)
                        exact (h.mid 10 rfl).val (by rw [Option.some.inj hz140])
                      refine l_end ?_
                      refine c_cond h rfl (fun hb => ?_) (fun hb => ?_)
                      · rw [if_pos hb] at hc121
                        refine c_r ?_ -- region 21
                        refine s_move h rfl _ rfl rfl (by decide) rfl (fun a h => ?_)
                        refine s_move h rfl _ rfl rfl (by decide) rfl (fun a h => ?_)
                        obtain ⟨x173, h177, hc121⟩ := bsome hc121
                        obtain ⟨m174, hi178, hm179, hx180⟩ := idx_some h177
                        obtain ⟨b175, off176, k181, hA182, hu183, hc184⟩ := (hsa0).at1 rfl hx180 (h.m.snOK (i := 0) rfl)
                        obtain ⟨A185, c186, e188, hs187⟩ := hu183
                        cases e188
                        refine s_x h rfl rfl (by decide) (x_iaddrE h.k rfl Tryd.underlying38 sz_Sstring hA182 rfl rfl hi178 hm179) (fun a h => ?_)
                        refine s_x h rfl rfl (by decide) (x_ld h.k rfl Tryd.underlying39 rfl rfl (hc184 _ (h.m.snOK (i := 0) rfl))) (fun a h => ?_)
                        refine s_move h rfl _ rfl rfl (by decide) rfl (fun a h => ?_)
                        obtain ⟨x189, h193, hc121⟩ := bsome hc121
                        obtain ⟨m190, hi194, hm195, hx196⟩ := idx_some h193
                        obtain ⟨b191, off192, k197, hA198, hu199, hc200⟩ := (hs187).at1 rfl hx196 (h.m.snOK (i := 0) rfl)
                        obtain ⟨e202, hr201⟩ := hu199
                        cases e202
                        refine s_x h rfl rfl (by decide) (x_iaddrE h.k rfl Tryd.underlying39 sz_string hA198 rfl rfl hi194 hm195) (fun a h => ?_)
                        refine s_x h rfl rfl (by decide) (x_ld h.k rfl Tryd.underlying9 rfl rfl (hc200 _ (h.m.snOK (i := 0) rfl))) (fun a h => ?_)
                        refine s_x h rfl rfl (by decide) (x_lenStr h.k rfl Tryd.underlying9 rfl) (fun a h => ?_)
                        refine s_assign h rfl _ rfl rfl (by decide) rfl (fun a h => ?_)
                        refine l_nil ?_
                        refine e_blkN ?_
                        refine e_thenN ?_
                        exact ⟨(x189.length : Int), (Option.some.inj hc121), (len_r hr201), h.has (by exact ⟨rfl, rfl, rfl, rfl, rfl, rfl, rfl, trivial⟩)⟩
                      · rw [if_neg (by rw [hb]; decide)] at hc121
                        refine wp_skip ?_
                        refine e_blkN ?_
                        refine e_thenN ?_
                        exact ⟨x112, (Option.some.inj hc121), hr113, h.has (by exact ⟨rfl, rfl, rfl, rfl, rfl, rfl, rfl, trivial⟩)⟩
                    · rintro a w ⟨x122, rfl, hr123, h⟩
                      refine c_r ?_ -- region 19
                      refine s_move h rfl _ rfl rfl (by decide) rfl (fun a h => ?_)
                      refine s_x h rfl rfl (by decide) (x_bin h.k rfl rfl rfl (ib_add rfl)) (fun a h => ?_)
                      refine s_assign h rfl _ rfl rfl (by decide) rfl (fun a h => ?_)
                      refine l_nil ?_
                      exact e_thenN ⟨m119, Nat.lt_succ_self _, x122, w64 (x114 + 1), hl118, hr123, (w64_r _), h.has (by exact ⟨rfl, rfl, rfl, rfl, rfl, rfl, rfl, trivial⟩)⟩
                  · rw [if_neg (of_decide_eq_false hb)] at hl118
                    refine wp_exit ?_
                    refine e_thenX ?_
                    refine e_thenX ?_
                    refine e_blkX ?_
                    refine e_thenN ?_
                    exact ⟨x112, (Option.some.inj hl118), hr113, h.has (by exact ⟨rfl, rfl, rfl, rfl, rfl, rfl, trivial⟩)⟩
                · rintro a w ⟨x116, rfl, hr117, h⟩
                  refine e_thenN ?_
                  refine c_rs ?_ -- region 22
                  refine s_move h rfl _ rfl rfl (by decide) rfl (fun a h => ?_)
                  refine s_x h rfl rfl (by decide) (x_lenStr h.k rfl Tryd.underlying9 rfl) (fun a h => ?_)
                  refine s_assign h rfl _ rfl rfl (by decide) rfl (fun a h => ?_)
                  refine l_end ?_
                  obtain ⟨o204, hl205, hc38⟩ := bsome hc38
                  refine c_fin (fun a w => ∃ (x210 : List UInt8), x210 = o204 ∧ x210.length ≤ maxLen ∧ St 106 w0 (ownL ([] ++ [.sn S0])) [(0, .slice Aa0 a0.length ca0), (4, .string (sb x210)), (5, .int .i64 x5), (6, .int .i64 x15)] [.sn S0] a w) ?_ ?_
                  · refine wp_block ?_
                    refine c_loop (fun m213 a w => ∃ (x206 : List UInt8), ∃ (x208 : Int), chatelaineref42_Table_l4 Fu x116 m213 x206 x208 = some o204 ∧ x206.length ≤ maxLen ∧ r64 x208 ∧ St 106 w0 (ownL ([] ++ [.sn S0])) [(0, .slice Aa0 a0.length ca0), (4, .string (sb x206)), (5, .int .i64 x5), (6, .int .i64 x15), (9, .int .i64 x116), (11, .int .i64 x208)] [.sn S0] a w) Fu ⟨x92, (x57.length : Int), hl205, (sapp_some h93).2, (len_r hr69), h.has (by exact ⟨rfl, rfl, rfl, rfl, rfl, rfl, trivial⟩)⟩ (fun m213 a w hI => ?_)
                    obtain ⟨x206, x208, hl212, hr207, hr209, h⟩ := hI
                    obtain _ | m213 := m213
                    · rw [chatelaineref42_Table_l4] at hl212; cases hl212
                    rw [chatelaineref42_Table_l4] at hl212
                    refine wp_seq ?_
                    refine c_rs ?_ -- region 23
                    refine s_move h rfl _ rfl rfl (by decide) rfl (fun a h => ?_)
                    refine s_move h rfl _ rfl rfl (by decide) rfl (fun a h => ?_)
                    refine s_x h rfl rfl (by decide) (x_bin h.k rfl rfl rfl ib_leq) (fun a h => ?_)
                    refine l_end ?_
                    refine c_cond h rfl (fun hb => ?_) (fun hb => ?_)
                    · rw [if_pos (of_decide_eq_true hb)] at hl212
                      refine wp_skip ?_
                      refine e_thenN ?_
                      refine wp_seq ?_
                      refine wp_block ?_
                      refine c_r ?_ -- region 25
                      refine s_move h rfl _ rfl rfl (by decide) rfl (fun a h => ?_)
                      obtain ⟨x214, h215, hl212⟩ := bsome hl212
                      refine s_x h rfl rfl (by decide) (x_addS h.k rfl rfl rfl h215) (fun a h => ?_)
                      refine s_assign h rfl _ rfl rfl (by decide) rfl (fun a h => ?_)
                      refine l_nil ?_
                      refine e_blkN ?_
                      refine e_thenN ?_
                      refine c_r ?_ -- region 24
                      refine s_move h rfl _ rfl rfl (by decide) rfl (fun a h => ?_)
                      refine s_x h rfl rfl (by decide) (x_bin h.k rfl rfl rfl (ib_add rfl)) (fun a h => ?_)
                      refine s_assign h rfl _ rfl rfl (by decide) rfl (fun a h => ?_)
                      refine l_nil ?_
                      exact e_thenN ⟨m213, Nat.lt_succ_self _, x214, w64 (x208 + 1), hl212, (sapp_some h215).2, (w64_r _), h.has (by exact ⟨rfl, rfl, rfl, rfl, rfl, rfl, trivial⟩)⟩
                    · rw [if_neg (of_decide_eq_false hb)] at hl212
                      refine wp_exit ?_
                      refine e_thenX ?_
                      refine e_thenX ?_
                      refine e_blkX ?_
                      refine e_thenN ?_
                      exact ⟨x206, (Option.some.inj hl212), hr207, h.has (by exact ⟨rfl, rfl, rfl, rfl, trivial⟩)⟩
                  · rintro a w ⟨x210, rfl, hr211, h⟩
                    refine e_blkN ?_
                    refine e_thenN ?_
                    exact ⟨x210, (Option.some.inj hc38), hr211, h.has (by exact ⟨rfl, rfl, rfl, rfl, trivial⟩)⟩
          · rintro a w ⟨x39, rfl, hr40, h⟩
            try dsimp only at hl19
            refine c_r ?_ -- region 7
            refine s_move h rfl _ rfl rfl (by decide) rfl (fun a h => ?_)
            refine s_x h rfl rfl (by decide) (x_bin h.k rfl rfl rfl (ib_add rfl)) (fun a h => ?_)
            refine s_assign h rfl _ rfl rfl (by decide) rfl (fun a h => ?_)
            refine l_nil ?_
            exact e_thenN ⟨m20, Nat.lt_succ_self _, x39, w64 (x15 + 1), hl19, hr40, (w64_r _), h.has (by exact ⟨rfl, rfl, rfl, rfl, trivial⟩)⟩
        · rw [if_neg (of_decide_eq_false hb)] at hl19
          refine wp_exit ?_
          refine e_thenX ?_
          refine e_thenX ?_
          refine e_blkX ?_
          refine e_thenN ?_
          exact ⟨x13, (Option.some.inj hl19), hr14, h.has (by exact ⟨rfl, rfl, rfl, trivial⟩)⟩
      · rintro a w ⟨x17, rfl, hr18, h⟩
        try dsimp only at hl9
        refine e_thenN ?_
        refine c_r ?_ -- region 26
        refine s_move h rfl _ rfl rfl (by decide) rfl (fun a h => ?_)
        obtain ⟨x220, h221, hl9⟩ := bsome hl9
        refine s_x h rfl rfl (by decide) (x_addS h.k rfl rfl rfl h221) (fun a h => ?_)
        refine s_assign h rfl _ rfl rfl (by decide) rfl (fun a h => ?_)
        refine l_nil ?_
        refine e_blkN ?_
        refine e_thenN ?_
        refine c_r ?_ -- region 4
        refine s_move h rfl _ rfl rfl (by decide) rfl (fun a h => ?_)
        refine s_x h rfl rfl (by decide) (x_bin h.k rfl rfl rfl (ib_add rfl)) (fun a h => ?_)
        refine s_assign h rfl _ rfl rfl (by decide) rfl (fun a h => ?_)
        refine l_nil ?_
        exact e_thenN ⟨m10, Nat.lt_succ_self _, x220, w64 (x5 + 1), hl9, (sapp_some h221).2, (w64_r _), h.has (by exact ⟨rfl, rfl, rfl, trivial⟩)⟩
    · rw [if_neg (of_decide_eq_false hb)] at hl9
      refine wp_exit ?_
      refine e_thenX ?_
      refine e_thenX ?_
      refine e_blkX ?_
      refine e_thenN ?_
      exact ⟨x3, (Option.some.inj hl9), hr4, h.has (by exact ⟨rfl, trivial⟩)⟩
  · rintro a w ⟨x7, rfl, hr8, h⟩
    try dsimp only at hf
    refine e_thenN ?_
    refine c_rs ?_ -- region 27
    refine s_move h rfl _ rfl rfl (by decide) rfl (fun a h => ?_)
    refine s_assign h rfl _ rfl rfl (by decide) rfl (fun a h => ?_)
    refine s_assign h rfl _ rfl rfl (by decide) rfl (fun a h => ?_)
    refine l_end ?_
    refine wp_ret ?_
    obtain rfl := Option.some.inj hf
    exact r_ret2 h rfl (rv_tmp h rfl) (rv_tmp h rfl) ⟨_, [], _, rfl, ⟨rfl, rfl, hr8, trivial⟩, rfl, (Up.refl _ _ _), h.m⟩
end Go.Proofs.YtnmeelkfpmodgaaDoor
