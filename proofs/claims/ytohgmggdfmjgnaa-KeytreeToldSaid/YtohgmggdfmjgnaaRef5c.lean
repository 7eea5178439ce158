/- The document's answer for the package sha: With, walked. -/
import Derived.Test.YtohgmggdfmjgnaaRef5b
set_option linter.unusedVariables false
set_option linter.unusedSimpArgs false
namespace Go.Proofs.Ytohgmggdfmjgnaa
open Go.RowKit

set_option maxRecDepth 100000 in
set_option maxHeartbeats 1000000 in
theorem with_ok (w0 : World) (kb ko kc : Nat) (hK : Rd w0 (some ⟨kb, ko, none⟩) (ucs kindsL)) (Ab : Option Addr) (cb : Nat) (hB : Rd w0 Ab (ucs beginL)) (Ap : Option Addr) (p : List UInt8) (cp : Nat) (hP : Rd w0 Ap (by8 p)) (hp : p.length ≤ 1099511627776) :
    Calls Try.prog 93 #[.slice (some ⟨kb, ko, none⟩) 64 kc, .slice Ab 8 cb, .slice Ap p.length cp] w0 fun e w' => e = .returned (.agg (by8 (shaS p)).toArray) ∧ Below w0.heap.size w0 w' := by
  refine c_enter Try.func93 rfl 284 rfl (by simp) (fun _ => False) _ rfl (fun a h => ?_)
  have h := h.mem (h.m.arg (rdP Ap (by8 p)) hP (fun _ _ hh => hh))
  have h := h.mem (h.m.arg (rdP Ab (ucs beginL)) hB (fun _ _ hh => hh))
  have h := h.mem (h.m.arg (rdP (some ⟨kb, ko, none⟩) (ucs kindsL)) hK (fun _ _ hh => hh))
  refine c_rs ?_
  refine s_alloc h rfl rfl rfl (by decide) zi_A32_uint8 rfl (fun a w g6 h => ?_)
  refine l_end ?_
  refine c_rs ?_
  refine sAV h (fun a h => ?_)
  refine l_end ?_
  refine c_rs ?_
  have h := h.mem (h.m.nilrow 5 1)
  refine sMV h (fun a h => ?_)
  refine sMV h (fun a h => ?_)
  refine s_append h rfl rfl rfl (by decide) Try.underlying22 zb_uint8 rfl (by decide) rfl 0 rfl rfl (by8 p) (by rw [by8_length, Nat.mul_one]) (h.m.ok 4 _ rfl) (by8_one _) (by omega) (by unfold maxLen; omega) (fun a w v29 h => ?_)
  refine sAV h (fun a h => ?_)
  refine l_end ?_
  refine c_rs ?_
  refine sMV h (fun a h => ?_)
  refine sMV h (fun a h => ?_)
  refine s_len h rfl rfl rfl (by decide) Try.underlying22 rfl (fun a h => ?_)
  refine s_callN h rfl rfl rfl (by decide) Try.func102 rfl rfl rfl (rpad_ok w p.length hp) (fun a w v33 hb h => ?_)
  obtain ⟨A33, c33, rfl, _, _, hr33⟩ := h.m.rdRow (i := 0) rfl
  have hpl := padL_length p.length
  refine s_append h rfl rfl rfl (by decide) Try.underlying22 zb_uint8 rfl (by decide) rfl 1 rfl rfl (by8 (padL p.length)) (by rw [by8_length, Nat.mul_one]) hr33 (by8_one _) (by omega) (by unfold maxLen; omega) (fun a w v34 h => ?_)
  refine sAV h (fun a h => ?_)
  obtain ⟨M, hM⟩ : ∃ M, M = p ++ padL p.length := ⟨_, rfl⟩
  have hMl : M.length = p.length + (padL p.length).length := by rw [hM, List.length_append]
  have hM64 : M.length % 64 = 0 := by omega
  obtain ⟨gm, cm, rfl, hcm, hcm2⟩ := h.m.rowAt (i := 1) rfl (by omega)
  have h := h.mem (h.m.nilrow 106 1)
  rw [List.nil_append, ← by8_append, ← hM, show 0 + p.length + (padL p.length).length = M.length by omega] at h
  refine l_end ?_
  refine c_rs ?_
  refine sAV h (fun a h => ?_)
  refine l_end ?_
  refine c_rs ?_
  refine sMV h (fun a h => ?_)
  refine sMV h (fun a h => ?_)
  refine s_append h rfl rfl rfl (by decide) Try.underlying95 zb_uint32 rfl (by decide) rfl 0 rfl rfl (ucs beginL) rfl (h.m.ok 5 _ rfl) (ucs_one _) (by omega) (by unfold maxLen; omega) (fun a w v37 h => ?_)
  refine sAV h (fun a h => ?_)
  obtain ⟨gs, cs, rfl, hcs, hcs2⟩ := h.m.rowAt (i := 0) rfl (by omega)
  rw [List.nil_append] at h
  have h := h.pick [0, 2, 3, 4] (by decide) rfl
  refine l_end ?_
  refine wp_seq ?_
  refine c_rs ?_
  refine sAV h (fun a h => ?_)
  refine l_end ?_
  refine wp_block ?_
  refine c_loop (fun m a w => ∃ (k gs cs : Nat), k + m = M.length / 64 ∧ 8 ≤ cs ∧ cs ≤ maxLen ∧ St 284 w0 (fun _ => False) [(0, .slice (some ⟨kb, ko, none⟩) 64 kc), (6, .pointer (some ⟨g6, 0, none⟩)), (7, .slice (some ⟨gm, 0, none⟩) M.length cm), (8, .slice (some ⟨gs, 0, none⟩) 8 cs), (9, .int .i64 ((64 * k : Nat) : Int))] [.row (.slice (some ⟨gs, 0, none⟩) 8 cs) 106 1 8 (ucs (pieces M k)), .row (.slice (some ⟨gm, 0, none⟩) M.length cm) 5 1 M.length (by8 M), .box g6 84 (by8 (List.replicate 32 0)), .ro (rdP (some ⟨kb, ko, none⟩) (ucs kindsL))] a w) (M.length / 64) ⟨0, gs, cs, by omega, hcs, hcs2, by rw [pieces_zero]; exact h.has (by exact ⟨rfl, rfl, rfl, rfl, rfl, trivial⟩)⟩ (fun m a w hI => ?_)
  obtain ⟨k, gs, cs, hkm, hcs, hcs2, h⟩ := hI
  refine wp_seq ?_
  refine c_rs ?_
  refine sMV h (fun a h => ?_)
  refine sMV h (fun a h => ?_)
  refine s_len h rfl rfl rfl (by decide) Try.underlying22 rfl (fun a h => ?_)
  refine s_bin h rfl rfl rfl (by decide) rfl rfl (ib_lss) (fun a h => ?_)
  refine l_end ?_
  refine c_cond h rfl (fun hb => ?_) (fun hb => ?_)
  · have hlt : 64 * k + 64 ≤ M.length := by have := of_decide_eq_true hb; omega
    obtain ⟨P, hPd⟩ : ∃ P, P = (M.drop (64 * k)).take 64 := ⟨_, rfl⟩
    have hP64 : P.length = 64 := by rw [hPd]; simp; omega
    refine wp_skip ?_
    refine e_thenN ?_
    refine wp_seq ?_
    refine wp_block ?_
    refine c_rs ?_
    refine sAV h (fun a h => ?_)
    refine l_end ?_
    refine wp_seq ?_
    refine c_rs ?_
    have h := h.mem (h.m.nilrow 106 1)
    refine sAV h (fun a h => ?_)
    refine l_end ?_
    refine wp_block ?_
    refine c_loop (fun m' a w => ∃ (t : Nat) (A : Option Addr) (c : Nat), t + m' = 64 ∧ St 284 w0 (fun _ => False) [(0, .slice (some ⟨kb, ko, none⟩) 64 kc), (6, .pointer (some ⟨g6, 0, none⟩)), (7, .slice (some ⟨gm, 0, none⟩) M.length cm), (8, .slice (some ⟨gs, 0, none⟩) 8 cs), (9, .int .i64 ((64 * k : Nat) : Int)), (10, .slice A t c), (11, .int .i64 (t : Int))] [.row (.slice A t c) 106 1 t (ucs (sched P t)), .row (.slice (some ⟨gs, 0, none⟩) 8 cs) 106 1 8 (ucs (pieces M k)), .row (.slice (some ⟨gm, 0, none⟩) M.length cm) 5 1 M.length (by8 M), .box g6 84 (by8 (List.replicate 32 0)), .ro (rdP (some ⟨kb, ko, none⟩) (ucs kindsL))] a w) 64 ⟨0, none, 0, by omega, h.has (by exact ⟨rfl, rfl, rfl, rfl, rfl, rfl, rfl, trivial⟩)⟩ (fun m' a w hI => ?_)
    obtain ⟨t, A10, c10, htm, h⟩ := hI
    refine wp_seq ?_
    refine c_rs ?_
    refine sMV h (fun a h => ?_)
    refine s_bin h rfl rfl rfl (by decide) rfl rfl (ib_lss) (fun a h => ?_)
    refine l_end ?_
    refine c_cond h rfl (fun hb => ?_) (fun hb => ?_)
    · have hlt64 : t < 64 := by have := of_decide_eq_true hb; omega
      refine wp_skip ?_
      refine e_thenN ?_
      refine wp_seq ?_
      refine wp_block ?_
      refine wp_seq ?_
      refine c_rs ?_
      refine sMV h (fun a h => ?_)
      refine s_bin h rfl rfl rfl (by decide) rfl rfl (ib_lss) (fun a h => ?_)
      refine l_end ?_
      refine c_cond h rfl (fun hb => ?_) (fun hb => ?_)
      · have hlo : t < 16 := by have := of_decide_eq_true hb; omega
        refine c_rs ?_
        refine sMV h (fun a h => ?_)
        refine sMV h (fun a h => ?_)
        refine sMV h (fun a h => ?_)
        refine sMV h (fun a h => ?_)
        refine s_bin h rfl rfl rfl (by decide) rfl rfl (ib_mul (nw64 (by omega))) (fun a h => ?_)
        refine s_bin h rfl rfl rfl (by decide) rfl rfl (ib_add (nw64 (by omega))) (fun a h => ?_)
        refine sMV h (fun a h => ?_)
        refine sMV h (fun a h => ?_)
        refine s_bin h rfl rfl rfl (by decide) rfl rfl (ib_mul (nw64 (by omega))) (fun a h => ?_)
        refine s_bin h rfl rfl rfl (by decide) rfl rfl (ib_add (nw64 (by omega))) (fun a h => ?_)
        refine s_bin h rfl rfl rfl (by decide) rfl rfl (ib_add (nw64 (by omega))) (fun a h => ?_)
        refine s_slice h rfl rfl rfl (by decide) Try.underlying22 sz_uint8 rfl (64 * k + 4 * t) (64 * k + 4 * t + 4) cm ⟨_, _, rfl, by omega⟩ ⟨_, _, rfl, by omega⟩ rfl (by intro hh; cases hh) (by omega) (by omega) (by omega) (fun a A61 hA61 h => ?_)
        have hcut : (M.drop (64 * k + 4 * t)).take 4 = (P.drop (4 * t)).take 4 := by
          rw [hPd, List.drop_take, List.drop_drop, List.take_take, Nat.min_eq_left (by omega)]
        have hr4 : Rd w A61 (by8 ((P.drop (4 * t)).take 4)) := by
          have := rd_cut (h.m.rdRowA (i := 2) rfl) (64 * k + 4 * t) 4 cm (by rw [by8_length]; omega)
          rw [← hA61, by8_drop, by8_take, hcut] at this; exact this
        have hl4 : ((P.drop (4 * t)).take 4).length = 4 := by simp; omega
        rw [show 64 * k + 4 * t + 4 - (64 * k + 4 * t) = ((P.drop (4 * t)).take 4).length by omega] at h
        refine s_callB h rfl rfl rfl (by decide) Try.func103 rfl rfl rfl (same_below (rget64_ok A61 _ _ _ hr4 (by omega))) (fun a w hb h => ?_)
        refine s_conv h rfl rfl rfl (by decide) Try.underlying59 Try.underlying106 rfl (fun a h => ?_)
        refine s_bslice1 h rfl rfl rfl (by decide) Try.underlying95 zi_uint32 rfl rfl (by simp [Value.oneCell']) (by decide) (by decide) (fun a w g64 h => ?_)
        rw [U_wd'] at h
        refine s_append h rfl rfl rfl (by decide) Try.underlying95 zb_uint32 rfl (by decide) rfl 1 rfl rfl [.int .u32 (U (wd P t))] rfl (h.m.rdBox (i := 0) rfl 0) (by simp [Value.oneCell']) (by omega) (by unfold maxLen; omega) (fun a w v65 h => ?_)
        obtain ⟨A65, c65, rfl, _, _, _⟩ := h.m.rdRow (i := 1) rfl
        refine sAV h (fun a h => ?_)
        refine l_end ?_
        refine wp_exit ?_
        refine e_thenX ?_
        refine e_blkX ?_
        refine e_thenN ?_
        refine c_r ?_
        refine sMV h (fun a h => ?_)
        refine s_bin h rfl rfl rfl (by decide) rfl rfl (ib_add (nw64 (by omega))) (fun a h => ?_)
        refine sAV h (fun a h => ?_)
        refine l_nil ?_
        have h := h.pick [1, 2, 3, 4, 5] (by decide) rfl
        rw [show ucs (sched P t) ++ [.int .u32 (U (wd P t))] = ucs (sched P (t + 1)) by rw [sched, nextW_lo P t hlo]; simp [ucs, uc]] at h
        exact e_thenN ⟨m' - 1, by omega, t + 1, A65, c65, by omega, h.has (by exact ⟨rfl, rfl, rfl, rfl, rfl, rfl, rfl, trivial⟩)⟩
      · have hhi : ¬ t < 16 := by have := of_decide_eq_false hb; omega
        have g16 := ucs_getD (sched P t) (t - 16) (by rw [sched_length]; omega)
        have g15 := ucs_getD (sched P t) (t - 15) (by rw [sched_length]; omega)
        have g7 := ucs_getD (sched P t) (t - 7) (by rw [sched_length]; omega)
        have g2 := ucs_getD (sched P t) (t - 2) (by rw [sched_length]; omega)
        obtain ⟨gw, cw, e10, hcw, hcw2⟩ := h.m.rowAt (i := 0) rfl (by omega)
        cases e10
        refine wp_skip ?_
        refine e_thenN ?_
        refine c_rs ?_
        refine sMV h (fun a h => ?_)
        refine sMV h (fun a h => ?_)
        refine s_bin h rfl rfl rfl (by decide) rfl rfl (ib_sub (nw64 (by omega))) (fun a h => ?_)
        refine s_iaddr h rfl rfl rfl (by decide) Try.underlying95 sz_uint32 rfl rfl (m := t - 15) (by omega) (by omega) (r := t - 15) (by omega) (fun a h => ?_)
        refine s_ld h rfl rfl rfl (by decide) Try.underlying106 rfl rfl (h.m.cellRow (i := 0) rfl g15) (fun a h => ?_)
        refine sAV h (fun a h => ?_)
        refine l_end ?_
        refine c_rs ?_
        refine sMV h (fun a h => ?_)
        refine sMV h (fun a h => ?_)
        refine s_bin h rfl rfl rfl (by decide) rfl rfl (ib_sub (nw64 (by omega))) (fun a h => ?_)
        refine s_iaddr h rfl rfl rfl (by decide) Try.underlying95 sz_uint32 rfl rfl (m := t - 2) (by omega) (by omega) (r := t - 2) (by omega) (fun a h => ?_)
        refine s_ld h rfl rfl rfl (by decide) Try.underlying106 rfl rfl (h.m.cellRow (i := 0) rfl g2) (fun a h => ?_)
        refine sAV h (fun a h => ?_)
        refine l_end ?_
        -- region 17 DRAWS
        refine d_start h (Mem _ _ _) 31 33 rfl (by kernel_rfl) (fun _ _ _ _ _ h => h) (fun _ h => h) (fun Q a w HE HN h HS => ?_)
        refine d_takeP h (fun _ => HS) HN 0 rfl (by kernel_rfl) (by kernel_rfl) (by kernel_rfl) (by decide) rfl rfl (by decide) (fun w' => x_move h.k _ rfl rfl) (fun a h => ?_)
        refine d_takeP h (fun _ => HS) HN 1 rfl (by kernel_rfl) (by kernel_rfl) (by kernel_rfl) (by decide) rfl rfl (by decide) (fun w' => x_move h.k _ rfl rfl) (fun a h => ?_)
        refine d_takeP h (fun _ => HS) HN 2 rfl (by kernel_rfl) (by kernel_rfl) (by kernel_rfl) (by decide) rfl rfl (by decide) (fun w' => x_move h.k _ rfl rfl) (fun a h => ?_)
        refine d_takeP h (fun _ => HS) HN 3 rfl (by kernel_rfl) (by kernel_rfl) (by kernel_rfl) (by decide) rfl rfl (by decide) (fun w' => x_bin h.k rfl rfl rfl (ib_sub (nw64 (by omega)))) (fun a h => ?_)
        refine d_takeP h (fun _ => HS) HN 4 rfl (by kernel_rfl) (by kernel_rfl) (by kernel_rfl) (by decide) rfl rfl (by decide) (fun w' => x_iaddr h.k rfl Try.underlying95 sz_uint32 rfl rfl (m := t - 16) (by omega) (by omega) (r := t - 16) (by omega)) (fun a h => ?_)
        refine d_takeD h HS HN 5 [14, 20, 29, 30, 31, 32] rfl (by kernel_rfl) (by kernel_rfl) (by kernel_rfl) (by kernel_rfl) (by kernel_rfl) (by kernel_rfl) rfl rfl (by decide) (fun w' hw => x_ld h.k rfl Try.underlying106 rfl rfl (hw.cellRow (i := 0) rfl g16)) (fun a h => ?_)
        refine d_takeP h (fun _ => HS) HN 6 rfl (by kernel_rfl) (by kernel_rfl) (by kernel_rfl) (by decide) rfl rfl (by decide) (fun w' => x_move h.k _ rfl rfl) (fun a h => ?_)
        refine d_takeP h (fun _ => HS) HN 8 rfl (by kernel_rfl) (by kernel_rfl) (by kernel_rfl) (by decide) rfl rfl (by decide) (fun w' => x_move h.k _ rfl rfl) (fun a h => ?_)
        refine d_takeP h (fun _ => HS) HN 11 rfl (by kernel_rfl) (by kernel_rfl) (by kernel_rfl) (by decide) rfl rfl (by decide) (fun w' => x_move h.k _ rfl rfl) (fun a h => ?_)
        refine d_takeP h (fun _ => HS) HN 15 rfl (by kernel_rfl) (by kernel_rfl) (by kernel_rfl) (by decide) rfl rfl (by decide) (fun w' => x_move h.k _ rfl rfl) (fun a h => ?_)
        refine d_takeP h (fun _ => HS) HN 16 rfl (by kernel_rfl) (by kernel_rfl) (by kernel_rfl) (by decide) rfl rfl (by decide) (fun w' => x_move h.k _ rfl rfl) (fun a h => ?_)
        refine d_takeP h (fun _ => HS) HN 17 rfl (by kernel_rfl) (by kernel_rfl) (by kernel_rfl) (by decide) rfl rfl (by decide) (fun w' => x_bin h.k rfl rfl rfl (ib_sub (nw64 (by omega)))) (fun a h => ?_)
        refine d_takeP h (fun _ => HS) HN 18 rfl (by kernel_rfl) (by kernel_rfl) (by kernel_rfl) (by decide) rfl rfl (by decide) (fun w' => x_iaddr h.k rfl Try.underlying95 sz_uint32 rfl rfl (m := t - 7) (by omega) (by omega) (r := t - 7) (by omega)) (fun a h => ?_)
        refine d_takeD h HS HN 19 [20, 29, 30, 31, 32] rfl (by kernel_rfl) (by kernel_rfl) (by kernel_rfl) (by kernel_rfl) (by kernel_rfl) (by kernel_rfl) rfl rfl (by decide) (fun w' hw => x_ld h.k rfl Try.underlying106 rfl rfl (hw.cellRow (i := 0) rfl g7)) (fun a h => ?_)
        refine d_takeP h (fun _ => HS) HN 21 rfl (by kernel_rfl) (by kernel_rfl) (by kernel_rfl) (by decide) rfl rfl (by decide) (fun w' => x_move h.k _ rfl rfl) (fun a h => ?_)
        refine d_takeP h (fun _ => HS) HN 23 rfl (by kernel_rfl) (by kernel_rfl) (by kernel_rfl) (by decide) rfl rfl (by decide) (fun w' => x_move h.k _ rfl rfl) (fun a h => ?_)
        refine d_takeP h (fun _ => HS) HN 26 rfl (by kernel_rfl) (by kernel_rfl) (by kernel_rfl) (by decide) rfl rfl (by decide) (fun w' => x_move h.k _ rfl rfl) (fun a h => ?_)
        refine d_alone 7 rfl (by kernel_rfl) (fun K hK => ?_)
        refine s_callB h rfl rfl rfl (by decide) Try.func104 rfl rfl rfl (rturn_ok _ 7 (by decide) w) (fun a w hb h => ?_)
        refine hK _ _ (fun _ _ => HS.ext hb) ?_
        replace HS := HS.ext hb
        clear hK
        refine d_alone 9 rfl (by kernel_rfl) (fun K hK => ?_)
        refine s_callB h rfl rfl rfl (by decide) Try.func104 rfl rfl rfl (rturn_ok _ 18 (by decide) w) (fun a w hb h => ?_)
        refine hK _ _ (fun _ _ => HS.ext hb) ?_
        replace HS := HS.ext hb
        clear hK
        refine d_takeP h (fun _ => HS) HN 10 rfl (by kernel_rfl) (by kernel_rfl) (by kernel_rfl) (by decide) rfl rfl (by decide) (fun w' => x_bin h.k rfl rfl rfl (ib_xor (U_xor _ _))) (fun a h => ?_)
        refine d_alone 12 rfl (by kernel_rfl) (fun K hK => ?_)
        refine s_callB h rfl rfl rfl (by decide) Try.func105 rfl rfl rfl (rshift3_ok _ w) (fun a w hb h => ?_)
        refine hK _ _ (fun _ _ => HS.ext hb) ?_
        replace HS := HS.ext hb
        clear hK
        refine d_takeP h (fun _ => HS) HN 13 rfl (by kernel_rfl) (by kernel_rfl) (by kernel_rfl) (by decide) rfl rfl (by decide) (fun w' => x_bin h.k rfl rfl rfl (ib_xor (U_xor _ _))) (fun a h => ?_)
        refine d_takeP h (fun _ => HS) HN 14 rfl (by kernel_rfl) (by kernel_rfl) (by kernel_rfl) (by decide) rfl rfl (by decide) (fun w' => x_bin h.k rfl rfl rfl (ib_add (U_add _ _))) (fun a h => ?_)
        refine d_takeP h (fun _ => HS) HN 20 rfl (by kernel_rfl) (by kernel_rfl) (by kernel_rfl) (by decide) rfl rfl (by decide) (fun w' => x_bin h.k rfl rfl rfl (ib_add (U_add _ _))) (fun a h => ?_)
        refine d_alone 22 rfl (by kernel_rfl) (fun K hK => ?_)
        refine s_callB h rfl rfl rfl (by decide) Try.func104 rfl rfl rfl (rturn_ok _ 17 (by decide) w) (fun a w hb h => ?_)
        refine hK _ _ (fun _ _ => HS.ext hb) ?_
        replace HS := HS.ext hb
        clear hK
        refine d_alone 24 rfl (by kernel_rfl) (fun K hK => ?_)
        refine s_callB h rfl rfl rfl (by decide) Try.func104 rfl rfl rfl (rturn_ok _ 19 (by decide) w) (fun a w hb h => ?_)
        refine hK _ _ (fun _ _ => HS.ext hb) ?_
        replace HS := HS.ext hb
        clear hK
        refine d_takeP h (fun _ => HS) HN 25 rfl (by kernel_rfl) (by kernel_rfl) (by kernel_rfl) (by decide) rfl rfl (by decide) (fun w' => x_bin h.k rfl rfl rfl (ib_xor (U_xor _ _))) (fun a h => ?_)
        refine d_alone 27 rfl (by kernel_rfl) (fun K hK => ?_)
        refine s_callB h rfl rfl rfl (by decide) Try.func105 rfl rfl rfl (rshift10_ok _ w) (fun a w hb h => ?_)
        refine hK _ _ (fun _ _ => HS.ext hb) ?_
        replace HS := HS.ext hb
        clear hK
        refine d_takeP h (fun _ => HS) HN 28 rfl (by kernel_rfl) (by kernel_rfl) (by kernel_rfl) (by decide) rfl rfl (by decide) (fun w' => x_bin h.k rfl rfl rfl (ib_xor (U_xor _ _))) (fun a h => ?_)
        refine d_takeP h (fun _ => HS) HN 29 rfl (by kernel_rfl) (by kernel_rfl) (by kernel_rfl) (by decide) rfl rfl (by decide) (fun w' => x_bin h.k rfl rfl rfl (ib_add (U_add _ _))) (fun a h => ?_)
        refine d_alone 30 rfl (by kernel_rfl) (fun K hK => ?_)
        refine s_bslice1 h rfl rfl rfl (by decide) Try.underlying95 zi_uint32 rfl rfl (by simp [Value.oneCell']) (by decide) (by decide) (fun a w g106 h => ?_)
        replace HS := h.m.tail
        refine hK _ _ (fun _ _ => HS) ?_
        clear hK
        refine d_alone 31 rfl (by kernel_rfl) (fun K hK => ?_)
        refine s_append h rfl rfl rfl (by decide) Try.underlying95 zb_uint32 rfl (by decide) rfl 1 rfl rfl _ rfl (h.m.rdBox (i := 0) rfl 0) (by simp [Value.oneCell']) (by omega) (by unfold maxLen; omega) (fun a w v107 h => ?_)
        obtain ⟨A107, c107, rfl, _, _, _⟩ := h.m.rdRow (i := 1) rfl
        refine hK _ _ (fun hne _ => absurd rfl hne) ?_
        clear hK
        refine d_takeP h (fun hl => absurd hl (by decide)) HN 32 rfl (by kernel_rfl) (by kernel_rfl) (by kernel_rfl) (by decide) rfl rfl (by decide) (fun w' => x_assign h.k _ rfl rfl) (fun a h => ?_)
        refine d_done (by kernel_rfl) (HE _ _ ?_) _
        refine e_blkN ?_
        refine e_thenN ?_
        refine c_r ?_
        refine sMV h (fun a h => ?_)
        refine s_bin h rfl rfl rfl (by decide) rfl rfl (ib_add (nw64 (by omega))) (fun a h => ?_)
        refine sAV h (fun a h => ?_)
        refine l_nil ?_
        have h := h.pick [1, 2, 3, 4, 5] (by decide) rfl
        have hnx : ucs (sched P (t + 1)) = ucs (sched P t) ++ [.int .u32 (U (nextW P (sched P t)))] := by rw [sched]; simp [ucs, uc]
        rw [nextW_hi P t hhi] at hnx
        exact e_thenN ⟨m' - 1, by omega, t + 1, A107, c107, by omega, by rw [hnx]; exact h.has (by exact ⟨rfl, rfl, rfl, rfl, rfl, rfl, rfl, trivial⟩)⟩
    · have hge64 : t = 64 := by have := of_decide_eq_false hb; omega
      subst hge64
      obtain ⟨gw, cw, e10, hcw, hcw2⟩ := h.m.rowAt (i := 0) rfl (by omega)
      cases e10
      obtain ⟨x0, x1, x2, x3, x4, x5, x6, x7, hx⟩ := eight (pieces_length M k)
      rw [hx] at h
      refine wp_exit ?_
      refine e_thenX ?_
      refine e_thenX ?_
      refine e_blkX ?_
      refine e_thenN ?_
      refine c_rs ?_
      refine sMV h (fun a h => ?_)
      refine s_iaddr h rfl rfl rfl (by decide) Try.underlying95 sz_uint32 rfl rfl (m := 0) rfl (by decide) (r := 0) (by omega) (fun a h => ?_)
      refine s_ld h rfl rfl rfl (by decide) Try.underlying106 rfl rfl (h.m.cellRow (i := 1) rfl (by rfl)) (fun a h => ?_)
      refine sAV h (fun a h => ?_)
      refine l_end ?_
      refine c_rs ?_
      refine sMV h (fun a h => ?_)
      refine s_iaddr h rfl rfl rfl (by decide) Try.underlying95 sz_uint32 rfl rfl (m := 1) rfl (by decide) (r := 1) (by omega) (fun a h => ?_)
      refine s_ld h rfl rfl rfl (by decide) Try.underlying106 rfl rfl (h.m.cellRow (i := 1) rfl (by rfl)) (fun a h => ?_)
      refine sAV h (fun a h => ?_)
      refine l_end ?_
      refine c_rs ?_
      refine sMV h (fun a h => ?_)
      refine s_iaddr h rfl rfl rfl (by decide) Try.underlying95 sz_uint32 rfl rfl (m := 2) rfl (by decide) (r := 2) (by omega) (fun a h => ?_)
      refine s_ld h rfl rfl rfl (by decide) Try.underlying106 rfl rfl (h.m.cellRow (i := 1) rfl (by rfl)) (fun a h => ?_)
      refine sAV h (fun a h => ?_)
      refine l_end ?_
      refine c_rs ?_
      refine sMV h (fun a h => ?_)
      refine s_iaddr h rfl rfl rfl (by decide) Try.underlying95 sz_uint32 rfl rfl (m := 3) rfl (by decide) (r := 3) (by omega) (fun a h => ?_)
      refine s_ld h rfl rfl rfl (by decide) Try.underlying106 rfl rfl (h.m.cellRow (i := 1) rfl (by rfl)) (fun a h => ?_)
      refine sAV h (fun a h => ?_)
      refine l_end ?_
      refine c_rs ?_
      refine sMV h (fun a h => ?_)
      refine s_iaddr h rfl rfl rfl (by decide) Try.underlying95 sz_uint32 rfl rfl (m := 4) rfl (by decide) (r := 4) (by omega) (fun a h => ?_)
      refine s_ld h rfl rfl rfl (by decide) Try.underlying106 rfl rfl (h.m.cellRow (i := 1) rfl (by rfl)) (fun a h => ?_)
      refine sAV h (fun a h => ?_)
      refine l_end ?_
      refine c_rs ?_
      refine sMV h (fun a h => ?_)
      refine s_iaddr h rfl rfl rfl (by decide) Try.underlying95 sz_uint32 rfl rfl (m := 5) rfl (by decide) (r := 5) (by omega) (fun a h => ?_)
      refine s_ld h rfl rfl rfl (by decide) Try.underlying106 rfl rfl (h.m.cellRow (i := 1) rfl (by rfl)) (fun a h => ?_)
      refine sAV h (fun a h => ?_)
      refine l_end ?_
      refine c_rs ?_
      refine sMV h (fun a h => ?_)
      refine s_iaddr h rfl rfl rfl (by decide) Try.underlying95 sz_uint32 rfl rfl (m := 6) rfl (by decide) (r := 6) (by omega) (fun a h => ?_)
      refine s_ld h rfl rfl rfl (by decide) Try.underlying106 rfl rfl (h.m.cellRow (i := 1) rfl (by rfl)) (fun a h => ?_)
      refine sAV h (fun a h => ?_)
      refine l_end ?_
      refine c_rs ?_
      refine sMV h (fun a h => ?_)
      refine s_iaddr h rfl rfl rfl (by decide) Try.underlying95 sz_uint32 rfl rfl (m := 7) rfl (by decide) (r := 7) (by omega) (fun a h => ?_)
      refine s_ld h rfl rfl rfl (by decide) Try.underlying106 rfl rfl (h.m.cellRow (i := 1) rfl (by rfl)) (fun a h => ?_)
      refine sAV h (fun a h => ?_)
      refine l_end ?_
      refine wp_seq ?_
      refine c_rs ?_
      refine sAV h (fun a h => ?_)
      refine l_end ?_
      refine wp_block ?_
      refine c_loop (fun m' a w => ∃ (t : Nat) (y0 y1 y2 y3 y4 y5 y6 y7 : UInt32), t + m' = 64 ∧ rnds (sched P 64) (pieces M k) t = [y0, y1, y2, y3, y4, y5, y6, y7] ∧ St 284 w0 (fun _ => False) [(0, .slice (some ⟨kb, ko, none⟩) 64 kc), (6, .pointer (some ⟨g6, 0, none⟩)), (7, .slice (some ⟨gm, 0, none⟩) M.length cm), (8, .slice (some ⟨gs, 0, none⟩) 8 cs), (9, .int .i64 ((64 * k : Nat) : Int)), (10, .slice (some ⟨gw, 0, none⟩) 64 c10), (14, .int .u32 (U y0)), (15, .int .u32 (U y1)), (16, .int .u32 (U y2)), (17, .int .u32 (U y3)), (18, .int .u32 (U y4)), (19, .int .u32 (U y5)), (20, .int .u32 (U y6)), (21, .int .u32 (U y7)), (22, .int .i64 (t : Int))] [.row (.slice (some ⟨gw, 0, none⟩) 64 c10) 106 1 64 (ucs (sched P 64)), .row (.slice (some ⟨gs, 0, none⟩) 8 cs) 106 1 8 (ucs [x0, x1, x2, x3, x4, x5, x6, x7]), .row (.slice (some ⟨gm, 0, none⟩) M.length cm) 5 1 M.length (by8 M), .box g6 84 (by8 (List.replicate 32 0)), .ro (rdP (some ⟨kb, ko, none⟩) (ucs kindsL))] a w) 64 ⟨0, x0, x1, x2, x3, x4, x5, x6, x7, by omega, hx, h.has (by exact ⟨rfl, rfl, rfl, rfl, rfl, rfl, rfl, rfl, rfl, rfl, rfl, rfl, rfl, rfl, rfl, trivial⟩)⟩ (fun m' a w hI => ?_)
      obtain ⟨t, y0, y1, y2, y3, y4, y5, y6, y7, htm, hy, h⟩ := hI
      refine wp_seq ?_
      refine c_rs ?_
      refine sMV h (fun a h => ?_)
      refine s_bin h rfl rfl rfl (by decide) rfl rfl (ib_lss) (fun a h => ?_)
      refine l_end ?_
      refine c_cond h rfl (fun hb => ?_) (fun hb => ?_)
      · have hlt64 : t < 64 := by have := of_decide_eq_true hb; omega
        have hw_ := ucs_getD (sched P 64) t (by rw [sched_length]; exact hlt64)
        have hkk := ucs_getD kindsL t (by exact hlt64)
        refine wp_skip ?_
        refine e_thenN ?_
        refine wp_seq ?_
        refine wp_block ?_
        refine wp_seq ?_
        -- region 29 DRAWS
        refine d_start h (Mem _ _ _) 30 30 rfl (by kernel_rfl) (fun _ _ _ _ _ h => h) (fun _ h => h) (fun Q a w HE HN h HS => ?_)
        refine d_takeP h (fun _ => HS) HN 0 rfl (by kernel_rfl) (by kernel_rfl) (by kernel_rfl) (by decide) rfl rfl (by decide) (fun w' => x_move h.k _ rfl rfl) (fun a h => ?_)
        refine d_takeP h (fun _ => HS) HN 1 rfl (by kernel_rfl) (by kernel_rfl) (by kernel_rfl) (by decide) rfl rfl (by decide) (fun w' => x_move h.k _ rfl rfl) (fun a h => ?_)
        refine d_takeP h (fun _ => HS) HN 3 rfl (by kernel_rfl) (by kernel_rfl) (by kernel_rfl) (by decide) rfl rfl (by decide) (fun w' => x_move h.k _ rfl rfl) (fun a h => ?_)
        refine d_takeP h (fun _ => HS) HN 6 rfl (by kernel_rfl) (by kernel_rfl) (by kernel_rfl) (by decide) rfl rfl (by decide) (fun w' => x_move h.k _ rfl rfl) (fun a h => ?_)
        refine d_takeP h (fun _ => HS) HN 10 rfl (by kernel_rfl) (by kernel_rfl) (by kernel_rfl) (by decide) rfl rfl (by decide) (fun w' => x_move h.k _ rfl rfl) (fun a h => ?_)
        refine d_takeP h (fun _ => HS) HN 11 rfl (by kernel_rfl) (by kernel_rfl) (by kernel_rfl) (by decide) rfl rfl (by decide) (fun w' => x_move h.k _ rfl rfl) (fun a h => ?_)
        refine d_takeP h (fun _ => HS) HN 12 rfl (by kernel_rfl) (by kernel_rfl) (by kernel_rfl) (by decide) rfl rfl (by decide) (fun w' => x_bin h.k rfl rfl rfl (ib_and (U_and _ _))) (fun a h => ?_)
        refine d_takeP h (fun _ => HS) HN 13 rfl (by kernel_rfl) (by kernel_rfl) (by kernel_rfl) (by decide) rfl rfl (by decide) (fun w' => x_move h.k _ rfl rfl) (fun a h => ?_)
        refine d_takeP h (fun _ => HS) HN 14 rfl (by kernel_rfl) (by kernel_rfl) (by kernel_rfl) (by decide) rfl rfl (by decide) (fun w' => x_bin h.k rfl rfl rfl (ib_sub (U_sub _))) (fun a h => ?_)
        refine d_takeP h (fun _ => HS) HN 15 rfl (by kernel_rfl) (by kernel_rfl) (by kernel_rfl) (by decide) rfl rfl (by decide) (fun w' => x_move h.k _ rfl rfl) (fun a h => ?_)
        refine d_takeP h (fun _ => HS) HN 16 rfl (by kernel_rfl) (by kernel_rfl) (by kernel_rfl) (by decide) rfl rfl (by decide) (fun w' => x_bin h.k rfl rfl rfl (ib_and (U_and _ _))) (fun a h => ?_)
        refine d_takeP h (fun _ => HS) HN 17 rfl (by kernel_rfl) (by kernel_rfl) (by kernel_rfl) (by decide) rfl rfl (by decide) (fun w' => x_bin h.k rfl rfl rfl (ib_xor (U_xor _ _))) (fun a h => ?_)
        refine d_takeP h (fun _ => HS) HN 19 rfl (by kernel_rfl) (by kernel_rfl) (by kernel_rfl) (by decide) rfl rfl (by decide) (fun w' => x_move h.k _ rfl rfl) (fun a h => ?_)
        refine d_takeP h (fun _ => HS) HN 20 rfl (by kernel_rfl) (by kernel_rfl) (by kernel_rfl) (by decide) rfl rfl (by decide) (fun w' => x_move h.k _ rfl rfl) (fun a h => ?_)
        refine d_takeP h (fun _ => HS) HN 21 rfl (by kernel_rfl) (by kernel_rfl) (by kernel_rfl) (by decide) rfl rfl (by decide) (fun w' => x_iaddr h.k rfl Try.underlying95 sz_uint32 rfl rfl (m := t) (by omega) (by omega) (r := ko + t) (by omega)) (fun a h => ?_)
        refine d_take h HS HN 22 rfl (by kernel_rfl) (by kernel_rfl) (by kernel_rfl) (by kernel_rfl) (by kernel_rfl) rfl rfl (by decide) (fun w' hw => x_ld h.k rfl Try.underlying106 rfl rfl (Rd.at (hw.ok 4 _ rfl) _ (hkk))) (fun a h => ?_)
        refine d_takeP h (fun _ => HS) HN 24 rfl (by kernel_rfl) (by kernel_rfl) (by kernel_rfl) (by decide) rfl rfl (by decide) (fun w' => x_move h.k _ rfl rfl) (fun a h => ?_)
        refine d_takeP h (fun _ => HS) HN 25 rfl (by kernel_rfl) (by kernel_rfl) (by kernel_rfl) (by decide) rfl rfl (by decide) (fun w' => x_move h.k _ rfl rfl) (fun a h => ?_)
        refine d_takeP h (fun _ => HS) HN 26 rfl (by kernel_rfl) (by kernel_rfl) (by kernel_rfl) (by decide) rfl rfl (by decide) (fun w' => x_iaddr h.k rfl Try.underlying95 sz_uint32 rfl rfl (m := t) (by omega) (by omega) (r := t) (by omega)) (fun a h => ?_)
        refine d_take h HS HN 27 rfl (by kernel_rfl) (by kernel_rfl) (by kernel_rfl) (by kernel_rfl) (by kernel_rfl) rfl rfl (by decide) (fun w' hw => x_ld h.k rfl Try.underlying106 rfl rfl (hw.cellRow (i := 0) rfl hw_)) (fun a h => ?_)
        refine d_alone 2 rfl (by kernel_rfl) (fun K hK => ?_)
        refine s_callB h rfl rfl rfl (by decide) Try.func104 rfl rfl rfl (rturn_ok _ 6 (by decide) w) (fun a w hb h => ?_)
        refine hK _ _ (fun _ _ => HS.ext hb) ?_
        replace HS := HS.ext hb
        clear hK
        refine d_alone 4 rfl (by kernel_rfl) (fun K hK => ?_)
        refine s_callB h rfl rfl rfl (by decide) Try.func104 rfl rfl rfl (rturn_ok _ 11 (by decide) w) (fun a w hb h => ?_)
        refine hK _ _ (fun _ _ => HS.ext hb) ?_
        replace HS := HS.ext hb
        clear hK
        refine d_takeP h (fun _ => HS) HN 5 rfl (by kernel_rfl) (by kernel_rfl) (by kernel_rfl) (by decide) rfl rfl (by decide) (fun w' => x_bin h.k rfl rfl rfl (ib_xor (U_xor _ _))) (fun a h => ?_)
        refine d_alone 7 rfl (by kernel_rfl) (fun K hK => ?_)
        refine s_callB h rfl rfl rfl (by decide) Try.func104 rfl rfl rfl (rturn_ok _ 25 (by decide) w) (fun a w hb h => ?_)
        refine hK _ _ (fun _ _ => HS.ext hb) ?_
        replace HS := HS.ext hb
        clear hK
        refine d_takeP h (fun _ => HS) HN 8 rfl (by kernel_rfl) (by kernel_rfl) (by kernel_rfl) (by decide) rfl rfl (by decide) (fun w' => x_bin h.k rfl rfl rfl (ib_xor (U_xor _ _))) (fun a h => ?_)
        refine d_takeP h (fun _ => HS) HN 9 rfl (by kernel_rfl) (by kernel_rfl) (by kernel_rfl) (by decide) rfl rfl (by decide) (fun w' => x_bin h.k rfl rfl rfl (ib_add (U_add _ _))) (fun a h => ?_)
        refine d_takeP h (fun _ => HS) HN 18 rfl (by kernel_rfl) (by kernel_rfl) (by kernel_rfl) (by decide) rfl rfl (by decide) (fun w' => x_bin h.k rfl rfl rfl (ib_add (U_add _ _))) (fun a h => ?_)
        refine d_takeP h (fun _ => HS) HN 23 rfl (by kernel_rfl) (by kernel_rfl) (by kernel_rfl) (by decide) rfl rfl (by decide) (fun w' => x_bin h.k rfl rfl rfl (ib_add (U_add _ _))) (fun a h => ?_)
        refine d_takeP h (fun _ => HS) HN 28 rfl (by kernel_rfl) (by kernel_rfl) (by kernel_rfl) (by decide) rfl rfl (by decide) (fun w' => x_bin h.k rfl rfl rfl (ib_add (U_add _ _))) (fun a h => ?_)
        refine d_takeP h (fun _ => HS) HN 29 rfl (by kernel_rfl) (by kernel_rfl) (by kernel_rfl) (by decide) rfl rfl (by decide) (fun w' => x_assign h.k _ rfl rfl) (fun a h => ?_)
        refine d_done (by kernel_rfl) (HE _ _ ?_) _
        refine e_thenN ?_
        refine c_rs ?_
        refine sMV h (fun a h => ?_)
        refine s_callB h rfl rfl rfl (by decide) Try.func104 rfl rfl rfl (rturn_ok _ 2 (by decide) w) (fun a w hb h => ?_)
        refine sMV h (fun a h => ?_)
        refine s_callB h rfl rfl rfl (by decide) Try.func104 rfl rfl rfl (rturn_ok _ 13 (by decide) w) (fun a w hb h => ?_)
        refine s_bin h rfl rfl rfl (by decide) rfl rfl (ib_xor (U_xor _ _)) (fun a h => ?_)
        refine sMV h (fun a h => ?_)
        refine s_callB h rfl rfl rfl (by decide) Try.func104 rfl rfl rfl (rturn_ok _ 22 (by decide) w) (fun a w hb h => ?_)
        refine s_bin h rfl rfl rfl (by decide) rfl rfl (ib_xor (U_xor _ _)) (fun a h => ?_)
        refine sMV h (fun a h => ?_)
        refine sMV h (fun a h => ?_)
        refine s_bin h rfl rfl rfl (by decide) rfl rfl (ib_and (U_and _ _)) (fun a h => ?_)
        refine sMV h (fun a h => ?_)
        refine sMV h (fun a h => ?_)
        refine s_bin h rfl rfl rfl (by decide) rfl rfl (ib_and (U_and _ _)) (fun a h => ?_)
        refine s_bin h rfl rfl rfl (by decide) rfl rfl (ib_xor (U_xor _ _)) (fun a h => ?_)
        refine sMV h (fun a h => ?_)
        refine sMV h (fun a h => ?_)
        refine s_bin h rfl rfl rfl (by decide) rfl rfl (ib_and (U_and _ _)) (fun a h => ?_)
        refine s_bin h rfl rfl rfl (by decide) rfl rfl (ib_xor (U_xor _ _)) (fun a h => ?_)
        refine s_bin h rfl rfl rfl (by decide) rfl rfl (ib_add (U_add _ _)) (fun a h => ?_)
        refine sAV h (fun a h => ?_)
        refine l_end ?_
        refine c_rs ?_
        refine sMV h (fun a h => ?_)
        refine sAV h (fun a h => ?_)
        refine l_end ?_
        refine c_rs ?_
        refine sMV h (fun a h => ?_)
        refine sAV h (fun a h => ?_)
        refine l_end ?_
        refine c_rs ?_
        refine sMV h (fun a h => ?_)
        refine sAV h (fun a h => ?_)
        refine l_end ?_
        refine c_rs ?_
        refine sMV h (fun a h => ?_)
        refine sMV h (fun a h => ?_)
        refine s_bin h rfl rfl rfl (by decide) rfl rfl (ib_add (U_add _ _)) (fun a h => ?_)
        refine sAV h (fun a h => ?_)
        refine l_end ?_
        refine c_rs ?_
        refine sMV h (fun a h => ?_)
        refine sAV h (fun a h => ?_)
        refine l_end ?_
        refine c_rs ?_
        refine sMV h (fun a h => ?_)
        refine sAV h (fun a h => ?_)
        refine l_end ?_
        refine c_rs ?_
        refine sMV h (fun a h => ?_)
        refine sAV h (fun a h => ?_)
        refine l_end ?_
        refine c_r ?_
        refine sMV h (fun a h => ?_)
        refine sMV h (fun a h => ?_)
        refine s_bin h rfl rfl rfl (by decide) rfl rfl (ib_add (U_add _ _)) (fun a h => ?_)
        refine sAV h (fun a h => ?_)
        refine l_nil ?_
        refine e_blkN ?_
        refine e_thenN ?_
        refine c_r ?_
        refine sMV h (fun a h => ?_)
        refine s_bin h rfl rfl rfl (by decide) rfl rfl (ib_add (nw64 (by omega))) (fun a h => ?_)
        refine sAV h (fun a h => ?_)
        refine l_nil ?_
        have hnx : rnds (sched P 64) (pieces M k) (t + 1) = rnd (kindsL.getD t 0) ((sched P 64).getD t 0) [y0, y1, y2, y3, y4, y5, y6, y7] := by rw [← hy]; rfl
        simp only [ch_eq, maj_eq] at h
        exact e_thenN ⟨m' - 1, by omega, t + 1, _, _, _, _, _, _, _, _, by omega, hnx, h.has (by exact ⟨rfl, rfl, rfl, rfl, rfl, rfl, rfl, rfl, rfl, rfl, rfl, rfl, rfl, rfl, rfl, trivial⟩)⟩
      · have hge64 : t = 64 := by have := of_decide_eq_false hb; omega
        subst hge64
        refine wp_exit ?_
        refine e_thenX ?_
        refine e_thenX ?_
        refine e_blkX ?_
        refine e_thenN ?_
        -- region 39 DRAWS
        refine d_start h (Mem _ _ _) 42 42 rfl (by kernel_rfl) (fun _ _ _ _ _ h => h) (fun _ h => h) (fun Q a w HE HN h HS => ?_)
        refine d_takeP h (fun _ => HS) HN 0 rfl (by kernel_rfl) (by kernel_rfl) (by kernel_rfl) (by decide) rfl rfl (by decide) (fun w' => x_move h.k _ rfl rfl) (fun a h => ?_)
        refine d_takeP h (fun _ => HS) HN 1 rfl (by kernel_rfl) (by kernel_rfl) (by kernel_rfl) (by decide) rfl rfl (by decide) (fun w' => x_iaddr h.k rfl Try.underlying95 sz_uint32 rfl rfl (m := 0) rfl (by decide) (r := 0) (by omega)) (fun a h => ?_)
        refine d_take h HS HN 2 rfl (by kernel_rfl) (by kernel_rfl) (by kernel_rfl) (by kernel_rfl) (by kernel_rfl) rfl rfl (by decide) (fun w' hw => x_ld h.k rfl Try.underlying106 rfl rfl (hw.cellRow (i := 1) rfl (by rfl))) (fun a h => ?_)
        refine d_takeP h (fun _ => HS) HN 3 rfl (by kernel_rfl) (by kernel_rfl) (by kernel_rfl) (by decide) rfl rfl (by decide) (fun w' => x_move h.k _ rfl rfl) (fun a h => ?_)
        refine d_takeP h (fun _ => HS) HN 4 rfl (by kernel_rfl) (by kernel_rfl) (by kernel_rfl) (by decide) rfl rfl (by decide) (fun w' => x_bin h.k rfl rfl rfl (ib_add (U_add _ _))) (fun a h => ?_)
        refine d_takeP h (fun _ => HS) HN 5 rfl (by kernel_rfl) (by kernel_rfl) (by kernel_rfl) (by decide) rfl rfl (by decide) (fun w' => x_move h.k _ rfl rfl) (fun a h => ?_)
        refine d_takeP h (fun _ => HS) HN 6 rfl (by kernel_rfl) (by kernel_rfl) (by kernel_rfl) (by decide) rfl rfl (by decide) (fun w' => x_iaddr h.k rfl Try.underlying95 sz_uint32 rfl rfl (m := 1) rfl (by decide) (r := 1) (by omega)) (fun a h => ?_)
        refine d_take h HS HN 7 rfl (by kernel_rfl) (by kernel_rfl) (by kernel_rfl) (by kernel_rfl) (by kernel_rfl) rfl rfl (by decide) (fun w' hw => x_ld h.k rfl Try.underlying106 rfl rfl (hw.cellRow (i := 1) rfl (by rfl))) (fun a h => ?_)
        refine d_takeP h (fun _ => HS) HN 8 rfl (by kernel_rfl) (by kernel_rfl) (by kernel_rfl) (by decide) rfl rfl (by decide) (fun w' => x_move h.k _ rfl rfl) (fun a h => ?_)
        refine d_takeP h (fun _ => HS) HN 9 rfl (by kernel_rfl) (by kernel_rfl) (by kernel_rfl) (by decide) rfl rfl (by decide) (fun w' => x_bin h.k rfl rfl rfl (ib_add (U_add _ _))) (fun a h => ?_)
        refine d_takeP h (fun _ => HS) HN 10 rfl (by kernel_rfl) (by kernel_rfl) (by kernel_rfl) (by decide) rfl rfl (by decide) (fun w' => x_move h.k _ rfl rfl) (fun a h => ?_)
        refine d_takeP h (fun _ => HS) HN 11 rfl (by kernel_rfl) (by kernel_rfl) (by kernel_rfl) (by decide) rfl rfl (by decide) (fun w' => x_iaddr h.k rfl Try.underlying95 sz_uint32 rfl rfl (m := 2) rfl (by decide) (r := 2) (by omega)) (fun a h => ?_)
        refine d_take h HS HN 12 rfl (by kernel_rfl) (by kernel_rfl) (by kernel_rfl) (by kernel_rfl) (by kernel_rfl) rfl rfl (by decide) (fun w' hw => x_ld h.k rfl Try.underlying106 rfl rfl (hw.cellRow (i := 1) rfl (by rfl))) (fun a h => ?_)
        refine d_takeP h (fun _ => HS) HN 13 rfl (by kernel_rfl) (by kernel_rfl) (by kernel_rfl) (by decide) rfl rfl (by decide) (fun w' => x_move h.k _ rfl rfl) (fun a h => ?_)
        refine d_takeP h (fun _ => HS) HN 14 rfl (by kernel_rfl) (by kernel_rfl) (by kernel_rfl) (by decide) rfl rfl (by decide) (fun w' => x_bin h.k rfl rfl rfl (ib_add (U_add _ _))) (fun a h => ?_)
        refine d_takeP h (fun _ => HS) HN 15 rfl (by kernel_rfl) (by kernel_rfl) (by kernel_rfl) (by decide) rfl rfl (by decide) (fun w' => x_move h.k _ rfl rfl) (fun a h => ?_)
        refine d_takeP h (fun _ => HS) HN 16 rfl (by kernel_rfl) (by kernel_rfl) (by kernel_rfl) (by decide) rfl rfl (by decide) (fun w' => x_iaddr h.k rfl Try.underlying95 sz_uint32 rfl rfl (m := 3) rfl (by decide) (r := 3) (by omega)) (fun a h => ?_)
        refine d_take h HS HN 17 rfl (by kernel_rfl) (by kernel_rfl) (by kernel_rfl) (by kernel_rfl) (by kernel_rfl) rfl rfl (by decide) (fun w' hw => x_ld h.k rfl Try.underlying106 rfl rfl (hw.cellRow (i := 1) rfl (by rfl))) (fun a h => ?_)
        refine d_takeP h (fun _ => HS) HN 18 rfl (by kernel_rfl) (by kernel_rfl) (by kernel_rfl) (by decide) rfl rfl (by decide) (fun w' => x_move h.k _ rfl rfl) (fun a h => ?_)
        refine d_takeP h (fun _ => HS) HN 19 rfl (by kernel_rfl) (by kernel_rfl) (by kernel_rfl) (by decide) rfl rfl (by decide) (fun w' => x_bin h.k rfl rfl rfl (ib_add (U_add _ _))) (fun a h => ?_)
        refine d_takeP h (fun _ => HS) HN 20 rfl (by kernel_rfl) (by kernel_rfl) (by kernel_rfl) (by decide) rfl rfl (by decide) (fun w' => x_move h.k _ rfl rfl) (fun a h => ?_)
        refine d_takeP h (fun _ => HS) HN 21 rfl (by kernel_rfl) (by kernel_rfl) (by kernel_rfl) (by decide) rfl rfl (by decide) (fun w' => x_iaddr h.k rfl Try.underlying95 sz_uint32 rfl rfl (m := 4) rfl (by decide) (r := 4) (by omega)) (fun a h => ?_)
        refine d_take h HS HN 22 rfl (by kernel_rfl) (by kernel_rfl) (by kernel_rfl) (by kernel_rfl) (by kernel_rfl) rfl rfl (by decide) (fun w' hw => x_ld h.k rfl Try.underlying106 rfl rfl (hw.cellRow (i := 1) rfl (by rfl))) (fun a h => ?_)
        refine d_takeP h (fun _ => HS) HN 23 rfl (by kernel_rfl) (by kernel_rfl) (by kernel_rfl) (by decide) rfl rfl (by decide) (fun w' => x_move h.k _ rfl rfl) (fun a h => ?_)
        refine d_takeP h (fun _ => HS) HN 24 rfl (by kernel_rfl) (by kernel_rfl) (by kernel_rfl) (by decide) rfl rfl (by decide) (fun w' => x_bin h.k rfl rfl rfl (ib_add (U_add _ _))) (fun a h => ?_)
        refine d_takeP h (fun _ => HS) HN 25 rfl (by kernel_rfl) (by kernel_rfl) (by kernel_rfl) (by decide) rfl rfl (by decide) (fun w' => x_move h.k _ rfl rfl) (fun a h => ?_)
        refine d_takeP h (fun _ => HS) HN 26 rfl (by kernel_rfl) (by kernel_rfl) (by kernel_rfl) (by decide) rfl rfl (by decide) (fun w' => x_iaddr h.k rfl Try.underlying95 sz_uint32 rfl rfl (m := 5) rfl (by decide) (r := 5) (by omega)) (fun a h => ?_)
        refine d_take h HS HN 27 rfl (by kernel_rfl) (by kernel_rfl) (by kernel_rfl) (by kernel_rfl) (by kernel_rfl) rfl rfl (by decide) (fun w' hw => x_ld h.k rfl Try.underlying106 rfl rfl (hw.cellRow (i := 1) rfl (by rfl))) (fun a h => ?_)
        refine d_takeP h (fun _ => HS) HN 28 rfl (by kernel_rfl) (by kernel_rfl) (by kernel_rfl) (by decide) rfl rfl (by decide) (fun w' => x_move h.k _ rfl rfl) (fun a h => ?_)
        refine d_takeP h (fun _ => HS) HN 29 rfl (by kernel_rfl) (by kernel_rfl) (by kernel_rfl) (by decide) rfl rfl (by decide) (fun w' => x_bin h.k rfl rfl rfl (ib_add (U_add _ _))) (fun a h => ?_)
        refine d_takeP h (fun _ => HS) HN 30 rfl (by kernel_rfl) (by kernel_rfl) (by kernel_rfl) (by decide) rfl rfl (by decide) (fun w' => x_move h.k _ rfl rfl) (fun a h => ?_)
        refine d_takeP h (fun _ => HS) HN 31 rfl (by kernel_rfl) (by kernel_rfl) (by kernel_rfl) (by decide) rfl rfl (by decide) (fun w' => x_iaddr h.k rfl Try.underlying95 sz_uint32 rfl rfl (m := 6) rfl (by decide) (r := 6) (by omega)) (fun a h => ?_)
        refine d_take h HS HN 32 rfl (by kernel_rfl) (by kernel_rfl) (by kernel_rfl) (by kernel_rfl) (by kernel_rfl) rfl rfl (by decide) (fun w' hw => x_ld h.k rfl Try.underlying106 rfl rfl (hw.cellRow (i := 1) rfl (by rfl))) (fun a h => ?_)
        refine d_takeP h (fun _ => HS) HN 33 rfl (by kernel_rfl) (by kernel_rfl) (by kernel_rfl) (by decide) rfl rfl (by decide) (fun w' => x_move h.k _ rfl rfl) (fun a h => ?_)
        refine d_takeP h (fun _ => HS) HN 34 rfl (by kernel_rfl) (by kernel_rfl) (by kernel_rfl) (by decide) rfl rfl (by decide) (fun w' => x_bin h.k rfl rfl rfl (ib_add (U_add _ _))) (fun a h => ?_)
        refine d_takeP h (fun _ => HS) HN 35 rfl (by kernel_rfl) (by kernel_rfl) (by kernel_rfl) (by decide) rfl rfl (by decide) (fun w' => x_move h.k _ rfl rfl) (fun a h => ?_)
        refine d_takeP h (fun _ => HS) HN 36 rfl (by kernel_rfl) (by kernel_rfl) (by kernel_rfl) (by decide) rfl rfl (by decide) (fun w' => x_iaddr h.k rfl Try.underlying95 sz_uint32 rfl rfl (m := 7) rfl (by decide) (r := 7) (by omega)) (fun a h => ?_)
        refine d_take h HS HN 37 rfl (by kernel_rfl) (by kernel_rfl) (by kernel_rfl) (by kernel_rfl) (by kernel_rfl) rfl rfl (by decide) (fun w' hw => x_ld h.k rfl Try.underlying106 rfl rfl (hw.cellRow (i := 1) rfl (by rfl))) (fun a h => ?_)
        refine d_takeP h (fun _ => HS) HN 38 rfl (by kernel_rfl) (by kernel_rfl) (by kernel_rfl) (by decide) rfl rfl (by decide) (fun w' => x_move h.k _ rfl rfl) (fun a h => ?_)
        refine d_takeP h (fun _ => HS) HN 39 rfl (by kernel_rfl) (by kernel_rfl) (by kernel_rfl) (by decide) rfl rfl (by decide) (fun w' => x_bin h.k rfl rfl rfl (ib_add (U_add _ _))) (fun a h => ?_)
        refine d_alone 40 rfl (by kernel_rfl) (fun K hK => ?_)
        refine s_bslice1 h rfl rfl rfl (by decide) Try.underlying95 zi_uint32 (vs := ucs (pieces M (k + 1))) (by rw [pieces_succ M k hlt, ← hPd, pieceS, hy, hx]; rfl) (by kernel_rfl) (ucs_one _) (by decide) (by decide) (fun a w g237 h => ?_)
        replace HS := h.m.tail
        refine hK _ _ (fun _ _ => HS) ?_
        clear hK
        refine d_takeP h (fun _ => HS) HN 41 rfl (by kernel_rfl) (by kernel_rfl) (by kernel_rfl) (by decide) rfl rfl (by decide) (fun w' => x_assign h.k _ rfl rfl) (fun a h => ?_)
        refine d_done (by kernel_rfl) (HE _ _ ?_) _
        refine e_blkN ?_
        refine e_thenN ?_
        refine c_r ?_
        refine sMV h (fun a h => ?_)
        refine s_bin h rfl rfl rfl (by decide) rfl rfl (ib_add (nw64 (by omega))) (fun a h => ?_)
        refine sAV h (fun a h => ?_)
        refine l_nil ?_
        have h := h.mem (h.m.asRow (i := 0) rfl 8 1 (by rw [ucs_length, pieces_length]) (by simp [maxLen]))
        have h := h.pick [0, 3, 4, 5] (by decide) rfl
        exact e_thenN ⟨m - 1, by omega, k + 1, g237, 8, by omega, by omega, by simp [maxLen], h.has (by exact ⟨rfl, rfl, rfl, rfl, rfl, trivial⟩)⟩
  · have hge : 64 * k = M.length := by have := of_decide_eq_false hb; omega
    have hfin : pieces M k = (absorb beginL (p ++ padL p.length)).1 := by unfold pieces; rw [hge, List.take_length, hM]
    obtain ⟨s, hsd⟩ : ∃ s, s = pieces M k := ⟨_, rfl⟩
    have hs8 : s.length = 8 := by rw [hsd]; exact pieces_length _ _
    have hsS : shaS p = wordsB s := by rw [hsd, hfin]; rfl
    rw [← hsd] at h
    refine wp_exit ?_
    refine e_thenX ?_
    refine e_thenX ?_
    refine e_blkX ?_
    refine e_thenN ?_
    refine c_rs ?_
    refine s_alloc h rfl rfl rfl (by decide) zi_A32_uint8 rfl (fun a w g25 h => ?_)
    refine l_end ?_
    refine wp_seq ?_
    refine c_rs ?_
    refine sAV h (fun a h => ?_)
    refine l_end ?_
    refine wp_block ?_
    refine c_loop (fun m a w => ∃ (k : Nat), k + m = 8 ∧ St 284 w0 (fun _ => False) [(6, .pointer (some ⟨g6, 0, none⟩)), (8, .slice (some ⟨gs, 0, none⟩) 8 cs), (25, .pointer (some ⟨g25, 0, none⟩)), (26, .int .i64 (k : Int))] [.box g25 84 (by8 (outK s k)), .row (.slice (some ⟨gs, 0, none⟩) 8 cs) 106 1 8 (ucs s), .box g6 84 (by8 (List.replicate 32 0))] a w) 8 ⟨0, rfl, (h.pick [0, 1, 3] (by decide) rfl).has (by exact ⟨rfl, rfl, rfl, rfl, trivial⟩)⟩ (fun m a w hI => ?_)
    obtain ⟨k, hk8, h⟩ := hI
    refine wp_seq ?_
    refine c_rs ?_
    refine sMV h (fun a h => ?_)
    refine s_bin h rfl rfl rfl (by decide) rfl rfl (ib_lss) (fun a h => ?_)
    refine l_end ?_
    refine c_cond h rfl (fun hb => ?_) (fun hb => ?_)
    · have hlt : k < 8 := by have := of_decide_eq_true hb; omega
      have hw_ := ucs_getD s k (by omega)
      have hol : (by8 (outK s k)).length = 32 := by rw [by8_length, outK_length _ _ hs8 (by omega)]
      refine wp_skip ?_
      refine e_thenN ?_
      refine wp_seq ?_
      refine wp_block ?_
      refine c_rs ?_
      refine sMV h (fun a h => ?_)
      refine s_bin h rfl rfl rfl (by decide) rfl rfl (ib_mul (nw64 (by omega))) (fun a h => ?_)
      refine sMV h (fun a h => ?_)
      refine sMV h (fun a h => ?_)
      refine s_iaddr h rfl rfl rfl (by decide) Try.underlying95 sz_uint32 rfl rfl (m := k) (by omega) (by omega) (r := k) (by omega) (fun a h => ?_)
      refine s_ld h rfl rfl rfl (by decide) Try.underlying106 rfl rfl (h.m.cellRow (i := 1) rfl hw_) (fun a h => ?_)
      refine s_bin h rfl rfl rfl (by decide) rfl rfl (ib_quou ⟨(U_range _).1, (U_range _).2, by decide⟩) (fun a h => ?_)
      refine s_conv h rfl rfl rfl (by decide) Try.underlying106 Try.underlying5 rfl (fun a h => ?_)
      refine s_iaddrA h rfl rfl rfl (by decide) Try.underlying84 sz_uint8 rfl rfl (m := 4 * k) (by omega) (by omega) (r := 4 * k) (by omega) (fun a h => ?_)
      refine s_stb h rfl rfl rfl sz_uint8 rfl rfl rfl 0 rfl (by (try simp only [List.length_set]); omega) (fun a w h => ?_)
      refine l_end ?_
      refine c_rs ?_
      refine sMV h (fun a h => ?_)
      refine s_bin h rfl rfl rfl (by decide) rfl rfl (ib_mul (nw64 (by omega))) (fun a h => ?_)
      refine s_bin h rfl rfl rfl (by decide) rfl rfl (ib_add (nw64 (by omega))) (fun a h => ?_)
      refine sMV h (fun a h => ?_)
      refine sMV h (fun a h => ?_)
      refine s_iaddr h rfl rfl rfl (by decide) Try.underlying95 sz_uint32 rfl rfl (m := k) (by omega) (by omega) (r := k) (by omega) (fun a h => ?_)
      refine s_ld h rfl rfl rfl (by decide) Try.underlying106 rfl rfl (h.m.cellRow (i := 1) rfl hw_) (fun a h => ?_)
      refine s_bin h rfl rfl rfl (by decide) rfl rfl (ib_quou ⟨(U_range _).1, (U_range _).2, by decide⟩) (fun a h => ?_)
      refine s_bin h rfl rfl rfl (by decide) rfl rfl (ib_remu (Int.ediv_nonneg (U_range _).1 (by decide)) (by decide)) (fun a h => ?_)
      refine s_conv h rfl rfl rfl (by decide) Try.underlying106 Try.underlying5 rfl (fun a h => ?_)
      refine s_iaddrA h rfl rfl rfl (by decide) Try.underlying84 sz_uint8 rfl rfl (m := 4 * k + 1) (by omega) (by omega) (r := 4 * k + 1) (by omega) (fun a h => ?_)
      refine s_stb h rfl rfl rfl sz_uint8 rfl rfl rfl 0 rfl (by (try simp only [List.length_set]); omega) (fun a w h => ?_)
      refine l_end ?_
      refine c_rs ?_
      refine sMV h (fun a h => ?_)
      refine s_bin h rfl rfl rfl (by decide) rfl rfl (ib_mul (nw64 (by omega))) (fun a h => ?_)
      refine s_bin h rfl rfl rfl (by decide) rfl rfl (ib_add (nw64 (by omega))) (fun a h => ?_)
      refine sMV h (fun a h => ?_)
      refine sMV h (fun a h => ?_)
      refine s_iaddr h rfl rfl rfl (by decide) Try.underlying95 sz_uint32 rfl rfl (m := k) (by omega) (by omega) (r := k) (by omega) (fun a h => ?_)
      refine s_ld h rfl rfl rfl (by decide) Try.underlying106 rfl rfl (h.m.cellRow (i := 1) rfl hw_) (fun a h => ?_)
      refine s_bin h rfl rfl rfl (by decide) rfl rfl (ib_quou ⟨(U_range _).1, (U_range _).2, by decide⟩) (fun a h => ?_)
      refine s_bin h rfl rfl rfl (by decide) rfl rfl (ib_remu (Int.ediv_nonneg (U_range _).1 (by decide)) (by decide)) (fun a h => ?_)
      refine s_conv h rfl rfl rfl (by decide) Try.underlying106 Try.underlying5 rfl (fun a h => ?_)
      refine s_iaddrA h rfl rfl rfl (by decide) Try.underlying84 sz_uint8 rfl rfl (m := 4 * k + 2) (by omega) (by omega) (r := 4 * k + 2) (by omega) (fun a h => ?_)
      refine s_stb h rfl rfl rfl sz_uint8 rfl rfl rfl 0 rfl (by (try simp only [List.length_set]); omega) (fun a w h => ?_)
      refine l_end ?_
      refine c_r ?_
      refine sMV h (fun a h => ?_)
      refine s_bin h rfl rfl rfl (by decide) rfl rfl (ib_mul (nw64 (by omega))) (fun a h => ?_)
      refine s_bin h rfl rfl rfl (by decide) rfl rfl (ib_add (nw64 (by omega))) (fun a h => ?_)
      refine sMV h (fun a h => ?_)
      refine sMV h (fun a h => ?_)
      refine s_iaddr h rfl rfl rfl (by decide) Try.underlying95 sz_uint32 rfl rfl (m := k) (by omega) (by omega) (r := k) (by omega) (fun a h => ?_)
      refine s_ld h rfl rfl rfl (by decide) Try.underlying106 rfl rfl (h.m.cellRow (i := 1) rfl hw_) (fun a h => ?_)
      refine s_bin h rfl rfl rfl (by decide) rfl rfl (ib_remu ((U_range _).1) (by decide)) (fun a h => ?_)
      refine s_conv h rfl rfl rfl (by decide) Try.underlying106 Try.underlying5 rfl (fun a h => ?_)
      refine s_iaddrA h rfl rfl rfl (by decide) Try.underlying84 sz_uint8 rfl rfl (m := 4 * k + 3) (by omega) (by omega) (r := 4 * k + 3) (by omega) (fun a h => ?_)
      refine s_stb h rfl rfl rfl sz_uint8 rfl rfl rfl 0 rfl (by (try simp only [List.length_set]); omega) (fun a w h => ?_)
      refine l_nil ?_
      refine e_blkN ?_
      refine e_thenN ?_
      refine c_r ?_
      refine sMV h (fun a h => ?_)
      refine s_bin h rfl rfl rfl (by decide) rfl rfl (ib_add (nw64 (by omega))) (fun a h => ?_)
      refine sAV h (fun a h => ?_)
      refine l_nil ?_
      rw [outK_sets s k hs8 hlt _ _ _ _ (be4 _)] at h
      exact e_thenN ⟨m - 1, by omega, k + 1, by omega, h.has (by exact ⟨rfl, rfl, rfl, rfl, trivial⟩)⟩
    · have hge : k = 8 := by have := of_decide_eq_false hb; omega
      subst hge
      refine wp_exit ?_
      refine e_thenX ?_
      refine e_thenX ?_
      refine e_blkX ?_
      refine e_thenN ?_
      refine c_rs ?_
      refine s_ldW h rfl rfl rfl (by decide) ag_A32_uint8 rfl 0 rfl (by rw [by8_length, outK_length _ _ hs8 (by omega)]) (fun a h => ?_)
      refine s_stW h rfl rfl rfl ag_A32_uint8 rfl rfl (by rw [by8_length, outK_length _ _ hs8 (by omega)]) (by8_one _) 2 rfl (by rfl) (fun a w h => ?_)
      refine l_end ?_
      refine wp_ret ?_
      refine r_ret1 h rfl (rv_cellA h rfl 2 rfl ag_A32_uint8 (by rw [by8_length, outK_length _ _ hs8 (by omega)])) ⟨?_, h.m.below⟩
      rw [outK_full _ hs8, hsS]
end Go.Proofs.Ytohgmggdfmjgnaa
