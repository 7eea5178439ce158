/- Wd: Go functions as plain functions, and that they are so (written by xt.py). -/
import Derived.Test.YtohgmggdfmjgnaaWb
set_option linter.unusedVariables false
set_option linter.unusedSimpArgs false
namespace Go.Proofs.Ytohgmggdfmjgnaa
open Go.RowKit
def word_Put_l0 (Fu : Nat) (a0 : Int) (a1 : Int) : Nat → Int → Int → (List UInt8) → Option ((List UInt8))
  | 0, _, _, _ => none
  | k + 1, x20, x22, x24 => if x22 < x20 then ((ix x24.length (w64 ((w64 (a1 - 1)) - x22))).bind fun m36 => word_Put_l0 Fu a0 a1 k x20 (w64 (x22 + 1)) (x24.set m36 (i8 (i64_shr a0 ((u64I (w64 (8 * x22))).toNat))))) else (some x24)
def word_Put (Fu : Nat) (a0 : Int) (a1 : Int) : Option ((List UInt8) × Int) :=
  if (((((decide (a1 < 1)) || (decide (8 < a1))) || (decide (a0 < 0))) || (decide (4611686018427387904 < a0))) || ((decide (a1 < 8)) && (decide (i64_shr a0 ((u64I (w64 (8 * a1))).toNat) ≠ 0)))) = true then (some ([], 2)) else ((mkN 1 a1).bind fun n12 => (word_Put_l0 Fu a0 a1 Fu ((List.replicate n12 ((0 : UInt8) : UInt8)).length : Int) 0 (List.replicate n12 ((0 : UInt8) : UInt8))).bind fun x29 => some (x29, 0))
set_option maxRecDepth 100000 in
set_option maxHeartbeats 2000000 in
theorem word_Put_ok (Fu : Nat) {S0 : Snap} (a0 : Int) (hra0 : r64 a0) (a1 : Int) (hra1 : r64 a1) (r : (List UInt8) × Int) (hf : word_Put Fu a0 a1 = some r) (w0 : World) (hm : Mem w0 (ownL ([] ++ [.sn S0])) ([] ++ [.sn S0]) w0) :
    Calls Try.prog 63 #[.int .i64 a0, .int .i64 a1] w0 (Ret w0 S0 [] (fun v L1 S1 => ∃ (A46 : Option Addr), ∃ (c47 : Nat), ∃ (cs48 : List Value), v = .tuple #[.slice A46 r.1.length c47, .int .i64 r.2] ∧ L1 = [.row (.slice A46 r.1.length c47) 5 1 r.1.length cs48] ∧ reps ty8 S1 cs48 r.1 ∧ r64 r.2 ∧ True)) := by
  unfold word_Put at hf
  refine c_enterM Try.func63 rfl 55 rfl (by simp) _ hm _ rfl (fun a h => ?_)
  refine c_rs ?_
  refine sAV h (fun a h => ?_)
  refine sAV h (fun a h => ?_)
  refine l_end ?_
  refine wp_seq ?_
  refine c_rs ?_
  refine sMV h (fun a h => ?_)
  refine s_x h rfl rfl (by decide) (x_bin h.k rfl rfl rfl ib_lss) (fun a h => ?_)
  refine sMV h (fun a h => ?_)
  refine q_grp h 3 (t := 10) 13 ((decide (a1 < 1)) || (decide (8 < a1))) rfl (fun hB2 => ?_) (fun hB2 => ?_) (fun a w h => ?_)
  · refine g_no h rfl rfl rfl rfl hB2 rfl (by decide) (fun a h => ?_)
    refine g_no h rfl rfl rfl rfl hB2 rfl (by decide) (fun a h => ?_)
    refine s_x h rfl rfl (by decide) (x_pick (u' := undef) h.k rfl rfl (fun _ => rfl) (fun hh => absurd (hB2.symm.trans hh) (by decide))) (fun a h => ?_)
    exact (h.mid 2 rfl).val (by first | rfl | (rw [hB2]; first | rfl | simp))
  · refine g_yes h rfl rfl rfl rfl hB2 ?_
    refine sMV h (fun a h => ?_)
    refine g_yes h rfl rfl rfl rfl hB2 ?_
    refine s_x h rfl rfl (by decide) (x_bin h.k rfl rfl rfl ib_gtr) (fun a h => ?_)
    refine s_x h rfl rfl (by decide) (x_pick (u' := undef) h.k rfl rfl (fun hh => absurd (hB2.symm.trans hh) (by decide)) (fun _ => rfl)) (fun a h => ?_)
    exact (h.mid 2 rfl).val (by first | rfl | (rw [hB2]; first | rfl | simp))
  refine sMV h (fun a h => ?_)
  refine q_grp h 3 (t := 14) 17 (((decide (a1 < 1)) || (decide (8 < a1))) || (decide (a0 < 0))) rfl (fun hB6 => ?_) (fun hB6 => ?_) (fun a w h => ?_)
  · refine g_no h rfl rfl rfl rfl hB6 rfl (by decide) (fun a h => ?_)
    refine g_no h rfl rfl rfl rfl hB6 rfl (by decide) (fun a h => ?_)
    refine s_x h rfl rfl (by decide) (x_pick (u' := undef) h.k rfl rfl (fun _ => rfl) (fun hh => absurd (hB6.symm.trans hh) (by decide))) (fun a h => ?_)
    exact (h.mid 2 rfl).val (by first | rfl | (rw [hB6]; first | rfl | simp))
  · refine g_yes h rfl rfl rfl rfl hB6 ?_
    refine sMV h (fun a h => ?_)
    refine g_yes h rfl rfl rfl rfl hB6 ?_
    refine s_x h rfl rfl (by decide) (x_bin h.k rfl rfl rfl ib_lss) (fun a h => ?_)
    refine s_x h rfl rfl (by decide) (x_pick (u' := undef) h.k rfl rfl (fun hh => absurd (hB6.symm.trans hh) (by decide)) (fun _ => rfl)) (fun a h => ?_)
    exact (h.mid 2 rfl).val (by first | rfl | (rw [hB6]; first | rfl | simp))
  refine sMV h (fun a h => ?_)
  refine q_grp h 3 (t := 18) 21 ((((decide (a1 < 1)) || (decide (8 < a1))) || (decide (a0 < 0))) || (decide (4611686018427387904 < a0))) rfl (fun hB10 => ?_) (fun hB10 => ?_) (fun a w h => ?_)
  · refine g_no h rfl rfl rfl rfl hB10 rfl (by decide) (fun a h => ?_)
    refine g_no h rfl rfl rfl rfl hB10 rfl (by decide) (fun a h => ?_)
    refine s_x h rfl rfl (by decide) (x_pick (u' := undef) h.k rfl rfl (fun _ => rfl) (fun hh => absurd (hB10.symm.trans hh) (by decide))) (fun a h => ?_)
    exact (h.mid 2 rfl).val (by first | rfl | (rw [hB10]; first | rfl | simp))
  · refine g_yes h rfl rfl rfl rfl hB10 ?_
    refine sMV h (fun a h => ?_)
    refine g_yes h rfl rfl rfl rfl hB10 ?_
    refine s_x h rfl rfl (by decide) (x_bin h.k rfl rfl rfl ib_gtr) (fun a h => ?_)
    refine s_x h rfl rfl (by decide) (x_pick (u' := undef) h.k rfl rfl (fun hh => absurd (hB10.symm.trans hh) (by decide)) (fun _ => rfl)) (fun a h => ?_)
    exact (h.mid 2 rfl).val (by first | rfl | (rw [hB10]; first | rfl | simp))
  refine sMV h (fun a h => ?_)
  refine q_grp h 11 (t := 22) 33 (((((decide (a1 < 1)) || (decide (8 < a1))) || (decide (a0 < 0))) || (decide (4611686018427387904 < a0))) || ((decide (a1 < 8)) && (decide (i64_shr a0 ((u64I (w64 (8 * a1))).toNat) ≠ 0)))) rfl (fun hB14 => ?_) (fun hB14 => ?_) (fun a w h => ?_)
  · refine g_no h rfl rfl rfl rfl hB14 rfl (by decide) (fun a h => ?_)
    refine g_no h rfl rfl rfl rfl hB14 rfl (by decide) (fun a h => ?_)
    refine g_no h rfl rfl rfl rfl hB14 rfl (by decide) (fun a h => ?_)
    refine g_off h rfl rfl rfl rfl rfl (by decide) (fun a h => ?_)
    refine g_off h rfl rfl rfl rfl rfl (by decide) (fun a h => ?_)
    refine g_off h rfl rfl rfl rfl rfl (by decide) (fun a h => ?_)
    refine g_off h rfl rfl rfl rfl rfl (by decide) (fun a h => ?_)
    refine g_off h rfl rfl rfl rfl rfl (by decide) (fun a h => ?_)
    refine g_off h rfl rfl rfl rfl rfl (by decide) (fun a h => ?_)
    refine g_no h rfl rfl rfl rfl hB14 rfl (by decide) (fun a h => ?_)
    refine s_x h rfl rfl (by decide) (x_pick (u' := undef) h.k rfl rfl (fun _ => rfl) (fun hh => absurd (hB14.symm.trans hh) (by decide))) (fun a h => ?_)
    exact (h.mid 10 rfl).val (by first | rfl | (rw [hB14]; first | rfl | simp))
  · refine g_yes h rfl rfl rfl rfl hB14 ?_
    refine sMV h (fun a h => ?_)
    refine g_yes h rfl rfl rfl rfl hB14 ?_
    refine s_x h rfl rfl (by decide) (x_bin h.k rfl rfl rfl ib_lss) (fun a h => ?_)
    refine g_yes h rfl rfl rfl rfl hB14 ?_
    refine sMV h (fun a h => ?_)
    refine q_grp h 7 (t := 25) 32 ((decide (a1 < 8)) && (decide (i64_shr a0 ((u64I (w64 (8 * a1))).toNat) ≠ 0))) rfl (fun hB17 => ?_) (fun hB17 => ?_) (fun a w h => ?_)
    · refine g_yes h rfl rfl rfl rfl hB17 ?_
      refine sMV h (fun a h => ?_)
      refine g_yes h rfl rfl rfl rfl hB17 ?_
      refine sMV h (fun a h => ?_)
      refine g_yes h rfl rfl rfl rfl hB17 ?_
      refine s_x h rfl rfl (by decide) (x_bin h.k rfl rfl rfl (ib_mul rfl)) (fun a h => ?_)
      refine g_yes h rfl rfl rfl rfl hB17 ?_
      refine s_x h rfl rfl (by decide) (x_convE h.k rfl Try.underlying3 Try.underlying111 rfl (u64I_wrap _)) (fun a h => ?_)
      refine g_yes h rfl rfl rfl rfl hB17 ?_
      refine s_x h rfl rfl (by decide) (x_bin h.k rfl rfl rfl (ib_shr_i64 _ ((u64I (w64 (8 * a1))).toNat))) (fun a h => ?_)
      refine g_yes h rfl rfl rfl rfl hB17 ?_
      refine s_x h rfl rfl (by decide) (x_bin h.k rfl rfl rfl ib_neq) (fun a h => ?_)
      refine g_yes h rfl rfl rfl rfl hB14 ?_
      refine s_x h rfl rfl (by decide) (x_pick (u' := undef) h.k rfl rfl (fun _ => rfl) (fun hh => absurd (hB17.symm.trans hh) (by decide))) (fun a h => ?_)
      exact (h.mid 6 rfl).val (by first | rfl | (rw [hB17]; first | rfl | simp))
    · refine g_no h rfl rfl rfl rfl hB17 rfl (by decide) (fun a h => ?_)
      refine g_no h rfl rfl rfl rfl hB17 rfl (by decide) (fun a h => ?_)
      refine g_no h rfl rfl rfl rfl hB17 rfl (by decide) (fun a h => ?_)
      refine g_no h rfl rfl rfl rfl hB17 rfl (by decide) (fun a h => ?_)
      refine g_no h rfl rfl rfl rfl hB17 rfl (by decide) (fun a h => ?_)
      refine g_no h rfl rfl rfl rfl hB17 rfl (by decide) (fun a h => ?_)
      refine g_yes h rfl rfl rfl rfl hB14 ?_
      refine s_x h rfl rfl (by decide) (x_pick (u' := undef) h.k rfl rfl (fun hh => absurd (hB17.symm.trans hh) (by decide)) (fun _ => rfl)) (fun a h => ?_)
      exact (h.mid 6 rfl).val (by first | rfl | (rw [hB17]; first | rfl | simp))
    refine s_x h rfl rfl (by decide) (x_pick (u' := undef) h.k rfl rfl (fun hh => absurd (hB14.symm.trans hh) (by decide)) (fun _ => rfl)) (fun a h => ?_)
    exact (h.mid 4 rfl).val (by first | rfl | (rw [hB14]; first | rfl | simp))
  refine l_end ?_
  refine c_cond h rfl (fun hb => ?_) (fun hb => ?_)
  · rw [if_pos hb] at hf
    refine c_rs ?_
    refine sAV h (fun a h => ?_)
    refine sAV h (fun a h => ?_)
    refine l_end ?_
    refine wp_ret ?_
    refine e_thenR ?_
    obtain rfl := Option.some.inj hf
    have h := h.mem (h.m.nilrow 5 1)
    exact r_ret2 h rfl (rv_tmp h rfl) (rv_tmp h rfl) ⟨_, [.row (.slice none ([]).length 0) 5 1 ([]).length []], _, rfl, ⟨none, 0, [], rfl, rfl, (show reps ty8 S0 [] [] from rfl), (show r64 2 from ⟨by decide, by decide⟩), trivial⟩, rfl, (Up.refl _ _ _), h.m⟩
  · rw [if_neg (by rw [hb]; decide)] at hf
    refine wp_skip ?_
    refine e_thenN ?_
    refine c_rs ?_
    refine sMV h (fun a h => ?_)
    obtain ⟨n12, h13, hf⟩ := bsome hf
    refine q_make (T := ty8) (S := S0) h rfl rfl rfl (by decide) Try.underlying22 zb_uint8 rfl rfl (q := (0 : UInt8)) rfl rfl rfl h13 (fun a w A14 cs15 hq16 h => ?_)
    refine sAV h (fun a h => ?_)
    refine l_end ?_
    refine wp_seq ?_
    refine c_rs ?_
    refine sMV h (fun a h => ?_)
    have hr17 : r64 ((List.replicate n12 ((0 : UInt8) : UInt8)).length : Int) := len_r (h.m.rowLen (i := 0) rfl)
    refine s_x h rfl rfl (by decide) (x_len h.k rfl Try.underlying22 rfl) (fun a h => ?_)
    refine sMV h (fun a h => ?_)
    refine l_end ?_
    obtain ⟨o18, hl19, hf⟩ := bsome hf
    refine c_fin (fun a w => ∃ (x29 : List UInt8), ∃ (A30 : Option Addr), ∃ (c31 : Nat), ∃ (cs32 : List Value), x29 = o18 ∧ reps ty8 S0 cs32 x29 ∧ St 55 w0 (ownL ([] ++ [.sn S0])) [(6, .slice A30 x29.length c31)] [.row (.slice A30 x29.length c31) 5 1 x29.length cs32, .sn S0] a w) ?_ ?_
    · refine wp_block ?_
      refine c_loop (fun m35 a w => ∃ (x20 : Int), ∃ (x22 : Int), ∃ (x24 : List UInt8), ∃ (A25 : Option Addr), ∃ (c26 : Nat), ∃ (cs27 : List Value), word_Put_l0 Fu a0 a1 m35 x20 x22 x24 = some o18 ∧ r64 x20 ∧ r64 x22 ∧ reps ty8 S0 cs27 x24 ∧ St 55 w0 (ownL ([] ++ [.sn S0])) [(0, .int .i64 a0), (1, .int .i64 a1), (6, .slice A25 x24.length c26), (37, .int .i64 x20), (38, .int .i64 x22)] [.row (.slice A25 x24.length c26) 5 1 x24.length cs27, .sn S0] a w) Fu ⟨((List.replicate n12 ((0 : UInt8) : UInt8)).length : Int), 0, (List.replicate n12 ((0 : UInt8) : UInt8)), A14, n12, cs15, hl19, hr17, (show r64 0 from ⟨by decide, by decide⟩), hq16, h.has (by exact ⟨rfl, rfl, rfl, rfl, rfl, trivial⟩)⟩ (fun m35 a w hI => ?_)
      obtain ⟨x20, x22, x24, A25, c26, cs27, hl34, hr21, hr23, hq28, h⟩ := hI
      obtain _ | m35 := m35
      · rw [word_Put_l0] at hl34; cases hl34
      rw [word_Put_l0] at hl34
      refine c_rs ?_
      refine s_x h rfl rfl (by decide) (x_bin h.k rfl rfl rfl ib_lss) (fun a h => ?_)
      refine l_end ?_
      refine c_cs h rfl (fun hb => ?_) (fun hb => ?_)
      · rw [if_pos (of_decide_eq_true hb)] at hl34
        refine wp_skip ?_
        refine e_thenN ?_
        refine wp_seq ?_
        refine wp_block ?_
        refine c_rs ?_
        refine sMV h (fun a h => ?_)
        refine sAV h (fun a h => ?_)
        refine l_end ?_
        refine c_r ?_
        refine sMV h (fun a h => ?_)
        refine sMV h (fun a h => ?_)
        refine s_x h rfl rfl (by decide) (x_bin h.k rfl rfl rfl (ib_sub rfl)) (fun a h => ?_)
        refine sMV h (fun a h => ?_)
        refine s_x h rfl rfl (by decide) (x_bin h.k rfl rfl rfl (ib_sub rfl)) (fun a h => ?_)
        refine sMV h (fun a h => ?_)
        refine sMV h (fun a h => ?_)
        refine s_x h rfl rfl (by decide) (x_bin h.k rfl rfl rfl (ib_mul rfl)) (fun a h => ?_)
        refine s_x h rfl rfl (by decide) (x_convE h.k rfl Try.underlying3 Try.underlying111 rfl (u64I_wrap _)) (fun a h => ?_)
        refine s_x h rfl rfl (by decide) (x_bin h.k rfl rfl rfl (ib_shr_i64 _ ((u64I (w64 (8 * x22))).toNat))) (fun a h => ?_)
        refine s_x h rfl rfl (by decide) (x_convE h.k rfl Try.underlying3 Try.underlying5 rfl (i8_wrap _).symm) (fun a h => ?_)
        obtain ⟨m36, h37, hl34⟩ := bsome hl34
        obtain ⟨hi38, hm39⟩ := ix_some h37
        obtain ⟨g41, hA40⟩ := h.m.rowHead (i := 0) rfl (Nat.lt_of_le_of_lt (Nat.zero_le _) hm39)
        refine s_x h rfl rfl (by decide) (x_iaddrE h.k rfl Try.underlying22 sz_uint8 hA40 rfl rfl hi38 hm39) (fun a h => ?_)
        refine q_setRow (T := ty8) (q := i8 (i64_shr a0 ((u64I (w64 (8 * x22))).toNat))) h rfl rfl rfl sz_uint8 hA40 rfl rfl 0 rfl rfl hq28 rfl (by first | exact hm39 | simpa using hm39) (fun a w cs42 hq43 h => ?_)
        have hl44 : x24.length = (x24.set m36 (i8 (i64_shr a0 ((u64I (w64 (8 * x22))).toNat)))).length := by simp only [List.length_set]
        rw [hl44] at h
        refine l_nil ?_
        refine e_blkN ?_
        refine e_thenN ?_
        refine c_r ?_
        refine s_x h rfl rfl (by decide) (x_bin h.k rfl rfl rfl (ib_add rfl)) (fun a h => ?_)
        refine sMV h (fun a h => ?_)
        refine l_nil ?_
        exact e_thenN ⟨m35, Nat.lt_succ_self _, x20, w64 (x22 + 1), (x24.set m36 (i8 (i64_shr a0 ((u64I (w64 (8 * x22))).toNat)))), A25, c26, cs42, hl34, hr21, (w64_r _), hq43, h.has (by exact ⟨rfl, rfl, rfl, rfl, rfl, trivial⟩)⟩
      · rw [if_neg (of_decide_eq_false hb)] at hl34
        refine wp_exit ?_
        refine e_thenX ?_
        refine e_thenX ?_
        refine e_blkX ?_
        refine e_thenN ?_
        exact ⟨x24, A25, c26, cs27, (Option.some.inj hl34), hq28, h.has (by exact ⟨rfl, trivial⟩)⟩
    · rintro a w ⟨x29, A30, c31, cs32, rfl, hq33, h⟩
      refine e_thenN ?_
      refine c_rs ?_
      refine sMV h (fun a h => ?_)
      refine sAV h (fun a h => ?_)
      refine sAV h (fun a h => ?_)
      refine l_end ?_
      refine wp_ret ?_
      obtain rfl := Option.some.inj hf
      exact r_ret2 h rfl (rv_tmp h rfl) (rv_tmp h rfl) ⟨_, [.row (.slice A30 x29.length c31) 5 1 x29.length cs32], _, rfl, ⟨A30, c31, cs32, rfl, rfl, hq33, (show r64 0 from ⟨by decide, by decide⟩), trivial⟩, rfl, (Up.refl _ _ _), h.m⟩
end Go.Proofs.Ytohgmggdfmjgnaa
