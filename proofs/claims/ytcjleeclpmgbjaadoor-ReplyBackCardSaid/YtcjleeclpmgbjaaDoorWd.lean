/- Texts put together. -/
import Derived.Test.YtcjleeclpmgbjaaDoorPk
import Derived.Test.YtcjleeclpmgbjaaDoorTy
import Derived.Test.YtcjleeclpmgbjaaDoorPo
import Derived.Test.YtcjleeclpmgbjaaDoorSpec
import Derived.Test.YtcjleeclpmgbjaaDoorPs
set_option linter.unusedVariables false
set_option linter.unusedSimpArgs false
namespace Go.Proofs.YtcjleeclpmgbjaaDoor
open Go.RowKit
section
section

end
section

end
end
section
def word_Put_l0 (Fu : Nat) (a0 : Int) (a1 : Int) : Nat → Int → Int → (List UInt8) → Option ((List UInt8))
  | 0, _, _, _ => none
  | k + 1, x20, x22, x24 => if x22 < x20 then ((ix x24.length (w64 ((w64 (a1 - 1)) - x22))).bind fun m36 => word_Put_l0 Fu a0 a1 k x20 (w64 (x22 + 1)) (x24.set m36 (i8 (i64_shr a0 ((u64I (w64 (8 * x22))).toNat))))) else (some x24)
def word_Put (Fu : Nat) (a0 : Int) (a1 : Int) : Option ((List UInt8) × Int) :=
  if (((((decide (a1 < 1)) || (decide (8 < a1))) || (decide (a0 < 0))) || (decide (4611686018427387904 < a0))) || ((decide (a1 < 8)) && (decide (i64_shr a0 ((u64I (w64 (8 * a1))).toNat) ≠ 0)))) = true then (some ([], 2)) else ((mkN 1 a1).bind fun n12 => (word_Put_l0 Fu a0 a1 Fu ((List.replicate n12 ((0 : UInt8) : UInt8)).length : Int) 0 (List.replicate n12 ((0 : UInt8) : UInt8))).bind fun x29 => some (x29, 0))
set_option maxRecDepth 100000 in
set_option maxHeartbeats 2000000 in
theorem word_Put_ok (Fu : Nat) {S0 : Snap} (a0 : Int) (hra0 : r64 a0) (a1 : Int) (hra1 : r64 a1) (r : (List UInt8) × Int) (hf : word_Put Fu a0 a1 = some r) (w0 : World) (hm : Mem w0 (ownL ([] ++ [.sn S0])) ([] ++ [.sn S0]) w0) :
    Calls Tryd.prog 46 #[.int .i64 a0, .int .i64 a1] w0 (Ret w0 S0 [] (fun v L1 S1 => ∃ (A46 : Option Addr), ∃ (c47 : Nat), ∃ (cs48 : List Value), v = .tuple #[.slice A46 r.1.length c47, .int .i64 r.2] ∧ L1 = [.row (.slice A46 r.1.length c47) 5 1 r.1.length cs48] ∧ reps ty8 S1 cs48 r.1 ∧ r64 r.2 ∧ True)) := by
  unfold word_Put at hf
  refine c_enterM Tryd.func46 rfl 55 rfl (by simp) _ hm _ rfl (fun a h => ?_)
  refine c_rs ?_ -- region 0
  refine s_assign h rfl _ rfl rfl (by decide) rfl (fun a h => ?_)
  refine s_assign h rfl _ rfl rfl (by decide) rfl (fun a h => ?_)
  refine l_end ?_
  refine wp_seq ?_
  refine c_rs ?_ -- region 1
  refine s_move h rfl _ rfl rfl (by decide) rfl (fun a h => ?_)
  refine s_x h rfl rfl (by decide) (x_bin h.k rfl rfl rfl ib_lss) (fun a h => ?_)
  refine s_move h rfl _ rfl rfl (by decide) rfl (fun a h => ?_)
  refine q_grp h 3 (t := 10) 13 ((decide (a1 < 1)) || (decide (8 < a1))) rfl (fun hB2 => ?_) (fun hB2 => ?_) (fun a w h => ?_)
  · refine g_no h rfl rfl rfl rfl hB2 rfl (by decide) (fun a h => ?_)
    refine g_no h rfl rfl rfl rfl hB2 rfl (by decide) (fun a h => ?_)
    refine s_x h rfl rfl (by decide) (x_pick (u' := undef) h.k rfl rfl (fun _ => rfl) (fun hh => absurd (hB2.symm.trans hh) (by decide))) (fun a h => ?_)
    exact (h.mid 2 rfl).val (by first | rfl | (rw [hB2]; first | rfl | simp))
  · refine g_yes h rfl rfl rfl rfl hB2 ?_
    refine s_move h rfl _ rfl rfl (by decide) rfl (fun a h => ?_)
    refine g_yes h rfl rfl rfl rfl hB2 ?_
    refine s_x h rfl rfl (by decide) (x_bin h.k rfl rfl rfl ib_gtr) (fun a h => ?_)
    refine s_x h rfl rfl (by decide) (x_pick (u' := undef) h.k rfl rfl (fun hh => absurd (hB2.symm.trans hh) (by decide)) (fun _ => rfl)) (fun a h => ?_)
    exact (h.mid 2 rfl).val (by first | rfl | (rw [hB2]; first | rfl | simp))
  refine s_move h rfl _ rfl rfl (by decide) rfl (fun a h => ?_)
  refine q_grp h 3 (t := 14) 17 (((decide (a1 < 1)) || (decide (8 < a1))) || (decide (a0 < 0))) rfl (fun hB6 => ?_) (fun hB6 => ?_) (fun a w h => ?_)
  · refine g_no h rfl rfl rfl rfl hB6 rfl (by decide) (fun a h => ?_)
    refine g_no h rfl rfl rfl rfl hB6 rfl (by decide) (fun a h => ?_)
    refine s_x h rfl rfl (by decide) (x_pick (u' := undef) h.k rfl rfl (fun _ => rfl) (fun hh => absurd (hB6.symm.trans hh) (by decide))) (fun a h => ?_)
    exact (h.mid 2 rfl).val (by first | rfl | (rw [hB6]; first | rfl | simp))
  · refine g_yes h rfl rfl rfl rfl hB6 ?_
    refine s_move h rfl _ rfl rfl (by decide) rfl (fun a h => ?_)
    refine g_yes h rfl rfl rfl rfl hB6 ?_
    refine s_x h rfl rfl (by decide) (x_bin h.k rfl rfl rfl ib_lss) (fun a h => ?_)
    refine s_x h rfl rfl (by decide) (x_pick (u' := undef) h.k rfl rfl (fun hh => absurd (hB6.symm.trans hh) (by decide)) (fun _ => rfl)) (fun a h => ?_)
    exact (h.mid 2 rfl).val (by first | rfl | (rw [hB6]; first | rfl | simp))
  refine s_move h rfl _ rfl rfl (by decide) rfl (fun a h => ?_)
  refine q_grp h 3 (t := 18) 21 ((((decide (a1 < 1)) || (decide (8 < a1))) || (decide (a0 < 0))) || (decide (4611686018427387904 < a0))) rfl (fun hB10 => ?_) (fun hB10 => ?_) (fun a w h => ?_)
  · refine g_no h rfl rfl rfl rfl hB10 rfl (by decide) (fun a h => ?_)
    refine g_no h rfl rfl rfl rfl hB10 rfl (by decide) (fun a h => ?_)
    refine s_x h rfl rfl (by decide) (x_pick (u' := undef) h.k rfl rfl (fun _ => rfl) (fun hh => absurd (hB10.symm.trans hh) (by decide))) (fun a h => ?_)
    exact (h.mid 2 rfl).val (by first | rfl | (rw [hB10]; first | rfl | simp))
  · refine g_yes h rfl rfl rfl rfl hB10 ?_
    refine s_move h rfl _ rfl rfl (by decide) rfl (fun a h => ?_)
    refine g_yes h rfl rfl rfl rfl hB10 ?_
    refine s_x h rfl rfl (by decide) (x_bin h.k rfl rfl rfl ib_gtr) (fun a h => ?_)
    refine s_x h rfl rfl (by decide) (x_pick (u' := undef) h.k rfl rfl (fun hh => absurd (hB10.symm.trans hh) (by decide)) (fun _ => rfl)) (fun a h => ?_)
    exact (h.mid 2 rfl).val (by first | rfl | (rw [hB10]; first | rfl | simp))
  refine s_move h rfl _ rfl rfl (by decide) rfl (fun a h => ?_)
  refine q_grp h 11 (t := 22) 33 (((((decide (a1 < 1)) || (decide (8 < a1))) || (decide (a0 < 0))) || (decide (4611686018427387904 < a0))) || ((decide (a1 < 8)) && (decide (i64_shr a0 ((u64I (w64 (8 * a1))).toNat) ≠ 0)))) rfl (fun hB14 => ?_) (fun hB14 => ?_) (fun a w h => ?_)
  · refine g_no h rfl rfl rfl rfl hB14 rfl (by decide) (fun a h => ?_)
    refine g_no h rfl rfl rfl rfl hB14 rfl (by decide) (fun a h => ?_)
    refine g_no h rfl rfl rfl rfl hB14 rfl (by decide) (fun a h => ?_)
    refine g_off h rfl rfl rfl rfl rfl (by decide) (fun a h => ?_)
    refine g_off h rfl rfl rfl rfl rfl (by decide) (fun a h => ?_)
    refine g_off h rfl rfl rfl rfl rfl (by decide) (fun a h => ?_)
    refine g_off h rfl rfl rfl rfl rfl (by decide) (fun a h => ?_)
    refine g_off h rfl rfl rfl rfl rfl (by decide) (fun a h => ?_)
    refine g_off h rfl rfl rfl rfl rfl (by decide) (fun a h => ?_)
    refine g_no h rfl rfl rfl rfl hB14 rfl (by decide) (fun a h => ?_)
    refine s_x h rfl rfl (by decide) (x_pick (u' := undef) h.k rfl rfl (fun _ => rfl) (fun hh => absurd (hB14.symm.trans hh) (by decide))) (fun a h => ?_)
    exact (h.mid 10 rfl).val (by first | rfl | (rw [hB14]; first | rfl | simp))
  · refine g_yes h rfl rfl rfl rfl hB14 ?_
    refine s_move h rfl _ rfl rfl (by decide) rfl (fun a h => ?_)
    refine g_yes h rfl rfl rfl rfl hB14 ?_
    refine s_x h rfl rfl (by decide) (x_bin h.k rfl rfl rfl ib_lss) (fun a h => ?_)
    refine g_yes h rfl rfl rfl rfl hB14 ?_
    refine s_move h rfl _ rfl rfl (by decide) rfl (fun a h => ?_)
    refine q_grp h 7 (t := 25) 32 ((decide (a1 < 8)) && (decide (i64_shr a0 ((u64I (w64 (8 * a1))).toNat) ≠ 0))) rfl (fun hB17 => ?_) (fun hB17 => ?_) (fun a w h => ?_)
    · refine g_yes h rfl rfl rfl rfl hB17 ?_
      refine s_move h rfl _ rfl rfl (by decide) rfl (fun a h => ?_)
      refine g_yes h rfl rfl rfl rfl hB17 ?_
      refine s_move h rfl _ rfl rfl (by decide) rfl (fun a h => ?_)
      refine g_yes h rfl rfl rfl rfl hB17 ?_
      refine s_x h rfl rfl (by decide) (x_bin h.k rfl rfl rfl (ib_mul rfl)) (fun a h => ?_)
      refine g_yes h rfl rfl rfl rfl hB17 ?_
      refine s_x h rfl rfl (by decide) (x_convE h.k rfl Tryd.underlying3 Tryd.underlying82 rfl (u64I_wrap _)) (fun a h => ?_)
      refine g_yes h rfl rfl rfl rfl hB17 ?_
      refine s_x h rfl rfl (by decide) (x_bin h.k rfl rfl rfl (ib_shr_i64 _ ((u64I (w64 (8 * a1))).toNat))) (fun a h => ?_)
      refine g_yes h rfl rfl rfl rfl hB17 ?_
      refine s_x h rfl rfl (by decide) (x_bin h.k rfl rfl rfl ib_neq) (fun a h => ?_)
      refine g_yes h rfl rfl rfl rfl hB14 ?_
      refine s_x h rfl rfl (by decide) (x_pick (u' := undef) h.k rfl rfl (fun _ => rfl) (fun hh => absurd (hB17.symm.trans hh) (by decide))) (fun a h => ?_)
      exact (h.mid 6 rfl).val (by first | rfl | (rw [hB17]; first | rfl | simp))
    · refine g_no h rfl rfl rfl rfl hB17 rfl (by decide) (fun a h => ?_)
      refine g_no h rfl rfl rfl rfl hB17 rfl (by decide) (fun a h => ?_)
      refine g_no h rfl rfl rfl rfl hB17 rfl (by decide) (fun a h => ?_)
      refine g_no h rfl rfl rfl rfl hB17 rfl (by decide) (fun a h => ?_)
      refine g_no h rfl rfl rfl rfl hB17 rfl (by decide) (fun a h => ?_)
      refine g_no h rfl rfl rfl rfl hB17 rfl (by decide) (fun a h => ?_)
      refine g_yes h rfl rfl rfl rfl hB14 ?_
      refine s_x h rfl rfl (by decide) (x_pick (u' := undef) h.k rfl rfl (fun hh => absurd (hB17.symm.trans hh) (by decide)) (fun _ => rfl)) (fun a h => ?_)
      exact (h.mid 6 rfl).val (by first | rfl | (rw [hB17]; first | rfl | simp))
    refine s_x h rfl rfl (by decide) (x_pick (u' := undef) h.k rfl rfl (fun hh => absurd (hB14.symm.trans hh) (by decide)) (fun _ => rfl)) (fun a h => ?_)
    exact (h.mid 4 rfl).val (by first | rfl | (rw [hB14]; first | rfl | simp))
  refine l_end ?_
  refine c_cond h rfl (fun hb => ?_) (fun hb => ?_)
  · rw [if_pos hb] at hf
    refine c_rs ?_ -- region 2
    refine s_assign h rfl _ rfl rfl (by decide) rfl (fun a h => ?_)
    refine s_assign h rfl _ rfl rfl (by decide) rfl (fun a h => ?_)
    refine l_end ?_
    refine wp_ret ?_
    refine e_thenR ?_
    obtain rfl := Option.some.inj hf
    have h := h.mem (h.m.nilrow 5 1)
    exact r_ret2 h rfl (rv_tmp h rfl) (rv_tmp h rfl) ⟨_, [.row (.slice none ([]).length 0) 5 1 ([]).length []], _, rfl, ⟨none, 0, [], rfl, rfl, (show reps ty8 S0 [] [] from rfl), (show r64 2 from ⟨by decide, by decide⟩), trivial⟩, rfl, (Up.refl _ _ _), h.m⟩
  · rw [if_neg (by rw [hb]; decide)] at hf
    refine wp_skip ?_
    refine e_thenN ?_
    refine c_rs ?_ -- region 3
    refine s_move h rfl _ rfl rfl (by decide) rfl (fun a h => ?_)
    obtain ⟨n12, h13, hf⟩ := bsome hf
    refine q_make (T := ty8) (S := S0) h rfl rfl rfl (by decide) Tryd.underlying23 zb_uint8 rfl rfl (q := (0 : UInt8)) rfl rfl rfl h13 (fun a w A14 cs15 hq16 h => ?_)
    refine s_assign h rfl _ rfl rfl (by decide) rfl (fun a h => ?_)
    refine l_end ?_
    refine wp_seq ?_
    refine c_rs ?_ -- region 4
    refine s_move h rfl _ rfl rfl (by decide) rfl (fun a h => ?_)
    have hr17 : r64 ((List.replicate n12 ((0 : UInt8) : UInt8)).length : Int) := len_r (h.m.rowLen (i := 0) rfl)
    refine s_x h rfl rfl (by decide) (x_len h.k rfl Tryd.underlying23 rfl) (fun a h => ?_)
    refine s_move h rfl _ rfl rfl (by decide) rfl (fun a h => ?_)
    refine l_end ?_
    obtain ⟨o18, hl19, hf⟩ := bsome hf
    refine c_fin (fun a w => ∃ (x29 : List UInt8), ∃ (A30 : Option Addr), ∃ (c31 : Nat), ∃ (cs32 : List Value), x29 = o18 ∧ reps ty8 S0 cs32 x29 ∧ St 55 w0 (ownL ([] ++ [.sn S0])) [(6, .slice A30 x29.length c31)] [.row (.slice A30 x29.length c31) 5 1 x29.length cs32, .sn S0] a w) ?_ ?_
    · refine wp_block ?_
      refine c_loop (fun m35 a w => ∃ (x20 : Int), ∃ (x22 : Int), ∃ (x24 : List UInt8), ∃ (A25 : Option Addr), ∃ (c26 : Nat), ∃ (cs27 : List Value), word_Put_l0 Fu a0 a1 m35 x20 x22 x24 = some o18 ∧ r64 x20 ∧ r64 x22 ∧ reps ty8 S0 cs27 x24 ∧ St 55 w0 (ownL ([] ++ [.sn S0])) [(0, .int .i64 a0), (1, .int .i64 a1), (6, .slice A25 x24.length c26), (37, .int .i64 x20), (38, .int .i64 x22)] [.row (.slice A25 x24.length c26) 5 1 x24.length cs27, .sn S0] a w) Fu ⟨((List.replicate n12 ((0 : UInt8) : UInt8)).length : Int), 0, (List.replicate n12 ((0 : UInt8) : UInt8)), A14, n12, cs15, hl19, hr17, (show r64 0 from ⟨by decide, by decide⟩), hq16, h.has (by exact ⟨rfl, rfl, rfl, rfl, rfl, trivial⟩)⟩ (fun m35 a w hI => ?_)
      obtain ⟨x20, x22, x24, A25, c26, cs27, hl34, hr21, hr23, hq28, h⟩ := hI
      obtain _ | m35 := m35
      · rw [word_Put_l0] at hl34; cases hl34
      rw [word_Put_l0] at hl34
      refine c_rs ?_ -- region 5
      refine s_x h rfl rfl (by decide) (x_bin h.k rfl rfl rfl ib_lss) (fun a h => ?_)
      refine l_end ?_
      refine c_cs h rfl (fun hb => ?_) (fun hb => ?_)
      · rw [if_pos (of_decide_eq_true hb)] at hl34
        refine wp_skip ?_
        refine e_thenN ?_
        refine wp_seq ?_
        refine wp_block ?_
        refine c_rs ?_ -- region 6
        refine s_move h rfl _ rfl rfl (by decide) rfl (fun a h => ?_)
        refine s_assign h rfl _ rfl rfl (by decide) rfl (fun a h => ?_)
        refine l_end ?_
        refine c_r ?_ -- region 7
        refine s_move h rfl _ rfl rfl (by decide) rfl (fun a h => ?_)
        refine s_move h rfl _ rfl rfl (by decide) rfl (fun a h => ?_)
        refine s_x h rfl rfl (by decide) (x_bin h.k rfl rfl rfl (ib_sub rfl)) (fun a h => ?_)
        refine s_move h rfl _ rfl rfl (by decide) rfl (fun a h => ?_)
        refine s_x h rfl rfl (by decide) (x_bin h.k rfl rfl rfl (ib_sub rfl)) (fun a h => ?_)
        refine s_move h rfl _ rfl rfl (by decide) rfl (fun a h => ?_)
        refine s_move h rfl _ rfl rfl (by decide) rfl (fun a h => ?_)
        refine s_x h rfl rfl (by decide) (x_bin h.k rfl rfl rfl (ib_mul rfl)) (fun a h => ?_)
        refine s_x h rfl rfl (by decide) (x_convE h.k rfl Tryd.underlying3 Tryd.underlying82 rfl (u64I_wrap _)) (fun a h => ?_)
        refine s_x h rfl rfl (by decide) (x_bin h.k rfl rfl rfl (ib_shr_i64 _ ((u64I (w64 (8 * x22))).toNat))) (fun a h => ?_)
        refine s_x h rfl rfl (by decide) (x_convE h.k rfl Tryd.underlying3 Tryd.underlying5 rfl (i8_wrap _).symm) (fun a h => ?_)
        obtain ⟨m36, h37, hl34⟩ := bsome hl34
        obtain ⟨hi38, hm39⟩ := ix_some h37
        obtain ⟨g41, hA40⟩ := h.m.rowHead (i := 0) rfl (Nat.lt_of_le_of_lt (Nat.zero_le _) hm39)
        refine s_x h rfl rfl (by decide) (x_iaddrE h.k rfl Tryd.underlying23 sz_uint8 hA40 rfl rfl hi38 hm39) (fun a h => ?_)
        refine q_setRow (T := ty8) (q := i8 (i64_shr a0 ((u64I (w64 (8 * x22))).toNat))) h rfl rfl rfl sz_uint8 hA40 rfl rfl 0 rfl rfl hq28 rfl (by first | exact hm39 | simpa using hm39) (fun a w cs42 hq43 h => ?_)
        have hl44 : x24.length = (x24.set m36 (i8 (i64_shr a0 ((u64I (w64 (8 * x22))).toNat)))).length := by simp only [List.length_set]
        rw [hl44] at h
        refine l_nil ?_
        refine e_blkN ?_
        refine e_thenN ?_
        refine c_r ?_ -- region 8
        refine s_x h rfl rfl (by decide) (x_bin h.k rfl rfl rfl (ib_add rfl)) (fun a h => ?_)
        refine s_move h rfl _ rfl rfl (by decide) rfl (fun a h => ?_)
        refine l_nil ?_
        exact e_thenN ⟨m35, Nat.lt_succ_self _, x20, w64 (x22 + 1), (x24.set m36 (i8 (i64_shr a0 ((u64I (w64 (8 * x22))).toNat)))), A25, c26, cs42, hl34, hr21, (w64_r _), hq43, h.has (by exact ⟨rfl, rfl, rfl, rfl, rfl, trivial⟩)⟩
      · rw [if_neg (of_decide_eq_false hb)] at hl34
        refine wp_exit ?_
        refine e_thenX ?_
        refine e_thenX ?_
        refine e_blkX ?_
        refine e_thenN ?_
        exact ⟨x24, A25, c26, cs27, (Option.some.inj hl34), hq28, h.has (by exact ⟨rfl, trivial⟩)⟩
    · rintro a w ⟨x29, A30, c31, cs32, rfl, hq33, h⟩
      refine e_thenN ?_
      refine c_rs ?_ -- region 9
      refine s_move h rfl _ rfl rfl (by decide) rfl (fun a h => ?_)
      refine s_assign h rfl _ rfl rfl (by decide) rfl (fun a h => ?_)
      refine s_assign h rfl _ rfl rfl (by decide) rfl (fun a h => ?_)
      refine l_end ?_
      refine wp_ret ?_
      obtain rfl := Option.some.inj hf
      exact r_ret2 h rfl (rv_tmp h rfl) (rv_tmp h rfl) ⟨_, [.row (.slice A30 x29.length c31) 5 1 x29.length cs32], _, rfl, ⟨A30, c31, cs32, rfl, rfl, hq33, (show r64 0 from ⟨by decide, by decide⟩), trivial⟩, rfl, (Up.refl _ _ _), h.m⟩
def word_Get_l0 (Fu : Nat) (a0 : List UInt8) : Nat → UInt64 → Int → Option UInt64
  | 0, _, _ => none
  | k + 1, x3, x4 => if x4 < (a0.length : Int) then ((idx a0 x4).bind fun x9 => word_Get_l0 Fu a0 k ((u64_shl x3 8) ||| (UInt64.ofNat x9.toNat)) (w64 (x4 + 1))) else (some x3)
def word_Get (Fu : Nat) (a0 : List UInt8) : Option (Int × Int) :=
  if (a0.length : Int) = 0 then (some (0, 10)) else (if 8 < (a0.length : Int) then (some (0, 13)) else ((word_Get_l0 Fu a0 Fu (0 : UInt64) 0).bind fun x6 => if 4611686018427387904 < (x6.toNat : Int) then (some (0, 11)) else (some (w64 (x6.toNat : Int), 0))))
set_option maxRecDepth 100000 in
set_option maxHeartbeats 2000000 in
theorem word_Get_ok (Fu : Nat) {S0 : Snap} (Aa0 : Option Addr) (ca0 : Nat) (a0 : List UInt8) (hsa0 : slS ty8 S0 Aa0 ca0 a0) (r : Int × Int) (hf : word_Get Fu a0 = some r) (w0 : World) (hm : Mem w0 (ownL ([] ++ [.sn S0])) ([] ++ [.sn S0]) w0) :
    Calls Tryd.prog 52 #[.slice Aa0 a0.length ca0] w0 (Ret w0 S0 [] (fun v L1 S1 => v = .tuple #[.int .i64 r.1, .int .i64 r.2] ∧ L1 = [] ∧ r64 r.1 ∧ r64 r.2 ∧ True)) := by
  unfold word_Get at hf
  refine c_enterM Tryd.func52 rfl 31 rfl (by simp) _ hm _ rfl (fun a h => ?_)
  refine c_rs ?_ -- region 0
  refine s_assign h rfl _ rfl rfl (by decide) rfl (fun a h => ?_)
  refine s_assign h rfl _ rfl rfl (by decide) rfl (fun a h => ?_)
  refine l_end ?_
  refine wp_seq ?_
  refine wp_block ?_
  refine c_rs ?_ -- region 1
  refine s_move h rfl _ rfl rfl (by decide) rfl (fun a h => ?_)
  refine s_x h rfl rfl (by decide) (x_len h.k rfl Tryd.underlying23 rfl) (fun a h => ?_)
  refine s_x h rfl rfl (by decide) (x_bin h.k rfl rfl rfl ib_eql) (fun a h => ?_)
  refine s_assign h rfl _ rfl rfl (by decide) rfl (fun a h => ?_)
  refine l_end ?_
  refine c_cond h rfl (fun hb => ?_) (fun hb => ?_)
  · rw [if_pos (of_decide_eq_true hb)] at hf
    refine c_rs ?_ -- region 2
    refine s_assign h rfl _ rfl rfl (by decide) rfl (fun a h => ?_)
    refine s_assign h rfl _ rfl rfl (by decide) rfl (fun a h => ?_)
    refine l_end ?_
    refine wp_ret ?_
    refine e_blkR ?_
    refine e_thenR ?_
    obtain rfl := Option.some.inj hf
    exact r_ret2 h rfl (rv_tmp h rfl) (rv_tmp h rfl) ⟨_, [], _, rfl, ⟨rfl, rfl, (show r64 0 from ⟨by decide, by decide⟩), (show r64 10 from ⟨by decide, by decide⟩), trivial⟩, rfl, (Up.refl _ _ _), h.m⟩
  · rw [if_neg (of_decide_eq_false hb)] at hf
    refine c_rs ?_ -- region 3
    refine s_move h rfl _ rfl rfl (by decide) rfl (fun a h => ?_)
    refine s_x h rfl rfl (by decide) (x_len h.k rfl Tryd.underlying23 rfl) (fun a h => ?_)
    refine s_x h rfl rfl (by decide) (x_bin h.k rfl rfl rfl ib_gtr) (fun a h => ?_)
    refine s_assign h rfl _ rfl rfl (by decide) rfl (fun a h => ?_)
    refine l_end ?_
    refine c_cond h rfl (fun hb => ?_) (fun hb => ?_)
    · rw [if_pos (of_decide_eq_true hb)] at hf
      refine c_rs ?_ -- region 4
      refine s_assign h rfl _ rfl rfl (by decide) rfl (fun a h => ?_)
      refine s_assign h rfl _ rfl rfl (by decide) rfl (fun a h => ?_)
      refine l_end ?_
      refine wp_ret ?_
      refine e_blkR ?_
      refine e_thenR ?_
      obtain rfl := Option.some.inj hf
      exact r_ret2 h rfl (rv_tmp h rfl) (rv_tmp h rfl) ⟨_, [], _, rfl, ⟨rfl, rfl, (show r64 0 from ⟨by decide, by decide⟩), (show r64 13 from ⟨by decide, by decide⟩), trivial⟩, rfl, (Up.refl _ _ _), h.m⟩
    · rw [if_neg (of_decide_eq_false hb)] at hf
      refine wp_skip ?_
      refine e_blkN ?_
      refine e_thenN ?_
      refine c_rs ?_ -- region 5
      refine s_assign h rfl _ rfl rfl (by decide) rfl (fun a h => ?_)
      refine l_end ?_
      refine wp_seq ?_
      refine c_rs ?_ -- region 6
      refine s_move h rfl _ rfl rfl (by decide) rfl (fun a h => ?_)
      refine s_x h rfl rfl (by decide) (x_len h.k rfl Tryd.underlying23 rfl) (fun a h => ?_)
      refine s_move h rfl _ rfl rfl (by decide) rfl (fun a h => ?_)
      refine l_end ?_
      obtain ⟨o1, hl2, hf⟩ := bsome hf
      refine c_fin (fun a w => ∃ (x6 : UInt64), x6 = o1 ∧ St 31 w0 (ownL ([] ++ [.sn S0])) [(4, .int .u64 (x6.toNat : Int))] [.sn S0] a w) ?_ ?_
      · refine wp_block ?_
        refine c_loop (fun m8 a w => ∃ (x3 : UInt64), ∃ (x4 : Int), word_Get_l0 Fu a0 m8 x3 x4 = some o1 ∧ r64 x4 ∧ St 31 w0 (ownL ([] ++ [.sn S0])) [(4, .int .u64 (x3.toNat : Int)), (15, .slice Aa0 a0.length ca0), (16, .int .i64 (a0.length : Int)), (17, .int .i64 x4)] [.sn S0] a w) Fu ⟨(0 : UInt64), 0, hl2, (show r64 0 from ⟨by decide, by decide⟩), h.has (by exact ⟨rfl, rfl, rfl, rfl, trivial⟩)⟩ (fun m8 a w hI => ?_)
        obtain ⟨x3, x4, hl7, hr5, h⟩ := hI
        obtain _ | m8 := m8
        · rw [word_Get_l0] at hl7; cases hl7
        rw [word_Get_l0] at hl7
        refine c_rs ?_ -- region 7
        refine s_x h rfl rfl (by decide) (x_bin h.k rfl rfl rfl ib_lss) (fun a h => ?_)
        refine l_end ?_
        refine c_cs h rfl (fun hb => ?_) (fun hb => ?_)
        · rw [if_pos (of_decide_eq_true hb)] at hl7
          refine wp_skip ?_
          refine e_thenN ?_
          refine wp_seq ?_
          refine wp_block ?_
          refine c_rs ?_ -- region 8
          obtain ⟨x9, h13, hl7⟩ := bsome hl7
          obtain ⟨m10, hi14, hm15, hx16⟩ := idx_some h13
          obtain ⟨b11, off12, k17, hA18, hu19, hc20⟩ := (hsa0).at1 rfl hx16 (h.m.snOK (i := 0) rfl)
          cases hu19
          refine s_x h rfl rfl (by decide) (x_iaddrE h.k rfl Tryd.underlying23 sz_uint8 hA18 rfl rfl hi14 hm15) (fun a h => ?_)
          refine s_x h rfl rfl (by decide) (x_ld h.k rfl Tryd.underlying5 rfl rfl (hc20 _ (h.m.snOK (i := 0) rfl))) (fun a h => ?_)
          refine s_assign h rfl _ rfl rfl (by decide) rfl (fun a h => ?_)
          refine l_end ?_
          refine c_r ?_ -- region 9
          refine s_move h rfl _ rfl rfl (by decide) rfl (fun a h => ?_)
          refine s_x h rfl rfl (by decide) (x_bin h.k rfl rfl rfl (ib_shl_u64 x3 8)) (fun a h => ?_)
          refine s_move h rfl _ rfl rfl (by decide) rfl (fun a h => ?_)
          refine s_x h rfl rfl (by decide) (x_convE h.k rfl Tryd.underlying5 Tryd.underlying107 rfl (u8_to_u64 _)) (fun a h => ?_)
          refine s_x h rfl rfl (by decide) (x_bin h.k rfl rfl rfl (ib_or (u64_or_ (u64_shl x3 8) (UInt64.ofNat x9.toNat)))) (fun a h => ?_)
          refine s_assign h rfl _ rfl rfl (by decide) rfl (fun a h => ?_)
          refine l_nil ?_
          refine e_blkN ?_
          refine e_thenN ?_
          refine c_r ?_ -- region 10
          refine s_x h rfl rfl (by decide) (x_bin h.k rfl rfl rfl (ib_add rfl)) (fun a h => ?_)
          refine s_move h rfl _ rfl rfl (by decide) rfl (fun a h => ?_)
          refine l_nil ?_
          exact e_thenN ⟨m8, Nat.lt_succ_self _, ((u64_shl x3 8) ||| (UInt64.ofNat x9.toNat)), w64 (x4 + 1), hl7, (w64_r _), h.has (by exact ⟨rfl, rfl, rfl, rfl, trivial⟩)⟩
        · rw [if_neg (of_decide_eq_false hb)] at hl7
          refine wp_exit ?_
          refine e_thenX ?_
          refine e_thenX ?_
          refine e_blkX ?_
          refine e_thenN ?_
          exact ⟨x3, (Option.some.inj hl7), h.has (by exact ⟨rfl, trivial⟩)⟩
      · rintro a w ⟨x6, rfl, h⟩
        refine e_thenN ?_
        refine wp_seq ?_
        refine c_rs ?_ -- region 11
        refine s_move h rfl _ rfl rfl (by decide) rfl (fun a h => ?_)
        refine s_x h rfl rfl (by decide) (x_bin h.k rfl rfl rfl ib_gtr) (fun a h => ?_)
        refine l_end ?_
        refine c_cond h rfl (fun hb => ?_) (fun hb => ?_)
        · rw [if_pos (of_decide_eq_true hb)] at hf
          refine c_rs ?_ -- region 12
          refine s_assign h rfl _ rfl rfl (by decide) rfl (fun a h => ?_)
          refine s_assign h rfl _ rfl rfl (by decide) rfl (fun a h => ?_)
          refine l_end ?_
          refine wp_ret ?_
          refine e_thenR ?_
          obtain rfl := Option.some.inj hf
          exact r_ret2 h rfl (rv_tmp h rfl) (rv_tmp h rfl) ⟨_, [], _, rfl, ⟨rfl, rfl, (show r64 0 from ⟨by decide, by decide⟩), (show r64 11 from ⟨by decide, by decide⟩), trivial⟩, rfl, (Up.refl _ _ _), h.m⟩
        · rw [if_neg (of_decide_eq_false hb)] at hf
          refine wp_skip ?_
          refine e_thenN ?_
          refine c_rs ?_ -- region 13
          refine s_move h rfl _ rfl rfl (by decide) rfl (fun a h => ?_)
          refine s_x h rfl rfl (by decide) (x_convE h.k rfl Tryd.underlying107 Tryd.underlying3 rfl rfl) (fun a h => ?_)
          refine s_assign h rfl _ rfl rfl (by decide) rfl (fun a h => ?_)
          refine s_assign h rfl _ rfl rfl (by decide) rfl (fun a h => ?_)
          refine l_end ?_
          refine wp_ret ?_
          obtain rfl := Option.some.inj hf
          exact r_ret2 h rfl (rv_tmp h rfl) (rv_tmp h rfl) ⟨_, [], _, rfl, ⟨rfl, rfl, (w64_r _), (show r64 0 from ⟨by decide, by decide⟩), trivial⟩, rfl, (Up.refl _ _ _), h.m⟩
def word_Cut (Fu : Nat) (a0 : List UInt8) (a1 : Int) : Option ((List UInt8) × (List UInt8) × Bool) :=
  if ((decide (a1 < 0)) || (decide ((a0.length : Int) < a1))) = true then (some ([], [], false)) else ((sub a0 0 a1).bind fun x3 => (sub a0 a1 (a0.length : Int)).bind fun x13 => some (x3, x13, true))
set_option maxRecDepth 100000 in
set_option maxHeartbeats 2000000 in
theorem word_Cut_ok (Fu : Nat) {S0 : Snap} (Aa0 : Option Addr) (ca0 : Nat) (a0 : List UInt8) (hsa0 : slS ty8 S0 Aa0 ca0 a0) (a1 : Int) (hra1 : r64 a1) (r : (List UInt8) × (List UInt8) × Bool) (hf : word_Cut Fu a0 a1 = some r) (w0 : World) (hm : Mem w0 (ownL ([] ++ [.sn S0])) ([] ++ [.sn S0]) w0) :
    Calls Tryd.prog 63 #[.slice Aa0 a0.length ca0, .int .i64 a1] w0 (Ret w0 S0 [] (fun v L1 S1 => ∃ (A23 : Option Addr), ∃ (c24 : Nat), ∃ (A26 : Option Addr), ∃ (c27 : Nat), v = .tuple #[.slice A23 r.1.length c24, .slice A26 r.2.1.length c27, .bool r.2.2] ∧ L1 = [] ∧ slS ty8 S1 A23 c24 r.1 ∧ slS ty8 S1 A26 c27 r.2.1 ∧ True)) := by
  unfold word_Cut at hf
  refine c_enterM Tryd.func63 rfl 22 rfl (by simp) _ hm _ rfl (fun a h => ?_)
  refine c_rs ?_ -- region 0
  refine s_assign h rfl _ rfl rfl (by decide) rfl (fun a h => ?_)
  refine s_assign h rfl _ rfl rfl (by decide) rfl (fun a h => ?_)
  refine s_assign h rfl _ rfl rfl (by decide) rfl (fun a h => ?_)
  refine l_end ?_
  refine wp_seq ?_
  refine c_rs ?_ -- region 1
  refine s_move h rfl _ rfl rfl (by decide) rfl (fun a h => ?_)
  refine s_x h rfl rfl (by decide) (x_bin h.k rfl rfl rfl ib_lss) (fun a h => ?_)
  refine s_move h rfl _ rfl rfl (by decide) rfl (fun a h => ?_)
  refine q_grp h 5 (t := 9) 14 ((decide (a1 < 0)) || (decide ((a0.length : Int) < a1))) rfl (fun hB2 => ?_) (fun hB2 => ?_) (fun a w h => ?_)
  · refine g_no h rfl rfl rfl rfl hB2 rfl (by decide) (fun a h => ?_)
    refine g_no h rfl rfl rfl rfl hB2 rfl (by decide) (fun a h => ?_)
    refine g_no h rfl rfl rfl rfl hB2 rfl (by decide) (fun a h => ?_)
    refine g_no h rfl rfl rfl rfl hB2 rfl (by decide) (fun a h => ?_)
    refine s_x h rfl rfl (by decide) (x_pick (u' := undef) h.k rfl rfl (fun _ => rfl) (fun hh => absurd (hB2.symm.trans hh) (by decide))) (fun a h => ?_)
    exact (h.mid 4 rfl).val (by first | rfl | (rw [hB2]; first | rfl | simp))
  · refine g_yes h rfl rfl rfl rfl hB2 ?_
    refine s_move h rfl _ rfl rfl (by decide) rfl (fun a h => ?_)
    refine g_yes h rfl rfl rfl rfl hB2 ?_
    refine s_move h rfl _ rfl rfl (by decide) rfl (fun a h => ?_)
    refine g_yes h rfl rfl rfl rfl hB2 ?_
    refine s_x h rfl rfl (by decide) (x_len h.k rfl Tryd.underlying23 rfl) (fun a h => ?_)
    refine g_yes h rfl rfl rfl rfl hB2 ?_
    refine s_x h rfl rfl (by decide) (x_bin h.k rfl rfl rfl ib_gtr) (fun a h => ?_)
    refine s_x h rfl rfl (by decide) (x_pick (u' := undef) h.k rfl rfl (fun hh => absurd (hB2.symm.trans hh) (by decide)) (fun _ => rfl)) (fun a h => ?_)
    exact (h.mid 4 rfl).val (by first | rfl | (rw [hB2]; first | rfl | simp))
  refine l_end ?_
  refine c_cond h rfl (fun hb => ?_) (fun hb => ?_)
  · rw [if_pos hb] at hf
    refine c_rs ?_ -- region 2
    refine s_assign h rfl _ rfl rfl (by decide) rfl (fun a h => ?_)
    refine s_assign h rfl _ rfl rfl (by decide) rfl (fun a h => ?_)
    refine s_assign h rfl _ rfl rfl (by decide) rfl (fun a h => ?_)
    refine l_end ?_
    refine wp_ret ?_
    refine e_thenR ?_
    obtain rfl := Option.some.inj hf
    exact r_ret3 h rfl (rv_tmp h rfl) (rv_tmp h rfl) (rv_tmp h rfl) ⟨_, [], _, rfl, ⟨none, 0, none, 0, rfl, rfl, (slS.nil ty8 S0), (slS.nil ty8 S0), trivial⟩, rfl, (Up.refl _ _ _), h.m⟩
  · rw [if_neg (by rw [hb]; decide)] at hf
    refine wp_skip ?_
    refine e_thenN ?_
    refine wp_seq ?_
    -- region 3 draws
    obtain ⟨x3, h4, hf⟩ := bsome hf
    obtain ⟨x13, h14, hf⟩ := bsome hf
    refine d_start h (Mem _ _ _) 10 10 rfl (by kernel_rfl) (fun _ _ _ _ _ h => h) (fun _ h => h) (fun Q a w HE HN h HS => ?_)
    refine d_takeP h (fun _ => HS) HN 0 rfl (by kernel_rfl) (by kernel_rfl) (by kernel_rfl) (by decide) rfl rfl (by decide) (fun w' => x_move h.k _ rfl rfl) (fun a h => ?_)
    refine d_takeP h (fun _ => HS) HN 1 rfl (by kernel_rfl) (by kernel_rfl) (by kernel_rfl) (by decide) rfl rfl (by decide) (fun w' => x_move h.k _ rfl rfl) (fun a h => ?_)
    refine d_takeP h (fun _ => HS) HN 2 rfl (by kernel_rfl) (by kernel_rfl) (by kernel_rfl) (by decide) rfl rfl (by decide) (fun w' => x_move h.k _ rfl rfl) (fun a h => ?_)
    obtain ⟨m5, n6, hi7, hi8, hm9, hm10, hr11⟩ := sub_some h4
    have hs12 := slS.sub (hsa0) hm9 hm10 (Nat.le_refl _) (Nat.le_trans hm10 (hsa0).1) hr11
    refine d_takeP h (fun _ => HS) HN 3 rfl (by kernel_rfl) (by kernel_rfl) (by kernel_rfl) (by decide) rfl rfl (by decide) (fun w' => x_sliceE h.k rfl Tryd.underlying23 sz_uint8 rfl n6 hr11 (bd_none (by omega)) (bd_some rfl hi8) (bd_some rfl hi8) (by intro hh; cases hh) hm9 hm10 (Nat.le_refl _) (Nat.le_trans hm10 (hsa0).1)) (fun a h => ?_)
    refine d_takeP h (fun _ => HS) HN 4 rfl (by kernel_rfl) (by kernel_rfl) (by kernel_rfl) (by decide) rfl rfl (by decide) (fun w' => x_move h.k _ rfl rfl) (fun a h => ?_)
    refine d_takeP h (fun _ => HS) HN 5 rfl (by kernel_rfl) (by kernel_rfl) (by kernel_rfl) (by decide) rfl rfl (by decide) (fun w' => x_move h.k _ rfl rfl) (fun a h => ?_)
    obtain ⟨m15, n16, hi17, hi18, hm19, hm20, hr21⟩ := sub_some h14
    have hs22 := slS.sub (hsa0) hm19 hm20 (Nat.le_trans hm20 (hsa0).1) (Nat.le_refl _) hr21
    refine d_takeP h (fun _ => HS) HN 6 rfl (by kernel_rfl) (by kernel_rfl) (by kernel_rfl) (by decide) rfl rfl (by decide) (fun w' => x_sliceE h.k rfl Tryd.underlying23 sz_uint8 rfl ca0 hr21 (bd_some rfl hi17) (bd_none (by omega)) (bd_none rfl) (by intro _; rfl) hm19 hm20 (Nat.le_trans hm20 (hsa0).1) (Nat.le_refl _)) (fun a h => ?_)
    refine d_takeP h (fun _ => HS) HN 7 rfl (by kernel_rfl) (by kernel_rfl) (by kernel_rfl) (by decide) rfl rfl (by decide) (fun w' => x_assign h.k _ rfl rfl) (fun a h => ?_)
    refine d_takeP h (fun _ => HS) HN 8 rfl (by kernel_rfl) (by kernel_rfl) (by kernel_rfl) (by decide) rfl rfl (by decide) (fun w' => x_assign h.k _ rfl rfl) (fun a h => ?_)
    refine d_takeP h (fun _ => HS) HN 9 rfl (by kernel_rfl) (by kernel_rfl) (by kernel_rfl) (by decide) rfl rfl (by decide) (fun w' => x_assign h.k _ rfl rfl) (fun a h => ?_)
    refine d_done (by kernel_rfl) (HE _ _ ?_) _
    refine e_thenN ?_
    refine wp_ret ?_
    obtain rfl := Option.some.inj hf
    exact r_ret3 h rfl (rv_tmp h rfl) (rv_tmp h rfl) (rv_tmp h rfl) ⟨_, [], _, rfl, ⟨(sA Aa0 n6 m5 1), (n6 - m5), (sA Aa0 ca0 m15 1), (ca0 - m15), rfl, rfl, hs12, hs22, trivial⟩, rfl, (Up.refl _ _ _), h.m⟩
end
end Go.Proofs.YtcjleeclpmgbjaaDoor
