/- Texts put together. -/
import Derived.Test.YtohgmggdfmjgnaaWa
set_option linter.unusedVariables false
set_option linter.unusedSimpArgs false
namespace Go.Proofs.Ytohgmggdfmjgnaa
open Go.RowKit
section
def word_Put64 (Fu : Nat) (a0 : UInt64) : Option ((List UInt8)) :=
  (word_Put32 Fu (UInt32.ofNat (u64_shr a0 32).toNat)).bind fun x1 => (word_Put32 Fu (UInt32.ofNat a0.toNat)).bind fun x11 => (appF 1 x1 x11).bind fun x21 => some x21
set_option maxRecDepth 100000 in
set_option maxHeartbeats 2000000 in
theorem word_Put64_ok (Fu : Nat) {S0 : Snap} (a0 : UInt64) (r : (List UInt8)) (hf : word_Put64 Fu a0 = some r) (w0 : World) (hm : Mem w0 (ownL ([] ++ [.sn S0])) ([] ++ [.sn S0]) w0) :
    Calls Try.prog 70 #[.int .u64 (a0.toNat : Int)] w0 (Ret w0 S0 [] (fun v L1 S1 => ∃ (A30 : Option Addr), ∃ (c31 : Nat), ∃ (cs32 : List Value), v = .slice A30 r.length c31 ∧ L1 = [.row (.slice A30 r.length c31) 5 1 r.length cs32] ∧ reps ty8 S1 cs32 r ∧ True)) := by
  unfold word_Put64 at hf
  refine c_enterM Try.func70 rfl 11 rfl (by simp) _ hm _ rfl (fun a h => ?_)
  refine c_rs ?_
  refine sAV h (fun a h => ?_)
  refine l_end ?_
  refine c_rs ?_
  refine sMV h (fun a h => ?_)
  refine sX h (x_bin h.k rfl rfl rfl (ib_shr_u64 a0 32)) (fun a h => ?_)
  refine sX h (x_convE h.k rfl Try.underlying59 Try.underlying106 rfl (u64_to_u32 _)) (fun a h => ?_)
  obtain ⟨x1, h2, hf⟩ := bsome hf
  have hX := word_Put32_ok Fu (S0 := S0) (UInt32.ofNat (u64_shr a0 32).toNat) _ h2 _ (h.sub (Ls := []))
  refine q_callY (Ls := []) hX h (Up.refl _ _ _) rfl rfl rfl (by decide) Try.func90 rfl rfl rfl (fun a w v L1 S4 hR le6 up5 h => ?_)
  obtain ⟨A7, c8, rfl, rfl, hs9, hf10, _⟩ := hR
  refine sMV h (fun a h => ?_)
  refine sX h (x_convE h.k rfl Try.underlying59 Try.underlying106 rfl (u64_to_u32 _)) (fun a h => ?_)
  obtain ⟨x11, h12, hf⟩ := bsome hf
  have hX := word_Put32_ok Fu (S0 := S4) (UInt32.ofNat a0.toNat) _ h12 _ (h.sub (Ls := []))
  refine q_callY (Ls := []) hX h up5 rfl rfl rfl (by decide) Try.func90 rfl rfl rfl (fun a w v L1 S14 hR le16 up15 h => ?_)
  obtain ⟨A17, c18, rfl, rfl, hs19, hf20, _⟩ := hR
  obtain ⟨x21, h22, hf⟩ := bsome hf
  obtain ⟨_, _, vs23, hrd24, hrp25⟩ := id hs19
  refine q_appendG (T := ty8) (S := S14) h rfl rfl rfl (by decide) Try.underlying22 zb_uint8 rfl (by decide) rfl 0 rfl (hs9.mono le16) hf10 rfl hrp25 (hrd24 _ (h.m.snOK (i := 0) rfl)) h22 (fun a w A26 c27 cs28 hq29 h => ?_)
  refine sAV h (fun a h => ?_)
  refine l_end ?_
  refine wp_ret ?_
  rw [← Option.some.inj hf]
  exact r_ret1 h rfl (rv_tmp h rfl) ⟨_, [.row (.slice A26 x21.length c27) 5 1 x21.length cs28], _, rfl, ⟨A26, c27, cs28, rfl, rfl, hq29, trivial⟩, rfl, up15, h.m⟩
def chatelaineref01_Put64_l0 (Fu : Nat) (a0 : UInt64) : Nat → (List UInt8) → UInt64 → Int → Option ((List UInt8))
  | 0, _, _, _ => none
  | k + 1, x3, x8, x9 => if x9 < 8 then ((u64_quo a0 x8).bind fun x19 => (u64_rem x19 (256 : UInt64)).bind fun x21 => (app 1 x3 ([UInt8.ofNat x21.toNat])).bind fun x25 => (u64_quo x8 (256 : UInt64)).bind fun x31 => chatelaineref01_Put64_l0 Fu a0 k x25 x31 (w64 (x9 + 1))) else (some x3)
def chatelaineref01_Put64 (Fu : Nat) (a0 : UInt64) : Option ((List UInt8)) :=
  (chatelaineref01_Put64_l0 Fu a0 Fu ([]) (72057594037927936 : UInt64) 0).bind fun x11 => some x11
set_option maxRecDepth 100000 in
set_option maxHeartbeats 2000000 in
theorem chatelaineref01_Put64_ok (Fu : Nat) {S0 : Snap} (a0 : UInt64) (r : (List UInt8)) (hf : chatelaineref01_Put64 Fu a0 = some r) (w0 : World) (hm : Mem w0 (ownL ([] ++ [.sn S0])) ([] ++ [.sn S0]) w0) :
    Calls Try.prog 34 #[.int .u64 (a0.toNat : Int)] w0 (Ret w0 S0 [] (fun v L1 S1 => ∃ (A34 : Option Addr), ∃ (c35 : Nat), ∃ (cs36 : List Value), v = .slice A34 r.length c35 ∧ L1 = [.row (.slice A34 r.length c35) 5 1 r.length cs36] ∧ reps ty8 S1 cs36 r ∧ True)) := by
  unfold chatelaineref01_Put64 at hf
  refine c_enterM Try.func34 rfl 21 rfl (by simp) _ hm _ rfl (fun a h => ?_)
  refine c_rs ?_
  refine sAV h (fun a h => ?_)
  refine l_end ?_
  refine c_rs ?_
  refine sAV h (fun a h => ?_)
  refine l_end ?_
  refine c_rs ?_
  refine sAV h (fun a h => ?_)
  refine l_end ?_
  refine wp_seq ?_
  refine c_rs ?_
  refine sAV h (fun a h => ?_)
  refine l_end ?_
  obtain ⟨o1, hl2, hf⟩ := bsome hf
  refine c_fin (fun a w => ∃ (x11 : List UInt8), ∃ (A12 : Option Addr), ∃ (c13 : Nat), ∃ (cs14 : List Value), x11 = o1 ∧ reps ty8 S0 cs14 x11 ∧ St 21 w0 (ownL ([] ++ [.sn S0])) [(3, .slice A12 x11.length c13)] [.row (.slice A12 x11.length c13) 5 1 x11.length cs14, .sn S0] a w) ?_ ?_
  · refine wp_block ?_
    have h := h.mem (h.m.nilrow 5 1)
    refine c_loop (fun m17 a w => ∃ (x3 : List UInt8), ∃ (A4 : Option Addr), ∃ (c5 : Nat), ∃ (cs6 : List Value), ∃ (x8 : UInt64), ∃ (x9 : Int), chatelaineref01_Put64_l0 Fu a0 m17 x3 x8 x9 = some o1 ∧ reps ty8 S0 cs6 x3 ∧ r64 x9 ∧ St 21 w0 (ownL ([] ++ [.sn S0])) [(0, .int .u64 (a0.toNat : Int)), (3, .slice A4 x3.length c5), (4, .int .u64 (x8.toNat : Int)), (5, .int .i64 x9)] [.row (.slice A4 x3.length c5) 5 1 x3.length cs6, .sn S0] a w) Fu ⟨[], none, 0, [], (72057594037927936 : UInt64), 0, hl2, (show reps ty8 S0 [] [] from rfl), (show r64 0 from ⟨by decide, by decide⟩), h.has (by exact ⟨rfl, rfl, rfl, rfl, trivial⟩)⟩ (fun m17 a w hI => ?_)
    obtain ⟨x3, A4, c5, cs6, x8, x9, hl16, hq7, hr10, h⟩ := hI
    obtain _ | m17 := m17
    · rw [chatelaineref01_Put64_l0] at hl16; cases hl16
    rw [chatelaineref01_Put64_l0] at hl16
    refine wp_seq ?_
    refine c_rs ?_
    refine sMV h (fun a h => ?_)
    refine sX h (x_bin h.k rfl rfl rfl ib_lss) (fun a h => ?_)
    refine l_end ?_
    refine c_cond h rfl (fun hb => ?_) (fun hb => ?_)
    · rw [if_pos (of_decide_eq_true hb)] at hl16
      refine wp_skip ?_
      refine e_thenN ?_
      refine wp_seq ?_
      refine wp_block ?_
      refine c_rs ?_
      refine sMV h (fun a h => ?_)
      refine sMV h (fun a h => ?_)
      refine sMV h (fun a h => ?_)
      obtain ⟨x19, h20, hl16⟩ := bsome hl16
      refine sX h (x_bin h.k rfl rfl rfl (ib_quo_u64 h20)) (fun a h => ?_)
      obtain ⟨x21, h22, hl16⟩ := bsome hl16
      refine sX h (x_bin h.k rfl rfl rfl (ib_rem_u64 h22)) (fun a h => ?_)
      refine sX h (x_convE h.k rfl Try.underlying59 Try.underlying5 rfl (u64_to_u8 _)) (fun a h => ?_)
      refine q_bslice (T := ty8) (S := S0) h rfl rfl rfl (by decide) Try.underlying22 zi_uint8 (by decide) (by decide) (by decide) (by decide) [.int .u8 ((UInt8.ofNat x21.toNat).toNat : Int)] rfl rfl (C := [[.int .u8 ((UInt8.ofNat x21.toNat).toNat : Int)]]) rfl (xs := [UInt8.ofNat x21.toNat]) ⟨[.int .u8 ((UInt8.ofNat x21.toNat).toNat : Int)], _, rfl, rfl, rfl⟩ (by intro c hc; simp only [List.mem_cons, List.not_mem_nil, or_false] at hc; subst hc; rfl) (fun a w A23 h => ?_)
      have hb24 : reps ty8 S0 ([[.int .u8 ((UInt8.ofNat x21.toNat).toNat : Int)]] : List (List Value)).flatten [UInt8.ofNat x21.toNat] := ⟨[.int .u8 ((UInt8.ofNat x21.toNat).toNat : Int)], _, rfl, rfl, rfl⟩
      obtain ⟨x25, h26, hl16⟩ := bsome hl16
      refine q_append (T := ty8) (S := S0) h rfl rfl rfl (by decide) Try.underlying22 zb_uint8 rfl (by decide) rfl 1 rfl hq7 rfl hb24 (h.m.rdRowA (i := 0) rfl) h26 (fun a w A27 c28 cs29 hq30 h => ?_)
      refine sAV h (fun a h => ?_)
      refine l_end ?_
      refine c_r ?_
      refine sMV h (fun a h => ?_)
      obtain ⟨x31, h32, hl16⟩ := bsome hl16
      refine sX h (x_bin h.k rfl rfl rfl (ib_quo_u64 h32)) (fun a h => ?_)
      refine sAV h (fun a h => ?_)
      refine l_nil ?_
      refine e_blkN ?_
      refine e_thenN ?_
      refine c_r ?_
      refine sMV h (fun a h => ?_)
      refine sX h (x_bin h.k rfl rfl rfl (ib_add rfl)) (fun a h => ?_)
      refine sAV h (fun a h => ?_)
      refine l_nil ?_
      have h := h.pick [1, 2] (by decide) rfl
      exact e_thenN ⟨m17, Nat.lt_succ_self _, x25, A27, c28, cs29, x31, w64 (x9 + 1), hl16, hq30, (w64_r _), h.has (by exact ⟨rfl, rfl, rfl, rfl, trivial⟩)⟩
    · rw [if_neg (of_decide_eq_false hb)] at hl16
      refine wp_exit ?_
      refine e_thenX ?_
      refine e_thenX ?_
      refine e_blkX ?_
      refine e_thenN ?_
      exact ⟨x3, A4, c5, cs6, (Option.some.inj hl16), hq7, h.has (by exact ⟨rfl, trivial⟩)⟩
  · rintro a w ⟨x11, A12, c13, cs14, rfl, hq15, h⟩
    refine e_thenN ?_
    refine c_rs ?_
    refine sMV h (fun a h => ?_)
    refine sAV h (fun a h => ?_)
    refine l_end ?_
    refine wp_ret ?_
    rw [← Option.some.inj hf]
    exact r_ret1 h rfl (rv_tmp h rfl) ⟨_, [.row (.slice A12 x11.length c13) 5 1 x11.length cs14], _, rfl, ⟨A12, c13, cs14, rfl, rfl, hq15, trivial⟩, rfl, (Up.refl _ _ _), h.m⟩
end
section
def word_Put_l0 (Fu : Nat) (a0 : Int) (a1 : Int) : Nat → Int → Int → (List UInt8) → Option ((List UInt8))
  | 0, _, _, _ => none
  | k + 1, x20, x22, x24 => if x22 < x20 then ((ix x24.length (w64 ((w64 (a1 - 1)) - x22))).bind fun m36 => word_Put_l0 Fu a0 a1 k x20 (w64 (x22 + 1)) (x24.set m36 (i8 (i64_shr a0 ((u64I (w64 (8 * x22))).toNat))))) else (some x24)
def word_Put (Fu : Nat) (a0 : Int) (a1 : Int) : Option ((List UInt8) × Int) :=
  if (((((decide (a1 < 1)) || (decide (8 < a1))) || (decide (a0 < 0))) || (decide (4611686018427387904 < a0))) || ((decide (a1 < 8)) && (decide (i64_shr a0 ((u64I (w64 (8 * a1))).toNat) ≠ 0)))) = true then (some ([], 2)) else ((mkN 1 a1).bind fun n12 => (word_Put_l0 Fu a0 a1 Fu ((List.replicate n12 ((0 : UInt8) : UInt8)).length : Int) 0 (List.replicate n12 ((0 : UInt8) : UInt8))).bind fun x29 => some (x29, 0))
set_option maxRecDepth 100000 in
set_option maxHeartbeats 2000000 in
theorem word_Put_ok (Fu : Nat) {S0 : Snap} (a0 : Int) (hra0 : r64 a0) (a1 : Int) (hra1 : r64 a1) (r : (List UInt8) × Int) (hf : word_Put Fu a0 a1 = some r) (w0 : World) (hm : Mem w0 (ownL ([] ++ [.sn S0])) ([] ++ [.sn S0]) w0) :
    Calls Try.prog 63 #[.int .i64 a0, .int .i64 a1] w0 (Ret w0 S0 [] (fun v L1 S1 => ∃ (A46 : Option Addr), ∃ (c47 : Nat), ∃ (cs48 : List Value), v = .tuple #[.slice A46 r.1.length c47, .int .i64 r.2] ∧ L1 = [.row (.slice A46 r.1.length c47) 5 1 r.1.length cs48] ∧ reps ty8 S1 cs48 r.1 ∧ r64 r.2 ∧ True)) := by
  unfold word_Put at hf
  refine c_enterM Try.func63 rfl 55 rfl (by simp) _ hm _ rfl (fun a h => ?_)
  refine c_rs ?_
  refine sAV h (fun a h => ?_)
  refine sAV h (fun a h => ?_)
  refine l_end ?_
  refine wp_seq ?_
  refine c_rs ?_
  refine sMV h (fun a h => ?_)
  refine sX h (x_bin h.k rfl rfl rfl ib_lss) (fun a h => ?_)
  refine sMV h (fun a h => ?_)
  refine q_grp h 3 (t := 10) 13 ((decide (a1 < 1)) || (decide (8 < a1))) rfl (fun hB2 => ?_) (fun hB2 => ?_) (fun a w h => ?_)
  · refine g_no h rfl rfl rfl rfl hB2 rfl (by decide) (fun a h => ?_)
    refine g_no h rfl rfl rfl rfl hB2 rfl (by decide) (fun a h => ?_)
    refine sX h (x_pick (u' := undef) h.k rfl rfl (fun _ => rfl) (fun hh => absurd (hB2.symm.trans hh) (by decide))) (fun a h => ?_)
    exact (h.mid 2 rfl).val (by first | rfl | (rw [hB2]; first | rfl | simp))
  · refine g_yes h rfl rfl rfl rfl hB2 ?_
    refine sMV h (fun a h => ?_)
    refine g_yes h rfl rfl rfl rfl hB2 ?_
    refine sX h (x_bin h.k rfl rfl rfl ib_gtr) (fun a h => ?_)
    refine sX h (x_pick (u' := undef) h.k rfl rfl (fun hh => absurd (hB2.symm.trans hh) (by decide)) (fun _ => rfl)) (fun a h => ?_)
    exact (h.mid 2 rfl).val (by first | rfl | (rw [hB2]; first | rfl | simp))
  refine sMV h (fun a h => ?_)
  refine q_grp h 3 (t := 14) 17 (((decide (a1 < 1)) || (decide (8 < a1))) || (decide (a0 < 0))) rfl (fun hB6 => ?_) (fun hB6 => ?_) (fun a w h => ?_)
  · refine g_no h rfl rfl rfl rfl hB6 rfl (by decide) (fun a h => ?_)
    refine g_no h rfl rfl rfl rfl hB6 rfl (by decide) (fun a h => ?_)
    refine sX h (x_pick (u' := undef) h.k rfl rfl (fun _ => rfl) (fun hh => absurd (hB6.symm.trans hh) (by decide))) (fun a h => ?_)
    exact (h.mid 2 rfl).val (by first | rfl | (rw [hB6]; first | rfl | simp))
  · refine g_yes h rfl rfl rfl rfl hB6 ?_
    refine sMV h (fun a h => ?_)
    refine g_yes h rfl rfl rfl rfl hB6 ?_
    refine sX h (x_bin h.k rfl rfl rfl ib_lss) (fun a h => ?_)
    refine sX h (x_pick (u' := undef) h.k rfl rfl (fun hh => absurd (hB6.symm.trans hh) (by decide)) (fun _ => rfl)) (fun a h => ?_)
    exact (h.mid 2 rfl).val (by first | rfl | (rw [hB6]; first | rfl | simp))
  refine sMV h (fun a h => ?_)
  refine q_grp h 3 (t := 18) 21 ((((decide (a1 < 1)) || (decide (8 < a1))) || (decide (a0 < 0))) || (decide (4611686018427387904 < a0))) rfl (fun hB10 => ?_) (fun hB10 => ?_) (fun a w h => ?_)
  · refine g_no h rfl rfl rfl rfl hB10 rfl (by decide) (fun a h => ?_)
    refine g_no h rfl rfl rfl rfl hB10 rfl (by decide) (fun a h => ?_)
    refine sX h (x_pick (u' := undef) h.k rfl rfl (fun _ => rfl) (fun hh => absurd (hB10.symm.trans hh) (by decide))) (fun a h => ?_)
    exact (h.mid 2 rfl).val (by first | rfl | (rw [hB10]; first | rfl | simp))
  · refine g_yes h rfl rfl rfl rfl hB10 ?_
    refine sMV h (fun a h => ?_)
    refine g_yes h rfl rfl rfl rfl hB10 ?_
    refine sX h (x_bin h.k rfl rfl rfl ib_gtr) (fun a h => ?_)
    refine sX h (x_pick (u' := undef) h.k rfl rfl (fun hh => absurd (hB10.symm.trans hh) (by decide)) (fun _ => rfl)) (fun a h => ?_)
    exact (h.mid 2 rfl).val (by first | rfl | (rw [hB10]; first | rfl | simp))
  refine sMV h (fun a h => ?_)
  refine q_grp h 11 (t := 22) 33 (((((decide (a1 < 1)) || (decide (8 < a1))) || (decide (a0 < 0))) || (decide (4611686018427387904 < a0))) || ((decide (a1 < 8)) && (decide (i64_shr a0 ((u64I (w64 (8 * a1))).toNat) ≠ 0)))) rfl (fun hB14 => ?_) (fun hB14 => ?_) (fun a w h => ?_)
  · refine g_no h rfl rfl rfl rfl hB14 rfl (by decide) (fun a h => ?_)
    refine g_no h rfl rfl rfl rfl hB14 rfl (by decide) (fun a h => ?_)
    refine g_no h rfl rfl rfl rfl hB14 rfl (by decide) (fun a h => ?_)
    refine g_off h rfl rfl rfl rfl rfl (by decide) (fun a h => ?_)
    refine g_off h rfl rfl rfl rfl rfl (by decide) (fun a h => ?_)
    refine g_off h rfl rfl rfl rfl rfl (by decide) (fun a h => ?_)
    refine g_off h rfl rfl rfl rfl rfl (by decide) (fun a h => ?_)
    refine g_off h rfl rfl rfl rfl rfl (by decide) (fun a h => ?_)
    refine g_off h rfl rfl rfl rfl rfl (by decide) (fun a h => ?_)
    refine g_no h rfl rfl rfl rfl hB14 rfl (by decide) (fun a h => ?_)
    refine sX h (x_pick (u' := undef) h.k rfl rfl (fun _ => rfl) (fun hh => absurd (hB14.symm.trans hh) (by decide))) (fun a h => ?_)
    exact (h.mid 10 rfl).val (by first | rfl | (rw [hB14]; first | rfl | simp))
  · refine g_yes h rfl rfl rfl rfl hB14 ?_
    refine sMV h (fun a h => ?_)
    refine g_yes h rfl rfl rfl rfl hB14 ?_
    refine sX h (x_bin h.k rfl rfl rfl ib_lss) (fun a h => ?_)
    refine g_yes h rfl rfl rfl rfl hB14 ?_
    refine sMV h (fun a h => ?_)
    refine q_grp h 7 (t := 25) 32 ((decide (a1 < 8)) && (decide (i64_shr a0 ((u64I (w64 (8 * a1))).toNat) ≠ 0))) rfl (fun hB17 => ?_) (fun hB17 => ?_) (fun a w h => ?_)
    · refine g_yes h rfl rfl rfl rfl hB17 ?_
      refine sMV h (fun a h => ?_)
      refine g_yes h rfl rfl rfl rfl hB17 ?_
      refine sMV h (fun a h => ?_)
      refine g_yes h rfl rfl rfl rfl hB17 ?_
      refine sX h (x_bin h.k rfl rfl rfl (ib_mul rfl)) (fun a h => ?_)
      refine g_yes h rfl rfl rfl rfl hB17 ?_
      refine sX h (x_convE h.k rfl Try.underlying3 Try.underlying111 rfl (u64I_wrap _)) (fun a h => ?_)
      refine g_yes h rfl rfl rfl rfl hB17 ?_
      refine sX h (x_bin h.k rfl rfl rfl (ib_shr_i64 _ ((u64I (w64 (8 * a1))).toNat))) (fun a h => ?_)
      refine g_yes h rfl rfl rfl rfl hB17 ?_
      refine sX h (x_bin h.k rfl rfl rfl ib_neq) (fun a h => ?_)
      refine g_yes h rfl rfl rfl rfl hB14 ?_
      refine sX h (x_pick (u' := undef) h.k rfl rfl (fun _ => rfl) (fun hh => absurd (hB17.symm.trans hh) (by decide))) (fun a h => ?_)
      exact (h.mid 6 rfl).val (by first | rfl | (rw [hB17]; first | rfl | simp))
    · refine g_no h rfl rfl rfl rfl hB17 rfl (by decide) (fun a h => ?_)
      refine g_no h rfl rfl rfl rfl hB17 rfl (by decide) (fun a h => ?_)
      refine g_no h rfl rfl rfl rfl hB17 rfl (by decide) (fun a h => ?_)
      refine g_no h rfl rfl rfl rfl hB17 rfl (by decide) (fun a h => ?_)
      refine g_no h rfl rfl rfl rfl hB17 rfl (by decide) (fun a h => ?_)
      refine g_no h rfl rfl rfl rfl hB17 rfl (by decide) (fun a h => ?_)
      refine g_yes h rfl rfl rfl rfl hB14 ?_
      refine sX h (x_pick (u' := undef) h.k rfl rfl (fun hh => absurd (hB17.symm.trans hh) (by decide)) (fun _ => rfl)) (fun a h => ?_)
      exact (h.mid 6 rfl).val (by first | rfl | (rw [hB17]; first | rfl | simp))
    refine sX h (x_pick (u' := undef) h.k rfl rfl (fun hh => absurd (hB14.symm.trans hh) (by decide)) (fun _ => rfl)) (fun a h => ?_)
    exact (h.mid 4 rfl).val (by first | rfl | (rw [hB14]; first | rfl | simp))
  refine l_end ?_
  refine c_cond h rfl (fun hb => ?_) (fun hb => ?_)
  · rw [if_pos hb] at hf
    refine c_rs ?_
    refine sAV h (fun a h => ?_)
    refine sAV h (fun a h => ?_)
    refine l_end ?_
    refine wp_ret ?_
    refine e_thenR ?_
    obtain rfl := Option.some.inj hf
    have h := h.mem (h.m.nilrow 5 1)
    exact r_ret2 h rfl (rv_tmp h rfl) (rv_tmp h rfl) ⟨_, [.row (.slice none ([]).length 0) 5 1 ([]).length []], _, rfl, ⟨none, 0, [], rfl, rfl, (show reps ty8 S0 [] [] from rfl), (show r64 2 from ⟨by decide, by decide⟩), trivial⟩, rfl, (Up.refl _ _ _), h.m⟩
  · rw [if_neg (by rw [hb]; decide)] at hf
    refine wp_skip ?_
    refine e_thenN ?_
    refine c_rs ?_
    refine sMV h (fun a h => ?_)
    obtain ⟨n12, h13, hf⟩ := bsome hf
    refine q_make (T := ty8) (S := S0) h rfl rfl rfl (by decide) Try.underlying22 zb_uint8 rfl rfl (q := (0 : UInt8)) rfl rfl rfl h13 (fun a w A14 cs15 hq16 h => ?_)
    refine sAV h (fun a h => ?_)
    refine l_end ?_
    refine wp_seq ?_
    refine c_rs ?_
    refine sMV h (fun a h => ?_)
    have hr17 : r64 ((List.replicate n12 ((0 : UInt8) : UInt8)).length : Int) := len_r (h.m.rowLen (i := 0) rfl)
    refine sX h (x_len h.k rfl Try.underlying22 rfl) (fun a h => ?_)
    refine sMV h (fun a h => ?_)
    refine l_end ?_
    obtain ⟨o18, hl19, hf⟩ := bsome hf
    refine c_fin (fun a w => ∃ (x29 : List UInt8), ∃ (A30 : Option Addr), ∃ (c31 : Nat), ∃ (cs32 : List Value), x29 = o18 ∧ reps ty8 S0 cs32 x29 ∧ St 55 w0 (ownL ([] ++ [.sn S0])) [(6, .slice A30 x29.length c31)] [.row (.slice A30 x29.length c31) 5 1 x29.length cs32, .sn S0] a w) ?_ ?_
    · refine wp_block ?_
      refine c_loop (fun m35 a w => ∃ (x20 : Int), ∃ (x22 : Int), ∃ (x24 : List UInt8), ∃ (A25 : Option Addr), ∃ (c26 : Nat), ∃ (cs27 : List Value), word_Put_l0 Fu a0 a1 m35 x20 x22 x24 = some o18 ∧ r64 x20 ∧ r64 x22 ∧ reps ty8 S0 cs27 x24 ∧ St 55 w0 (ownL ([] ++ [.sn S0])) [(0, .int .i64 a0), (1, .int .i64 a1), (6, .slice A25 x24.length c26), (37, .int .i64 x20), (38, .int .i64 x22)] [.row (.slice A25 x24.length c26) 5 1 x24.length cs27, .sn S0] a w) Fu ⟨((List.replicate n12 ((0 : UInt8) : UInt8)).length : Int), 0, (List.replicate n12 ((0 : UInt8) : UInt8)), A14, n12, cs15, hl19, hr17, (show r64 0 from ⟨by decide, by decide⟩), hq16, h.has (by exact ⟨rfl, rfl, rfl, rfl, rfl, trivial⟩)⟩ (fun m35 a w hI => ?_)
      obtain ⟨x20, x22, x24, A25, c26, cs27, hl34, hr21, hr23, hq28, h⟩ := hI
      obtain _ | m35 := m35
      · rw [word_Put_l0] at hl34; cases hl34
      rw [word_Put_l0] at hl34
      refine c_rs ?_
      refine sX h (x_bin h.k rfl rfl rfl ib_lss) (fun a h => ?_)
      refine l_end ?_
      refine c_cs h rfl (fun hb => ?_) (fun hb => ?_)
      · rw [if_pos (of_decide_eq_true hb)] at hl34
        refine wp_skip ?_
        refine e_thenN ?_
        refine wp_seq ?_
        refine wp_block ?_
        refine c_rs ?_
        refine sMV h (fun a h => ?_)
        refine sAV h (fun a h => ?_)
        refine l_end ?_
        refine c_r ?_
        refine sMV h (fun a h => ?_)
        refine sMV h (fun a h => ?_)
        refine sX h (x_bin h.k rfl rfl rfl (ib_sub rfl)) (fun a h => ?_)
        refine sMV h (fun a h => ?_)
        refine sX h (x_bin h.k rfl rfl rfl (ib_sub rfl)) (fun a h => ?_)
        refine sMV h (fun a h => ?_)
        refine sMV h (fun a h => ?_)
        refine sX h (x_bin h.k rfl rfl rfl (ib_mul rfl)) (fun a h => ?_)
        refine sX h (x_convE h.k rfl Try.underlying3 Try.underlying111 rfl (u64I_wrap _)) (fun a h => ?_)
        refine sX h (x_bin h.k rfl rfl rfl (ib_shr_i64 _ ((u64I (w64 (8 * x22))).toNat))) (fun a h => ?_)
        refine sX h (x_convE h.k rfl Try.underlying3 Try.underlying5 rfl (i8_wrap _).symm) (fun a h => ?_)
        obtain ⟨m36, h37, hl34⟩ := bsome hl34
        obtain ⟨hi38, hm39⟩ := ix_some h37
        obtain ⟨g41, hA40⟩ := h.m.rowHead (i := 0) rfl (Nat.lt_of_le_of_lt (Nat.zero_le _) hm39)
        refine sX h (x_iaddrE h.k rfl Try.underlying22 sz_uint8 hA40 rfl rfl hi38 hm39) (fun a h => ?_)
        refine q_setRow (T := ty8) (q := i8 (i64_shr a0 ((u64I (w64 (8 * x22))).toNat))) h rfl rfl rfl sz_uint8 hA40 rfl rfl 0 rfl rfl hq28 rfl (by first | exact hm39 | simpa using hm39) (fun a w cs42 hq43 h => ?_)
        have hl44 : x24.length = (x24.set m36 (i8 (i64_shr a0 ((u64I (w64 (8 * x22))).toNat)))).length := by simp only [List.length_set]
        rw [hl44] at h
        refine l_nil ?_
        refine e_blkN ?_
        refine e_thenN ?_
        refine c_r ?_
        refine sX h (x_bin h.k rfl rfl rfl (ib_add rfl)) (fun a h => ?_)
        refine sMV h (fun a h => ?_)
        refine l_nil ?_
        exact e_thenN ⟨m35, Nat.lt_succ_self _, x20, w64 (x22 + 1), (x24.set m36 (i8 (i64_shr a0 ((u64I (w64 (8 * x22))).toNat)))), A25, c26, cs42, hl34, hr21, (w64_r _), hq43, h.has (by exact ⟨rfl, rfl, rfl, rfl, rfl, trivial⟩)⟩
      · rw [if_neg (of_decide_eq_false hb)] at hl34
        refine wp_exit ?_
        refine e_thenX ?_
        refine e_thenX ?_
        refine e_blkX ?_
        refine e_thenN ?_
        exact ⟨x24, A25, c26, cs27, (Option.some.inj hl34), hq28, h.has (by exact ⟨rfl, trivial⟩)⟩
    · rintro a w ⟨x29, A30, c31, cs32, rfl, hq33, h⟩
      refine e_thenN ?_
      refine c_rs ?_
      refine sMV h (fun a h => ?_)
      refine sAV h (fun a h => ?_)
      refine sAV h (fun a h => ?_)
      refine l_end ?_
      refine wp_ret ?_
      obtain rfl := Option.some.inj hf
      exact r_ret2 h rfl (rv_tmp h rfl) (rv_tmp h rfl) ⟨_, [.row (.slice A30 x29.length c31) 5 1 x29.length cs32], _, rfl, ⟨A30, c31, cs32, rfl, rfl, hq33, (show r64 0 from ⟨by decide, by decide⟩), trivial⟩, rfl, (Up.refl _ _ _), h.m⟩
end
end Go.Proofs.Ytohgmggdfmjgnaa
