/- Wb: Go functions as plain functions, and that they are so (written by xt.py). -/
import Derived.Test.YtohgmggdfmjgnaaWa
set_option linter.unusedVariables false
set_option linter.unusedSimpArgs false
namespace Go.Proofs.Ytohgmggdfmjgnaa
open Go.RowKit
def word_Put64 (Fu : Nat) (a0 : UInt64) : Option ((List UInt8)) :=
  (word_Put32 Fu (UInt32.ofNat (u64_shr a0 32).toNat)).bind fun x1 => (word_Put32 Fu (UInt32.ofNat a0.toNat)).bind fun x11 => (appF 1 x1 x11).bind fun x21 => some x21
set_option maxRecDepth 100000 in
set_option maxHeartbeats 2000000 in
theorem word_Put64_ok (Fu : Nat) {S0 : Snap} (a0 : UInt64) (r : (List UInt8)) (hf : word_Put64 Fu a0 = some r) (w0 : World) (hm : Mem w0 (ownL ([] ++ [.sn S0])) ([] ++ [.sn S0]) w0) :
    Calls Try.prog 70 #[.int .u64 (a0.toNat : Int)] w0 (Ret w0 S0 [] (fun v L1 S1 => ∃ (A30 : Option Addr), ∃ (c31 : Nat), ∃ (cs32 : List Value), v = .slice A30 r.length c31 ∧ L1 = [.row (.slice A30 r.length c31) 5 1 r.length cs32] ∧ reps ty8 S1 cs32 r ∧ True)) := by
  unfold word_Put64 at hf
  refine c_enterM Try.func70 rfl 11 rfl (by simp) _ hm _ rfl (fun a h => ?_)
  refine c_rs ?_
  refine sAV h (fun a h => ?_)
  refine l_end ?_
  refine c_rs ?_
  refine sMV h (fun a h => ?_)
  refine s_x h rfl rfl (by decide) (x_bin h.k rfl rfl rfl (ib_shr_u64 a0 32)) (fun a h => ?_)
  refine s_x h rfl rfl (by decide) (x_convE h.k rfl Try.underlying59 Try.underlying106 rfl (u64_to_u32 _)) (fun a h => ?_)
  obtain ⟨x1, h2, hf⟩ := bsome hf
  have hX := word_Put32_ok Fu (S0 := S0) (UInt32.ofNat (u64_shr a0 32).toNat) _ h2 _ (h.sub (Ls := []))
  refine q_callY (Ls := []) hX h (Up.refl _ _ _) rfl rfl rfl (by decide) Try.func90 rfl rfl rfl (fun a w v L1 S4 hR le6 up5 h => ?_)
  obtain ⟨A7, c8, rfl, rfl, hs9, hf10, _⟩ := hR
  refine sMV h (fun a h => ?_)
  refine s_x h rfl rfl (by decide) (x_convE h.k rfl Try.underlying59 Try.underlying106 rfl (u64_to_u32 _)) (fun a h => ?_)
  obtain ⟨x11, h12, hf⟩ := bsome hf
  have hX := word_Put32_ok Fu (S0 := S4) (UInt32.ofNat a0.toNat) _ h12 _ (h.sub (Ls := []))
  refine q_callY (Ls := []) hX h up5 rfl rfl rfl (by decide) Try.func90 rfl rfl rfl (fun a w v L1 S14 hR le16 up15 h => ?_)
  obtain ⟨A17, c18, rfl, rfl, hs19, hf20, _⟩ := hR
  obtain ⟨x21, h22, hf⟩ := bsome hf
  obtain ⟨_, _, vs23, hrd24, hrp25⟩ := id hs19
  refine q_appendG (T := ty8) (S := S14) h rfl rfl rfl (by decide) Try.underlying22 zb_uint8 rfl (by decide) rfl 0 rfl (hs9.mono le16) hf10 rfl hrp25 (hrd24 _ (h.m.snOK (i := 0) rfl)) h22 (fun a w A26 c27 cs28 hq29 h => ?_)
  refine sAV h (fun a h => ?_)
  refine l_end ?_
  refine wp_ret ?_
  rw [← Option.some.inj hf]
  exact r_ret1 h rfl (rv_tmp h rfl) ⟨_, [.row (.slice A26 x21.length c27) 5 1 x21.length cs28], _, rfl, ⟨A26, c27, cs28, rfl, rfl, hq29, trivial⟩, rfl, up15, h.m⟩
def chatelaineref01_Put64_l0 (Fu : Nat) (a0 : UInt64) : Nat → (List UInt8) → UInt64 → Int → Option ((List UInt8))
  | 0, _, _, _ => none
  | k + 1, x3, x8, x9 => if x9 < 8 then ((u64_quo a0 x8).bind fun x19 => (u64_rem x19 (256 : UInt64)).bind fun x21 => (app 1 x3 ([UInt8.ofNat x21.toNat])).bind fun x25 => (u64_quo x8 (256 : UInt64)).bind fun x31 => chatelaineref01_Put64_l0 Fu a0 k x25 x31 (w64 (x9 + 1))) else (some x3)
def chatelaineref01_Put64 (Fu : Nat) (a0 : UInt64) : Option ((List UInt8)) :=
  (chatelaineref01_Put64_l0 Fu a0 Fu ([]) (72057594037927936 : UInt64) 0).bind fun x11 => some x11
set_option maxRecDepth 100000 in
set_option maxHeartbeats 2000000 in
theorem chatelaineref01_Put64_ok (Fu : Nat) {S0 : Snap} (a0 : UInt64) (r : (List UInt8)) (hf : chatelaineref01_Put64 Fu a0 = some r) (w0 : World) (hm : Mem w0 (ownL ([] ++ [.sn S0])) ([] ++ [.sn S0]) w0) :
    Calls Try.prog 34 #[.int .u64 (a0.toNat : Int)] w0 (Ret w0 S0 [] (fun v L1 S1 => ∃ (A34 : Option Addr), ∃ (c35 : Nat), ∃ (cs36 : List Value), v = .slice A34 r.length c35 ∧ L1 = [.row (.slice A34 r.length c35) 5 1 r.length cs36] ∧ reps ty8 S1 cs36 r ∧ True)) := by
  unfold chatelaineref01_Put64 at hf
  refine c_enterM Try.func34 rfl 21 rfl (by simp) _ hm _ rfl (fun a h => ?_)
  refine c_rs ?_
  refine sAV h (fun a h => ?_)
  refine l_end ?_
  refine c_rs ?_
  refine sAV h (fun a h => ?_)
  refine l_end ?_
  refine c_rs ?_
  refine sAV h (fun a h => ?_)
  refine l_end ?_
  refine wp_seq ?_
  refine c_rs ?_
  refine sAV h (fun a h => ?_)
  refine l_end ?_
  obtain ⟨o1, hl2, hf⟩ := bsome hf
  refine c_fin (fun a w => ∃ (x11 : List UInt8), ∃ (A12 : Option Addr), ∃ (c13 : Nat), ∃ (cs14 : List Value), x11 = o1 ∧ reps ty8 S0 cs14 x11 ∧ St 21 w0 (ownL ([] ++ [.sn S0])) [(3, .slice A12 x11.length c13)] [.row (.slice A12 x11.length c13) 5 1 x11.length cs14, .sn S0] a w) ?_ ?_
  · refine wp_block ?_
    have h := h.mem (h.m.nilrow 5 1)
    refine c_loop (fun m17 a w => ∃ (x3 : List UInt8), ∃ (A4 : Option Addr), ∃ (c5 : Nat), ∃ (cs6 : List Value), ∃ (x8 : UInt64), ∃ (x9 : Int), chatelaineref01_Put64_l0 Fu a0 m17 x3 x8 x9 = some o1 ∧ reps ty8 S0 cs6 x3 ∧ r64 x9 ∧ St 21 w0 (ownL ([] ++ [.sn S0])) [(0, .int .u64 (a0.toNat : Int)), (3, .slice A4 x3.length c5), (4, .int .u64 (x8.toNat : Int)), (5, .int .i64 x9)] [.row (.slice A4 x3.length c5) 5 1 x3.length cs6, .sn S0] a w) Fu ⟨[], none, 0, [], (72057594037927936 : UInt64), 0, hl2, (show reps ty8 S0 [] [] from rfl), (show r64 0 from ⟨by decide, by decide⟩), h.has (by exact ⟨rfl, rfl, rfl, rfl, trivial⟩)⟩ (fun m17 a w hI => ?_)
    obtain ⟨x3, A4, c5, cs6, x8, x9, hl16, hq7, hr10, h⟩ := hI
    obtain _ | m17 := m17
    · rw [chatelaineref01_Put64_l0] at hl16; cases hl16
    rw [chatelaineref01_Put64_l0] at hl16
    refine wp_seq ?_
    refine c_rs ?_
    refine sMV h (fun a h => ?_)
    refine s_x h rfl rfl (by decide) (x_bin h.k rfl rfl rfl ib_lss) (fun a h => ?_)
    refine l_end ?_
    refine c_cond h rfl (fun hb => ?_) (fun hb => ?_)
    · rw [if_pos (of_decide_eq_true hb)] at hl16
      refine wp_skip ?_
      refine e_thenN ?_
      refine wp_seq ?_
      refine wp_block ?_
      refine c_rs ?_
      refine sMV h (fun a h => ?_)
      refine sMV h (fun a h => ?_)
      refine sMV h (fun a h => ?_)
      obtain ⟨x19, h20, hl16⟩ := bsome hl16
      refine s_x h rfl rfl (by decide) (x_bin h.k rfl rfl rfl (ib_quo_u64 h20)) (fun a h => ?_)
      obtain ⟨x21, h22, hl16⟩ := bsome hl16
      refine s_x h rfl rfl (by decide) (x_bin h.k rfl rfl rfl (ib_rem_u64 h22)) (fun a h => ?_)
      refine s_x h rfl rfl (by decide) (x_convE h.k rfl Try.underlying59 Try.underlying5 rfl (u64_to_u8 _)) (fun a h => ?_)
      refine q_bslice (T := ty8) (S := S0) h rfl rfl rfl (by decide) Try.underlying22 zi_uint8 (by decide) (by decide) (by decide) (by decide) [.int .u8 ((UInt8.ofNat x21.toNat).toNat : Int)] rfl rfl (C := [[.int .u8 ((UInt8.ofNat x21.toNat).toNat : Int)]]) rfl (xs := [UInt8.ofNat x21.toNat]) ⟨[.int .u8 ((UInt8.ofNat x21.toNat).toNat : Int)], _, rfl, rfl, rfl⟩ (by intro c hc; simp only [List.mem_cons, List.not_mem_nil, or_false] at hc; subst hc; rfl) (fun a w A23 h => ?_)
      have hb24 : reps ty8 S0 ([[.int .u8 ((UInt8.ofNat x21.toNat).toNat : Int)]] : List (List Value)).flatten [UInt8.ofNat x21.toNat] := ⟨[.int .u8 ((UInt8.ofNat x21.toNat).toNat : Int)], _, rfl, rfl, rfl⟩
      obtain ⟨x25, h26, hl16⟩ := bsome hl16
      refine q_append (T := ty8) (S := S0) h rfl rfl rfl (by decide) Try.underlying22 zb_uint8 rfl (by decide) rfl 1 rfl hq7 rfl hb24 (h.m.rdRowA (i := 0) rfl) h26 (fun a w A27 c28 cs29 hq30 h => ?_)
      refine sAV h (fun a h => ?_)
      refine l_end ?_
      refine c_r ?_
      refine sMV h (fun a h => ?_)
      obtain ⟨x31, h32, hl16⟩ := bsome hl16
      refine s_x h rfl rfl (by decide) (x_bin h.k rfl rfl rfl (ib_quo_u64 h32)) (fun a h => ?_)
      refine sAV h (fun a h => ?_)
      refine l_nil ?_
      refine e_blkN ?_
      refine e_thenN ?_
      refine c_r ?_
      refine sMV h (fun a h => ?_)
      refine s_x h rfl rfl (by decide) (x_bin h.k rfl rfl rfl (ib_add rfl)) (fun a h => ?_)
      refine sAV h (fun a h => ?_)
      refine l_nil ?_
      have h := h.pick [1, 2] (by decide) rfl
      exact e_thenN ⟨m17, Nat.lt_succ_self _, x25, A27, c28, cs29, x31, w64 (x9 + 1), hl16, hq30, (w64_r _), h.has (by exact ⟨rfl, rfl, rfl, rfl, trivial⟩)⟩
    · rw [if_neg (of_decide_eq_false hb)] at hl16
      refine wp_exit ?_
      refine e_thenX ?_
      refine e_thenX ?_
      refine e_blkX ?_
      refine e_thenN ?_
      exact ⟨x3, A4, c5, cs6, (Option.some.inj hl16), hq7, h.has (by exact ⟨rfl, trivial⟩)⟩
  · rintro a w ⟨x11, A12, c13, cs14, rfl, hq15, h⟩
    refine e_thenN ?_
    refine c_rs ?_
    refine sMV h (fun a h => ?_)
    refine sAV h (fun a h => ?_)
    refine l_end ?_
    refine wp_ret ?_
    rw [← Option.some.inj hf]
    exact r_ret1 h rfl (rv_tmp h rfl) ⟨_, [.row (.slice A12 x11.length c13) 5 1 x11.length cs14], _, rfl, ⟨A12, c13, cs14, rfl, rfl, hq15, trivial⟩, rfl, (Up.refl _ _ _), h.m⟩
end Go.Proofs.Ytohgmggdfmjgnaa
