/- Gf: Go functions as plain functions, and that they are so (written by xt.py). -/
import Derived.Test.YthaoiajbgadcjaaWa
import Derived.Test.YthaoiajbgadcjaaPc
set_option linter.unusedVariables false
set_option linter.unusedSimpArgs false
namespace Go.Proofs.Ythaoiajbgadcjaa
open Go.RowKit
def gf_Times_l0 (Fu : Nat) : Nat → UInt8 → UInt8 → UInt8 → Option UInt8
  | 0, _, _, _ => none
  | k + 1, x3, x4, x5 => if 0 < (x4.toNat : Int) then (gf_Times_l0 Fu k ((u8_shl x3 1) ^^^ ((27 : UInt8) &&& (-(u8_shr x3 7)))) (u8_shr x4 1) (x5 ^^^ (x3 &&& (-(x4 &&& (1 : UInt8)))))) else (some x5)
def gf_Times (Fu : Nat) (a0 : UInt8) (a1 : UInt8) : Option UInt8 :=
  (gf_Times_l0 Fu Fu a0 a1 (0 : UInt8)).bind fun x6 => some x6
set_option maxRecDepth 100000 in
set_option maxHeartbeats 2000000 in
theorem gf_Times_ok (Fu : Nat) {S0 : Snap} (a0 : UInt8) (a1 : UInt8) (r : UInt8) (hf : gf_Times Fu a0 a1 = some r) (w0 : World) (hm : Mem w0 (ownL ([] ++ [.sn S0])) ([] ++ [.sn S0]) w0) :
    Calls Try.prog 71 #[.int .u8 (a0.toNat : Int), .int .u8 (a1.toNat : Int)] w0 (Ret w0 S0 [] (fun v L1 S1 => v = .int .u8 (r.toNat : Int) ∧ L1 = [] ∧ True)) := by
  unfold gf_Times at hf
  refine c_enterM Try.func71 rfl 25 rfl (by simp) _ hm _ rfl (fun a h => ?_)
  refine c_rs ?_
  refine sAV h (fun a h => ?_)
  refine l_end ?_
  refine c_rs ?_
  refine sAV h (fun a h => ?_)
  refine l_end ?_
  obtain ⟨o1, hl2, hf⟩ := bsome hf
  refine c_cut (fun a w => ∃ (x6 : UInt8), x6 = o1 ∧ St 25 w0 (ownL ([] ++ [.sn S0])) [(5, .int .u8 (x6.toNat : Int))] [.sn S0] a w) ?_ ?_
  · refine wp_block ?_
    refine c_loop (fun m8 a w => ∃ (x3 : UInt8), ∃ (x4 : UInt8), ∃ (x5 : UInt8), gf_Times_l0 Fu m8 x3 x4 x5 = some o1 ∧ St 25 w0 (ownL ([] ++ [.sn S0])) [(0, .int .u8 (x3.toNat : Int)), (1, .int .u8 (x4.toNat : Int)), (5, .int .u8 (x5.toNat : Int))] [.sn S0] a w) Fu ⟨a0, a1, (0 : UInt8), hl2, h.has (by exact ⟨rfl, rfl, rfl, trivial⟩)⟩ (fun m8 a w hI => ?_)
    obtain ⟨x3, x4, x5, hl7, h⟩ := hI
    obtain _ | m8 := m8
    · rw [gf_Times_l0] at hl7; cases hl7
    rw [gf_Times_l0] at hl7
    refine wp_seq ?_
    refine c_rs ?_
    refine sMV h (fun a h => ?_)
    refine s_x h rfl rfl (by decide) (x_bin h.k rfl rfl rfl ib_gtr) (fun a h => ?_)
    refine l_end ?_
    refine c_cond h rfl (fun hb => ?_) (fun hb => ?_)
    · rw [if_pos (of_decide_eq_true hb)] at hl7
      refine wp_skip ?_
      refine e_thenN ?_
      refine wp_seq ?_
      refine wp_block ?_
      refine c_rs ?_
      refine sMV h (fun a h => ?_)
      refine sMV h (fun a h => ?_)
      refine sMV h (fun a h => ?_)
      refine s_x h rfl rfl (by decide) (x_bin h.k rfl rfl rfl (ib_and (u8_and_ x4 (1 : UInt8)))) (fun a h => ?_)
      refine s_x h rfl rfl (by decide) (x_neg h.k rfl rfl (u8_neg _)) (fun a h => ?_)
      refine s_x h rfl rfl (by decide) (x_bin h.k rfl rfl rfl (ib_and (u8_and_ x3 (-(x4 &&& (1 : UInt8)))))) (fun a h => ?_)
      refine s_x h rfl rfl (by decide) (x_bin h.k rfl rfl rfl (ib_xor (u8_xor_ x5 (x3 &&& (-(x4 &&& (1 : UInt8))))))) (fun a h => ?_)
      refine sAV h (fun a h => ?_)
      refine l_end ?_
      refine c_r ?_
      refine sMV h (fun a h => ?_)
      refine s_x h rfl rfl (by decide) (x_bin h.k rfl rfl rfl (ib_shl_u8 x3 1)) (fun a h => ?_)
      refine sMV h (fun a h => ?_)
      refine s_x h rfl rfl (by decide) (x_bin h.k rfl rfl rfl (ib_shr_u8 x3 7)) (fun a h => ?_)
      refine s_x h rfl rfl (by decide) (x_neg h.k rfl rfl (u8_neg _)) (fun a h => ?_)
      refine s_x h rfl rfl (by decide) (x_bin h.k rfl rfl rfl (ib_and (u8_and_ (27 : UInt8) (-(u8_shr x3 7))))) (fun a h => ?_)
      refine s_x h rfl rfl (by decide) (x_bin h.k rfl rfl rfl (ib_xor (u8_xor_ (u8_shl x3 1) ((27 : UInt8) &&& (-(u8_shr x3 7)))))) (fun a h => ?_)
      refine sAV h (fun a h => ?_)
      refine l_nil ?_
      refine e_blkN ?_
      refine e_thenN ?_
      refine c_r ?_
      refine sMV h (fun a h => ?_)
      refine s_x h rfl rfl (by decide) (x_bin h.k rfl rfl rfl (ib_shr_u8 x4 1)) (fun a h => ?_)
      refine sAV h (fun a h => ?_)
      refine l_nil ?_
      exact e_thenN ⟨m8, Nat.lt_succ_self _, ((u8_shl x3 1) ^^^ ((27 : UInt8) &&& (-(u8_shr x3 7)))), u8_shr x4 1, (x5 ^^^ (x3 &&& (-(x4 &&& (1 : UInt8))))), hl7, h.has (by exact ⟨rfl, rfl, rfl, trivial⟩)⟩
    · rw [if_neg (of_decide_eq_false hb)] at hl7
      refine wp_exit ?_
      refine e_thenX ?_
      refine e_thenX ?_
      refine e_blkX ?_
      refine e_thenN ?_
      exact ⟨x5, (Option.some.inj hl7), h.has (by exact ⟨rfl, trivial⟩)⟩
  · rintro a w ⟨x6, rfl, h⟩
    refine c_rs ?_
    refine sMV h (fun a h => ?_)
    refine sAV h (fun a h => ?_)
    refine l_end ?_
    refine wp_ret ?_
    rw [← Option.some.inj hf]
    exact r_ret1 h rfl (rv_tmp h rfl) ⟨_, [], _, rfl, ⟨rfl, rfl, trivial⟩, rfl, (Up.refl _ _ _), h.m⟩
def gf_Inverse_l0 (Fu : Nat) : Nat → UInt8 → UInt8 → Int → Option UInt8
  | 0, _, _, _ => none
  | k + 1, x3, x4, x5 => if x5 < 7 then ((gf_Times Fu x3 x3).bind fun x10 => (gf_Times Fu x4 x10).bind fun x13 => gf_Inverse_l0 Fu k x10 x13 (w64 (x5 + 1))) else (some x4)
def gf_Inverse (Fu : Nat) (a0 : UInt8) : Option UInt8 :=
  (gf_Inverse_l0 Fu Fu a0 (1 : UInt8) 0).bind fun x7 => some x7
set_option maxRecDepth 100000 in
set_option maxHeartbeats 2000000 in
theorem gf_Inverse_ok (Fu : Nat) {S0 : Snap} (a0 : UInt8) (r : UInt8) (hf : gf_Inverse Fu a0 = some r) (w0 : World) (hm : Mem w0 (ownL ([] ++ [.sn S0])) ([] ++ [.sn S0]) w0) :
    Calls Try.prog 69 #[.int .u8 (a0.toNat : Int)] w0 (Ret w0 S0 [] (fun v L1 S1 => v = .int .u8 (r.toNat : Int) ∧ L1 = [] ∧ True)) := by
  unfold gf_Inverse at hf
  refine c_enterM Try.func69 rfl 14 rfl (by simp) _ hm _ rfl (fun a h => ?_)
  refine c_rs ?_
  refine sAV h (fun a h => ?_)
  refine l_end ?_
  refine c_rs ?_
  refine sAV h (fun a h => ?_)
  refine l_end ?_
  refine wp_seq ?_
  refine c_rs ?_
  refine sMV h (fun a h => ?_)
  refine l_end ?_
  obtain ⟨o1, hl2, hf⟩ := bsome hf
  refine c_fin (fun a w => ∃ (x7 : UInt8), x7 = o1 ∧ St 14 w0 (ownL ([] ++ [.sn S0])) [(3, .int .u8 (x7.toNat : Int))] [.sn S0] a w) ?_ ?_
  · refine wp_block ?_
    refine c_loop (fun m9 a w => ∃ (x3 : UInt8), ∃ (x4 : UInt8), ∃ (x5 : Int), gf_Inverse_l0 Fu m9 x3 x4 x5 = some o1 ∧ r64 x5 ∧ St 14 w0 (ownL ([] ++ [.sn S0])) [(0, .int .u8 (x3.toNat : Int)), (3, .int .u8 (x4.toNat : Int)), (4, .int .i64 x5)] [.sn S0] a w) Fu ⟨a0, (1 : UInt8), 0, hl2, (show r64 0 from ⟨by decide, by decide⟩), h.has (by exact ⟨rfl, rfl, rfl, trivial⟩)⟩ (fun m9 a w hI => ?_)
    obtain ⟨x3, x4, x5, hl8, hr6, h⟩ := hI
    obtain _ | m9 := m9
    · rw [gf_Inverse_l0] at hl8; cases hl8
    rw [gf_Inverse_l0] at hl8
    refine c_rs ?_
    refine s_x h rfl rfl (by decide) (x_bin h.k rfl rfl rfl ib_lss) (fun a h => ?_)
    refine l_end ?_
    refine c_cs h rfl (fun hb => ?_) (fun hb => ?_)
    · rw [if_pos (of_decide_eq_true hb)] at hl8
      refine wp_skip ?_
      refine e_thenN ?_
      refine wp_seq ?_
      refine wp_block ?_
      refine c_rs ?_
      refine sMV h (fun a h => ?_)
      refine sMV h (fun a h => ?_)
      obtain ⟨x10, h11, hl8⟩ := bsome hl8
      have hX := gf_Times_ok Fu (S0 := snapAll _) x3 x3 _ h11 _ h.startAll
      refine q_callX hX h rfl rfl rfl (by decide) Try.func71 rfl rfl rfl (fun a w v L1 S1 hR hb1 h => ?_)
      obtain ⟨rfl, rfl, _⟩ := hR
      refine sAV h (fun a h => ?_)
      refine l_end ?_
      refine c_r ?_
      refine sMV h (fun a h => ?_)
      refine sMV h (fun a h => ?_)
      obtain ⟨x13, h14, hl8⟩ := bsome hl8
      have hX := gf_Times_ok Fu (S0 := snapAll _) x4 x10 _ h14 _ h.startAll
      refine q_callX hX h rfl rfl rfl (by decide) Try.func71 rfl rfl rfl (fun a w v L1 S1 hR hb1 h => ?_)
      obtain ⟨rfl, rfl, _⟩ := hR
      refine sAV h (fun a h => ?_)
      refine l_nil ?_
      refine e_blkN ?_
      refine e_thenN ?_
      refine c_r ?_
      refine s_x h rfl rfl (by decide) (x_bin h.k rfl rfl rfl (ib_add rfl)) (fun a h => ?_)
      refine sMV h (fun a h => ?_)
      refine l_nil ?_
      exact e_thenN ⟨m9, Nat.lt_succ_self _, x10, x13, w64 (x5 + 1), hl8, (w64_r _), h.has (by exact ⟨rfl, rfl, rfl, trivial⟩)⟩
    · rw [if_neg (of_decide_eq_false hb)] at hl8
      refine wp_exit ?_
      refine e_thenX ?_
      refine e_thenX ?_
      refine e_blkX ?_
      refine e_thenN ?_
      exact ⟨x4, (Option.some.inj hl8), h.has (by exact ⟨rfl, trivial⟩)⟩
  · rintro a w ⟨x7, rfl, h⟩
    refine e_thenN ?_
    refine c_rs ?_
    refine sMV h (fun a h => ?_)
    refine sAV h (fun a h => ?_)
    refine l_end ?_
    refine wp_ret ?_
    rw [← Option.some.inj hf]
    exact r_ret1 h rfl (rv_tmp h rfl) ⟨_, [], _, rfl, ⟨rfl, rfl, trivial⟩, rfl, (Up.refl _ _ _), h.m⟩
def chatelaineref02_xor (Fu : Nat) (a0 : Int) (a1 : Int) : Option Int :=
  some (i64_xor a0 a1)
set_option maxRecDepth 100000 in
set_option maxHeartbeats 2000000 in
theorem chatelaineref02_xor_ok (Fu : Nat) {S0 : Snap} (a0 : Int) (hra0 : r64 a0) (a1 : Int) (hra1 : r64 a1) (r : Int) (hf : chatelaineref02_xor Fu a0 a1 = some r) (w0 : World) (hm : Mem w0 (ownL ([] ++ [.sn S0])) ([] ++ [.sn S0]) w0) :
    Calls Try.prog 78 #[.int .i64 a0, .int .i64 a1] w0 (Ret w0 S0 [] (fun v L1 S1 => v = .int .i64 r ∧ L1 = [] ∧ r64 r ∧ True)) := by
  unfold chatelaineref02_xor at hf
  refine c_enterM Try.func78 rfl 8 rfl (by simp) _ hm _ rfl (fun a h => ?_)
  refine c_rs ?_
  refine sAV h (fun a h => ?_)
  refine l_end ?_
  refine c_rs ?_
  refine sMV h (fun a h => ?_)
  refine sMV h (fun a h => ?_)
  refine s_x h rfl rfl (by decide) (x_bin h.k rfl rfl rfl (ib_xor rfl)) (fun a h => ?_)
  refine sAV h (fun a h => ?_)
  refine l_end ?_
  refine wp_ret ?_
  obtain rfl := Option.some.inj hf
  exact r_ret1 h rfl (rv_tmp h rfl) ⟨_, [], _, rfl, ⟨rfl, rfl, (i64_xor_r _ _), trivial⟩, rfl, (Up.refl _ _ _), h.m⟩
def chatelaineref02_Times_l0 (Fu : Nat) (a0 : Int) (a1 : Int) : Nat → Int → Int → Int → Option Int
  | 0, _, _, _ => none
  | k + 1, x3, x5, x7 => if x7 < 8 then (((quoI a1 x5).bind fun x17 => if Int.tmod x17 2 = 1 then ((chatelaineref02_xor Fu x3 (w64 (a0 * x5))).bind fun x19 => some x19) else (some x3)).bind fun x15 => chatelaineref02_Times_l0 Fu a0 a1 k x15 (w64 (x5 * 2)) (w64 (x7 + 1))) else (some x3)
def chatelaineref02_Times_l1 (Fu : Nat) : Nat → Int → Int → Int → Option Int
  | 0, _, _, _ => none
  | k + 1, x26, x28, x30 => if 256 ≤ x30 then (((quoI x26 x30).bind fun x40 => if Int.tmod x40 2 = 1 then ((chatelaineref02_xor Fu x26 x28).bind fun x42 => some x42) else (some x26)).bind fun x38 => chatelaineref02_Times_l1 Fu k x38 (w64 (Int.tdiv x28 2)) (w64 (Int.tdiv x30 2))) else (some x26)
def chatelaineref02_Times (Fu : Nat) (a0 : Int) (a1 : Int) : Option Int :=
  (chatelaineref02_Times_l0 Fu a0 a1 Fu 0 1 0).bind fun x9 => (chatelaineref02_Times_l1 Fu Fu x9 18112 16384).bind fun x32 => some x32
set_option maxRecDepth 100000 in
set_option maxHeartbeats 2000000 in
theorem chatelaineref02_Times_ok (Fu : Nat) {S0 : Snap} (a0 : Int) (hra0 : r64 a0) (a1 : Int) (hra1 : r64 a1) (r : Int) (hf : chatelaineref02_Times Fu a0 a1 = some r) (w0 : World) (hm : Mem w0 (ownL ([] ++ [.sn S0])) ([] ++ [.sn S0]) w0) :
    Calls Try.prog 59 #[.int .i64 a0, .int .i64 a1] w0 (Ret w0 S0 [] (fun v L1 S1 => v = .int .i64 r ∧ L1 = [] ∧ r64 r ∧ True)) := by
  unfold chatelaineref02_Times at hf
  refine c_enterM Try.func59 rfl 41 rfl (by simp) _ hm _ rfl (fun a h => ?_)
  refine c_rs ?_
  refine sAV h (fun a h => ?_)
  refine l_end ?_
  refine c_rs ?_
  refine sAV h (fun a h => ?_)
  refine l_end ?_
  refine c_rs ?_
  refine sAV h (fun a h => ?_)
  refine l_end ?_
  refine wp_seq ?_
  refine c_rs ?_
  refine sAV h (fun a h => ?_)
  refine l_end ?_
  obtain ⟨o1, hl2, hf⟩ := bsome hf
  refine c_fin (fun a w => ∃ (x9 : Int), x9 = o1 ∧ r64 x9 ∧ St 41 w0 (ownL ([] ++ [.sn S0])) [(5, .int .i64 x9)] [.sn S0] a w) ?_ ?_
  · refine wp_block ?_
    refine c_loop (fun m12 a w => ∃ (x3 : Int), ∃ (x5 : Int), ∃ (x7 : Int), chatelaineref02_Times_l0 Fu a0 a1 m12 x3 x5 x7 = some o1 ∧ r64 x3 ∧ r64 x5 ∧ r64 x7 ∧ St 41 w0 (ownL ([] ++ [.sn S0])) [(0, .int .i64 a0), (1, .int .i64 a1), (5, .int .i64 x3), (6, .int .i64 x5), (7, .int .i64 x7)] [.sn S0] a w) Fu ⟨0, 1, 0, hl2, (show r64 0 from ⟨by decide, by decide⟩), (show r64 1 from ⟨by decide, by decide⟩), (show r64 0 from ⟨by decide, by decide⟩), h.has (by exact ⟨rfl, rfl, rfl, rfl, rfl, trivial⟩)⟩ (fun m12 a w hI => ?_)
    obtain ⟨x3, x5, x7, hl11, hr4, hr6, hr8, h⟩ := hI
    obtain _ | m12 := m12
    · rw [chatelaineref02_Times_l0] at hl11; cases hl11
    rw [chatelaineref02_Times_l0] at hl11
    refine wp_seq ?_
    refine c_rs ?_
    refine sMV h (fun a h => ?_)
    refine s_x h rfl rfl (by decide) (x_bin h.k rfl rfl rfl ib_lss) (fun a h => ?_)
    refine l_end ?_
    refine c_cond h rfl (fun hb => ?_) (fun hb => ?_)
    · rw [if_pos (of_decide_eq_true hb)] at hl11
      refine wp_skip ?_
      refine e_thenN ?_
      refine wp_seq ?_
      refine wp_block ?_
      obtain ⟨o13, hc14, hl11⟩ := bsome hl11
      refine c_cut (fun a w => ∃ (x15 : Int), x15 = o13 ∧ r64 x15 ∧ St 41 w0 (ownL ([] ++ [.sn S0])) [(0, .int .i64 a0), (1, .int .i64 a1), (5, .int .i64 x15), (6, .int .i64 x5), (7, .int .i64 x7)] [.sn S0] a w) ?_ ?_
      · refine c_rs ?_
        refine sMV h (fun a h => ?_)
        refine sMV h (fun a h => ?_)
        obtain ⟨x17, h18, hc14⟩ := bsome hc14
        refine s_x h rfl rfl (by decide) (x_bin h.k rfl rfl rfl (ib_quo_ h18)) (fun a h => ?_)
        refine s_x h rfl rfl (by decide) (x_bin h.k rfl rfl rfl (ib_remw (by decide))) (fun a h => ?_)
        refine s_x h rfl rfl (by decide) (x_bin h.k rfl rfl rfl ib_eql) (fun a h => ?_)
        refine l_end ?_
        refine c_cond h rfl (fun hb => ?_) (fun hb => ?_)
        · rw [if_pos (of_decide_eq_true hb)] at hc14
          refine c_r ?_
          refine sMV h (fun a h => ?_)
          refine sMV h (fun a h => ?_)
          refine sMV h (fun a h => ?_)
          refine s_x h rfl rfl (by decide) (x_bin h.k rfl rfl rfl (ib_mul rfl)) (fun a h => ?_)
          obtain ⟨x19, h20, hc14⟩ := bsome hc14
          have hX := chatelaineref02_xor_ok Fu (S0 := snapAll _) x3 hr4 (w64 (a0 * x5)) (w64_r _) _ h20 _ h.startAll
          refine q_callX hX h rfl rfl rfl (by decide) Try.func78 rfl rfl rfl (fun a w v L1 S1 hR hb1 h => ?_)
          obtain ⟨rfl, rfl, hr22, _⟩ := hR
          refine sAV h (fun a h => ?_)
          refine l_nil ?_
          refine e_thenN ?_
          exact ⟨x19, (Option.some.inj hc14), hr22, h.has (by exact ⟨rfl, rfl, rfl, rfl, rfl, trivial⟩)⟩
        · rw [if_neg (of_decide_eq_false hb)] at hc14
          refine wp_skip ?_
          refine e_thenN ?_
          exact ⟨x3, (Option.some.inj hc14), hr4, h.has (by exact ⟨rfl, rfl, rfl, rfl, rfl, trivial⟩)⟩
      · rintro a w ⟨x15, rfl, hr16, h⟩
        refine c_r ?_
        refine sMV h (fun a h => ?_)
        refine s_x h rfl rfl (by decide) (x_bin h.k rfl rfl rfl (ib_mul rfl)) (fun a h => ?_)
        refine sAV h (fun a h => ?_)
        refine l_nil ?_
        refine e_blkN ?_
        refine e_thenN ?_
        refine c_r ?_
        refine sMV h (fun a h => ?_)
        refine s_x h rfl rfl (by decide) (x_bin h.k rfl rfl rfl (ib_add rfl)) (fun a h => ?_)
        refine sAV h (fun a h => ?_)
        refine l_nil ?_
        exact e_thenN ⟨m12, Nat.lt_succ_self _, x15, w64 (x5 * 2), w64 (x7 + 1), hl11, hr16, (w64_r _), (w64_r _), h.has (by exact ⟨rfl, rfl, rfl, rfl, rfl, trivial⟩)⟩
    · rw [if_neg (of_decide_eq_false hb)] at hl11
      refine wp_exit ?_
      refine e_thenX ?_
      refine e_thenX ?_
      refine e_blkX ?_
      refine e_thenN ?_
      exact ⟨x3, (Option.some.inj hl11), hr4, h.has (by exact ⟨rfl, trivial⟩)⟩
  · rintro a w ⟨x9, rfl, hr10, h⟩
    refine e_thenN ?_
    refine c_rs ?_
    refine sAV h (fun a h => ?_)
    refine l_end ?_
    refine c_rs ?_
    refine sAV h (fun a h => ?_)
    refine l_end ?_
    obtain ⟨o24, hl25, hf⟩ := bsome hf
    refine c_cut (fun a w => ∃ (x32 : Int), x32 = o24 ∧ r64 x32 ∧ St 41 w0 (ownL ([] ++ [.sn S0])) [(5, .int .i64 x32)] [.sn S0] a w) ?_ ?_
    · refine wp_block ?_
      refine c_loop (fun m35 a w => ∃ (x26 : Int), ∃ (x28 : Int), ∃ (x30 : Int), chatelaineref02_Times_l1 Fu m35 x26 x28 x30 = some o24 ∧ r64 x26 ∧ r64 x28 ∧ r64 x30 ∧ St 41 w0 (ownL ([] ++ [.sn S0])) [(5, .int .i64 x26), (8, .int .i64 x28), (9, .int .i64 x30)] [.sn S0] a w) Fu ⟨x9, 18112, 16384, hl25, hr10, (show r64 18112 from ⟨by decide, by decide⟩), (show r64 16384 from ⟨by decide, by decide⟩), h.has (by exact ⟨rfl, rfl, rfl, trivial⟩)⟩ (fun m35 a w hI => ?_)
      obtain ⟨x26, x28, x30, hl34, hr27, hr29, hr31, h⟩ := hI
      obtain _ | m35 := m35
      · rw [chatelaineref02_Times_l1] at hl34; cases hl34
      rw [chatelaineref02_Times_l1] at hl34
      refine wp_seq ?_
      refine c_rs ?_
      refine sMV h (fun a h => ?_)
      refine s_x h rfl rfl (by decide) (x_bin h.k rfl rfl rfl ib_geq) (fun a h => ?_)
      refine l_end ?_
      refine c_cond h rfl (fun hb => ?_) (fun hb => ?_)
      · rw [if_pos (of_decide_eq_true hb)] at hl34
        refine wp_skip ?_
        refine e_thenN ?_
        refine wp_block ?_
        obtain ⟨o36, hc37, hl34⟩ := bsome hl34
        refine c_cut (fun a w => ∃ (x38 : Int), x38 = o36 ∧ r64 x38 ∧ St 41 w0 (ownL ([] ++ [.sn S0])) [(5, .int .i64 x38), (8, .int .i64 x28), (9, .int .i64 x30)] [.sn S0] a w) ?_ ?_
        · refine c_rs ?_
          refine sMV h (fun a h => ?_)
          refine sMV h (fun a h => ?_)
          obtain ⟨x40, h41, hc37⟩ := bsome hc37
          refine s_x h rfl rfl (by decide) (x_bin h.k rfl rfl rfl (ib_quo_ h41)) (fun a h => ?_)
          refine s_x h rfl rfl (by decide) (x_bin h.k rfl rfl rfl (ib_remw (by decide))) (fun a h => ?_)
          refine s_x h rfl rfl (by decide) (x_bin h.k rfl rfl rfl ib_eql) (fun a h => ?_)
          refine l_end ?_
          refine c_cond h rfl (fun hb => ?_) (fun hb => ?_)
          · rw [if_pos (of_decide_eq_true hb)] at hc37
            refine c_r ?_
            refine sMV h (fun a h => ?_)
            refine sMV h (fun a h => ?_)
            obtain ⟨x42, h43, hc37⟩ := bsome hc37
            have hX := chatelaineref02_xor_ok Fu (S0 := snapAll _) x26 hr27 x28 hr29 _ h43 _ h.startAll
            refine q_callX hX h rfl rfl rfl (by decide) Try.func78 rfl rfl rfl (fun a w v L1 S1 hR hb1 h => ?_)
            obtain ⟨rfl, rfl, hr45, _⟩ := hR
            refine sAV h (fun a h => ?_)
            refine l_nil ?_
            refine e_thenN ?_
            exact ⟨x42, (Option.some.inj hc37), hr45, h.has (by exact ⟨rfl, rfl, rfl, trivial⟩)⟩
          · rw [if_neg (of_decide_eq_false hb)] at hc37
            refine wp_skip ?_
            refine e_thenN ?_
            exact ⟨x26, (Option.some.inj hc37), hr27, h.has (by exact ⟨rfl, rfl, rfl, trivial⟩)⟩
        · rintro a w ⟨x38, rfl, hr39, h⟩
          refine c_rs ?_
          refine sMV h (fun a h => ?_)
          refine s_x h rfl rfl (by decide) (x_bin h.k rfl rfl rfl (ib_quow (by decide))) (fun a h => ?_)
          refine sAV h (fun a h => ?_)
          refine l_end ?_
          refine c_r ?_
          refine sMV h (fun a h => ?_)
          refine s_x h rfl rfl (by decide) (x_bin h.k rfl rfl rfl (ib_quow (by decide))) (fun a h => ?_)
          refine sAV h (fun a h => ?_)
          refine l_nil ?_
          refine e_blkN ?_
          exact e_thenN ⟨m35, Nat.lt_succ_self _, x38, w64 (Int.tdiv x28 2), w64 (Int.tdiv x30 2), hl34, hr39, (w64_r _), (w64_r _), h.has (by exact ⟨rfl, rfl, rfl, trivial⟩)⟩
      · rw [if_neg (of_decide_eq_false hb)] at hl34
        refine wp_exit ?_
        refine e_thenX ?_
        refine e_thenX ?_
        refine e_blkX ?_
        refine e_thenN ?_
        exact ⟨x26, (Option.some.inj hl34), hr27, h.has (by exact ⟨rfl, trivial⟩)⟩
    · rintro a w ⟨x32, rfl, hr33, h⟩
      refine c_rs ?_
      refine sMV h (fun a h => ?_)
      refine sAV h (fun a h => ?_)
      refine l_end ?_
      refine wp_ret ?_
      rw [← Option.some.inj hf]
      exact r_ret1 h rfl (rv_tmp h rfl) ⟨_, [], _, rfl, ⟨rfl, rfl, hr33, trivial⟩, rfl, (Up.refl _ _ _), h.m⟩
def math_bits_RotateLeft8 (Fu : Nat) (a0 : UInt8) (a1 : Int) : Option UInt8 :=
  some ((u8_shl a0 (((u64I a1) &&& (7 : UInt64)).toNat)) ||| (u8_shr a0 (((8 : UInt64) - ((u64I a1) &&& (7 : UInt64))).toNat)))
set_option maxRecDepth 100000 in
set_option maxHeartbeats 2000000 in
theorem math_bits_RotateLeft8_ok (Fu : Nat) {S0 : Snap} (a0 : UInt8) (a1 : Int) (hra1 : r64 a1) (r : UInt8) (hf : math_bits_RotateLeft8 Fu a0 a1 = some r) (w0 : World) (hm : Mem w0 (ownL ([] ++ [.sn S0])) ([] ++ [.sn S0]) w0) :
    Calls Try.prog 89 #[.int .u8 (a0.toNat : Int), .int .i64 a1] w0 (Ret w0 S0 [] (fun v L1 S1 => v = .int .u8 (r.toNat : Int) ∧ L1 = [] ∧ True)) := by
  unfold math_bits_RotateLeft8 at hf
  refine c_enterM Try.func89 rfl 17 rfl (by simp) _ hm _ rfl (fun a h => ?_)
  refine c_rs ?_
  refine sAV h (fun a h => ?_)
  refine l_end ?_
  refine c_rs ?_
  refine sMV h (fun a h => ?_)
  refine s_x h rfl rfl (by decide) (x_convE h.k rfl Try.underlying3 Try.underlying72 rfl (u64I_wrap _)) (fun a h => ?_)
  refine s_x h rfl rfl (by decide) (x_bin h.k rfl rfl rfl (ib_and (u64_and_ (u64I a1) (7 : UInt64)))) (fun a h => ?_)
  refine sAV h (fun a h => ?_)
  refine l_end ?_
  refine c_rs ?_
  refine sMV h (fun a h => ?_)
  refine sMV h (fun a h => ?_)
  refine s_x h rfl rfl (by decide) (x_bin h.k rfl rfl rfl (ib_shl_u8 a0 (((u64I a1) &&& (7 : UInt64)).toNat))) (fun a h => ?_)
  refine sMV h (fun a h => ?_)
  refine sMV h (fun a h => ?_)
  refine s_x h rfl rfl (by decide) (x_bin h.k rfl rfl rfl (ib_sub (u64_sub (8 : UInt64) ((u64I a1) &&& (7 : UInt64))))) (fun a h => ?_)
  refine s_x h rfl rfl (by decide) (x_bin h.k rfl rfl rfl (ib_shr_u8 a0 (((8 : UInt64) - ((u64I a1) &&& (7 : UInt64))).toNat))) (fun a h => ?_)
  refine s_x h rfl rfl (by decide) (x_bin h.k rfl rfl rfl (ib_or (u8_or_ (u8_shl a0 (((u64I a1) &&& (7 : UInt64)).toNat)) (u8_shr a0 (((8 : UInt64) - ((u64I a1) &&& (7 : UInt64))).toNat))))) (fun a h => ?_)
  refine sAV h (fun a h => ?_)
  refine l_end ?_
  refine wp_ret ?_
  obtain rfl := Option.some.inj hf
  exact r_ret1 h rfl (rv_tmp h rfl) ⟨_, [], _, rfl, ⟨rfl, rfl, trivial⟩, rfl, (Up.refl _ _ _), h.m⟩
def sbox_turned (Fu : Nat) (a0 : UInt8) : Option UInt8 :=
  (math_bits_RotateLeft8 Fu a0 1).bind fun x1 => (math_bits_RotateLeft8 Fu a0 2).bind fun x4 => (math_bits_RotateLeft8 Fu a0 3).bind fun x7 => (math_bits_RotateLeft8 Fu a0 4).bind fun x10 => some (((((a0 ^^^ x1) ^^^ x4) ^^^ x7) ^^^ x10) ^^^ (99 : UInt8))
set_option maxRecDepth 100000 in
set_option maxHeartbeats 2000000 in
theorem sbox_turned_ok (Fu : Nat) {S0 : Snap} (a0 : UInt8) (r : UInt8) (hf : sbox_turned Fu a0 = some r) (w0 : World) (hm : Mem w0 (ownL ([] ++ [.sn S0])) ([] ++ [.sn S0]) w0) :
    Calls Try.prog 70 #[.int .u8 (a0.toNat : Int)] w0 (Ret w0 S0 [] (fun v L1 S1 => v = .int .u8 (r.toNat : Int) ∧ L1 = [] ∧ True)) := by
  unfold sbox_turned at hf
  refine c_enterM Try.func70 rfl 17 rfl (by simp) _ hm _ rfl (fun a h => ?_)
  refine c_rs ?_
  refine sAV h (fun a h => ?_)
  refine l_end ?_
  refine c_rs ?_
  refine sMV h (fun a h => ?_)
  refine sMV h (fun a h => ?_)
  obtain ⟨x1, h2, hf⟩ := bsome hf
  have hX := math_bits_RotateLeft8_ok Fu (S0 := snapAll _) a0 1 (show r64 1 from ⟨by decide, by decide⟩) _ h2 _ h.startAll
  refine q_callX hX h rfl rfl rfl (by decide) Try.func89 rfl rfl rfl (fun a w v L1 S1 hR hb1 h => ?_)
  obtain ⟨rfl, rfl, _⟩ := hR
  refine s_x h rfl rfl (by decide) (x_bin h.k rfl rfl rfl (ib_xor (u8_xor_ a0 x1))) (fun a h => ?_)
  refine sMV h (fun a h => ?_)
  obtain ⟨x4, h5, hf⟩ := bsome hf
  have hX := math_bits_RotateLeft8_ok Fu (S0 := snapAll _) a0 2 (show r64 2 from ⟨by decide, by decide⟩) _ h5 _ h.startAll
  refine q_callX hX h rfl rfl rfl (by decide) Try.func89 rfl rfl rfl (fun a w v L1 S1 hR hb1 h => ?_)
  obtain ⟨rfl, rfl, _⟩ := hR
  refine s_x h rfl rfl (by decide) (x_bin h.k rfl rfl rfl (ib_xor (u8_xor_ (a0 ^^^ x1) x4))) (fun a h => ?_)
  refine sMV h (fun a h => ?_)
  obtain ⟨x7, h8, hf⟩ := bsome hf
  have hX := math_bits_RotateLeft8_ok Fu (S0 := snapAll _) a0 3 (show r64 3 from ⟨by decide, by decide⟩) _ h8 _ h.startAll
  refine q_callX hX h rfl rfl rfl (by decide) Try.func89 rfl rfl rfl (fun a w v L1 S1 hR hb1 h => ?_)
  obtain ⟨rfl, rfl, _⟩ := hR
  refine s_x h rfl rfl (by decide) (x_bin h.k rfl rfl rfl (ib_xor (u8_xor_ ((a0 ^^^ x1) ^^^ x4) x7))) (fun a h => ?_)
  refine sMV h (fun a h => ?_)
  obtain ⟨x10, h11, hf⟩ := bsome hf
  have hX := math_bits_RotateLeft8_ok Fu (S0 := snapAll _) a0 4 (show r64 4 from ⟨by decide, by decide⟩) _ h11 _ h.startAll
  refine q_callX hX h rfl rfl rfl (by decide) Try.func89 rfl rfl rfl (fun a w v L1 S1 hR hb1 h => ?_)
  obtain ⟨rfl, rfl, _⟩ := hR
  refine s_x h rfl rfl (by decide) (x_bin h.k rfl rfl rfl (ib_xor (u8_xor_ (((a0 ^^^ x1) ^^^ x4) ^^^ x7) x10))) (fun a h => ?_)
  refine s_x h rfl rfl (by decide) (x_bin h.k rfl rfl rfl (ib_xor (u8_xor_ ((((a0 ^^^ x1) ^^^ x4) ^^^ x7) ^^^ x10) (99 : UInt8)))) (fun a h => ?_)
  refine sAV h (fun a h => ?_)
  refine l_end ?_
  refine wp_ret ?_
  obtain rfl := Option.some.inj hf
  exact r_ret1 h rfl (rv_tmp h rfl) ⟨_, [], _, rfl, ⟨rfl, rfl, trivial⟩, rfl, (Up.refl _ _ _), h.m⟩
def sbox_Box_l0 (Fu : Nat) (x10 : UInt8) : Nat → UInt8 → UInt8 → Int → (List UInt8) → Option ((List UInt8))
  | 0, _, _, _, _ => none
  | k + 1, x15, x16, x17, x19 => if x17 < 255 then ((sbox_turned Fu x16).bind fun x29 => (ix 256 (x15.toNat : Int)).bind fun m32 => (gf_Times Fu x15 (3 : UInt8)).bind fun x39 => (gf_Times Fu x16 x10).bind fun x42 => sbox_Box_l0 Fu x10 k x39 x42 (w64 (x17 + 1)) (x19.set m32 x29)) else (some x19)
def sbox_Box (Fu : Nat) : Option ((List UInt8)) :=
  (ix 256 0).bind fun m3 => (gf_Inverse Fu (3 : UInt8)).bind fun x10 => (sbox_Box_l0 Fu x10 Fu (1 : UInt8) (1 : UInt8) 0 ((List.replicate 256 ((0 : UInt8) : UInt8)).set m3 (99 : UInt8))).bind fun x23 => some x23
set_option maxRecDepth 100000 in
set_option maxHeartbeats 2000000 in
theorem sbox_Box_ok (Fu : Nat) {S0 : Snap}  (r : (List UInt8)) (hf : sbox_Box Fu = some r) (w0 : World) (hm : Mem w0 (ownL ([] ++ [.sn S0])) ([] ++ [.sn S0]) w0) :
    Calls Try.prog 48 #[] w0 (Ret w0 S0 [] (fun v L1 S1 => ∃ (k46 : List Value), v = .agg k46.toArray ∧ L1 = [] ∧ (tyA 256 ty8).rep S1 k46 r ∧ True)) := by
  unfold sbox_Box at hf
  refine c_enterM Try.func48 rfl 20 rfl (by simp) _ hm _ rfl (fun a h => ?_)
  refine c_rs ?_
  refine s_alloc h rfl rfl rfl (by decide) zi_A256_uint8 rfl (fun a w g1 h => ?_)
  refine l_end ?_
  refine c_rs ?_
  refine s_alloc h rfl rfl rfl (by decide) zi_A256_uint8 rfl (fun a w g2 h => ?_)
  refine l_end ?_
  refine c_rs ?_
  obtain ⟨m3, h4, hf⟩ := bsome hf
  obtain ⟨hi5, hm6⟩ := ix_some h4
  refine s_x h rfl rfl (by decide) (x_iaddrA h.k rfl Try.underlying76 sz_uint8 rfl rfl hi5 hm6 rfl) (fun a h => ?_)
  refine q_setBox (T := ty8) (q := (99 : UInt8)) h rfl rfl rfl sz_uint8 rfl rfl 0 rfl rfl (show reps ty8 S0 (List.replicate 256 (.int .u8 0 : Value)) (List.replicate 256 ((0 : UInt8) : UInt8)) from repsRep1 (x := ((0 : UInt8) : UInt8)) rfl) rfl (by first | omega | (simp_all; done)) (fun a w cs7 hq8 h => ?_)
  have hl9 : ((List.replicate 256 ((0 : UInt8) : UInt8)).set m3 (99 : UInt8)).length = 256 := by rw [List.length_set]; exact (show (List.replicate 256 ((0 : UInt8) : UInt8)).length = 256 from List.length_replicate)
  refine l_end ?_
  refine c_rs ?_
  refine sAV h (fun a h => ?_)
  refine sAV h (fun a h => ?_)
  refine l_end ?_
  refine c_rs ?_
  obtain ⟨x10, h11, hf⟩ := bsome hf
  have hX := gf_Inverse_ok Fu (S0 := snapAll _) (3 : UInt8) _ h11 _ h.startAll
  refine q_callX hX h rfl rfl rfl (by decide) Try.func69 rfl rfl rfl (fun a w v L1 S1 hR hb1 h => ?_)
  obtain ⟨rfl, rfl, _⟩ := hR
  refine sAV h (fun a h => ?_)
  refine l_end ?_
  refine wp_seq ?_
  refine c_rs ?_
  refine sMV h (fun a h => ?_)
  refine l_end ?_
  obtain ⟨o13, hl14, hf⟩ := bsome hf
  refine c_fin (fun a w => ∃ (x23 : List UInt8), ∃ (k24 : List Value), x23 = o13 ∧ reps ty8 S0 k24 x23 ∧ x23.length = 256 ∧ St 20 w0 (ownL ([] ++ [.sn S0])) [(0, .pointer (some ⟨g1, 0, none⟩)), (1, .pointer (some ⟨g2, 0, none⟩))] [.box g1 76 (List.replicate 256 (.int .u8 0 : Value)), .box g2 76 k24, .sn S0] a w) ?_ ?_
  · refine wp_block ?_
    have h := h.pick [1, 0, 2] (by decide) rfl
    refine c_loop (fun m28 a w => ∃ (x15 : UInt8), ∃ (x16 : UInt8), ∃ (x17 : Int), ∃ (x19 : List UInt8), ∃ (k20 : List Value), sbox_Box_l0 Fu x10 m28 x15 x16 x17 x19 = some o13 ∧ r64 x17 ∧ reps ty8 S0 k20 x19 ∧ x19.length = 256 ∧ St 20 w0 (ownL ([] ++ [.sn S0])) [(0, .pointer (some ⟨g1, 0, none⟩)), (1, .pointer (some ⟨g2, 0, none⟩)), (2, .int .u8 (x15.toNat : Int)), (3, .int .u8 (x16.toNat : Int)), (4, .int .u8 (x10.toNat : Int)), (7, .int .i64 x17)] [.box g1 76 (List.replicate 256 (.int .u8 0 : Value)), .box g2 76 k20, .sn S0] a w) Fu ⟨(1 : UInt8), (1 : UInt8), 0, ((List.replicate 256 ((0 : UInt8) : UInt8)).set m3 (99 : UInt8)), cs7, hl14, (show r64 0 from ⟨by decide, by decide⟩), hq8, hl9, h.has (by exact ⟨rfl, rfl, rfl, rfl, rfl, rfl, trivial⟩)⟩ (fun m28 a w hI => ?_)
    obtain ⟨x15, x16, x17, x19, k20, hl27, hr18, hs21, hl22, h⟩ := hI
    obtain _ | m28 := m28
    · rw [sbox_Box_l0] at hl27; cases hl27
    rw [sbox_Box_l0] at hl27
    refine c_rs ?_
    refine s_x h rfl rfl (by decide) (x_bin h.k rfl rfl rfl ib_lss) (fun a h => ?_)
    refine l_end ?_
    refine c_cs h rfl (fun hb => ?_) (fun hb => ?_)
    · rw [if_pos (of_decide_eq_true hb)] at hl27
      refine wp_skip ?_
      refine e_thenN ?_
      refine wp_seq ?_
      refine wp_block ?_
      refine c_rs ?_
      refine sMV h (fun a h => ?_)
      refine sMV h (fun a h => ?_)
      obtain ⟨x29, h30, hl27⟩ := bsome hl27
      have hX := sbox_turned_ok Fu (S0 := snapAll _) x16 _ h30 _ h.startAll
      refine q_callX hX h rfl rfl rfl (by decide) Try.func70 rfl rfl rfl (fun a w v L1 S1 hR hb1 h => ?_)
      obtain ⟨rfl, rfl, _⟩ := hR
      obtain ⟨m32, h33, hl27⟩ := bsome hl27
      obtain ⟨hi34, hm35⟩ := ix_some h33
      refine s_x h rfl rfl (by decide) (x_iaddrA h.k rfl Try.underlying76 sz_uint8 rfl rfl hi34 hm35 rfl) (fun a h => ?_)
      refine q_setBox (T := ty8) (q := x29) h rfl rfl rfl sz_uint8 rfl rfl 1 rfl rfl hs21 rfl (by first | omega | (simp_all; done)) (fun a w cs36 hq37 h => ?_)
      have hl38 : (x19.set m32 x29).length = 256 := by rw [List.length_set]; exact hl22
      refine l_end ?_
      refine c_r ?_
      refine sMV h (fun a h => ?_)
      obtain ⟨x39, h40, hl27⟩ := bsome hl27
      have hX := gf_Times_ok Fu (S0 := snapAll _) x15 (3 : UInt8) _ h40 _ h.startAll
      refine q_callX hX h rfl rfl rfl (by decide) Try.func71 rfl rfl rfl (fun a w v L1 S1 hR hb1 h => ?_)
      obtain ⟨rfl, rfl, _⟩ := hR
      refine sMV h (fun a h => ?_)
      refine sMV h (fun a h => ?_)
      obtain ⟨x42, h43, hl27⟩ := bsome hl27
      have hX := gf_Times_ok Fu (S0 := snapAll _) x16 x10 _ h43 _ h.startAll
      refine q_callX hX h rfl rfl rfl (by decide) Try.func71 rfl rfl rfl (fun a w v L1 S1 hR hb1 h => ?_)
      obtain ⟨rfl, rfl, _⟩ := hR
      refine sAV h (fun a h => ?_)
      refine sAV h (fun a h => ?_)
      refine l_nil ?_
      refine e_blkN ?_
      refine e_thenN ?_
      refine c_r ?_
      refine s_x h rfl rfl (by decide) (x_bin h.k rfl rfl rfl (ib_add rfl)) (fun a h => ?_)
      refine sMV h (fun a h => ?_)
      refine l_nil ?_
      exact e_thenN ⟨m28, Nat.lt_succ_self _, x39, x42, w64 (x17 + 1), (x19.set m32 x29), cs36, hl27, (w64_r _), hq37, hl38, h.has (by exact ⟨rfl, rfl, rfl, rfl, rfl, rfl, trivial⟩)⟩
    · rw [if_neg (of_decide_eq_false hb)] at hl27
      refine wp_exit ?_
      refine e_thenX ?_
      refine e_thenX ?_
      refine e_blkX ?_
      refine e_thenN ?_
      exact ⟨x19, k20, (Option.some.inj hl27), hs21, hl22, h.has (by exact ⟨rfl, rfl, trivial⟩)⟩
  · rintro a w ⟨x23, k24, rfl, hs25, hl26, h⟩
    refine e_thenN ?_
    refine c_rs ?_
    refine s_x h rfl rfl (by decide) (x_ldR h.k rfl ag_A256_uint8 rfl k24 ((hs25).len.trans (by rw [hl26]; rfl)) (h.m.range0 (i := 1) rfl)) (fun a h => ?_)
    refine s_stW h rfl rfl rfl ag_A256_uint8 rfl (es := k24) rfl ((hs25).len.trans (by rw [hl26]; rfl)) (hs25).one 0 rfl (by first | rfl | simp_all) (fun a w h => ?_)
    refine l_end ?_
    refine wp_ret ?_
    rw [← Option.some.inj hf]
    exact r_ret1 h rfl (rv_cellA h rfl 0 rfl ag_A256_uint8 ((hs25).len.trans (by rw [hl26]; rfl))) ⟨_, [], _, rfl, ⟨k24, rfl, rfl, ⟨hs25, hl26⟩, trivial⟩, rfl, (Up.refl _ _ _), (h.m.pick [2] _ (by decide) rfl)⟩
def sbox_Swap_l0 (Fu : Nat) (a0 : List UInt8) : Nat → Int → (List UInt8) → (List Bool) → Option (Sum ((List UInt8) × Bool) ((List UInt8)))
  | 0, _, _, _ => none
  | k + 1, x9, x11, x15 => if x9 < 256 then ((idx a0 x9).bind fun x26 => (ix 256 (x26.toNat : Int)).bind fun m34 => (x15[m34]?).bind fun x38 => if x38 = true then (some (.inl ((List.replicate 256 ((0 : UInt8) : UInt8)), false))) else ((ix 256 (x26.toNat : Int)).bind fun m43 => (ix 256 (x26.toNat : Int)).bind fun m50 => sbox_Swap_l0 Fu a0 k (w64 (x9 + 1)) (x11.set m50 (i8 x9)) (x15.set m43 true))) else (some (.inr x11))
def sbox_Swap (Fu : Nat) (a0 : List UInt8) : Option ((List UInt8) × Bool) :=
  (sbox_Swap_l0 Fu a0 Fu 0 (List.replicate 256 ((0 : UInt8) : UInt8)) (List.replicate 256 (false : Bool))).bind fun o => match o with | .inl r57 => some r57 | .inr x19 => some (x19, true)
set_option maxRecDepth 100000 in
set_option maxHeartbeats 2000000 in
theorem sbox_Swap_ok (Fu : Nat) {S0 : Snap} (csa0 : List Value) (a0 : List UInt8) (hsa0 : (tyA 256 ty8).rep S0 csa0 a0) (r : (List UInt8) × Bool) (hf : sbox_Swap Fu a0 = some r) (w0 : World) (hm : Mem w0 (ownL ([] ++ [.sn S0])) ([] ++ [.sn S0]) w0) :
    Calls Try.prog 49 #[.agg csa0.toArray] w0 (Ret w0 S0 [] (fun v L1 S1 => ∃ (k58 : List Value), v = .tuple #[.agg k58.toArray, .bool r.2] ∧ L1 = [] ∧ (tyA 256 ty8).rep S1 k58 r.1 ∧ True)) := by
  unfold sbox_Swap at hf
  obtain ⟨hs1, hl2⟩ := hsa0
  refine c_enterM Try.func49 rfl 25 rfl (by simp) _ hm _ rfl (fun a h => ?_)
  refine c_rs ?_
  refine s_box h rfl rfl rfl (by decide) rfl (cs := csa0) (by rfl) (fun a w g3 h => ?_)
  refine s_alloc h rfl rfl rfl (by decide) zi_A256_uint8 rfl (fun a w g4 h => ?_)
  refine sAV h (fun a h => ?_)
  refine l_end ?_
  refine c_rs ?_
  refine s_alloc h rfl rfl rfl (by decide) zi_A256_uint8 rfl (fun a w g5 h => ?_)
  refine l_end ?_
  refine c_rs ?_
  refine s_alloc h rfl rfl rfl (by decide) zi_A256_bool rfl (fun a w g6 h => ?_)
  refine l_end ?_
  refine wp_seq ?_
  refine c_rs ?_
  refine s_x h rfl rfl (by decide) (x_ldR h.k rfl ag_A256_uint8 rfl csa0 ((hs1).len.trans (by rw [hl2]; rfl)) (h.m.range0 (i := 3) rfl)) (fun a h => ?_)
  refine sMV h (fun a h => ?_)
  refine l_end ?_
  obtain ⟨o7, hl8, hf⟩ := bsome hf
  refine c_fin (fun a w => ∃ (x19 : List UInt8), ∃ (k20 : List Value), (.inr x19) = o7 ∧ reps ty8 S0 k20 x19 ∧ x19.length = 256 ∧ St 25 w0 (ownL ([] ++ [.sn S0])) [(2, .pointer (some ⟨g4, 0, none⟩)), (4, .pointer (some ⟨g5, 0, none⟩))] [.box g4 76 (List.replicate 256 (.int .u8 0 : Value)), .box g5 76 k20, .sn S0] a w) ?_ ?_
  · refine wp_block ?_
    have h := h.pick [2, 1, 0, 4] (by decide) rfl
    refine c_loop (fun m24 a w => ∃ (x9 : Int), ∃ (x11 : List UInt8), ∃ (k12 : List Value), ∃ (x15 : List Bool), ∃ (k16 : List Value), sbox_Swap_l0 Fu a0 m24 x9 x11 x15 = some o7 ∧ r64 x9 ∧ reps ty8 S0 k12 x11 ∧ x11.length = 256 ∧ reps tyB S0 k16 x15 ∧ x15.length = 256 ∧ St 25 w0 (ownL ([] ++ [.sn S0])) [(2, .pointer (some ⟨g4, 0, none⟩)), (4, .pointer (some ⟨g5, 0, none⟩)), (5, .pointer (some ⟨g6, 0, none⟩)), (8, .agg csa0.toArray), (9, .int .i64 x9)] [.box g4 76 (List.replicate 256 (.int .u8 0 : Value)), .box g5 76 k12, .box g6 104 k16, .sn S0] a w) Fu ⟨0, (List.replicate 256 ((0 : UInt8) : UInt8)), (List.replicate 256 (.int .u8 0 : Value)), (List.replicate 256 (false : Bool)), (List.replicate 256 (.bool false : Value)), hl8, (show r64 0 from ⟨by decide, by decide⟩), (show reps ty8 S0 (List.replicate 256 (.int .u8 0 : Value)) (List.replicate 256 ((0 : UInt8) : UInt8)) from repsRep1 (x := ((0 : UInt8) : UInt8)) rfl), (show (List.replicate 256 ((0 : UInt8) : UInt8)).length = 256 from List.length_replicate), (show reps tyB S0 (List.replicate 256 (.bool false : Value)) (List.replicate 256 (false : Bool)) from repsRep1 (x := (false : Bool)) rfl), (show (List.replicate 256 (false : Bool)).length = 256 from List.length_replicate), h.has (by exact ⟨rfl, rfl, rfl, rfl, rfl, trivial⟩)⟩ (fun m24 a w hI => ?_)
    obtain ⟨x9, x11, k12, x15, k16, hl23, hr10, hs13, hl14, hs17, hl18, h⟩ := hI
    obtain _ | m24 := m24
    · rw [sbox_Swap_l0] at hl23; cases hl23
    rw [sbox_Swap_l0] at hl23
    refine c_rs ?_
    refine s_x h rfl rfl (by decide) (x_bin h.k rfl rfl rfl ib_lss) (fun a h => ?_)
    refine l_end ?_
    refine c_cs h rfl (fun hb => ?_) (fun hb => ?_)
    · rw [if_pos (of_decide_eq_true hb)] at hl23
      refine wp_skip ?_
      refine e_thenN ?_
      refine wp_seq ?_
      refine wp_block ?_
      refine c_rs ?_
      refine sMV h (fun a h => ?_)
      obtain ⟨x26, h27, hl23⟩ := bsome hl23
      obtain ⟨m25, hi28, hm29, hx30⟩ := idx_some h27
      obtain ⟨u31, hv32, hu33⟩ := (hs1).cell rfl hx30
      cases hu33
      refine s_x h rfl rfl (by decide) (x_index h.k rfl Try.underlying76 Try.underlying5 rfl sz_uint8 rfl rfl hi28 (Nat.lt_of_lt_of_eq hm29 hl2) (by simpa using hv32)) (fun a h => ?_)
      refine sAV h (fun a h => ?_)
      refine sAV h (fun a h => ?_)
      refine l_end ?_
      refine wp_seq ?_
      refine c_rs ?_
      refine sMV h (fun a h => ?_)
      obtain ⟨m34, h35, hl23⟩ := bsome hl23
      obtain ⟨hi36, hm37⟩ := ix_some h35
      refine s_x h rfl rfl (by decide) (x_iaddrA h.k rfl Try.underlying104 sz_bool rfl rfl hi36 hm37 rfl) (fun a h => ?_)
      obtain ⟨x38, h39, hl23⟩ := bsome hl23
      obtain ⟨u40, hv41, hu42⟩ := (hs17).cell rfl h39
      cases hu42
      refine s_x h rfl rfl (by decide) (x_ld h.k rfl Try.underlying4 rfl rfl ((h.m.cell (i := 2) rfl _).trans (by rw [Nat.zero_add, Nat.mul_one]; exact hv41))) (fun a h => ?_)
      refine l_end ?_
      refine c_cond h rfl (fun hb => ?_) (fun hb => ?_)
      · rw [if_pos hb] at hl23
        refine c_rs ?_
        refine s_x h rfl rfl (by decide) (x_build h.k rfl [] rfl (List.replicate 256 (.int .u8 0 : Value)) (by kernel_rfl)) (fun a h => ?_)
        refine s_stW h rfl rfl rfl ag_A256_uint8 rfl (es := (List.replicate 256 (.int .u8 0 : Value))) rfl (by first | rfl | simp_all) ((show reps ty8 S0 (List.replicate 256 (.int .u8 0 : Value)) (List.replicate 256 ((0 : UInt8) : UInt8)) from repsRep1 (x := ((0 : UInt8) : UInt8)) rfl)).one 0 rfl (by first | rfl | simp_all) (fun a w h => ?_)
        refine sAV h (fun a h => ?_)
        refine l_end ?_
        refine wp_ret ?_
        refine e_thenR ?_
        refine e_blkR ?_
        refine e_thenR ?_
        refine e_thenR ?_
        refine e_blkR ?_
        refine e_thenR ?_
        cases hl23
        try dsimp only at hf
        refine e_thenR ?_
        obtain rfl := Option.some.inj hf
        exact r_ret2 h rfl (rv_cellA h rfl 0 rfl ag_A256_uint8 (by first | rfl | simp_all)) (rv_tmp h rfl) ⟨_, [], _, rfl, ⟨(List.replicate 256 (.int .u8 0 : Value)), rfl, rfl, ⟨(show reps ty8 S0 (List.replicate 256 (.int .u8 0 : Value)) (List.replicate 256 ((0 : UInt8) : UInt8)) from repsRep1 (x := ((0 : UInt8) : UInt8)) rfl), (show (List.replicate 256 ((0 : UInt8) : UInt8)).length = 256 from List.length_replicate)⟩, trivial⟩, rfl, (Up.refl _ _ _), (h.m.pick [3] _ (by decide) rfl)⟩
      · rw [if_neg (by rw [hb]; decide)] at hl23
        refine wp_skip ?_
        refine e_thenN ?_
        refine c_rs ?_
        refine sMV h (fun a h => ?_)
        obtain ⟨m43, h44, hl23⟩ := bsome hl23
        obtain ⟨hi45, hm46⟩ := ix_some h44
        refine s_x h rfl rfl (by decide) (x_iaddrA h.k rfl Try.underlying104 sz_bool rfl rfl hi45 hm46 rfl) (fun a h => ?_)
        refine q_setBox (T := tyB) (q := true) h rfl rfl rfl sz_bool rfl rfl 2 rfl rfl hs17 rfl (by first | omega | (simp_all; done)) (fun a w cs47 hq48 h => ?_)
        have hl49 : (x15.set m43 true).length = 256 := by rw [List.length_set]; exact hl18
        refine l_end ?_
        refine c_r ?_
        refine sMV h (fun a h => ?_)
        refine sMV h (fun a h => ?_)
        refine s_x h rfl rfl (by decide) (x_convE h.k rfl Try.underlying3 Try.underlying5 rfl (i8_wrap _).symm) (fun a h => ?_)
        obtain ⟨m50, h51, hl23⟩ := bsome hl23
        obtain ⟨hi52, hm53⟩ := ix_some h51
        refine s_x h rfl rfl (by decide) (x_iaddrA h.k rfl Try.underlying76 sz_uint8 rfl rfl hi52 hm53 rfl) (fun a h => ?_)
        refine q_setBox (T := ty8) (q := i8 x9) h rfl rfl rfl sz_uint8 rfl rfl 1 rfl rfl hs13 rfl (by first | omega | (simp_all; done)) (fun a w cs54 hq55 h => ?_)
        have hl56 : (x11.set m50 (i8 x9)).length = 256 := by rw [List.length_set]; exact hl14
        refine l_nil ?_
        refine e_blkN ?_
        refine e_thenN ?_
        refine c_r ?_
        refine s_x h rfl rfl (by decide) (x_bin h.k rfl rfl rfl (ib_add rfl)) (fun a h => ?_)
        refine sMV h (fun a h => ?_)
        refine l_nil ?_
        exact e_thenN ⟨m24, Nat.lt_succ_self _, w64 (x9 + 1), (x11.set m50 (i8 x9)), cs54, (x15.set m43 true), cs47, hl23, (w64_r _), hq55, hl56, hq48, hl49, h.has (by exact ⟨rfl, rfl, rfl, rfl, rfl, trivial⟩)⟩
    · rw [if_neg (of_decide_eq_false hb)] at hl23
      refine wp_exit ?_
      refine e_thenX ?_
      refine e_thenX ?_
      refine e_blkX ?_
      refine e_thenN ?_
      have h := h.pick [0, 1, 3] (by decide) rfl
      exact ⟨x11, k12, (Option.some.inj hl23), hs13, hl14, h.has (by exact ⟨rfl, rfl, trivial⟩)⟩
  · rintro a w ⟨x19, k20, rfl, hs21, hl22, h⟩
    try dsimp only at hf
    refine e_thenN ?_
    refine c_rs ?_
    refine s_x h rfl rfl (by decide) (x_ldR h.k rfl ag_A256_uint8 rfl k20 ((hs21).len.trans (by rw [hl22]; rfl)) (h.m.range0 (i := 1) rfl)) (fun a h => ?_)
    refine s_stW h rfl rfl rfl ag_A256_uint8 rfl (es := k20) rfl ((hs21).len.trans (by rw [hl22]; rfl)) (hs21).one 0 rfl (by first | rfl | simp_all) (fun a w h => ?_)
    refine sAV h (fun a h => ?_)
    refine l_end ?_
    refine wp_ret ?_
    obtain rfl := Option.some.inj hf
    exact r_ret2 h rfl (rv_cellA h rfl 0 rfl ag_A256_uint8 ((hs21).len.trans (by rw [hl22]; rfl))) (rv_tmp h rfl) ⟨_, [], _, rfl, ⟨k20, rfl, rfl, ⟨hs21, hl22⟩, trivial⟩, rfl, (Up.refl _ _ _), (h.m.pick [2] _ (by decide) rfl)⟩
def chatelaineref03_bit_l0 (Fu : Nat) (a1 : Int) : Nat → Int → Int → Option Int
  | 0, _, _ => none
  | k + 1, x3, x5 => if x5 < a1 then (chatelaineref03_bit_l0 Fu a1 k (w64 (Int.tdiv x3 2)) (w64 (x5 + 1))) else (some x3)
def chatelaineref03_bit (Fu : Nat) (a0 : Int) (a1 : Int) : Option Int :=
  (chatelaineref03_bit_l0 Fu a1 Fu a0 0).bind fun x7 => some (Int.tmod x7 2)
set_option maxRecDepth 100000 in
set_option maxHeartbeats 2000000 in
theorem chatelaineref03_bit_ok (Fu : Nat) {S0 : Snap} (a0 : Int) (hra0 : r64 a0) (a1 : Int) (hra1 : r64 a1) (r : Int) (hf : chatelaineref03_bit Fu a0 a1 = some r) (w0 : World) (hm : Mem w0 (ownL ([] ++ [.sn S0])) ([] ++ [.sn S0]) w0) :
    Calls Try.prog 90 #[.int .i64 a0, .int .i64 a1] w0 (Ret w0 S0 [] (fun v L1 S1 => v = .int .i64 r ∧ L1 = [] ∧ r64 r ∧ True)) := by
  unfold chatelaineref03_bit at hf
  refine c_enterM Try.func90 rfl 15 rfl (by simp) _ hm _ rfl (fun a h => ?_)
  refine c_rs ?_
  refine sAV h (fun a h => ?_)
  refine l_end ?_
  refine wp_seq ?_
  refine c_rs ?_
  refine sAV h (fun a h => ?_)
  refine l_end ?_
  obtain ⟨o1, hl2, hf⟩ := bsome hf
  refine c_fin (fun a w => ∃ (x7 : Int), x7 = o1 ∧ r64 x7 ∧ St 15 w0 (ownL ([] ++ [.sn S0])) [(0, .int .i64 x7)] [.sn S0] a w) ?_ ?_
  · refine wp_block ?_
    refine c_loop (fun m10 a w => ∃ (x3 : Int), ∃ (x5 : Int), chatelaineref03_bit_l0 Fu a1 m10 x3 x5 = some o1 ∧ r64 x3 ∧ r64 x5 ∧ St 15 w0 (ownL ([] ++ [.sn S0])) [(0, .int .i64 x3), (1, .int .i64 a1), (5, .int .i64 x5)] [.sn S0] a w) Fu ⟨a0, 0, hl2, hra0, (show r64 0 from ⟨by decide, by decide⟩), h.has (by exact ⟨rfl, rfl, rfl, trivial⟩)⟩ (fun m10 a w hI => ?_)
    obtain ⟨x3, x5, hl9, hr4, hr6, h⟩ := hI
    obtain _ | m10 := m10
    · rw [chatelaineref03_bit_l0] at hl9; cases hl9
    rw [chatelaineref03_bit_l0] at hl9
    refine wp_seq ?_
    refine c_rs ?_
    refine sMV h (fun a h => ?_)
    refine sMV h (fun a h => ?_)
    refine s_x h rfl rfl (by decide) (x_bin h.k rfl rfl rfl ib_lss) (fun a h => ?_)
    refine l_end ?_
    refine c_cond h rfl (fun hb => ?_) (fun hb => ?_)
    · rw [if_pos (of_decide_eq_true hb)] at hl9
      refine wp_skip ?_
      refine e_thenN ?_
      refine wp_seq ?_
      refine wp_block ?_
      refine c_r ?_
      refine sMV h (fun a h => ?_)
      refine s_x h rfl rfl (by decide) (x_bin h.k rfl rfl rfl (ib_quow (by decide))) (fun a h => ?_)
      refine sAV h (fun a h => ?_)
      refine l_nil ?_
      refine e_blkN ?_
      refine e_thenN ?_
      refine c_r ?_
      refine sMV h (fun a h => ?_)
      refine s_x h rfl rfl (by decide) (x_bin h.k rfl rfl rfl (ib_add rfl)) (fun a h => ?_)
      refine sAV h (fun a h => ?_)
      refine l_nil ?_
      exact e_thenN ⟨m10, Nat.lt_succ_self _, w64 (Int.tdiv x3 2), w64 (x5 + 1), hl9, (w64_r _), (w64_r _), h.has (by exact ⟨rfl, rfl, rfl, trivial⟩)⟩
    · rw [if_neg (of_decide_eq_false hb)] at hl9
      refine wp_exit ?_
      refine e_thenX ?_
      refine e_thenX ?_
      refine e_blkX ?_
      refine e_thenN ?_
      exact ⟨x3, (Option.some.inj hl9), hr4, h.has (by exact ⟨rfl, trivial⟩)⟩
  · rintro a w ⟨x7, rfl, hr8, h⟩
    refine e_thenN ?_
    refine c_rs ?_
    refine sMV h (fun a h => ?_)
    refine s_x h rfl rfl (by decide) (x_bin h.k rfl rfl rfl (ib_remw (by decide))) (fun a h => ?_)
    refine sAV h (fun a h => ?_)
    refine l_end ?_
    refine wp_ret ?_
    obtain rfl := Option.some.inj hf
    exact r_ret1 h rfl (rv_tmp h rfl) ⟨_, [], _, rfl, ⟨rfl, rfl, (tmod_r hr8 _), trivial⟩, rfl, (Up.refl _ _ _), h.m⟩
def chatelaineref03_turned_l1 (Fu : Nat) (a0 : Int) (x5 : Int) : Nat → Int → Int → Option Int
  | 0, _, _ => none
  | k + 1, x17, x19 => if x19 < 8 then ((chatelaineref03_bit Fu a0 (Int.tmod (w64 (x5 + x19)) 8)).bind fun x25 => chatelaineref03_turned_l1 Fu a0 x5 k (w64 (x17 + x25)) (w64 (x19 + 1))) else (some x17)
def chatelaineref03_turned_l0 (Fu : Nat) (a0 : Int) : Nat → Int → Int → Option Int
  | 0, _, _ => none
  | k + 1, x3, x5 => if 0 ≤ x5 then ((chatelaineref03_bit Fu 99 x5).bind fun x11 => (chatelaineref03_turned_l1 Fu a0 x5 Fu x11 4).bind fun x21 => (chatelaineref03_bit Fu a0 x5).bind fun x29 => chatelaineref03_turned_l0 Fu a0 k (w64 ((w64 (2 * x3)) + (Int.tmod (w64 (x21 + x29)) 2))) (w64 (x5 - 1))) else (some x3)
def chatelaineref03_turned (Fu : Nat) (a0 : Int) : Option Int :=
  (chatelaineref03_turned_l0 Fu a0 Fu 0 7).bind fun x7 => some x7
set_option maxRecDepth 100000 in
set_option maxHeartbeats 2000000 in
theorem chatelaineref03_turned_ok (Fu : Nat) {S0 : Snap} (a0 : Int) (hra0 : r64 a0) (r : Int) (hf : chatelaineref03_turned Fu a0 = some r) (w0 : World) (hm : Mem w0 (ownL ([] ++ [.sn S0])) ([] ++ [.sn S0]) w0) :
    Calls Try.prog 77 #[.int .i64 a0] w0 (Ret w0 S0 [] (fun v L1 S1 => v = .int .i64 r ∧ L1 = [] ∧ r64 r ∧ True)) := by
  unfold chatelaineref03_turned at hf
  refine c_enterM Try.func77 rfl 36 rfl (by simp) _ hm _ rfl (fun a h => ?_)
  refine c_rs ?_
  refine sAV h (fun a h => ?_)
  refine l_end ?_
  refine c_rs ?_
  refine sAV h (fun a h => ?_)
  refine l_end ?_
  refine wp_seq ?_
  refine c_rs ?_
  refine sAV h (fun a h => ?_)
  refine l_end ?_
  obtain ⟨o1, hl2, hf⟩ := bsome hf
  refine c_fin (fun a w => ∃ (x7 : Int), x7 = o1 ∧ r64 x7 ∧ St 36 w0 (ownL ([] ++ [.sn S0])) [(3, .int .i64 x7)] [.sn S0] a w) ?_ ?_
  · refine wp_block ?_
    refine c_loop (fun m10 a w => ∃ (x3 : Int), ∃ (x5 : Int), chatelaineref03_turned_l0 Fu a0 m10 x3 x5 = some o1 ∧ r64 x3 ∧ r64 x5 ∧ St 36 w0 (ownL ([] ++ [.sn S0])) [(0, .int .i64 a0), (3, .int .i64 x3), (4, .int .i64 x5)] [.sn S0] a w) Fu ⟨0, 7, hl2, (show r64 0 from ⟨by decide, by decide⟩), (show r64 7 from ⟨by decide, by decide⟩), h.has (by exact ⟨rfl, rfl, rfl, trivial⟩)⟩ (fun m10 a w hI => ?_)
    obtain ⟨x3, x5, hl9, hr4, hr6, h⟩ := hI
    obtain _ | m10 := m10
    · rw [chatelaineref03_turned_l0] at hl9; cases hl9
    rw [chatelaineref03_turned_l0] at hl9
    refine wp_seq ?_
    refine c_rs ?_
    refine sMV h (fun a h => ?_)
    refine s_x h rfl rfl (by decide) (x_bin h.k rfl rfl rfl ib_geq) (fun a h => ?_)
    refine l_end ?_
    refine c_cond h rfl (fun hb => ?_) (fun hb => ?_)
    · rw [if_pos (of_decide_eq_true hb)] at hl9
      refine wp_skip ?_
      refine e_thenN ?_
      refine wp_seq ?_
      refine wp_block ?_
      refine c_rs ?_
      refine sMV h (fun a h => ?_)
      obtain ⟨x11, h12, hl9⟩ := bsome hl9
      have hX := chatelaineref03_bit_ok Fu (S0 := snapAll _) 99 (show r64 99 from ⟨by decide, by decide⟩) x5 hr6 _ h12 _ h.startAll
      refine q_callX hX h rfl rfl rfl (by decide) Try.func90 rfl rfl rfl (fun a w v L1 S1 hR hb1 h => ?_)
      obtain ⟨rfl, rfl, hr14, _⟩ := hR
      refine sAV h (fun a h => ?_)
      refine l_end ?_
      refine wp_seq ?_
      refine c_rs ?_
      refine sAV h (fun a h => ?_)
      refine l_end ?_
      obtain ⟨o15, hl16, hl9⟩ := bsome hl9
      refine c_fin (fun a w => ∃ (x21 : Int), x21 = o15 ∧ r64 x21 ∧ St 36 w0 (ownL ([] ++ [.sn S0])) [(0, .int .i64 a0), (3, .int .i64 x3), (4, .int .i64 x5), (5, .int .i64 x21)] [.sn S0] a w) ?_ ?_
      · refine wp_block ?_
        refine c_loop (fun m24 a w => ∃ (x17 : Int), ∃ (x19 : Int), chatelaineref03_turned_l1 Fu a0 x5 m24 x17 x19 = some o15 ∧ r64 x17 ∧ r64 x19 ∧ St 36 w0 (ownL ([] ++ [.sn S0])) [(0, .int .i64 a0), (3, .int .i64 x3), (4, .int .i64 x5), (5, .int .i64 x17), (6, .int .i64 x19)] [.sn S0] a w) Fu ⟨x11, 4, hl16, hr14, (show r64 4 from ⟨by decide, by decide⟩), h.has (by exact ⟨rfl, rfl, rfl, rfl, rfl, trivial⟩)⟩ (fun m24 a w hI => ?_)
        obtain ⟨x17, x19, hl23, hr18, hr20, h⟩ := hI
        obtain _ | m24 := m24
        · rw [chatelaineref03_turned_l1] at hl23; cases hl23
        rw [chatelaineref03_turned_l1] at hl23
        refine wp_seq ?_
        refine c_rs ?_
        refine sMV h (fun a h => ?_)
        refine s_x h rfl rfl (by decide) (x_bin h.k rfl rfl rfl ib_lss) (fun a h => ?_)
        refine l_end ?_
        refine c_cond h rfl (fun hb => ?_) (fun hb => ?_)
        · rw [if_pos (of_decide_eq_true hb)] at hl23
          refine wp_skip ?_
          refine e_thenN ?_
          refine wp_seq ?_
          refine wp_block ?_
          refine c_r ?_
          refine sMV h (fun a h => ?_)
          refine sMV h (fun a h => ?_)
          refine sMV h (fun a h => ?_)
          refine sMV h (fun a h => ?_)
          refine s_x h rfl rfl (by decide) (x_bin h.k rfl rfl rfl (ib_add rfl)) (fun a h => ?_)
          refine s_x h rfl rfl (by decide) (x_bin h.k rfl rfl rfl (ib_remw (by decide))) (fun a h => ?_)
          obtain ⟨x25, h26, hl23⟩ := bsome hl23
          have hX := chatelaineref03_bit_ok Fu (S0 := snapAll _) a0 hra0 (Int.tmod (w64 (x5 + x19)) 8) (tmod_r (w64_r _) _) _ h26 _ h.startAll
          refine q_callX hX h rfl rfl rfl (by decide) Try.func90 rfl rfl rfl (fun a w v L1 S1 hR hb1 h => ?_)
          obtain ⟨rfl, rfl, hr28, _⟩ := hR
          refine s_x h rfl rfl (by decide) (x_bin h.k rfl rfl rfl (ib_add rfl)) (fun a h => ?_)
          refine sAV h (fun a h => ?_)
          refine l_nil ?_
          refine e_blkN ?_
          refine e_thenN ?_
          refine c_r ?_
          refine sMV h (fun a h => ?_)
          refine s_x h rfl rfl (by decide) (x_bin h.k rfl rfl rfl (ib_add rfl)) (fun a h => ?_)
          refine sAV h (fun a h => ?_)
          refine l_nil ?_
          exact e_thenN ⟨m24, Nat.lt_succ_self _, w64 (x17 + x25), w64 (x19 + 1), hl23, (w64_r _), (w64_r _), h.has (by exact ⟨rfl, rfl, rfl, rfl, rfl, trivial⟩)⟩
        · rw [if_neg (of_decide_eq_false hb)] at hl23
          refine wp_exit ?_
          refine e_thenX ?_
          refine e_thenX ?_
          refine e_blkX ?_
          refine e_thenN ?_
          exact ⟨x17, (Option.some.inj hl23), hr18, h.has (by exact ⟨rfl, rfl, rfl, rfl, trivial⟩)⟩
      · rintro a w ⟨x21, rfl, hr22, h⟩
        refine e_thenN ?_
        refine c_rs ?_
        refine sMV h (fun a h => ?_)
        refine sMV h (fun a h => ?_)
        refine sMV h (fun a h => ?_)
        obtain ⟨x29, h30, hl9⟩ := bsome hl9
        have hX := chatelaineref03_bit_ok Fu (S0 := snapAll _) a0 hra0 x5 hr6 _ h30 _ h.startAll
        refine q_callX hX h rfl rfl rfl (by decide) Try.func90 rfl rfl rfl (fun a w v L1 S1 hR hb1 h => ?_)
        obtain ⟨rfl, rfl, hr32, _⟩ := hR
        refine s_x h rfl rfl (by decide) (x_bin h.k rfl rfl rfl (ib_add rfl)) (fun a h => ?_)
        refine sAV h (fun a h => ?_)
        refine l_end ?_
        refine c_r ?_
        refine sMV h (fun a h => ?_)
        refine s_x h rfl rfl (by decide) (x_bin h.k rfl rfl rfl (ib_mul rfl)) (fun a h => ?_)
        refine sMV h (fun a h => ?_)
        refine s_x h rfl rfl (by decide) (x_bin h.k rfl rfl rfl (ib_remw (by decide))) (fun a h => ?_)
        refine s_x h rfl rfl (by decide) (x_bin h.k rfl rfl rfl (ib_add rfl)) (fun a h => ?_)
        refine sAV h (fun a h => ?_)
        refine l_nil ?_
        refine e_blkN ?_
        refine e_thenN ?_
        refine c_r ?_
        refine sMV h (fun a h => ?_)
        refine s_x h rfl rfl (by decide) (x_bin h.k rfl rfl rfl (ib_sub rfl)) (fun a h => ?_)
        refine sAV h (fun a h => ?_)
        refine l_nil ?_
        exact e_thenN ⟨m10, Nat.lt_succ_self _, w64 ((w64 (2 * x3)) + (Int.tmod (w64 (x21 + x29)) 2)), w64 (x5 - 1), hl9, (w64_r _), (w64_r _), h.has (by exact ⟨rfl, rfl, rfl, trivial⟩)⟩
    · rw [if_neg (of_decide_eq_false hb)] at hl9
      refine wp_exit ?_
      refine e_thenX ?_
      refine e_thenX ?_
      refine e_blkX ?_
      refine e_thenN ?_
      exact ⟨x3, (Option.some.inj hl9), hr4, h.has (by exact ⟨rfl, trivial⟩)⟩
  · rintro a w ⟨x7, rfl, hr8, h⟩
    refine e_thenN ?_
    refine c_rs ?_
    refine sMV h (fun a h => ?_)
    refine sAV h (fun a h => ?_)
    refine l_end ?_
    refine wp_ret ?_
    rw [← Option.some.inj hf]
    exact r_ret1 h rfl (rv_tmp h rfl) ⟨_, [], _, rfl, ⟨rfl, rfl, hr8, trivial⟩, rfl, (Up.refl _ _ _), h.m⟩
def chatelaineref03_Box_l0 (Fu : Nat) : Nat → Int → (List Int) → Option ((List Int))
  | 0, _, _ => none
  | k + 1, x5, x7 => if x5 < 255 then ((ix x7.length (w64 (x5 - 1))).bind fun m19 => (x7[m19]?).bind fun x25 => (chatelaineref02_Times Fu x25 3).bind fun x32 => (app 8 x7 ([x32])).bind fun x38 => chatelaineref03_Box_l0 Fu k (w64 (x5 + 1)) x38) else (some x7)
def chatelaineref03_Box_l1 (Fu : Nat) (x12 : List Int) : Nat → Int → (List Int) → Option ((List Int))
  | 0, _, _ => none
  | k + 1, x64, x66 => if x64 < 255 then ((ix x12.length x64).bind fun m78 => (x12[m78]?).bind fun x84 => (ix x12.length (Int.tmod (w64 (255 - x64)) 255)).bind fun m91 => (x12[m91]?).bind fun x97 => (chatelaineref03_turned Fu x97).bind fun x104 => (ix x66.length x84).bind fun m108 => chatelaineref03_Box_l1 Fu x12 k (w64 (x64 + 1)) (x66.set m108 x104)) else (some x66)
def chatelaineref03_Box (Fu : Nat) : Option ((List Int)) :=
  (chatelaineref03_Box_l0 Fu Fu 1 ([1])).bind fun x12 => (mkN 8 256).bind fun n44 => (chatelaineref03_turned Fu 0).bind fun x49 => (ix (List.replicate n44 (0 : Int)).length 0).bind fun m53 => (chatelaineref03_Box_l1 Fu x12 Fu 0 ((List.replicate n44 (0 : Int)).set m53 x49)).bind fun x71 => some x71
set_option maxRecDepth 100000 in
set_option maxHeartbeats 2000000 in
theorem chatelaineref03_Box_ok (Fu : Nat) {S0 : Snap}  (r : (List Int)) (hf : chatelaineref03_Box Fu = some r) (w0 : World) (hm : Mem w0 (ownL ([] ++ [.sn S0])) ([] ++ [.sn S0]) w0) :
    Calls Try.prog 57 #[] w0 (Ret w0 S0 [] (fun v L1 S1 => ∃ (A119 : Option Addr), ∃ (c120 : Nat), ∃ (cs121 : List Value), v = .slice A119 r.length c120 ∧ L1 = [.row (.slice A119 r.length c120) 3 1 r.length cs121] ∧ reps tyI S1 cs121 r ∧ True)) := by
  unfold chatelaineref03_Box at hf
  refine c_enterM Try.func57 rfl 41 rfl (by simp) _ hm _ rfl (fun a h => ?_)
  refine c_rs ?_
  refine sAV h (fun a h => ?_)
  refine l_end ?_
  refine c_rs ?_
  refine q_bslice (T := tyI) (S := S0) h rfl rfl rfl (by decide) Try.underlying89 zi_int (by decide) (by decide) (by decide) (by decide) [.int .i64 1] rfl rfl (C := [[.int .i64 1]]) rfl (xs := [1]) ⟨[.int .i64 1], _, rfl, ⟨rfl, (show r64 1 from ⟨by decide, by decide⟩)⟩, rfl⟩ (by intro c hc; simp only [List.mem_cons, List.not_mem_nil, or_false] at hc; subst hc; rfl) (fun a w A1 h => ?_)
  have hb2 : reps tyI S0 ([[.int .i64 1]] : List (List Value)).flatten [1] := ⟨[.int .i64 1], _, rfl, ⟨rfl, (show r64 1 from ⟨by decide, by decide⟩)⟩, rfl⟩
  refine sAV h (fun a h => ?_)
  refine l_end ?_
  refine wp_seq ?_
  refine c_rs ?_
  refine sAV h (fun a h => ?_)
  refine l_end ?_
  obtain ⟨o3, hl4, hf⟩ := bsome hf
  refine c_fin (fun a w => ∃ (x12 : List Int), ∃ (A13 : Option Addr), ∃ (c14 : Nat), ∃ (cs15 : List Value), x12 = o3 ∧ reps tyI S0 cs15 x12 ∧ St 41 w0 (ownL ([] ++ [.sn S0])) [(1, .slice A13 x12.length c14)] [.row (.slice A13 x12.length c14) 3 1 x12.length cs15, .sn S0] a w) ?_ ?_
  · refine wp_block ?_
    refine c_loop (fun m18 a w => ∃ (x5 : Int), ∃ (x7 : List Int), ∃ (A8 : Option Addr), ∃ (c9 : Nat), ∃ (cs10 : List Value), chatelaineref03_Box_l0 Fu m18 x5 x7 = some o3 ∧ r64 x5 ∧ reps tyI S0 cs10 x7 ∧ St 41 w0 (ownL ([] ++ [.sn S0])) [(1, .slice A8 x7.length c9), (2, .int .i64 x5)] [.row (.slice A8 x7.length c9) 3 1 x7.length cs10, .sn S0] a w) Fu ⟨1, [1], A1, 1, ([[.int .i64 1]] : List (List Value)).flatten, hl4, (show r64 1 from ⟨by decide, by decide⟩), hb2, h.has (by exact ⟨rfl, rfl, trivial⟩)⟩ (fun m18 a w hI => ?_)
    obtain ⟨x5, x7, A8, c9, cs10, hl17, hr6, hq11, h⟩ := hI
    obtain _ | m18 := m18
    · rw [chatelaineref03_Box_l0] at hl17; cases hl17
    rw [chatelaineref03_Box_l0] at hl17
    refine wp_seq ?_
    refine c_rs ?_
    refine sMV h (fun a h => ?_)
    refine s_x h rfl rfl (by decide) (x_bin h.k rfl rfl rfl ib_lss) (fun a h => ?_)
    refine l_end ?_
    refine c_cond h rfl (fun hb => ?_) (fun hb => ?_)
    · rw [if_pos (of_decide_eq_true hb)] at hl17
      refine wp_skip ?_
      refine e_thenN ?_
      refine wp_seq ?_
      refine wp_block ?_
      refine c_r ?_
      refine sMV h (fun a h => ?_)
      refine sMV h (fun a h => ?_)
      refine sMV h (fun a h => ?_)
      refine s_x h rfl rfl (by decide) (x_bin h.k rfl rfl rfl (ib_sub rfl)) (fun a h => ?_)
      obtain ⟨m19, h20, hl17⟩ := bsome hl17
      obtain ⟨hi21, hm22⟩ := ix_some h20
      obtain ⟨g24, hA23⟩ := h.m.rowHead (i := 0) rfl (Nat.lt_of_le_of_lt (Nat.zero_le _) hm22)
      refine s_x h rfl rfl (by decide) (x_iaddrE h.k rfl Try.underlying89 sz_int hA23 rfl rfl hi21 hm22) (fun a h => ?_)
      obtain ⟨x25, h26, hl17⟩ := bsome hl17
      obtain ⟨u27, hv28, hu29⟩ := (hq11).cell rfl h26
      obtain ⟨e31, hr30⟩ := hu29
      cases e31
      refine s_x h rfl rfl (by decide) (x_ld h.k rfl Try.underlying3 rfl rfl (h.m.cellRowE (i := 0) rfl hA23 _ (by rw [Nat.mul_one]; exact hv28))) (fun a h => ?_)
      obtain ⟨x32, h33, hl17⟩ := bsome hl17
      have hX := chatelaineref02_Times_ok Fu (S0 := snapAll _) x25 hr30 3 (show r64 3 from ⟨by decide, by decide⟩) _ h33 _ h.startAll
      refine q_callX hX h rfl rfl rfl (by decide) Try.func59 rfl rfl rfl (fun a w v L1 S1 hR hb1 h => ?_)
      obtain ⟨rfl, rfl, hr35, _⟩ := hR
      refine q_bslice (T := tyI) (S := S0) h rfl rfl rfl (by decide) Try.underlying89 zi_int (by decide) (by decide) (by decide) (by decide) [.int .i64 x32] rfl rfl (C := [[.int .i64 x32]]) rfl (xs := [x32]) ⟨[.int .i64 x32], _, rfl, ⟨rfl, hr35⟩, rfl⟩ (by intro c hc; simp only [List.mem_cons, List.not_mem_nil, or_false] at hc; subst hc; rfl) (fun a w A36 h => ?_)
      have hb37 : reps tyI S0 ([[.int .i64 x32]] : List (List Value)).flatten [x32] := ⟨[.int .i64 x32], _, rfl, ⟨rfl, hr35⟩, rfl⟩
      obtain ⟨x38, h39, hl17⟩ := bsome hl17
      refine q_append (T := tyI) (S := S0) h rfl rfl rfl (by decide) Try.underlying89 zb_int rfl (by decide) rfl 1 rfl hq11 rfl hb37 (h.m.rdRowA (i := 0) rfl) h39 (fun a w A40 c41 cs42 hq43 h => ?_)
      refine sAV h (fun a h => ?_)
      refine l_nil ?_
      refine e_blkN ?_
      refine e_thenN ?_
      refine c_r ?_
      refine sMV h (fun a h => ?_)
      refine s_x h rfl rfl (by decide) (x_bin h.k rfl rfl rfl (ib_add rfl)) (fun a h => ?_)
      refine sAV h (fun a h => ?_)
      refine l_nil ?_
      have h := h.pick [1, 2] (by decide) rfl
      exact e_thenN ⟨m18, Nat.lt_succ_self _, w64 (x5 + 1), x38, A40, c41, cs42, hl17, (w64_r _), hq43, h.has (by exact ⟨rfl, rfl, trivial⟩)⟩
    · rw [if_neg (of_decide_eq_false hb)] at hl17
      refine wp_exit ?_
      refine e_thenX ?_
      refine e_thenX ?_
      refine e_blkX ?_
      refine e_thenN ?_
      exact ⟨x7, A8, c9, cs10, (Option.some.inj hl17), hq11, h.has (by exact ⟨rfl, trivial⟩)⟩
  · rintro a w ⟨x12, A13, c14, cs15, rfl, hq16, h⟩
    refine e_thenN ?_
    refine c_rs ?_
    obtain ⟨n44, h45, hf⟩ := bsome hf
    refine q_make (T := tyI) (S := S0) h rfl rfl rfl (by decide) Try.underlying89 zb_int rfl rfl (q := 0) ⟨rfl, (show r64 0 from ⟨by decide, by decide⟩)⟩ rfl rfl h45 (fun a w A46 cs47 hq48 h => ?_)
    refine sAV h (fun a h => ?_)
    refine l_end ?_
    refine c_rs ?_
    refine sMV h (fun a h => ?_)
    obtain ⟨x49, h50, hf⟩ := bsome hf
    have hX := chatelaineref03_turned_ok Fu (S0 := snapAll _) 0 (show r64 0 from ⟨by decide, by decide⟩) _ h50 _ h.startAll
    refine q_callX hX h rfl rfl rfl (by decide) Try.func77 rfl rfl rfl (fun a w v L1 S1 hR hb1 h => ?_)
    obtain ⟨rfl, rfl, hr52, _⟩ := hR
    obtain ⟨m53, h54, hf⟩ := bsome hf
    obtain ⟨hi55, hm56⟩ := ix_some h54
    obtain ⟨g58, hA57⟩ := h.m.rowHead (i := 0) rfl (Nat.lt_of_le_of_lt (Nat.zero_le _) hm56)
    refine s_x h rfl rfl (by decide) (x_iaddrE h.k rfl Try.underlying89 sz_int hA57 rfl rfl hi55 hm56) (fun a h => ?_)
    refine q_setRow (T := tyI) (q := x49) h rfl rfl rfl sz_int hA57 rfl rfl 0 rfl rfl hq48 ⟨rfl, hr52⟩ (by first | exact hm56 | simpa using hm56) (fun a w cs59 hq60 h => ?_)
    have hl61 : (List.replicate n44 (0 : Int)).length = ((List.replicate n44 (0 : Int)).set m53 x49).length := by simp only [List.length_set]
    rw [hl61] at h
    refine l_end ?_
    refine wp_seq ?_
    refine c_rs ?_
    refine sAV h (fun a h => ?_)
    refine l_end ?_
    obtain ⟨o62, hl63, hf⟩ := bsome hf
    refine c_fin (fun a w => ∃ (x71 : List Int), ∃ (A72 : Option Addr), ∃ (c73 : Nat), ∃ (cs74 : List Value), x71 = o62 ∧ reps tyI S0 cs74 x71 ∧ St 41 w0 (ownL ([] ++ [.sn S0])) [(3, .slice A72 x71.length c73)] [.row (.slice A72 x71.length c73) 3 1 x71.length cs74, .sn S0] a w) ?_ ?_
    · refine wp_block ?_
      have h := h.pick [1, 0, 2] (by decide) rfl
      refine c_loop (fun m77 a w => ∃ (x64 : Int), ∃ (x66 : List Int), ∃ (A67 : Option Addr), ∃ (c68 : Nat), ∃ (cs69 : List Value), chatelaineref03_Box_l1 Fu x12 m77 x64 x66 = some o62 ∧ r64 x64 ∧ reps tyI S0 cs69 x66 ∧ St 41 w0 (ownL ([] ++ [.sn S0])) [(1, .slice A13 x12.length c14), (3, .slice A67 x66.length c68), (4, .int .i64 x64)] [.row (.slice A13 x12.length c14) 3 1 x12.length cs15, .row (.slice A67 x66.length c68) 3 1 x66.length cs69, .sn S0] a w) Fu ⟨0, ((List.replicate n44 (0 : Int)).set m53 x49), A46, n44, cs59, hl63, (show r64 0 from ⟨by decide, by decide⟩), hq60, h.has (by exact ⟨rfl, rfl, rfl, trivial⟩)⟩ (fun m77 a w hI => ?_)
      obtain ⟨x64, x66, A67, c68, cs69, hl76, hr65, hq70, h⟩ := hI
      obtain _ | m77 := m77
      · rw [chatelaineref03_Box_l1] at hl76; cases hl76
      rw [chatelaineref03_Box_l1] at hl76
      refine wp_seq ?_
      refine c_rs ?_
      refine sMV h (fun a h => ?_)
      refine s_x h rfl rfl (by decide) (x_bin h.k rfl rfl rfl ib_lss) (fun a h => ?_)
      refine l_end ?_
      refine c_cond h rfl (fun hb => ?_) (fun hb => ?_)
      · rw [if_pos (of_decide_eq_true hb)] at hl76
        refine wp_skip ?_
        refine e_thenN ?_
        refine wp_seq ?_
        refine wp_block ?_
        -- region 11 draws
        obtain ⟨m78, h79, hl76⟩ := bsome hl76
        obtain ⟨x84, h85, hl76⟩ := bsome hl76
        obtain ⟨m91, h92, hl76⟩ := bsome hl76
        obtain ⟨x97, h98, hl76⟩ := bsome hl76
        obtain ⟨x104, h105, hl76⟩ := bsome hl76
        obtain ⟨m108, h109, hl76⟩ := bsome hl76
        refine d_start h (Mem _ _ _) 13 14 rfl (by kernel_rfl) (fun _ _ _ _ _ h => h) (fun _ h => h) (fun Q a w HE HN h HS => ?_)
        refine d_takeP h (fun _ => HS) HN 0 rfl (by kernel_rfl) (by kernel_rfl) (by kernel_rfl) (by decide) rfl rfl (by decide) (fun w' => x_move h.k _ rfl rfl) (fun a h => ?_)
        refine d_takeP h (fun _ => HS) HN 1 rfl (by kernel_rfl) (by kernel_rfl) (by kernel_rfl) (by decide) rfl rfl (by decide) (fun w' => x_move h.k _ rfl rfl) (fun a h => ?_)
        refine d_takeP h (fun _ => HS) HN 2 rfl (by kernel_rfl) (by kernel_rfl) (by kernel_rfl) (by decide) rfl rfl (by decide) (fun w' => x_move h.k _ rfl rfl) (fun a h => ?_)
        obtain ⟨hi80, hm81⟩ := ix_some h79
        obtain ⟨g83, hA82⟩ := h.m.rowHead (i := 0) rfl (Nat.lt_of_le_of_lt (Nat.zero_le _) hm81)
        refine d_takeP h (fun _ => HS) HN 3 rfl (by kernel_rfl) (by kernel_rfl) (by kernel_rfl) (by decide) rfl rfl (by decide) (fun w' => x_iaddrE h.k rfl Try.underlying89 sz_int hA82 rfl rfl hi80 hm81) (fun a h => ?_)
        obtain ⟨u86, hv87, hu88⟩ := (hq16).cell rfl h85
        obtain ⟨e90, hr89⟩ := hu88
        cases e90
        refine d_take h HS HN 4 rfl (by kernel_rfl) (by kernel_rfl) (by kernel_rfl) (by kernel_rfl) (by kernel_rfl) rfl rfl (by decide) (fun w' hw => x_ld h.k rfl Try.underlying3 rfl rfl (hw.cellRowE (i := 0) rfl hA82 _ (by rw [Nat.mul_one]; exact hv87))) (fun a h => ?_)
        refine d_takeP h (fun _ => HS) HN 5 rfl (by kernel_rfl) (by kernel_rfl) (by kernel_rfl) (by decide) rfl rfl (by decide) (fun w' => x_move h.k _ rfl rfl) (fun a h => ?_)
        refine d_takeP h (fun _ => HS) HN 6 rfl (by kernel_rfl) (by kernel_rfl) (by kernel_rfl) (by decide) rfl rfl (by decide) (fun w' => x_move h.k _ rfl rfl) (fun a h => ?_)
        refine d_takeP h (fun _ => HS) HN 7 rfl (by kernel_rfl) (by kernel_rfl) (by kernel_rfl) (by decide) rfl rfl (by decide) (fun w' => x_bin h.k rfl rfl rfl (ib_sub rfl)) (fun a h => ?_)
        refine d_takeP h (fun _ => HS) HN 8 rfl (by kernel_rfl) (by kernel_rfl) (by kernel_rfl) (by decide) rfl rfl (by decide) (fun w' => x_bin h.k rfl rfl rfl (ib_remw (by decide))) (fun a h => ?_)
        obtain ⟨hi93, hm94⟩ := ix_some h92
        obtain ⟨g96, hA95⟩ := h.m.rowHead (i := 0) rfl (Nat.lt_of_le_of_lt (Nat.zero_le _) hm94)
        refine d_takeP h (fun _ => HS) HN 9 rfl (by kernel_rfl) (by kernel_rfl) (by kernel_rfl) (by decide) rfl rfl (by decide) (fun w' => x_iaddrE h.k rfl Try.underlying89 sz_int hA95 rfl rfl hi93 hm94) (fun a h => ?_)
        obtain ⟨u99, hv100, hu101⟩ := (hq16).cell rfl h98
        obtain ⟨e103, hr102⟩ := hu101
        cases e103
        refine d_take h HS HN 10 rfl (by kernel_rfl) (by kernel_rfl) (by kernel_rfl) (by kernel_rfl) (by kernel_rfl) rfl rfl (by decide) (fun w' hw => x_ld h.k rfl Try.underlying3 rfl rfl (hw.cellRowE (i := 0) rfl hA95 _ (by rw [Nat.mul_one]; exact hv100))) (fun a h => ?_)
        refine d_alone 11 rfl (by kernel_rfl) (fun K hK => ?_)
        have hX := chatelaineref03_turned_ok Fu (S0 := snapAll _) x97 hr102 _ h105 _ h.startAll
        refine q_callX hX h rfl rfl rfl (by decide) Try.func77 rfl rfl rfl (fun a w v L1 S1 hR hb1 h => ?_)
        obtain ⟨rfl, rfl, hr107, _⟩ := hR
        refine hK _ _ (fun _ _ => HS.ext hb1) ?_
        replace HS := HS.ext hb1
        clear hK
        obtain ⟨hi110, hm111⟩ := ix_some h109
        obtain ⟨g113, hA112⟩ := h.m.rowHead (i := 1) rfl (Nat.lt_of_le_of_lt (Nat.zero_le _) hm111)
        refine d_takeP h (fun _ => HS) HN 12 rfl (by kernel_rfl) (by kernel_rfl) (by kernel_rfl) (by decide) rfl rfl (by decide) (fun w' => x_iaddrE h.k rfl Try.underlying89 sz_int hA112 rfl rfl hi110 hm111) (fun a h => ?_)
        refine d_alone 13 rfl (by kernel_rfl) (fun K hK => ?_)
        refine q_setRow (T := tyI) (q := x104) h rfl rfl rfl sz_int hA112 rfl rfl 1 rfl rfl hq70 ⟨rfl, hr107⟩ (by first | exact hm111 | simpa using hm111) (fun a w cs114 hq115 h => ?_)
        have hl116 : x66.length = (x66.set m108 x104).length := by simp only [List.length_set]
        rw [hl116] at h
        refine hK _ _ (fun hne _ => absurd rfl hne) ?_
        clear hK
        refine d_done (by kernel_rfl) (HE _ _ ?_) _
        refine e_blkN ?_
        refine e_thenN ?_
        refine c_r ?_
        refine sMV h (fun a h => ?_)
        refine s_x h rfl rfl (by decide) (x_bin h.k rfl rfl rfl (ib_add rfl)) (fun a h => ?_)
        refine sAV h (fun a h => ?_)
        refine l_nil ?_
        exact e_thenN ⟨m77, Nat.lt_succ_self _, w64 (x64 + 1), (x66.set m108 x104), A67, c68, cs114, hl76, (w64_r _), hq115, h.has (by exact ⟨rfl, rfl, rfl, trivial⟩)⟩
      · rw [if_neg (of_decide_eq_false hb)] at hl76
        refine wp_exit ?_
        refine e_thenX ?_
        refine e_thenX ?_
        refine e_blkX ?_
        refine e_thenN ?_
        have h := h.pick [1, 2] (by decide) rfl
        exact ⟨x66, A67, c68, cs69, (Option.some.inj hl76), hq70, h.has (by exact ⟨rfl, trivial⟩)⟩
    · rintro a w ⟨x71, A72, c73, cs74, rfl, hq75, h⟩
      refine e_thenN ?_
      refine c_rs ?_
      refine sMV h (fun a h => ?_)
      refine sAV h (fun a h => ?_)
      refine l_end ?_
      refine wp_ret ?_
      rw [← Option.some.inj hf]
      exact r_ret1 h rfl (rv_tmp h rfl) ⟨_, [.row (.slice A72 x71.length c73) 3 1 x71.length cs74], _, rfl, ⟨A72, c73, cs74, rfl, rfl, hq75, trivial⟩, rfl, (Up.refl _ _ _), h.m⟩
end Go.Proofs.Ythaoiajbgadcjaa
