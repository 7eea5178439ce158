/- Gf: Go functions as plain functions, and that they are so (written by xt.py). -/
import Derived.Test.YtohgmggdfmjgnaaWa
import Derived.Test.YtohgmggdfmjgnaaPc
set_option linter.unusedVariables false
set_option linter.unusedSimpArgs false
namespace Go.Proofs.Ytohgmggdfmjgnaa
open Go.RowKit
def gf_Times_l0 (Fu : Nat) : Nat → UInt8 → UInt8 → UInt8 → Option UInt8
  | 0, _, _, _ => none
  | k + 1, x3, x4, x5 => if 0 < (x4.toNat : Int) then (gf_Times_l0 Fu k ((u8_shl x3 1) ^^^ ((27 : UInt8) &&& (-(u8_shr x3 7)))) (u8_shr x4 1) (x5 ^^^ (x3 &&& (-(x4 &&& (1 : UInt8)))))) else (some x5)
def gf_Times (Fu : Nat) (a0 : UInt8) (a1 : UInt8) : Option UInt8 :=
  (gf_Times_l0 Fu Fu a0 a1 (0 : UInt8)).bind fun x6 => some x6
set_option maxRecDepth 100000 in
set_option maxHeartbeats 2000000 in
theorem gf_Times_ok (Fu : Nat) {S0 : Snap} (a0 : UInt8) (a1 : UInt8) (r : UInt8) (hf : gf_Times Fu a0 a1 = some r) (w0 : World) (hm : Mem w0 (ownL ([] ++ [.sn S0])) ([] ++ [.sn S0]) w0) :
    Calls Try.prog 86 #[.int .u8 (a0.toNat : Int), .int .u8 (a1.toNat : Int)] w0 (Ret w0 S0 [] (fun v L1 S1 => v = .int .u8 (r.toNat : Int) ∧ L1 = [] ∧ True)) := by
  unfold gf_Times at hf
  refine c_enterM Try.func86 rfl 25 rfl (by simp) _ hm _ rfl (fun a h => ?_)
  refine c_rs ?_
  refine sAV h (fun a h => ?_)
  refine l_end ?_
  refine c_rs ?_
  refine sAV h (fun a h => ?_)
  refine l_end ?_
  obtain ⟨o1, hl2, hf⟩ := bsome hf
  refine c_cut (fun a w => ∃ (x6 : UInt8), x6 = o1 ∧ St 25 w0 (ownL ([] ++ [.sn S0])) [(5, .int .u8 (x6.toNat : Int))] [.sn S0] a w) ?_ ?_
  · refine wp_block ?_
    refine c_loop (fun m8 a w => ∃ (x3 : UInt8), ∃ (x4 : UInt8), ∃ (x5 : UInt8), gf_Times_l0 Fu m8 x3 x4 x5 = some o1 ∧ St 25 w0 (ownL ([] ++ [.sn S0])) [(0, .int .u8 (x3.toNat : Int)), (1, .int .u8 (x4.toNat : Int)), (5, .int .u8 (x5.toNat : Int))] [.sn S0] a w) Fu ⟨a0, a1, (0 : UInt8), hl2, h.has (by exact ⟨rfl, rfl, rfl, trivial⟩)⟩ (fun m8 a w hI => ?_)
    obtain ⟨x3, x4, x5, hl7, h⟩ := hI
    obtain _ | m8 := m8
    · rw [gf_Times_l0] at hl7; cases hl7
    rw [gf_Times_l0] at hl7
    refine wp_seq ?_
    refine c_rs ?_
    refine sMV h (fun a h => ?_)
    refine sX h (x_bin h.k rfl rfl rfl ib_gtr) (fun a h => ?_)
    refine l_end ?_
    refine c_cond h rfl (fun hb => ?_) (fun hb => ?_)
    · rw [if_pos (of_decide_eq_true hb)] at hl7
      refine wp_skip ?_
      refine e_thenN ?_
      refine wp_seq ?_
      refine wp_block ?_
      refine c_rs ?_
      refine sMV h (fun a h => ?_)
      refine sMV h (fun a h => ?_)
      refine sMV h (fun a h => ?_)
      refine sX h (x_bin h.k rfl rfl rfl (ib_and (u8_and_ x4 (1 : UInt8)))) (fun a h => ?_)
      refine sX h (x_neg h.k rfl rfl (u8_neg _)) (fun a h => ?_)
      refine sX h (x_bin h.k rfl rfl rfl (ib_and (u8_and_ x3 (-(x4 &&& (1 : UInt8)))))) (fun a h => ?_)
      refine sX h (x_bin h.k rfl rfl rfl (ib_xor (u8_xor_ x5 (x3 &&& (-(x4 &&& (1 : UInt8))))))) (fun a h => ?_)
      refine sAV h (fun a h => ?_)
      refine l_end ?_
      refine c_r ?_
      refine sMV h (fun a h => ?_)
      refine sX h (x_bin h.k rfl rfl rfl (ib_shl_u8 x3 1)) (fun a h => ?_)
      refine sMV h (fun a h => ?_)
      refine sX h (x_bin h.k rfl rfl rfl (ib_shr_u8 x3 7)) (fun a h => ?_)
      refine sX h (x_neg h.k rfl rfl (u8_neg _)) (fun a h => ?_)
      refine sX h (x_bin h.k rfl rfl rfl (ib_and (u8_and_ (27 : UInt8) (-(u8_shr x3 7))))) (fun a h => ?_)
      refine sX h (x_bin h.k rfl rfl rfl (ib_xor (u8_xor_ (u8_shl x3 1) ((27 : UInt8) &&& (-(u8_shr x3 7)))))) (fun a h => ?_)
      refine sAV h (fun a h => ?_)
      refine l_nil ?_
      refine e_blkN ?_
      refine e_thenN ?_
      refine c_r ?_
      refine sMV h (fun a h => ?_)
      refine sX h (x_bin h.k rfl rfl rfl (ib_shr_u8 x4 1)) (fun a h => ?_)
      refine sAV h (fun a h => ?_)
      refine l_nil ?_
      exact e_thenN ⟨m8, Nat.lt_succ_self _, ((u8_shl x3 1) ^^^ ((27 : UInt8) &&& (-(u8_shr x3 7)))), u8_shr x4 1, (x5 ^^^ (x3 &&& (-(x4 &&& (1 : UInt8))))), hl7, h.has (by exact ⟨rfl, rfl, rfl, trivial⟩)⟩
    · rw [if_neg (of_decide_eq_false hb)] at hl7
      refine wp_exit ?_
      refine e_thenX ?_
      refine e_thenX ?_
      refine e_blkX ?_
      refine e_thenN ?_
      exact ⟨x5, (Option.some.inj hl7), h.has (by exact ⟨rfl, trivial⟩)⟩
  · rintro a w ⟨x6, rfl, h⟩
    refine c_rs ?_
    refine sMV h (fun a h => ?_)
    refine sAV h (fun a h => ?_)
    refine l_end ?_
    refine wp_ret ?_
    rw [← Option.some.inj hf]
    exact r_ret1 h rfl (rv_tmp h rfl) ⟨_, [], _, rfl, ⟨rfl, rfl, trivial⟩, rfl, (Up.refl _ _ _), h.m⟩
def gf_Inverse_l0 (Fu : Nat) : Nat → UInt8 → UInt8 → Int → Option UInt8
  | 0, _, _, _ => none
  | k + 1, x3, x4, x5 => if x5 < 7 then ((gf_Times Fu x3 x3).bind fun x10 => (gf_Times Fu x4 x10).bind fun x13 => gf_Inverse_l0 Fu k x10 x13 (w64 (x5 + 1))) else (some x4)
def gf_Inverse (Fu : Nat) (a0 : UInt8) : Option UInt8 :=
  (gf_Inverse_l0 Fu Fu a0 (1 : UInt8) 0).bind fun x7 => some x7
set_option maxRecDepth 100000 in
set_option maxHeartbeats 2000000 in
theorem gf_Inverse_ok (Fu : Nat) {S0 : Snap} (a0 : UInt8) (r : UInt8) (hf : gf_Inverse Fu a0 = some r) (w0 : World) (hm : Mem w0 (ownL ([] ++ [.sn S0])) ([] ++ [.sn S0]) w0) :
    Calls Try.prog 84 #[.int .u8 (a0.toNat : Int)] w0 (Ret w0 S0 [] (fun v L1 S1 => v = .int .u8 (r.toNat : Int) ∧ L1 = [] ∧ True)) := by
  unfold gf_Inverse at hf
  refine c_enterM Try.func84 rfl 14 rfl (by simp) _ hm _ rfl (fun a h => ?_)
  refine c_rs ?_
  refine sAV h (fun a h => ?_)
  refine l_end ?_
  refine c_rs ?_
  refine sAV h (fun a h => ?_)
  refine l_end ?_
  refine wp_seq ?_
  refine c_rs ?_
  refine sMV h (fun a h => ?_)
  refine l_end ?_
  obtain ⟨o1, hl2, hf⟩ := bsome hf
  refine c_fin (fun a w => ∃ (x7 : UInt8), x7 = o1 ∧ St 14 w0 (ownL ([] ++ [.sn S0])) [(3, .int .u8 (x7.toNat : Int))] [.sn S0] a w) ?_ ?_
  · refine wp_block ?_
    refine c_loop (fun m9 a w => ∃ (x3 : UInt8), ∃ (x4 : UInt8), ∃ (x5 : Int), gf_Inverse_l0 Fu m9 x3 x4 x5 = some o1 ∧ r64 x5 ∧ St 14 w0 (ownL ([] ++ [.sn S0])) [(0, .int .u8 (x3.toNat : Int)), (3, .int .u8 (x4.toNat : Int)), (4, .int .i64 x5)] [.sn S0] a w) Fu ⟨a0, (1 : UInt8), 0, hl2, (show r64 0 from ⟨by decide, by decide⟩), h.has (by exact ⟨rfl, rfl, rfl, trivial⟩)⟩ (fun m9 a w hI => ?_)
    obtain ⟨x3, x4, x5, hl8, hr6, h⟩ := hI
    obtain _ | m9 := m9
    · rw [gf_Inverse_l0] at hl8; cases hl8
    rw [gf_Inverse_l0] at hl8
    refine c_rs ?_
    refine sX h (x_bin h.k rfl rfl rfl ib_lss) (fun a h => ?_)
    refine l_end ?_
    refine c_cs h rfl (fun hb => ?_) (fun hb => ?_)
    · rw [if_pos (of_decide_eq_true hb)] at hl8
      refine wp_skip ?_
      refine e_thenN ?_
      refine wp_seq ?_
      refine wp_block ?_
      refine c_rs ?_
      refine sMV h (fun a h => ?_)
      refine sMV h (fun a h => ?_)
      obtain ⟨x10, h11, hl8⟩ := bsome hl8
      have hX := gf_Times_ok Fu (S0 := snapAll _) x3 x3 _ h11 _ h.startAll
      refine q_callX hX h rfl rfl rfl (by decide) Try.func86 rfl rfl rfl (fun a w v L1 S1 hR hb1 h => ?_)
      obtain ⟨rfl, rfl, _⟩ := hR
      refine sAV h (fun a h => ?_)
      refine l_end ?_
      refine c_r ?_
      refine sMV h (fun a h => ?_)
      refine sMV h (fun a h => ?_)
      obtain ⟨x13, h14, hl8⟩ := bsome hl8
      have hX := gf_Times_ok Fu (S0 := snapAll _) x4 x10 _ h14 _ h.startAll
      refine q_callX hX h rfl rfl rfl (by decide) Try.func86 rfl rfl rfl (fun a w v L1 S1 hR hb1 h => ?_)
      obtain ⟨rfl, rfl, _⟩ := hR
      refine sAV h (fun a h => ?_)
      refine l_nil ?_
      refine e_blkN ?_
      refine e_thenN ?_
      refine c_r ?_
      refine sX h (x_bin h.k rfl rfl rfl (ib_add rfl)) (fun a h => ?_)
      refine sMV h (fun a h => ?_)
      refine l_nil ?_
      exact e_thenN ⟨m9, Nat.lt_succ_self _, x10, x13, w64 (x5 + 1), hl8, (w64_r _), h.has (by exact ⟨rfl, rfl, rfl, trivial⟩)⟩
    · rw [if_neg (of_decide_eq_false hb)] at hl8
      refine wp_exit ?_
      refine e_thenX ?_
      refine e_thenX ?_
      refine e_blkX ?_
      refine e_thenN ?_
      exact ⟨x4, (Option.some.inj hl8), h.has (by exact ⟨rfl, trivial⟩)⟩
  · rintro a w ⟨x7, rfl, h⟩
    refine e_thenN ?_
    refine c_rs ?_
    refine sMV h (fun a h => ?_)
    refine sAV h (fun a h => ?_)
    refine l_end ?_
    refine wp_ret ?_
    rw [← Option.some.inj hf]
    exact r_ret1 h rfl (rv_tmp h rfl) ⟨_, [], _, rfl, ⟨rfl, rfl, trivial⟩, rfl, (Up.refl _ _ _), h.m⟩
def math_bits_RotateLeft8 (Fu : Nat) (a0 : UInt8) (a1 : Int) : Option UInt8 :=
  some ((u8_shl a0 (((u64I a1) &&& (7 : UInt64)).toNat)) ||| (u8_shr a0 (((8 : UInt64) - ((u64I a1) &&& (7 : UInt64))).toNat)))
set_option maxRecDepth 100000 in
set_option maxHeartbeats 2000000 in
theorem math_bits_RotateLeft8_ok (Fu : Nat) {S0 : Snap} (a0 : UInt8) (a1 : Int) (hra1 : r64 a1) (r : UInt8) (hf : math_bits_RotateLeft8 Fu a0 a1 = some r) (w0 : World) (hm : Mem w0 (ownL ([] ++ [.sn S0])) ([] ++ [.sn S0]) w0) :
    Calls Try.prog 101 #[.int .u8 (a0.toNat : Int), .int .i64 a1] w0 (Ret w0 S0 [] (fun v L1 S1 => v = .int .u8 (r.toNat : Int) ∧ L1 = [] ∧ True)) := by
  unfold math_bits_RotateLeft8 at hf
  refine c_enterM Try.func101 rfl 17 rfl (by simp) _ hm _ rfl (fun a h => ?_)
  refine c_rs ?_
  refine sAV h (fun a h => ?_)
  refine l_end ?_
  refine c_rs ?_
  refine sMV h (fun a h => ?_)
  refine sX h (x_convE h.k rfl Try.underlying3 Try.underlying111 rfl (u64I_wrap _)) (fun a h => ?_)
  refine sX h (x_bin h.k rfl rfl rfl (ib_and (u64_and_ (u64I a1) (7 : UInt64)))) (fun a h => ?_)
  refine sAV h (fun a h => ?_)
  refine l_end ?_
  refine c_rs ?_
  refine sMV h (fun a h => ?_)
  refine sMV h (fun a h => ?_)
  refine sX h (x_bin h.k rfl rfl rfl (ib_shl_u8 a0 (((u64I a1) &&& (7 : UInt64)).toNat))) (fun a h => ?_)
  refine sMV h (fun a h => ?_)
  refine sMV h (fun a h => ?_)
  refine sX h (x_bin h.k rfl rfl rfl (ib_sub (u64_sub (8 : UInt64) ((u64I a1) &&& (7 : UInt64))))) (fun a h => ?_)
  refine sX h (x_bin h.k rfl rfl rfl (ib_shr_u8 a0 (((8 : UInt64) - ((u64I a1) &&& (7 : UInt64))).toNat))) (fun a h => ?_)
  refine sX h (x_bin h.k rfl rfl rfl (ib_or (u8_or_ (u8_shl a0 (((u64I a1) &&& (7 : UInt64)).toNat)) (u8_shr a0 (((8 : UInt64) - ((u64I a1) &&& (7 : UInt64))).toNat))))) (fun a h => ?_)
  refine sAV h (fun a h => ?_)
  refine l_end ?_
  refine wp_ret ?_
  obtain rfl := Option.some.inj hf
  exact r_ret1 h rfl (rv_tmp h rfl) ⟨_, [], _, rfl, ⟨rfl, rfl, trivial⟩, rfl, (Up.refl _ _ _), h.m⟩
def sbox_turned (Fu : Nat) (a0 : UInt8) : Option UInt8 :=
  (math_bits_RotateLeft8 Fu a0 1).bind fun x1 => (math_bits_RotateLeft8 Fu a0 2).bind fun x4 => (math_bits_RotateLeft8 Fu a0 3).bind fun x7 => (math_bits_RotateLeft8 Fu a0 4).bind fun x10 => some (((((a0 ^^^ x1) ^^^ x4) ^^^ x7) ^^^ x10) ^^^ (99 : UInt8))
set_option maxRecDepth 100000 in
set_option maxHeartbeats 2000000 in
theorem sbox_turned_ok (Fu : Nat) {S0 : Snap} (a0 : UInt8) (r : UInt8) (hf : sbox_turned Fu a0 = some r) (w0 : World) (hm : Mem w0 (ownL ([] ++ [.sn S0])) ([] ++ [.sn S0]) w0) :
    Calls Try.prog 85 #[.int .u8 (a0.toNat : Int)] w0 (Ret w0 S0 [] (fun v L1 S1 => v = .int .u8 (r.toNat : Int) ∧ L1 = [] ∧ True)) := by
  unfold sbox_turned at hf
  refine c_enterM Try.func85 rfl 17 rfl (by simp) _ hm _ rfl (fun a h => ?_)
  refine c_rs ?_
  refine sAV h (fun a h => ?_)
  refine l_end ?_
  refine c_rs ?_
  refine sMV h (fun a h => ?_)
  refine sMV h (fun a h => ?_)
  obtain ⟨x1, h2, hf⟩ := bsome hf
  have hX := math_bits_RotateLeft8_ok Fu (S0 := snapAll _) a0 1 (show r64 1 from ⟨by decide, by decide⟩) _ h2 _ h.startAll
  refine q_callX hX h rfl rfl rfl (by decide) Try.func101 rfl rfl rfl (fun a w v L1 S1 hR hb1 h => ?_)
  obtain ⟨rfl, rfl, _⟩ := hR
  refine sX h (x_bin h.k rfl rfl rfl (ib_xor (u8_xor_ a0 x1))) (fun a h => ?_)
  refine sMV h (fun a h => ?_)
  obtain ⟨x4, h5, hf⟩ := bsome hf
  have hX := math_bits_RotateLeft8_ok Fu (S0 := snapAll _) a0 2 (show r64 2 from ⟨by decide, by decide⟩) _ h5 _ h.startAll
  refine q_callX hX h rfl rfl rfl (by decide) Try.func101 rfl rfl rfl (fun a w v L1 S1 hR hb1 h => ?_)
  obtain ⟨rfl, rfl, _⟩ := hR
  refine sX h (x_bin h.k rfl rfl rfl (ib_xor (u8_xor_ (a0 ^^^ x1) x4))) (fun a h => ?_)
  refine sMV h (fun a h => ?_)
  obtain ⟨x7, h8, hf⟩ := bsome hf
  have hX := math_bits_RotateLeft8_ok Fu (S0 := snapAll _) a0 3 (show r64 3 from ⟨by decide, by decide⟩) _ h8 _ h.startAll
  refine q_callX hX h rfl rfl rfl (by decide) Try.func101 rfl rfl rfl (fun a w v L1 S1 hR hb1 h => ?_)
  obtain ⟨rfl, rfl, _⟩ := hR
  refine sX h (x_bin h.k rfl rfl rfl (ib_xor (u8_xor_ ((a0 ^^^ x1) ^^^ x4) x7))) (fun a h => ?_)
  refine sMV h (fun a h => ?_)
  obtain ⟨x10, h11, hf⟩ := bsome hf
  have hX := math_bits_RotateLeft8_ok Fu (S0 := snapAll _) a0 4 (show r64 4 from ⟨by decide, by decide⟩) _ h11 _ h.startAll
  refine q_callX hX h rfl rfl rfl (by decide) Try.func101 rfl rfl rfl (fun a w v L1 S1 hR hb1 h => ?_)
  obtain ⟨rfl, rfl, _⟩ := hR
  refine sX h (x_bin h.k rfl rfl rfl (ib_xor (u8_xor_ (((a0 ^^^ x1) ^^^ x4) ^^^ x7) x10))) (fun a h => ?_)
  refine sX h (x_bin h.k rfl rfl rfl (ib_xor (u8_xor_ ((((a0 ^^^ x1) ^^^ x4) ^^^ x7) ^^^ x10) (99 : UInt8)))) (fun a h => ?_)
  refine sAV h (fun a h => ?_)
  refine l_end ?_
  refine wp_ret ?_
  obtain rfl := Option.some.inj hf
  exact r_ret1 h rfl (rv_tmp h rfl) ⟨_, [], _, rfl, ⟨rfl, rfl, trivial⟩, rfl, (Up.refl _ _ _), h.m⟩
def sbox_Box_l0 (Fu : Nat) (x10 : UInt8) : Nat → UInt8 → UInt8 → Int → (List UInt8) → Option ((List UInt8))
  | 0, _, _, _, _ => none
  | k + 1, x15, x16, x17, x19 => if x17 < 255 then ((sbox_turned Fu x16).bind fun x29 => (ix 256 (x15.toNat : Int)).bind fun m32 => (gf_Times Fu x15 (3 : UInt8)).bind fun x39 => (gf_Times Fu x16 x10).bind fun x42 => sbox_Box_l0 Fu x10 k x39 x42 (w64 (x17 + 1)) (x19.set m32 x29)) else (some x19)
def sbox_Box (Fu : Nat) : Option ((List UInt8)) :=
  (ix 256 0).bind fun m3 => (gf_Inverse Fu (3 : UInt8)).bind fun x10 => (sbox_Box_l0 Fu x10 Fu (1 : UInt8) (1 : UInt8) 0 ((List.replicate 256 ((0 : UInt8) : UInt8)).set m3 (99 : UInt8))).bind fun x23 => some x23
set_option maxRecDepth 100000 in
set_option maxHeartbeats 2000000 in
theorem sbox_Box_ok (Fu : Nat) {S0 : Snap}  (r : (List UInt8)) (hf : sbox_Box Fu = some r) (w0 : World) (hm : Mem w0 (ownL ([] ++ [.sn S0])) ([] ++ [.sn S0]) w0) :
    Calls Try.prog 67 #[] w0 (Ret w0 S0 [] (fun v L1 S1 => ∃ (k46 : List Value), v = .agg k46.toArray ∧ L1 = [] ∧ (tyA 256 ty8).rep S1 k46 r ∧ True)) := by
  unfold sbox_Box at hf
  refine c_enterM Try.func67 rfl 20 rfl (by simp) _ hm _ rfl (fun a h => ?_)
  refine c_rs ?_
  refine s_alloc h rfl rfl rfl (by decide) zi_A256_uint8 rfl (fun a w g1 h => ?_)
  refine l_end ?_
  refine c_rs ?_
  refine s_alloc h rfl rfl rfl (by decide) zi_A256_uint8 rfl (fun a w g2 h => ?_)
  refine l_end ?_
  refine c_rs ?_
  obtain ⟨m3, h4, hf⟩ := bsome hf
  obtain ⟨hi5, hm6⟩ := ix_some h4
  refine sX h (x_iaddrA h.k rfl Try.underlying93 sz_uint8 rfl rfl hi5 hm6 rfl) (fun a h => ?_)
  refine q_setBox (T := ty8) (q := (99 : UInt8)) h rfl rfl rfl sz_uint8 rfl rfl 0 rfl rfl (show reps ty8 S0 (List.replicate 256 (.int .u8 0 : Value)) (List.replicate 256 ((0 : UInt8) : UInt8)) from repsRep1 (x := ((0 : UInt8) : UInt8)) rfl) rfl (by first | omega | (simp_all; done)) (fun a w cs7 hq8 h => ?_)
  have hl9 : ((List.replicate 256 ((0 : UInt8) : UInt8)).set m3 (99 : UInt8)).length = 256 := by rw [List.length_set]; exact (show (List.replicate 256 ((0 : UInt8) : UInt8)).length = 256 from List.length_replicate)
  refine l_end ?_
  refine c_rs ?_
  refine sAV h (fun a h => ?_)
  refine sAV h (fun a h => ?_)
  refine l_end ?_
  refine c_rs ?_
  obtain ⟨x10, h11, hf⟩ := bsome hf
  have hX := gf_Inverse_ok Fu (S0 := snapAll _) (3 : UInt8) _ h11 _ h.startAll
  refine q_callX hX h rfl rfl rfl (by decide) Try.func84 rfl rfl rfl (fun a w v L1 S1 hR hb1 h => ?_)
  obtain ⟨rfl, rfl, _⟩ := hR
  refine sAV h (fun a h => ?_)
  refine l_end ?_
  refine wp_seq ?_
  refine c_rs ?_
  refine sMV h (fun a h => ?_)
  refine l_end ?_
  obtain ⟨o13, hl14, hf⟩ := bsome hf
  refine c_fin (fun a w => ∃ (x23 : List UInt8), ∃ (k24 : List Value), x23 = o13 ∧ reps ty8 S0 k24 x23 ∧ x23.length = 256 ∧ St 20 w0 (ownL ([] ++ [.sn S0])) [(0, .pointer (some ⟨g1, 0, none⟩)), (1, .pointer (some ⟨g2, 0, none⟩))] [.box g1 93 (List.replicate 256 (.int .u8 0 : Value)), .box g2 93 k24, .sn S0] a w) ?_ ?_
  · refine wp_block ?_
    have h := h.pick [1, 0, 2] (by decide) rfl
    refine c_loop (fun m28 a w => ∃ (x15 : UInt8), ∃ (x16 : UInt8), ∃ (x17 : Int), ∃ (x19 : List UInt8), ∃ (k20 : List Value), sbox_Box_l0 Fu x10 m28 x15 x16 x17 x19 = some o13 ∧ r64 x17 ∧ reps ty8 S0 k20 x19 ∧ x19.length = 256 ∧ St 20 w0 (ownL ([] ++ [.sn S0])) [(0, .pointer (some ⟨g1, 0, none⟩)), (1, .pointer (some ⟨g2, 0, none⟩)), (2, .int .u8 (x15.toNat : Int)), (3, .int .u8 (x16.toNat : Int)), (4, .int .u8 (x10.toNat : Int)), (7, .int .i64 x17)] [.box g1 93 (List.replicate 256 (.int .u8 0 : Value)), .box g2 93 k20, .sn S0] a w) Fu ⟨(1 : UInt8), (1 : UInt8), 0, ((List.replicate 256 ((0 : UInt8) : UInt8)).set m3 (99 : UInt8)), cs7, hl14, (show r64 0 from ⟨by decide, by decide⟩), hq8, hl9, h.has (by exact ⟨rfl, rfl, rfl, rfl, rfl, rfl, trivial⟩)⟩ (fun m28 a w hI => ?_)
    obtain ⟨x15, x16, x17, x19, k20, hl27, hr18, hs21, hl22, h⟩ := hI
    obtain _ | m28 := m28
    · rw [sbox_Box_l0] at hl27; cases hl27
    rw [sbox_Box_l0] at hl27
    refine c_rs ?_
    refine sX h (x_bin h.k rfl rfl rfl ib_lss) (fun a h => ?_)
    refine l_end ?_
    refine c_cs h rfl (fun hb => ?_) (fun hb => ?_)
    · rw [if_pos (of_decide_eq_true hb)] at hl27
      refine wp_skip ?_
      refine e_thenN ?_
      refine wp_seq ?_
      refine wp_block ?_
      refine c_rs ?_
      refine sMV h (fun a h => ?_)
      refine sMV h (fun a h => ?_)
      obtain ⟨x29, h30, hl27⟩ := bsome hl27
      have hX := sbox_turned_ok Fu (S0 := snapAll _) x16 _ h30 _ h.startAll
      refine q_callX hX h rfl rfl rfl (by decide) Try.func85 rfl rfl rfl (fun a w v L1 S1 hR hb1 h => ?_)
      obtain ⟨rfl, rfl, _⟩ := hR
      obtain ⟨m32, h33, hl27⟩ := bsome hl27
      obtain ⟨hi34, hm35⟩ := ix_some h33
      refine sX h (x_iaddrA h.k rfl Try.underlying93 sz_uint8 rfl rfl hi34 hm35 rfl) (fun a h => ?_)
      refine q_setBox (T := ty8) (q := x29) h rfl rfl rfl sz_uint8 rfl rfl 1 rfl rfl hs21 rfl (by first | omega | (simp_all; done)) (fun a w cs36 hq37 h => ?_)
      have hl38 : (x19.set m32 x29).length = 256 := by rw [List.length_set]; exact hl22
      refine l_end ?_
      refine c_r ?_
      refine sMV h (fun a h => ?_)
      obtain ⟨x39, h40, hl27⟩ := bsome hl27
      have hX := gf_Times_ok Fu (S0 := snapAll _) x15 (3 : UInt8) _ h40 _ h.startAll
      refine q_callX hX h rfl rfl rfl (by decide) Try.func86 rfl rfl rfl (fun a w v L1 S1 hR hb1 h => ?_)
      obtain ⟨rfl, rfl, _⟩ := hR
      refine sMV h (fun a h => ?_)
      refine sMV h (fun a h => ?_)
      obtain ⟨x42, h43, hl27⟩ := bsome hl27
      have hX := gf_Times_ok Fu (S0 := snapAll _) x16 x10 _ h43 _ h.startAll
      refine q_callX hX h rfl rfl rfl (by decide) Try.func86 rfl rfl rfl (fun a w v L1 S1 hR hb1 h => ?_)
      obtain ⟨rfl, rfl, _⟩ := hR
      refine sAV h (fun a h => ?_)
      refine sAV h (fun a h => ?_)
      refine l_nil ?_
      refine e_blkN ?_
      refine e_thenN ?_
      refine c_r ?_
      refine sX h (x_bin h.k rfl rfl rfl (ib_add rfl)) (fun a h => ?_)
      refine sMV h (fun a h => ?_)
      refine l_nil ?_
      exact e_thenN ⟨m28, Nat.lt_succ_self _, x39, x42, w64 (x17 + 1), (x19.set m32 x29), cs36, hl27, (w64_r _), hq37, hl38, h.has (by exact ⟨rfl, rfl, rfl, rfl, rfl, rfl, trivial⟩)⟩
    · rw [if_neg (of_decide_eq_false hb)] at hl27
      refine wp_exit ?_
      refine e_thenX ?_
      refine e_thenX ?_
      refine e_blkX ?_
      refine e_thenN ?_
      exact ⟨x19, k20, (Option.some.inj hl27), hs21, hl22, h.has (by exact ⟨rfl, rfl, trivial⟩)⟩
  · rintro a w ⟨x23, k24, rfl, hs25, hl26, h⟩
    refine e_thenN ?_
    refine c_rs ?_
    refine sX h (x_ldR h.k rfl ag_A256_uint8 rfl k24 ((hs25).len.trans (by rw [hl26]; rfl)) (h.m.range0 (i := 1) rfl)) (fun a h => ?_)
    refine s_stW h rfl rfl rfl ag_A256_uint8 rfl (es := k24) rfl ((hs25).len.trans (by rw [hl26]; rfl)) (hs25).one 0 rfl (by first | rfl | simp_all) (fun a w h => ?_)
    refine l_end ?_
    refine wp_ret ?_
    rw [← Option.some.inj hf]
    exact r_ret1 h rfl (rv_cellA h rfl 0 rfl ag_A256_uint8 ((hs25).len.trans (by rw [hl26]; rfl))) ⟨_, [], _, rfl, ⟨k24, rfl, rfl, ⟨hs25, hl26⟩, trivial⟩, rfl, (Up.refl _ _ _), (h.m.pick [2] _ (by decide) rfl)⟩
def sbox_Swap_l0 (Fu : Nat) (a0 : List UInt8) : Nat → Int → (List UInt8) → (List Bool) → Option (Sum ((List UInt8) × Bool) ((List UInt8)))
  | 0, _, _, _ => none
  | k + 1, x9, x11, x15 => if x9 < 256 then ((idx a0 x9).bind fun x26 => (ix 256 (x26.toNat : Int)).bind fun m34 => (x15[m34]?).bind fun x38 => if x38 = true then (some (.inl ((List.replicate 256 ((0 : UInt8) : UInt8)), false))) else ((ix 256 (x26.toNat : Int)).bind fun m43 => (ix 256 (x26.toNat : Int)).bind fun m50 => sbox_Swap_l0 Fu a0 k (w64 (x9 + 1)) (x11.set m50 (i8 x9)) (x15.set m43 true))) else (some (.inr x11))
def sbox_Swap (Fu : Nat) (a0 : List UInt8) : Option ((List UInt8) × Bool) :=
  (sbox_Swap_l0 Fu a0 Fu 0 (List.replicate 256 ((0 : UInt8) : UInt8)) (List.replicate 256 (false : Bool))).bind fun o => match o with | .inl r57 => some r57 | .inr x19 => some (x19, true)
set_option maxRecDepth 100000 in
set_option maxHeartbeats 2000000 in
theorem sbox_Swap_ok (Fu : Nat) {S0 : Snap} (csa0 : List Value) (a0 : List UInt8) (hsa0 : (tyA 256 ty8).rep S0 csa0 a0) (r : (List UInt8) × Bool) (hf : sbox_Swap Fu a0 = some r) (w0 : World) (hm : Mem w0 (ownL ([] ++ [.sn S0])) ([] ++ [.sn S0]) w0) :
    Calls Try.prog 68 #[.agg csa0.toArray] w0 (Ret w0 S0 [] (fun v L1 S1 => ∃ (k58 : List Value), v = .tuple #[.agg k58.toArray, .bool r.2] ∧ L1 = [] ∧ (tyA 256 ty8).rep S1 k58 r.1 ∧ True)) := by
  unfold sbox_Swap at hf
  obtain ⟨hs1, hl2⟩ := hsa0
  refine c_enterM Try.func68 rfl 25 rfl (by simp) _ hm _ rfl (fun a h => ?_)
  refine c_rs ?_
  refine s_box h rfl rfl rfl (by decide) rfl (cs := csa0) (by rfl) (fun a w g3 h => ?_)
  refine s_alloc h rfl rfl rfl (by decide) zi_A256_uint8 rfl (fun a w g4 h => ?_)
  refine sAV h (fun a h => ?_)
  refine l_end ?_
  refine c_rs ?_
  refine s_alloc h rfl rfl rfl (by decide) zi_A256_uint8 rfl (fun a w g5 h => ?_)
  refine l_end ?_
  refine c_rs ?_
  refine s_alloc h rfl rfl rfl (by decide) zi_A256_bool rfl (fun a w g6 h => ?_)
  refine l_end ?_
  refine wp_seq ?_
  refine c_rs ?_
  refine sX h (x_ldR h.k rfl ag_A256_uint8 rfl csa0 ((hs1).len.trans (by rw [hl2]; rfl)) (h.m.range0 (i := 3) rfl)) (fun a h => ?_)
  refine sMV h (fun a h => ?_)
  refine l_end ?_
  obtain ⟨o7, hl8, hf⟩ := bsome hf
  refine c_fin (fun a w => ∃ (x19 : List UInt8), ∃ (k20 : List Value), (.inr x19) = o7 ∧ reps ty8 S0 k20 x19 ∧ x19.length = 256 ∧ St 25 w0 (ownL ([] ++ [.sn S0])) [(2, .pointer (some ⟨g4, 0, none⟩)), (4, .pointer (some ⟨g5, 0, none⟩))] [.box g4 93 (List.replicate 256 (.int .u8 0 : Value)), .box g5 93 k20, .sn S0] a w) ?_ ?_
  · refine wp_block ?_
    have h := h.pick [2, 1, 0, 4] (by decide) rfl
    refine c_loop (fun m24 a w => ∃ (x9 : Int), ∃ (x11 : List UInt8), ∃ (k12 : List Value), ∃ (x15 : List Bool), ∃ (k16 : List Value), sbox_Swap_l0 Fu a0 m24 x9 x11 x15 = some o7 ∧ r64 x9 ∧ reps ty8 S0 k12 x11 ∧ x11.length = 256 ∧ reps tyB S0 k16 x15 ∧ x15.length = 256 ∧ St 25 w0 (ownL ([] ++ [.sn S0])) [(2, .pointer (some ⟨g4, 0, none⟩)), (4, .pointer (some ⟨g5, 0, none⟩)), (5, .pointer (some ⟨g6, 0, none⟩)), (8, .agg csa0.toArray), (9, .int .i64 x9)] [.box g4 93 (List.replicate 256 (.int .u8 0 : Value)), .box g5 93 k12, .box g6 118 k16, .sn S0] a w) Fu ⟨0, (List.replicate 256 ((0 : UInt8) : UInt8)), (List.replicate 256 (.int .u8 0 : Value)), (List.replicate 256 (false : Bool)), (List.replicate 256 (.bool false : Value)), hl8, (show r64 0 from ⟨by decide, by decide⟩), (show reps ty8 S0 (List.replicate 256 (.int .u8 0 : Value)) (List.replicate 256 ((0 : UInt8) : UInt8)) from repsRep1 (x := ((0 : UInt8) : UInt8)) rfl), (show (List.replicate 256 ((0 : UInt8) : UInt8)).length = 256 from List.length_replicate), (show reps tyB S0 (List.replicate 256 (.bool false : Value)) (List.replicate 256 (false : Bool)) from repsRep1 (x := (false : Bool)) rfl), (show (List.replicate 256 (false : Bool)).length = 256 from List.length_replicate), h.has (by exact ⟨rfl, rfl, rfl, rfl, rfl, trivial⟩)⟩ (fun m24 a w hI => ?_)
    obtain ⟨x9, x11, k12, x15, k16, hl23, hr10, hs13, hl14, hs17, hl18, h⟩ := hI
    obtain _ | m24 := m24
    · rw [sbox_Swap_l0] at hl23; cases hl23
    rw [sbox_Swap_l0] at hl23
    refine c_rs ?_
    refine sX h (x_bin h.k rfl rfl rfl ib_lss) (fun a h => ?_)
    refine l_end ?_
    refine c_cs h rfl (fun hb => ?_) (fun hb => ?_)
    · rw [if_pos (of_decide_eq_true hb)] at hl23
      refine wp_skip ?_
      refine e_thenN ?_
      refine wp_seq ?_
      refine wp_block ?_
      refine c_rs ?_
      refine sMV h (fun a h => ?_)
      obtain ⟨x26, h27, hl23⟩ := bsome hl23
      obtain ⟨m25, hi28, hm29, hx30⟩ := idx_some h27
      obtain ⟨u31, hv32, hu33⟩ := (hs1).cell rfl hx30
      cases hu33
      refine sX h (x_index h.k rfl Try.underlying93 Try.underlying5 rfl sz_uint8 rfl rfl hi28 (Nat.lt_of_lt_of_eq hm29 hl2) (by simpa using hv32)) (fun a h => ?_)
      refine sAV h (fun a h => ?_)
      refine sAV h (fun a h => ?_)
      refine l_end ?_
      refine wp_seq ?_
      refine c_rs ?_
      refine sMV h (fun a h => ?_)
      obtain ⟨m34, h35, hl23⟩ := bsome hl23
      obtain ⟨hi36, hm37⟩ := ix_some h35
      refine sX h (x_iaddrA h.k rfl Try.underlying118 sz_bool rfl rfl hi36 hm37 rfl) (fun a h => ?_)
      obtain ⟨x38, h39, hl23⟩ := bsome hl23
      obtain ⟨u40, hv41, hu42⟩ := (hs17).cell rfl h39
      cases hu42
      refine sX h (x_ld h.k rfl Try.underlying4 rfl rfl ((h.m.cell (i := 2) rfl _).trans (by rw [Nat.zero_add, Nat.mul_one]; exact hv41))) (fun a h => ?_)
      refine l_end ?_
      refine c_cond h rfl (fun hb => ?_) (fun hb => ?_)
      · rw [if_pos hb] at hl23
        refine c_rs ?_
        refine sX h (x_build h.k rfl [] rfl (List.replicate 256 (.int .u8 0 : Value)) (by kernel_rfl)) (fun a h => ?_)
        refine s_stW h rfl rfl rfl ag_A256_uint8 rfl (es := (List.replicate 256 (.int .u8 0 : Value))) rfl (by first | rfl | simp_all) ((show reps ty8 S0 (List.replicate 256 (.int .u8 0 : Value)) (List.replicate 256 ((0 : UInt8) : UInt8)) from repsRep1 (x := ((0 : UInt8) : UInt8)) rfl)).one 0 rfl (by first | rfl | simp_all) (fun a w h => ?_)
        refine sAV h (fun a h => ?_)
        refine l_end ?_
        refine wp_ret ?_
        refine e_thenR ?_
        refine e_blkR ?_
        refine e_thenR ?_
        refine e_thenR ?_
        refine e_blkR ?_
        refine e_thenR ?_
        cases hl23
        try dsimp only at hf
        refine e_thenR ?_
        obtain rfl := Option.some.inj hf
        exact r_ret2 h rfl (rv_cellA h rfl 0 rfl ag_A256_uint8 (by first | rfl | simp_all)) (rv_tmp h rfl) ⟨_, [], _, rfl, ⟨(List.replicate 256 (.int .u8 0 : Value)), rfl, rfl, ⟨(show reps ty8 S0 (List.replicate 256 (.int .u8 0 : Value)) (List.replicate 256 ((0 : UInt8) : UInt8)) from repsRep1 (x := ((0 : UInt8) : UInt8)) rfl), (show (List.replicate 256 ((0 : UInt8) : UInt8)).length = 256 from List.length_replicate)⟩, trivial⟩, rfl, (Up.refl _ _ _), (h.m.pick [3] _ (by decide) rfl)⟩
      · rw [if_neg (by rw [hb]; decide)] at hl23
        refine wp_skip ?_
        refine e_thenN ?_
        refine c_rs ?_
        refine sMV h (fun a h => ?_)
        obtain ⟨m43, h44, hl23⟩ := bsome hl23
        obtain ⟨hi45, hm46⟩ := ix_some h44
        refine sX h (x_iaddrA h.k rfl Try.underlying118 sz_bool rfl rfl hi45 hm46 rfl) (fun a h => ?_)
        refine q_setBox (T := tyB) (q := true) h rfl rfl rfl sz_bool rfl rfl 2 rfl rfl hs17 rfl (by first | omega | (simp_all; done)) (fun a w cs47 hq48 h => ?_)
        have hl49 : (x15.set m43 true).length = 256 := by rw [List.length_set]; exact hl18
        refine l_end ?_
        refine c_r ?_
        refine sMV h (fun a h => ?_)
        refine sMV h (fun a h => ?_)
        refine sX h (x_convE h.k rfl Try.underlying3 Try.underlying5 rfl (i8_wrap _).symm) (fun a h => ?_)
        obtain ⟨m50, h51, hl23⟩ := bsome hl23
        obtain ⟨hi52, hm53⟩ := ix_some h51
        refine sX h (x_iaddrA h.k rfl Try.underlying93 sz_uint8 rfl rfl hi52 hm53 rfl) (fun a h => ?_)
        refine q_setBox (T := ty8) (q := i8 x9) h rfl rfl rfl sz_uint8 rfl rfl 1 rfl rfl hs13 rfl (by first | omega | (simp_all; done)) (fun a w cs54 hq55 h => ?_)
        have hl56 : (x11.set m50 (i8 x9)).length = 256 := by rw [List.length_set]; exact hl14
        refine l_nil ?_
        refine e_blkN ?_
        refine e_thenN ?_
        refine c_r ?_
        refine sX h (x_bin h.k rfl rfl rfl (ib_add rfl)) (fun a h => ?_)
        refine sMV h (fun a h => ?_)
        refine l_nil ?_
        exact e_thenN ⟨m24, Nat.lt_succ_self _, w64 (x9 + 1), (x11.set m50 (i8 x9)), cs54, (x15.set m43 true), cs47, hl23, (w64_r _), hq55, hl56, hq48, hl49, h.has (by exact ⟨rfl, rfl, rfl, rfl, rfl, trivial⟩)⟩
    · rw [if_neg (of_decide_eq_false hb)] at hl23
      refine wp_exit ?_
      refine e_thenX ?_
      refine e_thenX ?_
      refine e_blkX ?_
      refine e_thenN ?_
      have h := h.pick [0, 1, 3] (by decide) rfl
      exact ⟨x11, k12, (Option.some.inj hl23), hs13, hl14, h.has (by exact ⟨rfl, rfl, trivial⟩)⟩
  · rintro a w ⟨x19, k20, rfl, hs21, hl22, h⟩
    try dsimp only at hf
    refine e_thenN ?_
    refine c_rs ?_
    refine sX h (x_ldR h.k rfl ag_A256_uint8 rfl k20 ((hs21).len.trans (by rw [hl22]; rfl)) (h.m.range0 (i := 1) rfl)) (fun a h => ?_)
    refine s_stW h rfl rfl rfl ag_A256_uint8 rfl (es := k20) rfl ((hs21).len.trans (by rw [hl22]; rfl)) (hs21).one 0 rfl (by first | rfl | simp_all) (fun a w h => ?_)
    refine sAV h (fun a h => ?_)
    refine l_end ?_
    refine wp_ret ?_
    obtain rfl := Option.some.inj hf
    exact r_ret2 h rfl (rv_cellA h rfl 0 rfl ag_A256_uint8 ((hs21).len.trans (by rw [hl22]; rfl))) (rv_tmp h rfl) ⟨_, [], _, rfl, ⟨k20, rfl, rfl, ⟨hs21, hl22⟩, trivial⟩, rfl, (Up.refl _ _ _), (h.m.pick [2] _ (by decide) rfl)⟩
end Go.Proofs.Ytohgmggdfmjgnaa
