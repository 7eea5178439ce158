/- Ae: Go functions as plain functions, and that they are so (written by xt.py). -/
import Derived.Test.YtohgmggdfmjgnaaGf
set_option linter.unusedVariables false
set_option linter.unusedSimpArgs false
namespace Go.Proofs.Ytohgmggdfmjgnaa
open Go.RowKit
def aes_rounds (Fu : Nat) (a0 : Int) : Option Int :=
  if a0 = 16 then (some 10) else (if a0 = 32 then (some 14) else (some 0))
set_option maxRecDepth 100000 in
set_option maxHeartbeats 2000000 in
theorem aes_rounds_ok (Fu : Nat) {S0 : Snap} (a0 : Int) (hra0 : r64 a0) (r : Int) (hf : aes_rounds Fu a0 = some r) (w0 : World) (hm : Mem w0 (ownL ([] ++ [.sn S0])) ([] ++ [.sn S0]) w0) :
    Calls Try.prog 66 #[.int .i64 a0] w0 (Ret w0 S0 [] (fun v L1 S1 => v = .int .i64 r ∧ L1 = [] ∧ r64 r ∧ True)) := by
  unfold aes_rounds at hf
  refine c_enterM Try.func66 rfl 8 rfl (by simp) _ hm _ rfl (fun a h => ?_)
  refine c_rs ?_
  refine sAV h (fun a h => ?_)
  refine l_end ?_
  refine wp_seq ?_
  refine c_rs ?_
  refine sMV h (fun a h => ?_)
  refine l_end ?_
  refine wp_block ?_
  refine c_rs ?_
  refine sX h (x_bin h.k rfl rfl rfl ib_eql) (fun a h => ?_)
  refine sAV h (fun a h => ?_)
  refine l_end ?_
  refine c_cond h rfl (fun hb => ?_) (fun hb => ?_)
  · rw [if_pos (of_decide_eq_true hb)] at hf
    refine c_rs ?_
    refine sAV h (fun a h => ?_)
    refine l_end ?_
    refine wp_ret ?_
    refine e_blkR ?_
    refine e_thenR ?_
    rw [← Option.some.inj hf]
    exact r_ret1 h rfl (rv_tmp h rfl) ⟨_, [], _, rfl, ⟨rfl, rfl, (show r64 10 from ⟨by decide, by decide⟩), trivial⟩, rfl, (Up.refl _ _ _), h.m⟩
  · rw [if_neg (of_decide_eq_false hb)] at hf
    refine c_rs ?_
    refine sX h (x_bin h.k rfl rfl rfl ib_eql) (fun a h => ?_)
    refine sAV h (fun a h => ?_)
    refine l_end ?_
    refine c_cond h rfl (fun hb => ?_) (fun hb => ?_)
    · rw [if_pos (of_decide_eq_true hb)] at hf
      refine c_rs ?_
      refine sAV h (fun a h => ?_)
      refine l_end ?_
      refine wp_ret ?_
      refine e_blkR ?_
      refine e_thenR ?_
      rw [← Option.some.inj hf]
      exact r_ret1 h rfl (rv_tmp h rfl) ⟨_, [], _, rfl, ⟨rfl, rfl, (show r64 14 from ⟨by decide, by decide⟩), trivial⟩, rfl, (Up.refl _ _ _), h.m⟩
    · rw [if_neg (of_decide_eq_false hb)] at hf
      refine wp_skip ?_
      refine e_blkN ?_
      refine e_thenN ?_
      refine c_rs ?_
      refine sAV h (fun a h => ?_)
      refine l_end ?_
      refine wp_ret ?_
      rw [← Option.some.inj hf]
      exact r_ret1 h rfl (rv_tmp h rfl) ⟨_, [], _, rfl, ⟨rfl, rfl, (show r64 0 from ⟨by decide, by decide⟩), trivial⟩, rfl, (Up.refl _ _ _), h.m⟩
def aes_swapped_at0_aes_Cipher_1 (Fu : Nat) (a0 : (List UInt32) × (List UInt8) × (List UInt8)) (a1 : UInt32) : Option (UInt32 × ((List UInt32) × (List UInt8) × (List UInt8))) :=
  (ix 256 ((u32_shr a1 24).toNat : Int)).bind fun m11 => (a0.2.1[m11]?).bind fun x15 => (ix 256 (((u32_shr a1 16) &&& (255 : UInt32)).toNat : Int)).bind fun m20 => (a0.2.1[m20]?).bind fun x24 => (ix 256 (((u32_shr a1 8) &&& (255 : UInt32)).toNat : Int)).bind fun m29 => (a0.2.1[m29]?).bind fun x33 => (ix 256 ((a1 &&& (255 : UInt32)).toNat : Int)).bind fun m38 => (a0.2.1[m38]?).bind fun x42 => some (((((u32_shl (UInt32.ofNat x15.toNat) 24) ||| (u32_shl (UInt32.ofNat x24.toNat) 16)) ||| (u32_shl (UInt32.ofNat x33.toNat) 8)) ||| (UInt32.ofNat x42.toNat)), a0)
set_option maxRecDepth 100000 in
set_option maxHeartbeats 2000000 in
theorem aes_swapped_at0_aes_Cipher_1_ok (Fu : Nat) {S0 : Snap} (a0 : (List UInt32) × (List UInt8) × (List UInt8)) (g1 : Nat) (A2 : Option Addr) (c3 : Nat) (k5 : List Value) (k8 : List Value) (hs4 : slS ty32 S0 A2 c3 a0.1) (hs6 : reps ty8 S0 k5 a0.2.1) (hl7 : a0.2.1.length = 256) (hs9 : reps ty8 S0 k8 a0.2.2) (hl10 : a0.2.2.length = 256) (a1 : UInt32) (r : UInt32 × ((List UInt32) × (List UInt8) × (List UInt8))) (hf : aes_swapped_at0_aes_Cipher_1 Fu a0 a1 = some r) (w0 : World) (hm : Mem w0 (ownL ([.box g1 97 (([.slice A2 a0.1.length c3] : List Value) ++ (k5 ++ k8))] ++ [.sn S0])) ([.box g1 97 (([.slice A2 a0.1.length c3] : List Value) ++ (k5 ++ k8))] ++ [.sn S0]) w0) :
    Calls Try.prog 88 #[.pointer (some ⟨g1, 1, none⟩), .int .u32 (a1.toNat : Int)] w0 (Ret w0 S0 [.box g1 97 (([.slice A2 a0.1.length c3] : List Value) ++ (k5 ++ k8))] (fun v L1 S1 => ∃ (A47 : Option Addr), ∃ (c48 : Nat), ∃ (k50 : List Value), ∃ (k53 : List Value), v = .int .u32 (r.1.toNat : Int) ∧ L1 = [.box g1 97 (([.slice A47 r.2.1.length c48] : List Value) ++ (k50 ++ k53))] ∧ slS ty32 S1 A47 c48 r.2.1 ∧ reps ty8 S1 k50 r.2.2.1 ∧ r.2.2.1.length = 256 ∧ reps ty8 S1 k53 r.2.2.2 ∧ r.2.2.2.length = 256 ∧ True)) := by
  unfold aes_swapped_at0_aes_Cipher_1 at hf
  obtain ⟨B0, hB0⟩ : ∃ B0, B0 = (ownL ([.box g1 97 (([.slice A2 a0.1.length c3] : List Value) ++ (k5 ++ k8))] ++ [.sn S0])) := ⟨_, rfl⟩
  rw [← hB0] at hm
  refine c_enterM Try.func88 rfl 41 rfl (by simp) _ hm _ rfl (fun a h => ?_)
  refine c_rs ?_
  refine sAV h (fun a h => ?_)
  refine l_end ?_
  refine wp_seq ?_
  -- region 1 draws
  obtain ⟨m11, h12, hf⟩ := bsome hf
  obtain ⟨x15, h16, hf⟩ := bsome hf
  obtain ⟨m20, h21, hf⟩ := bsome hf
  obtain ⟨x24, h25, hf⟩ := bsome hf
  obtain ⟨m29, h30, hf⟩ := bsome hf
  obtain ⟨x33, h34, hf⟩ := bsome hf
  obtain ⟨m38, h39, hf⟩ := bsome hf
  obtain ⟨x42, h43, hf⟩ := bsome hf
  refine d_start h (Mem _ _ _) 37 37 rfl (by kernel_rfl) (fun _ _ _ _ _ h => h) (fun _ h => h) (fun Q a w HE HN h HS => ?_)
  refine d_takeP h (fun _ => HS) HN 0 rfl (by kernel_rfl) (by kernel_rfl) (by kernel_rfl) (by decide) rfl rfl (by decide) (fun w' => x_move h.k _ rfl rfl) (fun a h => ?_)
  refine d_takeP h (fun _ => HS) HN 1 rfl (by kernel_rfl) (by kernel_rfl) (by kernel_rfl) (by decide) rfl rfl (by decide) (fun w' => x_move h.k _ rfl rfl) (fun a h => ?_)
  refine d_takeP h (fun _ => HS) HN 2 rfl (by kernel_rfl) (by kernel_rfl) (by kernel_rfl) (by decide) rfl rfl (by decide) (fun w' => x_bin h.k rfl rfl rfl (ib_shr_u32 a1 24)) (fun a h => ?_)
  refine d_takeP h (fun _ => HS) HN 3 rfl (by kernel_rfl) (by kernel_rfl) (by kernel_rfl) (by decide) rfl rfl (by decide) (fun w' => x_nil h.k rfl rfl) (fun a h => ?_)
  obtain ⟨hi13, hm14⟩ := ix_some h12
  refine d_takeP h (fun _ => HS) HN 4 rfl (by kernel_rfl) (by kernel_rfl) (by kernel_rfl) (by decide) rfl rfl (by decide) (fun w' => x_iaddrA h.k rfl Try.underlying93 sz_uint8 rfl rfl hi13 hm14 rfl) (fun a h => ?_)
  obtain ⟨u17, hv18, hu19⟩ := (hs6).cell rfl h16
  cases hu19
  refine d_take h HS HN 5 rfl (by kernel_rfl) (by kernel_rfl) (by kernel_rfl) (by kernel_rfl) (by kernel_rfl) rfl rfl (by decide) (fun w' hw => x_ld h.k rfl Try.underlying5 rfl rfl ((hw.cell (i := 0) rfl _).trans (by rw [Nat.mul_one]; exact cell_midE (cs := ([.slice A2 a0.1.length c3] : List Value) ++ (k5 ++ k8)) (X := [.slice A2 a0.1.length c3]) (Z := k8) (off := 1) (by simp only [List.append_assoc, List.cons_append, List.nil_append, List.append_nil]) rfl hv18))) (fun a h => ?_)
  refine d_takeP h (fun _ => HS) HN 6 rfl (by kernel_rfl) (by kernel_rfl) (by kernel_rfl) (by decide) rfl rfl (by decide) (fun w' => x_convE h.k rfl Try.underlying5 Try.underlying106 rfl (u8_to_u32 _)) (fun a h => ?_)
  refine d_takeP h (fun _ => HS) HN 7 rfl (by kernel_rfl) (by kernel_rfl) (by kernel_rfl) (by decide) rfl rfl (by decide) (fun w' => x_bin h.k rfl rfl rfl (ib_shl_u32 (UInt32.ofNat x15.toNat) 24)) (fun a h => ?_)
  refine d_takeP h (fun _ => HS) HN 8 rfl (by kernel_rfl) (by kernel_rfl) (by kernel_rfl) (by decide) rfl rfl (by decide) (fun w' => x_move h.k _ rfl rfl) (fun a h => ?_)
  refine d_takeP h (fun _ => HS) HN 9 rfl (by kernel_rfl) (by kernel_rfl) (by kernel_rfl) (by decide) rfl rfl (by decide) (fun w' => x_move h.k _ rfl rfl) (fun a h => ?_)
  refine d_takeP h (fun _ => HS) HN 10 rfl (by kernel_rfl) (by kernel_rfl) (by kernel_rfl) (by decide) rfl rfl (by decide) (fun w' => x_bin h.k rfl rfl rfl (ib_shr_u32 a1 16)) (fun a h => ?_)
  refine d_takeP h (fun _ => HS) HN 11 rfl (by kernel_rfl) (by kernel_rfl) (by kernel_rfl) (by decide) rfl rfl (by decide) (fun w' => x_bin h.k rfl rfl rfl (ib_and (u32_and_ (u32_shr a1 16) (255 : UInt32)))) (fun a h => ?_)
  refine d_takeP h (fun _ => HS) HN 12 rfl (by kernel_rfl) (by kernel_rfl) (by kernel_rfl) (by decide) rfl rfl (by decide) (fun w' => x_nil h.k rfl rfl) (fun a h => ?_)
  obtain ⟨hi22, hm23⟩ := ix_some h21
  refine d_takeP h (fun _ => HS) HN 13 rfl (by kernel_rfl) (by kernel_rfl) (by kernel_rfl) (by decide) rfl rfl (by decide) (fun w' => x_iaddrA h.k rfl Try.underlying93 sz_uint8 rfl rfl hi22 hm23 rfl) (fun a h => ?_)
  obtain ⟨u26, hv27, hu28⟩ := (hs6).cell rfl h25
  cases hu28
  refine d_take h HS HN 14 rfl (by kernel_rfl) (by kernel_rfl) (by kernel_rfl) (by kernel_rfl) (by kernel_rfl) rfl rfl (by decide) (fun w' hw => x_ld h.k rfl Try.underlying5 rfl rfl ((hw.cell (i := 0) rfl _).trans (by rw [Nat.mul_one]; exact cell_midE (cs := ([.slice A2 a0.1.length c3] : List Value) ++ (k5 ++ k8)) (X := [.slice A2 a0.1.length c3]) (Z := k8) (off := 1) (by simp only [List.append_assoc, List.cons_append, List.nil_append, List.append_nil]) rfl hv27))) (fun a h => ?_)
  refine d_takeP h (fun _ => HS) HN 15 rfl (by kernel_rfl) (by kernel_rfl) (by kernel_rfl) (by decide) rfl rfl (by decide) (fun w' => x_convE h.k rfl Try.underlying5 Try.underlying106 rfl (u8_to_u32 _)) (fun a h => ?_)
  refine d_takeP h (fun _ => HS) HN 16 rfl (by kernel_rfl) (by kernel_rfl) (by kernel_rfl) (by decide) rfl rfl (by decide) (fun w' => x_bin h.k rfl rfl rfl (ib_shl_u32 (UInt32.ofNat x24.toNat) 16)) (fun a h => ?_)
  refine d_takeP h (fun _ => HS) HN 17 rfl (by kernel_rfl) (by kernel_rfl) (by kernel_rfl) (by decide) rfl rfl (by decide) (fun w' => x_bin h.k rfl rfl rfl (ib_or (u32_or_ (u32_shl (UInt32.ofNat x15.toNat) 24) (u32_shl (UInt32.ofNat x24.toNat) 16)))) (fun a h => ?_)
  refine d_takeP h (fun _ => HS) HN 18 rfl (by kernel_rfl) (by kernel_rfl) (by kernel_rfl) (by decide) rfl rfl (by decide) (fun w' => x_move h.k _ rfl rfl) (fun a h => ?_)
  refine d_takeP h (fun _ => HS) HN 19 rfl (by kernel_rfl) (by kernel_rfl) (by kernel_rfl) (by decide) rfl rfl (by decide) (fun w' => x_move h.k _ rfl rfl) (fun a h => ?_)
  refine d_takeP h (fun _ => HS) HN 20 rfl (by kernel_rfl) (by kernel_rfl) (by kernel_rfl) (by decide) rfl rfl (by decide) (fun w' => x_bin h.k rfl rfl rfl (ib_shr_u32 a1 8)) (fun a h => ?_)
  refine d_takeP h (fun _ => HS) HN 21 rfl (by kernel_rfl) (by kernel_rfl) (by kernel_rfl) (by decide) rfl rfl (by decide) (fun w' => x_bin h.k rfl rfl rfl (ib_and (u32_and_ (u32_shr a1 8) (255 : UInt32)))) (fun a h => ?_)
  refine d_takeP h (fun _ => HS) HN 22 rfl (by kernel_rfl) (by kernel_rfl) (by kernel_rfl) (by decide) rfl rfl (by decide) (fun w' => x_nil h.k rfl rfl) (fun a h => ?_)
  obtain ⟨hi31, hm32⟩ := ix_some h30
  refine d_takeP h (fun _ => HS) HN 23 rfl (by kernel_rfl) (by kernel_rfl) (by kernel_rfl) (by decide) rfl rfl (by decide) (fun w' => x_iaddrA h.k rfl Try.underlying93 sz_uint8 rfl rfl hi31 hm32 rfl) (fun a h => ?_)
  obtain ⟨u35, hv36, hu37⟩ := (hs6).cell rfl h34
  cases hu37
  refine d_take h HS HN 24 rfl (by kernel_rfl) (by kernel_rfl) (by kernel_rfl) (by kernel_rfl) (by kernel_rfl) rfl rfl (by decide) (fun w' hw => x_ld h.k rfl Try.underlying5 rfl rfl ((hw.cell (i := 0) rfl _).trans (by rw [Nat.mul_one]; exact cell_midE (cs := ([.slice A2 a0.1.length c3] : List Value) ++ (k5 ++ k8)) (X := [.slice A2 a0.1.length c3]) (Z := k8) (off := 1) (by simp only [List.append_assoc, List.cons_append, List.nil_append, List.append_nil]) rfl hv36))) (fun a h => ?_)
  refine d_takeP h (fun _ => HS) HN 25 rfl (by kernel_rfl) (by kernel_rfl) (by kernel_rfl) (by decide) rfl rfl (by decide) (fun w' => x_convE h.k rfl Try.underlying5 Try.underlying106 rfl (u8_to_u32 _)) (fun a h => ?_)
  refine d_takeP h (fun _ => HS) HN 26 rfl (by kernel_rfl) (by kernel_rfl) (by kernel_rfl) (by decide) rfl rfl (by decide) (fun w' => x_bin h.k rfl rfl rfl (ib_shl_u32 (UInt32.ofNat x33.toNat) 8)) (fun a h => ?_)
  refine d_takeP h (fun _ => HS) HN 27 rfl (by kernel_rfl) (by kernel_rfl) (by kernel_rfl) (by decide) rfl rfl (by decide) (fun w' => x_bin h.k rfl rfl rfl (ib_or (u32_or_ ((u32_shl (UInt32.ofNat x15.toNat) 24) ||| (u32_shl (UInt32.ofNat x24.toNat) 16)) (u32_shl (UInt32.ofNat x33.toNat) 8)))) (fun a h => ?_)
  refine d_takeP h (fun _ => HS) HN 28 rfl (by kernel_rfl) (by kernel_rfl) (by kernel_rfl) (by decide) rfl rfl (by decide) (fun w' => x_move h.k _ rfl rfl) (fun a h => ?_)
  refine d_takeP h (fun _ => HS) HN 29 rfl (by kernel_rfl) (by kernel_rfl) (by kernel_rfl) (by decide) rfl rfl (by decide) (fun w' => x_move h.k _ rfl rfl) (fun a h => ?_)
  refine d_takeP h (fun _ => HS) HN 30 rfl (by kernel_rfl) (by kernel_rfl) (by kernel_rfl) (by decide) rfl rfl (by decide) (fun w' => x_bin h.k rfl rfl rfl (ib_and (u32_and_ a1 (255 : UInt32)))) (fun a h => ?_)
  refine d_takeP h (fun _ => HS) HN 31 rfl (by kernel_rfl) (by kernel_rfl) (by kernel_rfl) (by decide) rfl rfl (by decide) (fun w' => x_nil h.k rfl rfl) (fun a h => ?_)
  obtain ⟨hi40, hm41⟩ := ix_some h39
  refine d_takeP h (fun _ => HS) HN 32 rfl (by kernel_rfl) (by kernel_rfl) (by kernel_rfl) (by decide) rfl rfl (by decide) (fun w' => x_iaddrA h.k rfl Try.underlying93 sz_uint8 rfl rfl hi40 hm41 rfl) (fun a h => ?_)
  obtain ⟨u44, hv45, hu46⟩ := (hs6).cell rfl h43
  cases hu46
  refine d_take h HS HN 33 rfl (by kernel_rfl) (by kernel_rfl) (by kernel_rfl) (by kernel_rfl) (by kernel_rfl) rfl rfl (by decide) (fun w' hw => x_ld h.k rfl Try.underlying5 rfl rfl ((hw.cell (i := 0) rfl _).trans (by rw [Nat.mul_one]; exact cell_midE (cs := ([.slice A2 a0.1.length c3] : List Value) ++ (k5 ++ k8)) (X := [.slice A2 a0.1.length c3]) (Z := k8) (off := 1) (by simp only [List.append_assoc, List.cons_append, List.nil_append, List.append_nil]) rfl hv45))) (fun a h => ?_)
  refine d_takeP h (fun _ => HS) HN 34 rfl (by kernel_rfl) (by kernel_rfl) (by kernel_rfl) (by decide) rfl rfl (by decide) (fun w' => x_convE h.k rfl Try.underlying5 Try.underlying106 rfl (u8_to_u32 _)) (fun a h => ?_)
  refine d_takeP h (fun _ => HS) HN 35 rfl (by kernel_rfl) (by kernel_rfl) (by kernel_rfl) (by decide) rfl rfl (by decide) (fun w' => x_bin h.k rfl rfl rfl (ib_or (u32_or_ (((u32_shl (UInt32.ofNat x15.toNat) 24) ||| (u32_shl (UInt32.ofNat x24.toNat) 16)) ||| (u32_shl (UInt32.ofNat x33.toNat) 8)) (UInt32.ofNat x42.toNat)))) (fun a h => ?_)
  refine d_takeP h (fun _ => HS) HN 36 rfl (by kernel_rfl) (by kernel_rfl) (by kernel_rfl) (by decide) rfl rfl (by decide) (fun w' => x_assign h.k _ rfl rfl) (fun a h => ?_)
  refine d_done (by kernel_rfl) (HE _ _ ?_) _
  refine e_thenN ?_
  refine wp_ret ?_
  obtain rfl := Option.some.inj hf
  subst hB0
  exact r_ret1 h rfl (rv_tmp h rfl) ⟨_, [.box g1 97 (([.slice A2 a0.1.length c3] : List Value) ++ (k5 ++ k8))], _, rfl, ⟨A2, c3, k5, k8, rfl, rfl, hs4, hs6, hl7, hs9, hl10, trivial⟩, rfl, (Up.refl _ _ _), h.m⟩
def aes_expand_at0_aes_Cipher_1_l0 (Fu : Nat) (a1 : List UInt8) : Nat → UInt8 → Int → Int → (List UInt32) → (List UInt8) → (List UInt8) → (List UInt32) → Option ((List UInt32) × (List UInt8) × (List UInt8) × (List UInt32))
  | 0, _, _, _, _, _, _, _ => none
  | k + 1, x26, x27, x29, x31, x35, x39, x43 => if x29 < x27 then ((if x29 < w64 (Int.tdiv (a1.length : Int) 4) then ((sub a1 (w64 (4 * x29)) (w64 ((w64 (4 * x29)) + 4))).bind fun x93 => (word_Get32 Fu x93).bind fun x103 => (ix x43.length x29).bind fun m106 => some (x26, x31, x35, x39, (x43.set m106 x103.1))) else ((ix x43.length (w64 (x29 - 1))).bind fun m115 => (x43[m115]?).bind fun x121 => ((remI x29 (w64 (Int.tdiv (a1.length : Int) 4))).bind fun x145 => if x145 = 0 then ((word_Rotate Fu x121 (-8)).bind fun x147 => (aes_swapped_at0_aes_Cipher_1 Fu (x31, x35, x39) x147).bind fun x150 => (gf_Times Fu x26 (2 : UInt8)).bind fun x165 => some (x165, (x150.1 ^^^ (u32_shl (UInt32.ofNat x26.toNat) 24)), x150.2.1, x150.2.2.1, x150.2.2.2)) else (if ((decide (w64 (Int.tdiv (a1.length : Int) 4) = 8)) && (decide (Int.tmod x29 8 = 4))) = true then ((aes_swapped_at0_aes_Cipher_1 Fu (x31, x35, x39) x121).bind fun x170 => some (x26, x170.1, x170.2.1, x170.2.2.1, x170.2.2.2)) else (some (x26, x121, x31, x35, x39)))).bind fun (x131, x132, x133, x137, x141) => (ix x43.length (w64 (x29 - (w64 (Int.tdiv (a1.length : Int) 4))))).bind fun m185 => (x43[m185]?).bind fun x191 => (ix x43.length x29).bind fun m196 => some (x131, x133, x137, x141, (x43.set m196 (x191 ^^^ x132))))).bind fun (x75, x76, x80, x84, x88) => aes_expand_at0_aes_Cipher_1_l0 Fu a1 k x75 x27 (w64 (x29 + 1)) x76 x80 x84 x88) else (some (x31, x35, x39, x43))
def aes_expand_at0_aes_Cipher_1 (Fu : Nat) (a0 : (List UInt32) × (List UInt8) × (List UInt8)) (a1 : List UInt8) : Option ((List UInt32) × ((List UInt32) × (List UInt8) × (List UInt8))) :=
  (aes_rounds Fu (a1.length : Int)).bind fun x11 => (mkN 4 (w64 (4 * (w64 (x11 + 1))))).bind fun n15 => (aes_expand_at0_aes_Cipher_1_l0 Fu a1 Fu (1 : UInt8) ((List.replicate n15 ((0 : UInt32) : UInt32)).length : Int) 0 a0.1 a0.2.1 a0.2.2 (List.replicate n15 ((0 : UInt32) : UInt32))).bind fun (x51, x55, x59, x63) => some (x63, (x51, x55, x59))
set_option maxRecDepth 100000 in
set_option maxHeartbeats 2000000 in
theorem aes_expand_at0_aes_Cipher_1_ok (Fu : Nat) {S0 : Snap} (a0 : (List UInt32) × (List UInt8) × (List UInt8)) (g1 : Nat) (A2 : Option Addr) (c3 : Nat) (k5 : List Value) (k8 : List Value) (hs4 : slS ty32 S0 A2 c3 a0.1) (hs6 : reps ty8 S0 k5 a0.2.1) (hl7 : a0.2.1.length = 256) (hs9 : reps ty8 S0 k8 a0.2.2) (hl10 : a0.2.2.length = 256) (Aa1 : Option Addr) (ca1 : Nat) (a1 : List UInt8) (hsa1 : slS ty8 S0 Aa1 ca1 a1) (r : (List UInt32) × ((List UInt32) × (List UInt8) × (List UInt8))) (hf : aes_expand_at0_aes_Cipher_1 Fu a0 a1 = some r) (w0 : World) (hm : Mem w0 (ownL ([.box g1 97 (([.slice A2 a0.1.length c3] : List Value) ++ (k5 ++ k8))] ++ [.sn S0])) ([.box g1 97 (([.slice A2 a0.1.length c3] : List Value) ++ (k5 ++ k8))] ++ [.sn S0]) w0) :
    Calls Try.prog 69 #[.pointer (some ⟨g1, 1, none⟩), .slice Aa1 a1.length ca1] w0 (Ret w0 S0 [.box g1 97 (([.slice A2 a0.1.length c3] : List Value) ++ (k5 ++ k8))] (fun v L1 S1 => ∃ (A208 : Option Addr), ∃ (c209 : Nat), ∃ (cs210 : List Value), ∃ (A212 : Option Addr), ∃ (c213 : Nat), ∃ (k215 : List Value), ∃ (k218 : List Value), v = .slice A208 r.1.length c209 ∧ L1 = [.row (.slice A208 r.1.length c209) 106 1 r.1.length cs210, .box g1 97 (([.slice A212 r.2.1.length c213] : List Value) ++ (k215 ++ k218))] ∧ reps ty32 S1 cs210 r.1 ∧ slS ty32 S1 A212 c213 r.2.1 ∧ reps ty8 S1 k215 r.2.2.1 ∧ r.2.2.1.length = 256 ∧ reps ty8 S1 k218 r.2.2.2 ∧ r.2.2.2.length = 256 ∧ True)) := by
  unfold aes_expand_at0_aes_Cipher_1 at hf
  obtain ⟨B0, hB0⟩ : ∃ B0, B0 = (ownL ([.box g1 97 (([.slice A2 a0.1.length c3] : List Value) ++ (k5 ++ k8))] ++ [.sn S0])) := ⟨_, rfl⟩
  rw [← hB0] at hm
  refine c_enterM Try.func69 rfl 85 rfl (by simp) _ hm _ rfl (fun a h => ?_)
  refine c_rs ?_
  refine sAV h (fun a h => ?_)
  refine l_end ?_
  refine c_rs ?_
  refine sMV h (fun a h => ?_)
  refine sX h (x_len h.k rfl Try.underlying22 rfl) (fun a h => ?_)
  refine sX h (x_bin h.k rfl rfl rfl (ib_quow (by decide))) (fun a h => ?_)
  refine sAV h (fun a h => ?_)
  refine l_end ?_
  refine c_rs ?_
  refine sMV h (fun a h => ?_)
  refine sX h (x_len h.k rfl Try.underlying22 rfl) (fun a h => ?_)
  obtain ⟨x11, h12, hf⟩ := bsome hf
  have hX := aes_rounds_ok Fu (S0 := snapAll _) (a1.length : Int) (len_r (hsa1).len) _ h12 _ h.startAll
  refine q_callX hX h rfl rfl rfl (by decide) Try.func66 rfl rfl rfl (fun a w v L1 S1 hR hb1 h => ?_)
  obtain ⟨rfl, rfl, hr14, _⟩ := hR
  refine sX h (x_bin h.k rfl rfl rfl (ib_add rfl)) (fun a h => ?_)
  refine sX h (x_bin h.k rfl rfl rfl (ib_mul rfl)) (fun a h => ?_)
  obtain ⟨n15, h16, hf⟩ := bsome hf
  refine q_make (T := ty32) (S := S0) h rfl rfl rfl (by decide) Try.underlying95 zb_uint32 rfl rfl (q := (0 : UInt32)) rfl rfl rfl h16 (fun a w A17 cs18 hq19 h => ?_)
  refine sAV h (fun a h => ?_)
  refine l_end ?_
  refine c_rs ?_
  refine sAV h (fun a h => ?_)
  refine l_end ?_
  refine wp_seq ?_
  refine c_rs ?_
  refine sMV h (fun a h => ?_)
  have hr20 : r64 ((List.replicate n15 ((0 : UInt32) : UInt32)).length : Int) := len_r (h.m.rowLen (i := 0) rfl)
  refine sX h (x_len h.k rfl Try.underlying95 rfl) (fun a h => ?_)
  refine sMV h (fun a h => ?_)
  refine l_end ?_
  obtain ⟨o21, hl22, hf⟩ := bsome hf
  refine c_fin (fun a w => ∃ (S48 : Snap), ∃ (x51 : List UInt32), ∃ (A52 : Option Addr), ∃ (c53 : Nat), ∃ (x55 : List UInt8), ∃ (k56 : List Value), ∃ (x59 : List UInt8), ∃ (k60 : List Value), ∃ (x63 : List UInt32), ∃ (A64 : Option Addr), ∃ (c65 : Nat), ∃ (cs66 : List Value), (x51, x55, x59, x63) = o21 ∧ Snap.le S0 S48 ∧ Up B0 w0 S0 S48 ∧ slS ty32 S48 A52 c53 x51 ∧ reps ty8 S48 k56 x55 ∧ x55.length = 256 ∧ reps ty8 S48 k60 x59 ∧ x59.length = 256 ∧ reps ty32 S48 cs66 x63 ∧ St 85 w0 B0 [(6, .slice A64 x63.length c65)] [.box g1 97 (([.slice A52 x51.length c53] : List Value) ++ (k56 ++ k60)), .row (.slice A64 x63.length c65) 106 1 x63.length cs66, .sn S48] a w) ?_ ?_
  · refine wp_block ?_
    have h := h.pick [1, 0, 2] (by decide) rfl
    refine c_loop (fun m69 a w => ∃ (S23 : Snap), ∃ (x26 : UInt8), ∃ (x27 : Int), ∃ (x29 : Int), ∃ (x31 : List UInt32), ∃ (A32 : Option Addr), ∃ (c33 : Nat), ∃ (x35 : List UInt8), ∃ (k36 : List Value), ∃ (x39 : List UInt8), ∃ (k40 : List Value), ∃ (x43 : List UInt32), ∃ (A44 : Option Addr), ∃ (c45 : Nat), ∃ (cs46 : List Value), aes_expand_at0_aes_Cipher_1_l0 Fu a1 m69 x26 x27 x29 x31 x35 x39 x43 = some o21 ∧ Snap.le S0 S23 ∧ Up B0 w0 S0 S23 ∧ r64 x27 ∧ r64 x29 ∧ slS ty32 S23 A32 c33 x31 ∧ reps ty8 S23 k36 x35 ∧ x35.length = 256 ∧ reps ty8 S23 k40 x39 ∧ x39.length = 256 ∧ reps ty32 S23 cs46 x43 ∧ St 85 w0 B0 [(0, .pointer (some ⟨g1, 1, none⟩)), (1, .slice Aa1 a1.length ca1), (5, .int .i64 (w64 (Int.tdiv (a1.length : Int) 4))), (6, .slice A44 x43.length c45), (7, .int .u8 (x26.toNat : Int)), (20, .int .i64 x27), (21, .int .i64 x29)] [.box g1 97 (([.slice A32 x31.length c33] : List Value) ++ (k36 ++ k40)), .row (.slice A44 x43.length c45) 106 1 x43.length cs46, .sn S23] a w) Fu ⟨S0, (1 : UInt8), ((List.replicate n15 ((0 : UInt32) : UInt32)).length : Int), 0, a0.1, A2, c3, a0.2.1, k5, a0.2.2, k8, (List.replicate n15 ((0 : UInt32) : UInt32)), A17, n15, cs18, hl22, (Snap.le.refl _), (Up.refl _ _ _), hr20, (show r64 0 from ⟨by decide, by decide⟩), hs4, hs6, hl7, hs9, hl10, hq19, h.has (by exact ⟨rfl, rfl, rfl, rfl, rfl, rfl, rfl, trivial⟩)⟩ (fun m69 a w hI => ?_)
    obtain ⟨S23, x26, x27, x29, x31, A32, c33, x35, k36, x39, k40, x43, A44, c45, cs46, hl68, le24, up25, hr28, hr30, hs34, hs37, hl38, hs41, hl42, hq47, h⟩ := hI
    obtain _ | m69 := m69
    · rw [aes_expand_at0_aes_Cipher_1_l0] at hl68; cases hl68
    rw [aes_expand_at0_aes_Cipher_1_l0] at hl68
    refine c_rs ?_
    refine sX h (x_bin h.k rfl rfl rfl ib_lss) (fun a h => ?_)
    refine l_end ?_
    refine c_cs h rfl (fun hb => ?_) (fun hb => ?_)
    · rw [if_pos (of_decide_eq_true hb)] at hl68
      refine wp_skip ?_
      refine e_thenN ?_
      obtain ⟨o70, hc71, hl68⟩ := bsome hl68
      refine c_cut (fun a w => ∃ (S72 : Snap), ∃ (x75 : UInt8), ∃ (x76 : List UInt32), ∃ (A77 : Option Addr), ∃ (c78 : Nat), ∃ (x80 : List UInt8), ∃ (k81 : List Value), ∃ (x84 : List UInt8), ∃ (k85 : List Value), ∃ (x88 : List UInt32), ∃ (A89 : Option Addr), ∃ (c90 : Nat), ∃ (cs91 : List Value), (x75, x76, x80, x84, x88) = o70 ∧ Snap.le S23 S72 ∧ Up B0 w0 S0 S72 ∧ slS ty32 S72 A77 c78 x76 ∧ reps ty8 S72 k81 x80 ∧ x80.length = 256 ∧ reps ty8 S72 k85 x84 ∧ x84.length = 256 ∧ reps ty32 S72 cs91 x88 ∧ St 85 w0 B0 [(0, .pointer (some ⟨g1, 1, none⟩)), (1, .slice Aa1 a1.length ca1), (5, .int .i64 (w64 (Int.tdiv (a1.length : Int) 4))), (6, .slice A89 x88.length c90), (7, .int .u8 (x75.toNat : Int)), (20, .int .i64 x27), (21, .int .i64 x29)] [.box g1 97 (([.slice A77 x76.length c78] : List Value) ++ (k81 ++ k85)), .row (.slice A89 x88.length c90) 106 1 x88.length cs91, .sn S72] a w) ?_ ?_
      · refine wp_block ?_
        refine c_rs ?_
        refine sMV h (fun a h => ?_)
        refine sAV h (fun a h => ?_)
        refine l_end ?_
        refine wp_seq ?_
        refine c_rs ?_
        refine sMV h (fun a h => ?_)
        refine sMV h (fun a h => ?_)
        refine sX h (x_bin h.k rfl rfl rfl ib_lss) (fun a h => ?_)
        refine l_end ?_
        refine c_cond h rfl (fun hb => ?_) (fun hb => ?_)
        · rw [if_pos (of_decide_eq_true hb)] at hc71
          refine c_rs ?_
          refine sMV h (fun a h => ?_)
          refine sMV h (fun a h => ?_)
          refine sMV h (fun a h => ?_)
          refine sMV h (fun a h => ?_)
          refine sX h (x_bin h.k rfl rfl rfl (ib_mul rfl)) (fun a h => ?_)
          refine sMV h (fun a h => ?_)
          refine sX h (x_bin h.k rfl rfl rfl (ib_mul rfl)) (fun a h => ?_)
          refine sX h (x_bin h.k rfl rfl rfl (ib_add rfl)) (fun a h => ?_)
          obtain ⟨x93, h94, hc71⟩ := bsome hc71
          obtain ⟨m95, n96, hi97, hi98, hm99, hm100, hr101⟩ := sub_some h94
          have hs102 := slS.sub ((hsa1.mono le24)) hm99 hm100 (Nat.le_trans hm100 ((hsa1.mono le24)).1) (Nat.le_refl _) hr101
          refine sX h (x_sliceE h.k rfl Try.underlying22 sz_uint8 rfl ca1 hr101 (bd_some rfl hi97) (bd_some rfl hi98) (bd_none rfl) (by intro hh; cases hh) hm99 hm100 (Nat.le_trans hm100 ((hsa1.mono le24)).1) (Nat.le_refl _)) (fun a h => ?_)
          obtain ⟨x103, h104, hc71⟩ := bsome hc71
          have hX := word_Get32_ok Fu (S0 := snapAll _) (sA Aa1 ca1 m95 1) (ca1 - m95) x93 (hs102.mono (h.m.leAll (i := 2) rfl)) _ h104 _ h.startAll
          refine q_callX hX h rfl rfl rfl (by decide) Try.func87 rfl rfl rfl (fun a w v L1 S1 hR hb1 h => ?_)
          obtain ⟨rfl, rfl, _⟩ := hR
          refine sMV h (fun a h => ?_)
          refine sX h (x_ext h.k rfl rfl rfl) (fun a h => ?_)
          refine sX h (x_ext h.k rfl rfl rfl) (fun a h => ?_)
          obtain ⟨m106, h107, hc71⟩ := bsome hc71
          obtain ⟨hi108, hm109⟩ := ix_some h107
          obtain ⟨g111, hA110⟩ := h.m.rowHead (i := 1) rfl (Nat.lt_of_le_of_lt (Nat.zero_le _) hm109)
          refine sX h (x_iaddrE h.k rfl Try.underlying95 sz_uint32 hA110 rfl rfl hi108 hm109) (fun a h => ?_)
          refine q_setRow (T := ty32) (q := x103.1) h rfl rfl rfl sz_uint32 hA110 rfl rfl 1 rfl rfl hq47 rfl (by first | exact hm109 | simpa using hm109) (fun a w cs112 hq113 h => ?_)
          have hl114 : x43.length = (x43.set m106 x103.1).length := by simp only [List.length_set]
          rw [hl114] at h
          refine l_end ?_
          refine wp_exit ?_
          refine e_thenX ?_
          refine e_blkX ?_
          refine e_thenN ?_
          exact ⟨S23, x26, x31, A32, c33, x35, k36, x39, k40, (x43.set m106 x103.1), A44, c45, cs112, (Option.some.inj hc71), (Snap.le.refl _), up25, hs34, hs37, hl38, hs41, hl42, hq113, h.has (by exact ⟨rfl, rfl, rfl, rfl, rfl, rfl, rfl, trivial⟩)⟩
        · rw [if_neg (of_decide_eq_false hb)] at hc71
          refine wp_skip ?_
          refine e_thenN ?_
          refine c_rs ?_
          refine sMV h (fun a h => ?_)
          refine sMV h (fun a h => ?_)
          refine sX h (x_bin h.k rfl rfl rfl (ib_sub rfl)) (fun a h => ?_)
          obtain ⟨m115, h116, hc71⟩ := bsome hc71
          obtain ⟨hi117, hm118⟩ := ix_some h116
          obtain ⟨g120, hA119⟩ := h.m.rowHead (i := 1) rfl (Nat.lt_of_le_of_lt (Nat.zero_le _) hm118)
          refine sX h (x_iaddrE h.k rfl Try.underlying95 sz_uint32 hA119 rfl rfl hi117 hm118) (fun a h => ?_)
          obtain ⟨x121, h122, hc71⟩ := bsome hc71
          obtain ⟨u123, hv124, hu125⟩ := (hq47).cell rfl h122
          cases hu125
          refine sX h (x_ld h.k rfl Try.underlying106 rfl rfl (h.m.cellRowE (i := 1) rfl hA119 _ (by rw [Nat.mul_one]; exact hv124))) (fun a h => ?_)
          refine sAV h (fun a h => ?_)
          refine l_end ?_
          obtain ⟨o126, hc127, hc71⟩ := bsome hc71
          refine c_cut (fun a w => ∃ (S128 : Snap), ∃ (x131 : UInt8), ∃ (x132 : UInt32), ∃ (x133 : List UInt32), ∃ (A134 : Option Addr), ∃ (c135 : Nat), ∃ (x137 : List UInt8), ∃ (k138 : List Value), ∃ (x141 : List UInt8), ∃ (k142 : List Value), (x131, x132, x133, x137, x141) = o126 ∧ Snap.le S23 S128 ∧ Up B0 w0 S0 S128 ∧ slS ty32 S128 A134 c135 x133 ∧ reps ty8 S128 k138 x137 ∧ x137.length = 256 ∧ reps ty8 S128 k142 x141 ∧ x141.length = 256 ∧ St 85 w0 B0 [(0, .pointer (some ⟨g1, 1, none⟩)), (1, .slice Aa1 a1.length ca1), (5, .int .i64 (w64 (Int.tdiv (a1.length : Int) 4))), (6, .slice A44 x43.length c45), (7, .int .u8 (x131.toNat : Int)), (8, .int .i64 x29), (9, .int .u32 (x132.toNat : Int)), (20, .int .i64 x27), (21, .int .i64 x29)] [.box g1 97 (([.slice A134 x133.length c135] : List Value) ++ (k138 ++ k142)), .row (.slice A44 x43.length c45) 106 1 x43.length cs46, .sn S128] a w) ?_ ?_
          · refine wp_block ?_
            refine c_rs ?_
            refine sMV h (fun a h => ?_)
            refine sMV h (fun a h => ?_)
            obtain ⟨x145, h146, hc127⟩ := bsome hc127
            refine sX h (x_bin h.k rfl rfl rfl (ib_rem_ h146)) (fun a h => ?_)
            refine sX h (x_bin h.k rfl rfl rfl ib_eql) (fun a h => ?_)
            refine sAV h (fun a h => ?_)
            refine l_end ?_
            refine c_cond h rfl (fun hb => ?_) (fun hb => ?_)
            · rw [if_pos (of_decide_eq_true hb)] at hc127
              refine c_rs ?_
              refine sMV h (fun a h => ?_)
              refine sMV h (fun a h => ?_)
              obtain ⟨x147, h148, hc127⟩ := bsome hc127
              have hX := word_Rotate_ok Fu (S0 := snapAll _) x121 (-8) (show r64 (-8) from ⟨by decide, by decide⟩) _ h148 _ h.startAll
              refine q_callX hX h rfl rfl rfl (by decide) Try.func89 rfl rfl rfl (fun a w v L1 S1 hR hb1 h => ?_)
              obtain ⟨rfl, rfl, _⟩ := hR
              obtain ⟨x150, h151, hc127⟩ := bsome hc127
              have h := h.pick [0, 2, 1] (by decide) rfl
              have hX := aes_swapped_at0_aes_Cipher_1_ok Fu (S0 := S23) (x31, x35, x39) g1 A32 c33 k36 k40 hs34 hs37 hl38 hs41 hl42 x147 _ h151 _ (h.sub (Ls := [.box g1 97 (([.slice A32 x31.length c33] : List Value) ++ (k36 ++ k40))]))
              refine q_callY (Ls := [.box g1 97 (([.slice A32 x31.length c33] : List Value) ++ (k36 ++ k40))]) hX h up25 rfl rfl rfl (by decide) Try.func88 rfl rfl rfl (fun a w v L1 S153 hR le155 up154 h => ?_)
              obtain ⟨A156, c157, k159, k162, rfl, rfl, hs158, hs160, hl161, hs163, hl164, _⟩ := hR
              refine sMV h (fun a h => ?_)
              refine sX h (x_convE h.k rfl Try.underlying5 Try.underlying106 rfl (u8_to_u32 _)) (fun a h => ?_)
              refine sX h (x_bin h.k rfl rfl rfl (ib_shl_u32 (UInt32.ofNat x26.toNat) 24)) (fun a h => ?_)
              refine sX h (x_bin h.k rfl rfl rfl (ib_xor (u32_xor_ x150.1 (u32_shl (UInt32.ofNat x26.toNat) 24)))) (fun a h => ?_)
              refine sAV h (fun a h => ?_)
              refine l_end ?_
              refine c_r ?_
              refine sMV h (fun a h => ?_)
              obtain ⟨x165, h166, hc127⟩ := bsome hc127
              have hX := gf_Times_ok Fu (S0 := snapAll _) x26 (2 : UInt8) _ h166 _ h.startAll
              refine q_callX hX h rfl rfl rfl (by decide) Try.func86 rfl rfl rfl (fun a w v L1 S1 hR hb1 h => ?_)
              obtain ⟨rfl, rfl, _⟩ := hR
              refine sAV h (fun a h => ?_)
              refine l_nil ?_
              refine e_blkN ?_
              refine e_thenN ?_
              have h := h.pick [0, 2, 1] (by decide) rfl
              exact ⟨S153, x165, (x150.1 ^^^ (u32_shl (UInt32.ofNat x26.toNat) 24)), x150.2.1, A156, c157, x150.2.2.1, k159, x150.2.2.2, k162, (Option.some.inj hc127), le155, up154, hs158, hs160, hl161, hs163, hl164, h.has (by exact ⟨rfl, rfl, rfl, rfl, rfl, rfl, rfl, rfl, rfl, trivial⟩)⟩
            · rw [if_neg (of_decide_eq_false hb)] at hc127
              refine c_rs ?_
              refine sMV h (fun a h => ?_)
              refine sX h (x_bin h.k rfl rfl rfl ib_eql) (fun a h => ?_)
              refine sMV h (fun a h => ?_)
              refine q_grp h 4 (t := 64) 68 ((decide (w64 (Int.tdiv (a1.length : Int) 4) = 8)) && (decide (Int.tmod x29 8 = 4))) rfl (fun hB2 => ?_) (fun hB2 => ?_) (fun a w h => ?_)
              · refine g_yes h rfl rfl rfl rfl hB2 ?_
                refine sMV h (fun a h => ?_)
                refine g_yes h rfl rfl rfl rfl hB2 ?_
                refine sX h (x_bin h.k rfl rfl rfl (ib_remw (by decide))) (fun a h => ?_)
                refine g_yes h rfl rfl rfl rfl hB2 ?_
                refine sX h (x_bin h.k rfl rfl rfl ib_eql) (fun a h => ?_)
                refine sX h (x_pick (u' := undef) h.k rfl rfl (fun _ => rfl) (fun hh => absurd (hB2.symm.trans hh) (by decide))) (fun a h => ?_)
                exact (h.mid 3 rfl).val (by first | rfl | (rw [hB2]; first | rfl | simp))
              · refine g_no h rfl rfl rfl rfl hB2 rfl (by decide) (fun a h => ?_)
                refine g_no h rfl rfl rfl rfl hB2 rfl (by decide) (fun a h => ?_)
                refine g_no h rfl rfl rfl rfl hB2 rfl (by decide) (fun a h => ?_)
                refine sX h (x_pick (u' := undef) h.k rfl rfl (fun hh => absurd (hB2.symm.trans hh) (by decide)) (fun _ => rfl)) (fun a h => ?_)
                exact (h.mid 3 rfl).val (by first | rfl | (rw [hB2]; first | rfl | simp))
              refine sAV h (fun a h => ?_)
              refine l_end ?_
              refine c_cond h rfl (fun hb => ?_) (fun hb => ?_)
              · rw [if_pos hb] at hc127
                refine c_r ?_
                refine sMV h (fun a h => ?_)
                refine sMV h (fun a h => ?_)
                obtain ⟨x170, h171, hc127⟩ := bsome hc127
                have h := h.pick [0, 2, 1] (by decide) rfl
                have hX := aes_swapped_at0_aes_Cipher_1_ok Fu (S0 := S23) (x31, x35, x39) g1 A32 c33 k36 k40 hs34 hs37 hl38 hs41 hl42 x121 _ h171 _ (h.sub (Ls := [.box g1 97 (([.slice A32 x31.length c33] : List Value) ++ (k36 ++ k40))]))
                refine q_callY (Ls := [.box g1 97 (([.slice A32 x31.length c33] : List Value) ++ (k36 ++ k40))]) hX h up25 rfl rfl rfl (by decide) Try.func88 rfl rfl rfl (fun a w v L1 S173 hR le175 up174 h => ?_)
                obtain ⟨A176, c177, k179, k182, rfl, rfl, hs178, hs180, hl181, hs183, hl184, _⟩ := hR
                refine sAV h (fun a h => ?_)
                refine l_nil ?_
                refine e_blkN ?_
                refine e_thenN ?_
                have h := h.pick [0, 2, 1] (by decide) rfl
                exact ⟨S173, x26, x170.1, x170.2.1, A176, c177, x170.2.2.1, k179, x170.2.2.2, k182, (Option.some.inj hc127), le175, up174, hs178, hs180, hl181, hs183, hl184, h.has (by exact ⟨rfl, rfl, rfl, rfl, rfl, rfl, rfl, rfl, rfl, trivial⟩)⟩
              · rw [if_neg (by rw [hb]; decide)] at hc127
                refine wp_skip ?_
                refine e_blkN ?_
                refine e_thenN ?_
                exact ⟨S23, x26, x121, x31, A32, c33, x35, k36, x39, k40, (Option.some.inj hc127), (Snap.le.refl _), up25, hs34, hs37, hl38, hs41, hl42, h.has (by exact ⟨rfl, rfl, rfl, rfl, rfl, rfl, rfl, rfl, rfl, trivial⟩)⟩
          · rintro a w ⟨S128, x131, x132, x133, A134, c135, x137, k138, x141, k142, rfl, le129, up130, hs136, hs139, hl140, hs143, hl144, h⟩
            try dsimp only at hc71
            refine c_r ?_
            refine sMV h (fun a h => ?_)
            refine sMV h (fun a h => ?_)
            refine sMV h (fun a h => ?_)
            refine sMV h (fun a h => ?_)
            refine sMV h (fun a h => ?_)
            refine sX h (x_bin h.k rfl rfl rfl (ib_sub rfl)) (fun a h => ?_)
            obtain ⟨m185, h186, hc71⟩ := bsome hc71
            obtain ⟨hi187, hm188⟩ := ix_some h186
            obtain ⟨g190, hA189⟩ := h.m.rowHead (i := 1) rfl (Nat.lt_of_le_of_lt (Nat.zero_le _) hm188)
            refine sX h (x_iaddrE h.k rfl Try.underlying95 sz_uint32 hA189 rfl rfl hi187 hm188) (fun a h => ?_)
            obtain ⟨x191, h192, hc71⟩ := bsome hc71
            obtain ⟨u193, hv194, hu195⟩ := ((hq47.mono le129)).cell rfl h192
            cases hu195
            refine sX h (x_ld h.k rfl Try.underlying106 rfl rfl (h.m.cellRowE (i := 1) rfl hA189 _ (by rw [Nat.mul_one]; exact hv194))) (fun a h => ?_)
            refine sMV h (fun a h => ?_)
            refine sX h (x_bin h.k rfl rfl rfl (ib_xor (u32_xor_ x191 x132))) (fun a h => ?_)
            obtain ⟨m196, h197, hc71⟩ := bsome hc71
            obtain ⟨hi198, hm199⟩ := ix_some h197
            obtain ⟨g201, hA200⟩ := h.m.rowHead (i := 1) rfl (Nat.lt_of_le_of_lt (Nat.zero_le _) hm199)
            refine sX h (x_iaddrE h.k rfl Try.underlying95 sz_uint32 hA200 rfl rfl hi198 hm199) (fun a h => ?_)
            refine q_setRow (T := ty32) (q := (x191 ^^^ x132)) h rfl rfl rfl sz_uint32 hA200 rfl rfl 1 rfl rfl (hq47.mono le129) rfl (by first | exact hm199 | simpa using hm199) (fun a w cs202 hq203 h => ?_)
            have hl204 : x43.length = (x43.set m196 (x191 ^^^ x132)).length := by simp only [List.length_set]
            rw [hl204] at h
            refine l_nil ?_
            refine e_blkN ?_
            refine e_thenN ?_
            exact ⟨S128, x131, x133, A134, c135, x137, k138, x141, k142, (x43.set m196 (x191 ^^^ x132)), A44, c45, cs202, (Option.some.inj hc71), le129, up130, hs136, hs139, hl140, hs143, hl144, hq203, h.has (by exact ⟨rfl, rfl, rfl, rfl, rfl, rfl, rfl, trivial⟩)⟩
      · rintro a w ⟨S72, x75, x76, A77, c78, x80, k81, x84, k85, x88, A89, c90, cs91, rfl, le73, up74, hs79, hs82, hl83, hs86, hl87, hq92, h⟩
        try dsimp only at hl68
        refine c_r ?_
        refine sX h (x_bin h.k rfl rfl rfl (ib_add rfl)) (fun a h => ?_)
        refine sMV h (fun a h => ?_)
        refine l_nil ?_
        exact e_thenN ⟨m69, Nat.lt_succ_self _, S72, x75, x27, w64 (x29 + 1), x76, A77, c78, x80, k81, x84, k85, x88, A89, c90, cs91, hl68, (le24.trans le73), up74, hr28, (w64_r _), hs79, hs82, hl83, hs86, hl87, hq92, h.has (by exact ⟨rfl, rfl, rfl, rfl, rfl, rfl, rfl, trivial⟩)⟩
    · rw [if_neg (of_decide_eq_false hb)] at hl68
      refine wp_exit ?_
      refine e_thenX ?_
      refine e_thenX ?_
      refine e_blkX ?_
      refine e_thenN ?_
      exact ⟨S23, x31, A32, c33, x35, k36, x39, k40, x43, A44, c45, cs46, (Option.some.inj hl68), le24, up25, hs34, hs37, hl38, hs41, hl42, hq47, h.has (by exact ⟨rfl, trivial⟩)⟩
  · rintro a w ⟨S48, x51, A52, c53, x55, k56, x59, k60, x63, A64, c65, cs66, rfl, le49, up50, hs54, hs57, hl58, hs61, hl62, hq67, h⟩
    try dsimp only at hf
    refine e_thenN ?_
    refine c_rs ?_
    refine sMV h (fun a h => ?_)
    refine sAV h (fun a h => ?_)
    refine l_end ?_
    refine wp_ret ?_
    obtain rfl := Option.some.inj hf
    subst hB0
    exact r_ret1 h rfl (rv_tmp h rfl) ⟨_, [.row (.slice A64 x63.length c65) 106 1 x63.length cs66, .box g1 97 (([.slice A52 x51.length c53] : List Value) ++ (k56 ++ k60))], _, rfl, ⟨A64, c65, cs66, A52, c53, k56, k60, rfl, rfl, hq67, hs54, hs57, hl58, hs61, hl62, trivial⟩, rfl, up50, (h.m.pick [1, 0, 2] _ (by decide) rfl)⟩
def aes_New (Fu : Nat) (a0 : List UInt8) : Option (Sum Int (((List UInt32) × (List UInt8) × (List UInt8)) × Int)) :=
  (aes_rounds Fu (a0.length : Int)).bind fun x1 => if x1 = 0 then (some (.inl 20)) else ((sbox_Box Fu).bind fun x5 => (sbox_Swap Fu x5).bind fun x14 => (aes_expand_at0_aes_Cipher_1 Fu ([], x5, x14.1) a0).bind fun x22 => some (.inr ((x22.1, x22.2.2.1, x22.2.2.2), 0)))
set_option maxRecDepth 100000 in
set_option maxHeartbeats 2000000 in
theorem aes_New_ok (Fu : Nat) {S0 : Snap} (Aa0 : Option Addr) (ca0 : Nat) (a0 : List UInt8) (hsa0 : slS ty8 S0 Aa0 ca0 a0) (r : Sum Int (((List UInt32) × (List UInt8) × (List UInt8)) × Int)) (hf : aes_New Fu a0 = some r) (w0 : World) (hm : Mem w0 (ownL ([] ++ [.sn S0])) ([] ++ [.sn S0]) w0) :
    Calls Try.prog 51 #[.slice Aa0 a0.length ca0] w0 (Ret w0 S0 [] (fun v L1 S1 => (∃ r0, r = .inl r0 ∧ v = .tuple #[.pointer none, .int .i64 r0] ∧ L1 = [] ∧ r64 r0 ∧ True) ∨ (∃ r0, r = .inr r0 ∧ ∃ (g51 : Nat), v = .tuple #[.pointer (some ⟨g51, 0, none⟩), .int .i64 r0.2] ∧ L1 = [] ∧ ptS (tyP (tyL ty32) (tyP (tyA 256 ty8) (tyA 256 ty8))) S1 g51 r0.1 ∧ r64 r0.2 ∧ True))) := by
  unfold aes_New at hf
  refine c_enterM Try.func51 rfl 32 rfl (by simp) _ hm _ rfl (fun a h => ?_)
  refine c_rs ?_
  refine sAV h (fun a h => ?_)
  refine sAV h (fun a h => ?_)
  refine l_end ?_
  refine wp_seq ?_
  refine c_rs ?_
  refine sMV h (fun a h => ?_)
  refine sX h (x_len h.k rfl Try.underlying22 rfl) (fun a h => ?_)
  obtain ⟨x1, h2, hf⟩ := bsome hf
  have hX := aes_rounds_ok Fu (S0 := snapAll _) (a0.length : Int) (len_r (hsa0).len) _ h2 _ h.startAll
  refine q_callX hX h rfl rfl rfl (by decide) Try.func66 rfl rfl rfl (fun a w v L1 S1 hR hb1 h => ?_)
  obtain ⟨rfl, rfl, hr4, _⟩ := hR
  refine sX h (x_bin h.k rfl rfl rfl ib_eql) (fun a h => ?_)
  refine l_end ?_
  refine c_cond h rfl (fun hb => ?_) (fun hb => ?_)
  · rw [if_pos (of_decide_eq_true hb)] at hf
    refine c_rs ?_
    refine sAV h (fun a h => ?_)
    refine sAV h (fun a h => ?_)
    refine l_end ?_
    refine wp_ret ?_
    refine e_thenR ?_
    rw [← Option.some.inj hf]
    exact r_ret2 h rfl (rv_tmp h rfl) (rv_tmp h rfl) ⟨_, [], _, rfl, (.inl ⟨_, rfl, ⟨rfl, rfl, (show r64 20 from ⟨by decide, by decide⟩), trivial⟩⟩), rfl, (Up.refl _ _ _), h.m⟩
  · rw [if_neg (of_decide_eq_false hb)] at hf
    refine wp_skip ?_
    refine e_thenN ?_
    refine c_rs ?_
    obtain ⟨x5, h6, hf⟩ := bsome hf
    have hX := sbox_Box_ok Fu (S0 := snapAll _)  _ h6 _ h.startAll
    refine q_callX hX h rfl rfl rfl (by decide) Try.func67 rfl rfl rfl (fun a w v L1 S1 hR hb1 h => ?_)
    obtain ⟨k8, rfl, rfl, hv9, _⟩ := hR
    obtain ⟨hs10, hl11⟩ := hv9
    have hq12 := hs10.fl (S' := S0) fl_8
    refine sX h (x_build h.k rfl [(1, .agg k8.toArray)] rfl (([.slice none 0 0] : List Value) ++ (k8 ++ (List.replicate 256 (.int .u8 0 : Value)))) (builtS Try.underlying97 zi_aes_Cipher (places := [(0, 1), (1, 256), (257, 256)]) (by kernel_rfl) (cs := ([.slice none 0 0] : List Value) ++ ((List.replicate 256 (.int .u8 0 : Value)) ++ (List.replicate 256 (.int .u8 0 : Value)))) (by kernel_rfl) (built_step (X := [.slice none 0 0]) (Y := (List.replicate 256 (.int .u8 0 : Value))) (Z := (List.replicate 256 (.int .u8 0 : Value))) (V := k8) (off := 1) (n := 256) (by simp only [List.append_assoc, List.cons_append, List.nil_append, List.append_nil]) rfl rfl (by first | rfl | simp_all) rfl ((hq12).len.trans (by rw [hl11]; rfl)) (built_nil (by simp only [List.append_assoc, List.cons_append, List.nil_append, List.append_nil]))))) (fun a h => ?_)
    refine s_box h rfl rfl rfl (by decide) rfl (cs := ([.slice none 0 0] : List Value) ++ (k8 ++ (List.replicate 256 (.int .u8 0 : Value)))) (by rfl) (fun a w g13 h => ?_)
    refine sAV h (fun a h => ?_)
    refine l_end ?_
    refine c_rs ?_
    refine sMV h (fun a h => ?_)
    refine sMV h (fun a h => ?_)
    refine sX h (x_nil h.k rfl rfl) (fun a h => ?_)
    refine sX h (x_faddr h.k rfl Try.underlying97 rfl sz_A256_uint8 rfl) (fun a h => ?_)
    refine sX h (x_ldR h.k rfl ag_A256_uint8 rfl k8 ((hq12).len.trans (by rw [hl11]; rfl)) (h.m.rangeMid (i := 0) (off := 1) (X := [.slice none 0 0]) (Y := k8) (Z := (List.replicate 256 (.int .u8 0 : Value))) rfl (by simp only [List.append_assoc, List.cons_append, List.nil_append, List.append_nil]) rfl)) (fun a h => ?_)
    obtain ⟨x14, h15, hf⟩ := bsome hf
    have hX := sbox_Swap_ok Fu (S0 := snapAll _) k8 x5 ((tyA 256 ty8).mono (h.m.leAll (i := 1) rfl) (show (tyA 256 ty8).rep S0 k8 x5 from ⟨hq12, hl11⟩)) _ h15 _ h.startAll
    refine q_callX hX h rfl rfl rfl (by decide) Try.func68 rfl rfl rfl (fun a w v L1 S1 hR hb1 h => ?_)
    obtain ⟨k17, rfl, rfl, hv18, _⟩ := hR
    obtain ⟨hs19, hl20⟩ := hv18
    have hq21 := hs19.fl (S' := S0) fl_8
    refine sMV h (fun a h => ?_)
    refine sX h (x_ext h.k rfl rfl rfl) (fun a h => ?_)
    refine sX h (x_ext h.k rfl rfl rfl) (fun a h => ?_)
    refine sX h (x_nil h.k rfl rfl) (fun a h => ?_)
    refine sX h (x_faddr h.k rfl Try.underlying97 rfl sz_A256_uint8 rfl) (fun a h => ?_)
    refine s_stP h rfl rfl rfl ag_A256_uint8 rfl (es := k17) rfl ((hq21).len.trans (by rw [hl20]; rfl)) (hq21).one 0 rfl (([.slice none 0 0] : List Value) ++ (k8)) ((List.replicate 256 (.int .u8 0 : Value))) ([]) (by simp only [List.append_assoc, List.cons_append, List.nil_append, List.append_nil]) (show (([.slice none 0 0] : List Value) ++ (k8) : List Value).length = 257 from by simp only [List.length_append, List.length_cons, List.length_nil, (show (k8 : List Value).length = 256 from ((hq12).len.trans (by rw [hl11]; rfl))), (show ((List.replicate 256 (.int .u8 0 : Value)) : List Value).length = 256 from (by first | rfl | simp_all))]) (by first | rfl | simp_all) (fun a w h => ?_)
    have h := h.parts (L' := [.box g13 97 (([.slice none 0 0] : List Value) ++ (k8 ++ k17)), .sn S0]) (by first | (simp only [List.set, List.append_assoc, List.cons_append, List.nil_append, List.append_nil]; done) | (simp only [List.set, List.append_assoc, List.cons_append, List.nil_append, List.append_nil]; rfl))
    refine l_end ?_
    refine c_rs ?_
    refine sMV h (fun a h => ?_)
    refine sMV h (fun a h => ?_)
    refine sX h (x_nil h.k rfl rfl) (fun a h => ?_)
    refine sX h (x_faddr h.k rfl Try.underlying97 rfl sz_A256_uint8 rfl) (fun a h => ?_)
    refine sMV h (fun a h => ?_)
    obtain ⟨x22, h23, hf⟩ := bsome hf
    have hX := aes_expand_at0_aes_Cipher_1_ok Fu (S0 := S0) ([], x5, x14.1) g13 none 0 k8 k17 (slS.nil _ _) hq12 hl11 hq21 hl20 Aa0 ca0 a0 hsa0 _ h23 _ (h.sub (Ls := [.box g13 97 (([.slice none 0 0] : List Value) ++ (k8 ++ k17))]))
    refine q_callY (Ls := [.box g13 97 (([.slice none 0 0] : List Value) ++ (k8 ++ k17))]) hX h (Up.refl _ _ _) rfl rfl rfl (by decide) Try.func69 rfl rfl rfl (fun a w v L1 S25 hR le27 up26 h => ?_)
    obtain ⟨A28, c29, cs30, A32, c33, k35, k38, rfl, rfl, hq31, hs34, hs36, hl37, hs39, hl40, _⟩ := hR
    refine sX h (x_nil h.k rfl rfl) (fun a h => ?_)
    refine sX h (x_faddr h.k rfl Try.underlying97 rfl sz_Suint32 rfl) (fun a h => ?_)
    have h := h.pick [0, 2, 1] (by decide) rfl
    obtain ⟨S41, le42, up43, hs44, h⟩ := q_freeze (T := ty32) h up26 hq31
    have h := h.parts (L' := [.sn S41, .box g13 97 ([] ++ ([.slice A32 x22.2.1.length c33] ++ (k35 ++ (k38))))]) (by simp only [List.append_assoc, List.cons_append, List.nil_append, List.append_nil])
    refine s_stM (X := []) (Z := k35 ++ (k38)) h rfl rfl rfl sz_Suint32 rfl rfl rfl 1 rfl rfl (fun a w h => ?_)
    have h := h.parts (L' := [.sn S41, .box g13 97 (([.slice A28 x22.1.length c29] : List Value) ++ (k35 ++ k38))]) (by first | (simp only [List.set, List.append_assoc, List.cons_append, List.nil_append, List.append_nil]; done) | (simp only [List.set, List.append_assoc, List.cons_append, List.nil_append, List.append_nil]; rfl))
    refine l_end ?_
    refine c_rs ?_
    refine sMV h (fun a h => ?_)
    refine sAV h (fun a h => ?_)
    refine sAV h (fun a h => ?_)
    refine l_end ?_
    refine wp_ret ?_
    obtain rfl := Option.some.inj hf
    have h := h.pick [1, 0] (by decide) rfl
    obtain ⟨S45, le46, up47, hc48, h⟩ := q_freezeBox h up43
    have hp49 : ptS (tyP (tyL ty32) (tyP (tyA 256 ty8) (tyA 256 ty8))) S45 g13 (x22.1, x22.2.2.1, x22.2.2.2) := ⟨([.slice A28 x22.1.length c29] : List Value) ++ (k35 ++ k38), hc48, ⟨[.slice A28 x22.1.length c29], k35 ++ k38, rfl, ⟨_, _, rfl, (hs44.mono le46)⟩, ⟨k35, k38, rfl, ⟨(hs36.mono (le42.trans le46)), hl37⟩, ⟨(hs39.mono (le42.trans le46)), hl40⟩⟩⟩⟩
    exact r_ret2 h rfl (rv_tmp h rfl) (rv_tmp h rfl) ⟨_, [], _, rfl, (.inr ⟨_, rfl, ⟨g13, rfl, rfl, hp49, (show r64 0 from ⟨by decide, by decide⟩), trivial⟩⟩), rfl, up47, h.m⟩
def aes_Cipher_is (Fu : Nat) (a0 : (List UInt32) × (List UInt8) × (List UInt8)) : Option Bool :=
  some (decide (0 < (a0.1.length : Int)))
set_option maxRecDepth 100000 in
set_option maxHeartbeats 2000000 in
theorem aes_Cipher_is_ok (Fu : Nat) {S0 : Snap} (ga0 : Nat) (a0 : (List UInt32) × (List UInt8) × (List UInt8)) (hpa0 : ptS (tyP (tyL ty32) (tyP (tyA 256 ty8) (tyA 256 ty8))) S0 ga0 a0) (r : Bool) (hf : aes_Cipher_is Fu a0 = some r) (w0 : World) (hm : Mem w0 (ownL ([] ++ [.sn S0])) ([] ++ [.sn S0]) w0) :
    Calls Try.prog 71 #[.pointer (some ⟨ga0, 0, none⟩)] w0 (Ret w0 S0 [] (fun v L1 S1 => v = .bool r ∧ L1 = [] ∧ True)) := by
  unfold aes_Cipher_is at hf
  refine c_enterM Try.func71 rfl 13 rfl (by simp) _ hm _ rfl (fun a h => ?_)
  refine c_rs ?_
  refine sAV h (fun a h => ?_)
  refine l_end ?_
  refine c_rs ?_
  refine sMV h (fun a h => ?_)
  refine sX h (x_neq_pn h.k rfl Try.underlying74 rfl rfl) (fun a h => ?_)
  refine sMV h (fun a h => ?_)
  refine q_grp h 7 (t := 5) 12 (decide (0 < (a0.1.length : Int))) rfl (fun hB2 => ?_) (fun hB2 => ?_) (fun a w h => ?_)
  · refine g_yes h rfl rfl rfl rfl hB2 ?_
    refine sMV h (fun a h => ?_)
    refine g_yes h rfl rfl rfl rfl hB2 ?_
    obtain ⟨k3, hc4, ⟨k5, k6, rfl, ⟨A7, c8, rfl, hs9⟩, ⟨k10, k11, rfl, ⟨hs12, hl13⟩, ⟨hs14, hl15⟩⟩⟩⟩ := id hpa0
    refine sX h (x_nil h.k rfl rfl) (fun a h => ?_)
    refine g_yes h rfl rfl rfl rfl hB2 ?_
    refine sX h (x_faddr h.k rfl Try.underlying97 rfl sz_Suint32 rfl) (fun a h => ?_)
    refine g_yes h rfl rfl rfl rfl hB2 ?_
    refine sX h (x_ld h.k rfl Try.underlying95 rfl rfl (hc4 _ (h.m.snOK (i := 0) rfl) 0 _ (cell_oneE (X := []) (Z := k10 ++ (k11)) (off := 0) (u := .slice A7 a0.1.length c8) (by simp only [List.append_assoc, List.cons_append, List.nil_append, List.append_nil]) rfl))) (fun a h => ?_)
    refine g_yes h rfl rfl rfl rfl hB2 ?_
    refine sX h (x_len h.k rfl Try.underlying95 rfl) (fun a h => ?_)
    refine g_yes h rfl rfl rfl rfl hB2 ?_
    refine sX h (x_bin h.k rfl rfl rfl ib_gtr) (fun a h => ?_)
    refine sX h (x_pick (u' := undef) h.k rfl rfl (fun _ => rfl) (fun hh => absurd (hB2.symm.trans hh) (by decide))) (fun a h => ?_)
    exact (h.mid 6 rfl).val (by first | rfl | (rw [hB2]; first | rfl | simp))
  · exact absurd hB2 (by decide)
  refine sAV h (fun a h => ?_)
  refine l_end ?_
  refine wp_ret ?_
  obtain rfl := Option.some.inj hf
  exact r_ret1 h rfl (rv_tmp h rfl) ⟨_, [], _, rfl, ⟨rfl, rfl, trivial⟩, rfl, (Up.refl _ _ _), h.m⟩
def aes_Cipher_is_nil0 (Fu : Nat) : Option Bool :=
  some false
set_option maxRecDepth 100000 in
set_option maxHeartbeats 2000000 in
theorem aes_Cipher_is_nil0_ok (Fu : Nat) {S0 : Snap}  (r : Bool) (hf : aes_Cipher_is_nil0 Fu = some r) (w0 : World) (hm : Mem w0 (ownL ([] ++ [.sn S0])) ([] ++ [.sn S0]) w0) :
    Calls Try.prog 71 #[.pointer none] w0 (Ret w0 S0 [] (fun v L1 S1 => v = .bool r ∧ L1 = [] ∧ True)) := by
  unfold aes_Cipher_is_nil0 at hf
  refine c_enterM Try.func71 rfl 13 rfl (by simp) _ hm _ rfl (fun a h => ?_)
  refine c_rs ?_
  refine sAV h (fun a h => ?_)
  refine l_end ?_
  refine c_rs ?_
  refine sMV h (fun a h => ?_)
  refine sX h (x_neq_nn h.k rfl Try.underlying74 rfl rfl) (fun a h => ?_)
  refine sMV h (fun a h => ?_)
  refine q_grp h 7 (t := 5) 12 false rfl (fun hB2 => ?_) (fun hB2 => ?_) (fun a w h => ?_)
  · exact absurd hB2 (by decide)
  · refine g_no h rfl rfl rfl rfl hB2 rfl (by decide) (fun a h => ?_)
    refine g_no h rfl rfl rfl rfl hB2 rfl (by decide) (fun a h => ?_)
    refine g_no h rfl rfl rfl rfl hB2 rfl (by decide) (fun a h => ?_)
    refine g_no h rfl rfl rfl rfl hB2 rfl (by decide) (fun a h => ?_)
    refine g_no h rfl rfl rfl rfl hB2 rfl (by decide) (fun a h => ?_)
    refine g_no h rfl rfl rfl rfl hB2 rfl (by decide) (fun a h => ?_)
    refine sX h (x_pick (u' := undef) h.k rfl rfl (fun hh => absurd (hB2.symm.trans hh) (by decide)) (fun _ => rfl)) (fun a h => ?_)
    exact (h.mid 6 rfl).val (by first | rfl | (rw [hB2]; first | rfl | simp))
  refine sAV h (fun a h => ?_)
  refine l_end ?_
  refine wp_ret ?_
  rw [← Option.some.inj hf]
  exact r_ret1 h rfl (rv_tmp h rfl) ⟨_, [], _, rfl, ⟨rfl, rfl, trivial⟩, rfl, (Up.refl _ _ _), h.m⟩
def aes_Cipher_Rounds (Fu : Nat) (a0 : (List UInt32) × (List UInt8) × (List UInt8)) : Option Int :=
  (aes_Cipher_is Fu a0).bind fun x1 => if (!x1) = true then (some 0) else (some (w64 ((w64 (Int.tdiv (a0.1.length : Int) 4)) - 1)))
set_option maxRecDepth 100000 in
set_option maxHeartbeats 2000000 in
theorem aes_Cipher_Rounds_ok (Fu : Nat) {S0 : Snap} (ga0 : Nat) (a0 : (List UInt32) × (List UInt8) × (List UInt8)) (hpa0 : ptS (tyP (tyL ty32) (tyP (tyA 256 ty8) (tyA 256 ty8))) S0 ga0 a0) (r : Int) (hf : aes_Cipher_Rounds Fu a0 = some r) (w0 : World) (hm : Mem w0 (ownL ([] ++ [.sn S0])) ([] ++ [.sn S0]) w0) :
    Calls Try.prog 72 #[.pointer (some ⟨ga0, 0, none⟩)] w0 (Ret w0 S0 [] (fun v L1 S1 => v = .int .i64 r ∧ L1 = [] ∧ r64 r ∧ True)) := by
  unfold aes_Cipher_Rounds at hf
  refine c_enterM Try.func72 rfl 13 rfl (by simp) _ hm _ rfl (fun a h => ?_)
  refine c_rs ?_
  refine sAV h (fun a h => ?_)
  refine l_end ?_
  refine wp_seq ?_
  refine c_rs ?_
  refine sMV h (fun a h => ?_)
  obtain ⟨x1, h2, hf⟩ := bsome hf
  have hX := aes_Cipher_is_ok Fu (S0 := snapAll _) ga0 a0 (hpa0.mono (h.m.leAll (i := 0) rfl)) _ h2 _ h.startAll
  refine q_callX hX h rfl rfl rfl (by decide) Try.func71 rfl rfl rfl (fun a w v L1 S1 hR hb1 h => ?_)
  obtain ⟨rfl, rfl, _⟩ := hR
  refine sX h (x_not h.k rfl rfl) (fun a h => ?_)
  refine l_end ?_
  refine c_cond h rfl (fun hb => ?_) (fun hb => ?_)
  · rw [if_pos hb] at hf
    refine c_rs ?_
    refine sAV h (fun a h => ?_)
    refine l_end ?_
    refine wp_ret ?_
    refine e_thenR ?_
    rw [← Option.some.inj hf]
    exact r_ret1 h rfl (rv_tmp h rfl) ⟨_, [], _, rfl, ⟨rfl, rfl, (show r64 0 from ⟨by decide, by decide⟩), trivial⟩, rfl, (Up.refl _ _ _), h.m⟩
  · rw [if_neg (by rw [hb]; decide)] at hf
    refine wp_skip ?_
    refine e_thenN ?_
    refine c_rs ?_
    refine sMV h (fun a h => ?_)
    obtain ⟨k4, hc5, ⟨k6, k7, rfl, ⟨A8, c9, rfl, hs10⟩, ⟨k11, k12, rfl, ⟨hs13, hl14⟩, ⟨hs15, hl16⟩⟩⟩⟩ := id hpa0
    refine sX h (x_nil h.k rfl rfl) (fun a h => ?_)
    refine sX h (x_faddr h.k rfl Try.underlying97 rfl sz_Suint32 rfl) (fun a h => ?_)
    refine sX h (x_ld h.k rfl Try.underlying95 rfl rfl (hc5 _ (h.m.snOK (i := 0) rfl) 0 _ (cell_oneE (X := []) (Z := k11 ++ (k12)) (off := 0) (u := .slice A8 a0.1.length c9) (by simp only [List.append_assoc, List.cons_append, List.nil_append, List.append_nil]) rfl))) (fun a h => ?_)
    refine sX h (x_len h.k rfl Try.underlying95 rfl) (fun a h => ?_)
    refine sX h (x_bin h.k rfl rfl rfl (ib_quow (by decide))) (fun a h => ?_)
    refine sX h (x_bin h.k rfl rfl rfl (ib_sub rfl)) (fun a h => ?_)
    refine sAV h (fun a h => ?_)
    refine l_end ?_
    refine wp_ret ?_
    obtain rfl := Option.some.inj hf
    exact r_ret1 h rfl (rv_tmp h rfl) ⟨_, [], _, rfl, ⟨rfl, rfl, (w64_r _), trivial⟩, rfl, (Up.refl _ _ _), h.m⟩
def aes_Cipher_add_l1 (Fu : Nat) (x33 : Int) (x60 : (List UInt8)) : Nat → Int → (List UInt8) → Option ((List UInt8))
  | 0, _, _ => none
  | k + 1, x72, x74 => if x72 < (x60.length : Int) then ((idx x60 x72).bind fun x84 => (ix 16 (w64 ((w64 (4 * x33)) + x72))).bind fun m96 => (x74[m96]?).bind fun x100 => (ix 16 (w64 ((w64 (4 * x33)) + x72))).bind fun m105 => aes_Cipher_add_l1 Fu x33 x60 k (w64 (x72 + 1)) (x74.set m105 (x100 ^^^ x84))) else (some x74)
def aes_Cipher_add_l0 (Fu : Nat) (x18 : List UInt32) : Nat → Int → (List UInt8) → Option ((List UInt8))
  | 0, _, _ => none
  | k + 1, x33, x35 => if x33 < (x18.length : Int) then ((idx x18 x33).bind fun x48 => (word_Put32 Fu x48).bind fun x60 => (aes_Cipher_add_l1 Fu x33 x60 Fu 0 x35).bind fun x78 => aes_Cipher_add_l0 Fu x18 k (w64 (x33 + 1)) x78) else (some x35)
def aes_Cipher_add (Fu : Nat) (a0 : (List UInt32) × (List UInt8) × (List UInt8)) (a1 : List UInt8) (a2 : Int) : Option ((List UInt8)) :=
  (sub a0.1 (w64 (4 * a2)) (w64 ((w64 (4 * a2)) + 4))).bind fun x18 => (aes_Cipher_add_l0 Fu x18 Fu 0 a1).bind fun x42 => some x42
set_option maxRecDepth 100000 in
set_option maxHeartbeats 2000000 in
theorem aes_Cipher_add_ok (Fu : Nat) {S0 : Snap} (ga0 : Nat) (a0 : (List UInt32) × (List UInt8) × (List UInt8)) (hpa0 : ptS (tyP (tyL ty32) (tyP (tyA 256 ty8) (tyA 256 ty8))) S0 ga0 a0) (a1 : List UInt8) (g1 : Nat) (k2 : List Value) (hs3 : reps ty8 S0 k2 a1) (hl4 : a1.length = 16) (a2 : Int) (hra2 : r64 a2) (r : (List UInt8)) (hf : aes_Cipher_add Fu a0 a1 a2 = some r) (w0 : World) (hm : Mem w0 (ownL ([.box g1 79 k2] ++ [.sn S0])) ([.box g1 79 k2] ++ [.sn S0]) w0) :
    Calls Try.prog 73 #[.pointer (some ⟨ga0, 0, none⟩), .pointer (some ⟨g1, 0, none⟩), .int .i64 a2] w0 (Ret w0 S0 [.box g1 79 k2] (fun v L1 S1 => ∃ (k114 : List Value), v = .tuple #[] ∧ L1 = [.box g1 79 k114] ∧ reps ty8 S1 k114 r ∧ r.length = 16 ∧ True)) := by
  unfold aes_Cipher_add at hf
  obtain ⟨B0, hB0⟩ : ∃ B0, B0 = (ownL ([.box g1 79 k2] ++ [.sn S0])) := ⟨_, rfl⟩
  rw [← hB0] at hm
  refine c_enterM Try.func73 rfl 48 rfl (by simp) _ hm _ rfl (fun a h => ?_)
  refine c_rs ?_
  refine sMV h (fun a h => ?_)
  obtain ⟨k5, hc6, ⟨k7, k8, rfl, ⟨A9, c10, rfl, hs11⟩, ⟨k12, k13, rfl, ⟨hs14, hl15⟩, ⟨hs16, hl17⟩⟩⟩⟩ := id hpa0
  refine sX h (x_nil h.k rfl rfl) (fun a h => ?_)
  refine sX h (x_faddr h.k rfl Try.underlying97 rfl sz_Suint32 rfl) (fun a h => ?_)
  refine sX h (x_ld h.k rfl Try.underlying95 rfl rfl (hc6 _ (h.m.snOK (i := 1) rfl) 0 _ (cell_oneE (X := []) (Z := k12 ++ (k13)) (off := 0) (u := .slice A9 a0.1.length c10) (by simp only [List.append_assoc, List.cons_append, List.nil_append, List.append_nil]) rfl))) (fun a h => ?_)
  refine sMV h (fun a h => ?_)
  refine sX h (x_bin h.k rfl rfl rfl (ib_mul rfl)) (fun a h => ?_)
  refine sMV h (fun a h => ?_)
  refine sX h (x_bin h.k rfl rfl rfl (ib_mul rfl)) (fun a h => ?_)
  refine sX h (x_bin h.k rfl rfl rfl (ib_add rfl)) (fun a h => ?_)
  obtain ⟨x18, h19, hf⟩ := bsome hf
  obtain ⟨m20, n21, hi22, hi23, hm24, hm25, hr26⟩ := sub_some h19
  have hs27 := slS.sub (hs11) hm24 hm25 (Nat.le_trans hm25 (hs11).1) (Nat.le_refl _) hr26
  refine sX h (x_sliceE h.k rfl Try.underlying95 sz_uint32 rfl c10 hr26 (bd_some rfl hi22) (bd_some rfl hi23) (bd_none rfl) (by intro hh; cases hh) hm24 hm25 (Nat.le_trans hm25 (hs11).1) (Nat.le_refl _)) (fun a h => ?_)
  refine sX h (x_len h.k rfl Try.underlying95 rfl) (fun a h => ?_)
  refine sMV h (fun a h => ?_)
  refine l_end ?_
  obtain ⟨o28, hl29, hf⟩ := bsome hf
  refine c_fin (fun a w => ∃ (S39 : Snap), ∃ (x42 : List UInt8), ∃ (k43 : List Value), x42 = o28 ∧ Snap.le S0 S39 ∧ Up B0 w0 S0 S39 ∧ reps ty8 S39 k43 x42 ∧ x42.length = 16 ∧ St 48 w0 B0 [] [.box g1 79 k43, .sn S39] a w) ?_ ?_
  · refine wp_block ?_
    refine c_loop (fun m47 a w => ∃ (S30 : Snap), ∃ (x33 : Int), ∃ (x35 : List UInt8), ∃ (k36 : List Value), aes_Cipher_add_l0 Fu x18 m47 x33 x35 = some o28 ∧ Snap.le S0 S30 ∧ Up B0 w0 S0 S30 ∧ r64 x33 ∧ reps ty8 S30 k36 x35 ∧ x35.length = 16 ∧ St 48 w0 B0 [(1, .pointer (some ⟨g1, 0, none⟩)), (19, .slice (sA A9 c10 m20 1) x18.length (c10 - m20)), (20, .int .i64 (x18.length : Int)), (21, .int .i64 x33)] [.box g1 79 k36, .sn S30] a w) Fu ⟨S0, 0, a1, k2, hl29, (Snap.le.refl _), (Up.refl _ _ _), (show r64 0 from ⟨by decide, by decide⟩), hs3, hl4, h.has (by exact ⟨rfl, rfl, rfl, rfl, trivial⟩)⟩ (fun m47 a w hI => ?_)
    obtain ⟨S30, x33, x35, k36, hl46, le31, up32, hr34, hs37, hl38, h⟩ := hI
    obtain _ | m47 := m47
    · rw [aes_Cipher_add_l0] at hl46; cases hl46
    rw [aes_Cipher_add_l0] at hl46
    refine c_rs ?_
    refine sX h (x_bin h.k rfl rfl rfl ib_lss) (fun a h => ?_)
    refine l_end ?_
    refine c_cs h rfl (fun hb => ?_) (fun hb => ?_)
    · rw [if_pos (of_decide_eq_true hb)] at hl46
      refine wp_skip ?_
      refine e_thenN ?_
      refine wp_seq ?_
      refine wp_block ?_
      refine c_rs ?_
      refine sMV h (fun a h => ?_)
      obtain ⟨x48, h52, hl46⟩ := bsome hl46
      obtain ⟨m49, hi53, hm54, hx55⟩ := idx_some h52
      obtain ⟨b50, off51, k56, hA57, hu58, hc59⟩ := ((hs27.mono le31)).at1 rfl hx55 (h.m.snOK (i := 1) rfl)
      cases hu58
      refine sX h (x_iaddrE h.k rfl Try.underlying95 sz_uint32 hA57 rfl rfl hi53 hm54) (fun a h => ?_)
      refine sX h (x_ld h.k rfl Try.underlying106 rfl rfl (hc59 _ (h.m.snOK (i := 1) rfl))) (fun a h => ?_)
      refine sAV h (fun a h => ?_)
      refine sAV h (fun a h => ?_)
      refine l_end ?_
      refine c_rs ?_
      refine sMV h (fun a h => ?_)
      obtain ⟨x60, h61, hl46⟩ := bsome hl46
      have h := h.pick [1, 0] (by decide) rfl
      have hX := word_Put32_ok Fu (S0 := S30) x48 _ h61 _ (h.sub (Ls := []))
      refine q_callY (Ls := []) hX h up32 rfl rfl rfl (by decide) Try.func90 rfl rfl rfl (fun a w v L1 S63 hR le65 up64 h => ?_)
      obtain ⟨A66, c67, rfl, rfl, hs68, hf69, _⟩ := hR
      refine sX h (x_len h.k rfl Try.underlying22 rfl) (fun a h => ?_)
      refine sMV h (fun a h => ?_)
      refine l_end ?_
      obtain ⟨o70, hl71, hl46⟩ := bsome hl46
      refine c_fin (fun a w => ∃ (x78 : List UInt8), ∃ (k79 : List Value), x78 = o70 ∧ reps ty8 S63 k79 x78 ∧ x78.length = 16 ∧ St 48 w0 B0 [(1, .pointer (some ⟨g1, 0, none⟩)), (19, .slice (sA A9 c10 m20 1) x18.length (c10 - m20)), (20, .int .i64 (x18.length : Int)), (21, .int .i64 x33)] [.box g1 79 k79, .sn S63] a w) ?_ ?_
      · refine wp_block ?_
        have h := h.pick [1, 0] (by decide) rfl
        refine c_loop (fun m83 a w => ∃ (x72 : Int), ∃ (x74 : List UInt8), ∃ (k75 : List Value), aes_Cipher_add_l1 Fu x33 x60 m83 x72 x74 = some o70 ∧ r64 x72 ∧ reps ty8 S63 k75 x74 ∧ x74.length = 16 ∧ St 48 w0 B0 [(1, .pointer (some ⟨g1, 0, none⟩)), (6, .int .i64 x33), (19, .slice (sA A9 c10 m20 1) x18.length (c10 - m20)), (20, .int .i64 (x18.length : Int)), (21, .int .i64 x33), (27, .slice A66 x60.length c67), (28, .int .i64 (x60.length : Int)), (29, .int .i64 x72)] [.box g1 79 k75, .sn S63] a w) Fu ⟨0, x35, k36, hl71, (show r64 0 from ⟨by decide, by decide⟩), (hs37.mono le65), hl38, h.has (by exact ⟨rfl, rfl, rfl, rfl, rfl, rfl, rfl, rfl, trivial⟩)⟩ (fun m83 a w hI => ?_)
        obtain ⟨x72, x74, k75, hl82, hr73, hs76, hl77, h⟩ := hI
        obtain _ | m83 := m83
        · rw [aes_Cipher_add_l1] at hl82; cases hl82
        rw [aes_Cipher_add_l1] at hl82
        refine c_rs ?_
        refine sX h (x_bin h.k rfl rfl rfl ib_lss) (fun a h => ?_)
        refine l_end ?_
        refine c_cs h rfl (fun hb => ?_) (fun hb => ?_)
        · rw [if_pos (of_decide_eq_true hb)] at hl82
          refine wp_skip ?_
          refine e_thenN ?_
          refine wp_seq ?_
          refine wp_block ?_
          refine c_rs ?_
          refine sMV h (fun a h => ?_)
          obtain ⟨x84, h88, hl82⟩ := bsome hl82
          obtain ⟨m85, hi89, hm90, hx91⟩ := idx_some h88
          obtain ⟨b86, off87, k92, hA93, hu94, hc95⟩ := (hs68).at1 rfl hx91 (h.m.snOK (i := 1) rfl)
          cases hu94
          refine sX h (x_iaddrE h.k rfl Try.underlying22 sz_uint8 hA93 rfl rfl hi89 hm90) (fun a h => ?_)
          refine sX h (x_ld h.k rfl Try.underlying5 rfl rfl (hc95 _ (h.m.snOK (i := 1) rfl))) (fun a h => ?_)
          refine sAV h (fun a h => ?_)
          refine sAV h (fun a h => ?_)
          refine l_end ?_
          -- region 6 draws
          obtain ⟨m96, h97, hl82⟩ := bsome hl82
          obtain ⟨x100, h101, hl82⟩ := bsome hl82
          obtain ⟨m105, h106, hl82⟩ := bsome hl82
          refine d_start h (Mem _ _ _) 12 13 rfl (by kernel_rfl) (fun _ _ _ _ _ h => h) (fun _ h => h) (fun Q a w HE HN h HS => ?_)
          refine d_takeP h (fun _ => HS) HN 0 rfl (by kernel_rfl) (by kernel_rfl) (by kernel_rfl) (by decide) rfl rfl (by decide) (fun w' => x_move h.k _ rfl rfl) (fun a h => ?_)
          refine d_takeP h (fun _ => HS) HN 1 rfl (by kernel_rfl) (by kernel_rfl) (by kernel_rfl) (by decide) rfl rfl (by decide) (fun w' => x_move h.k _ rfl rfl) (fun a h => ?_)
          refine d_takeP h (fun _ => HS) HN 2 rfl (by kernel_rfl) (by kernel_rfl) (by kernel_rfl) (by decide) rfl rfl (by decide) (fun w' => x_bin h.k rfl rfl rfl (ib_mul rfl)) (fun a h => ?_)
          refine d_takeP h (fun _ => HS) HN 3 rfl (by kernel_rfl) (by kernel_rfl) (by kernel_rfl) (by decide) rfl rfl (by decide) (fun w' => x_move h.k _ rfl rfl) (fun a h => ?_)
          refine d_takeP h (fun _ => HS) HN 4 rfl (by kernel_rfl) (by kernel_rfl) (by kernel_rfl) (by decide) rfl rfl (by decide) (fun w' => x_bin h.k rfl rfl rfl (ib_add rfl)) (fun a h => ?_)
          refine d_takeP h (fun _ => HS) HN 5 rfl (by kernel_rfl) (by kernel_rfl) (by kernel_rfl) (by decide) rfl rfl (by decide) (fun w' => x_nil h.k rfl rfl) (fun a h => ?_)
          obtain ⟨hi98, hm99⟩ := ix_some h97
          refine d_takeP h (fun _ => HS) HN 6 rfl (by kernel_rfl) (by kernel_rfl) (by kernel_rfl) (by decide) rfl rfl (by decide) (fun w' => x_iaddrA h.k rfl Try.underlying79 sz_uint8 rfl rfl hi98 hm99 rfl) (fun a h => ?_)
          obtain ⟨u102, hv103, hu104⟩ := (hs76).cell rfl h101
          cases hu104
          refine d_take h HS HN 7 rfl (by kernel_rfl) (by kernel_rfl) (by kernel_rfl) (by kernel_rfl) (by kernel_rfl) rfl rfl (by decide) (fun w' hw => x_ld h.k rfl Try.underlying5 rfl rfl ((hw.cell (i := 0) rfl _).trans (by rw [Nat.zero_add, Nat.mul_one]; exact hv103))) (fun a h => ?_)
          refine d_takeP h (fun _ => HS) HN 8 rfl (by kernel_rfl) (by kernel_rfl) (by kernel_rfl) (by decide) rfl rfl (by decide) (fun w' => x_move h.k _ rfl rfl) (fun a h => ?_)
          refine d_takeP h (fun _ => HS) HN 9 rfl (by kernel_rfl) (by kernel_rfl) (by kernel_rfl) (by decide) rfl rfl (by decide) (fun w' => x_bin h.k rfl rfl rfl (ib_xor (u8_xor_ x100 x84))) (fun a h => ?_)
          refine d_takeP h (fun _ => HS) HN 10 rfl (by kernel_rfl) (by kernel_rfl) (by kernel_rfl) (by decide) rfl rfl (by decide) (fun w' => x_nil h.k rfl rfl) (fun a h => ?_)
          obtain ⟨hi107, hm108⟩ := ix_some h106
          refine d_takeP h (fun _ => HS) HN 11 rfl (by kernel_rfl) (by kernel_rfl) (by kernel_rfl) (by decide) rfl rfl (by decide) (fun w' => x_iaddrA h.k rfl Try.underlying79 sz_uint8 rfl rfl hi107 hm108 rfl) (fun a h => ?_)
          refine d_alone 12 rfl (by kernel_rfl) (fun K hK => ?_)
          refine q_setBox (T := ty8) (q := (x100 ^^^ x84)) h rfl rfl rfl sz_uint8 rfl rfl 0 rfl rfl hs76 rfl (by first | omega | (simp_all; done)) (fun a w cs109 hq110 h => ?_)
          have hl111 : (x74.set m105 (x100 ^^^ x84)).length = 16 := by rw [List.length_set]; exact hl77
          refine hK _ _ (fun hne _ => absurd rfl hne) ?_
          clear hK
          refine d_done (by kernel_rfl) (HE _ _ ?_) _
          refine e_blkN ?_
          refine e_thenN ?_
          refine c_r ?_
          refine sX h (x_bin h.k rfl rfl rfl (ib_add rfl)) (fun a h => ?_)
          refine sMV h (fun a h => ?_)
          refine l_nil ?_
          exact e_thenN ⟨m83, Nat.lt_succ_self _, w64 (x72 + 1), (x74.set m105 (x100 ^^^ x84)), cs109, hl82, (w64_r _), hq110, hl111, h.has (by exact ⟨rfl, rfl, rfl, rfl, rfl, rfl, rfl, rfl, trivial⟩)⟩
        · rw [if_neg (of_decide_eq_false hb)] at hl82
          refine wp_exit ?_
          refine e_thenX ?_
          refine e_thenX ?_
          refine e_blkX ?_
          refine e_thenN ?_
          exact ⟨x74, k75, (Option.some.inj hl82), hs76, hl77, h.has (by exact ⟨rfl, rfl, rfl, rfl, trivial⟩)⟩
      · rintro a w ⟨x78, k79, rfl, hs80, hl81, h⟩
        refine e_blkN ?_
        refine e_thenN ?_
        refine c_r ?_
        refine sX h (x_bin h.k rfl rfl rfl (ib_add rfl)) (fun a h => ?_)
        refine sMV h (fun a h => ?_)
        refine l_nil ?_
        exact e_thenN ⟨m47, Nat.lt_succ_self _, S63, w64 (x33 + 1), x78, k79, hl46, (le31.trans le65), up64, (w64_r _), hs80, hl81, h.has (by exact ⟨rfl, rfl, rfl, rfl, trivial⟩)⟩
    · rw [if_neg (of_decide_eq_false hb)] at hl46
      refine wp_exit ?_
      refine e_thenX ?_
      refine e_thenX ?_
      refine e_blkX ?_
      refine e_thenN ?_
      exact ⟨S30, x35, k36, (Option.some.inj hl46), le31, up32, hs37, hl38, h.has trivial⟩
  · rintro a w ⟨S39, x42, k43, rfl, le40, up41, hs44, hl45, h⟩
    rw [← Option.some.inj hf]
    subst hB0
    exact r_ret0 h rfl  ⟨_, [.box g1 79 k43], _, rfl, ⟨k43, rfl, rfl, hs44, hl45, trivial⟩, rfl, up41, h.m⟩
def aes_twice (Fu : Nat) (a0 : UInt8) : Option UInt8 :=
  some ((u8_shl a0 1) ^^^ ((27 : UInt8) &&& (-(u8_shr a0 7))))
set_option maxRecDepth 100000 in
set_option maxHeartbeats 2000000 in
theorem aes_twice_ok (Fu : Nat) {S0 : Snap} (a0 : UInt8) (r : UInt8) (hf : aes_twice Fu a0 = some r) (w0 : World) (hm : Mem w0 (ownL ([] ++ [.sn S0])) ([] ++ [.sn S0]) w0) :
    Calls Try.prog 91 #[.int .u8 (a0.toNat : Int)] w0 (Ret w0 S0 [] (fun v L1 S1 => v = .int .u8 (r.toNat : Int) ∧ L1 = [] ∧ True)) := by
  unfold aes_twice at hf
  refine c_enterM Try.func91 rfl 10 rfl (by simp) _ hm _ rfl (fun a h => ?_)
  refine c_rs ?_
  refine sAV h (fun a h => ?_)
  refine l_end ?_
  refine c_rs ?_
  refine sMV h (fun a h => ?_)
  refine sX h (x_bin h.k rfl rfl rfl (ib_shl_u8 a0 1)) (fun a h => ?_)
  refine sMV h (fun a h => ?_)
  refine sX h (x_bin h.k rfl rfl rfl (ib_shr_u8 a0 7)) (fun a h => ?_)
  refine sX h (x_neg h.k rfl rfl (u8_neg _)) (fun a h => ?_)
  refine sX h (x_bin h.k rfl rfl rfl (ib_and (u8_and_ (27 : UInt8) (-(u8_shr a0 7))))) (fun a h => ?_)
  refine sX h (x_bin h.k rfl rfl rfl (ib_xor (u8_xor_ (u8_shl a0 1) ((27 : UInt8) &&& (-(u8_shr a0 7)))))) (fun a h => ?_)
  refine sAV h (fun a h => ?_)
  refine l_end ?_
  refine wp_ret ?_
  obtain rfl := Option.some.inj hf
  exact r_ret1 h rfl (rv_tmp h rfl) ⟨_, [], _, rfl, ⟨rfl, rfl, trivial⟩, rfl, (Up.refl _ _ _), h.m⟩
def aes_mix_l0 (Fu : Nat) : Nat → Int → (List UInt8) → Option ((List UInt8))
  | 0, _, _ => none
  | k + 1, x7, x9 => if x7 < 16 then ((ix 16 x7).bind fun m19 => (x9[m19]?).bind fun x23 => (ix 16 (w64 (x7 + 1))).bind fun m28 => (x9[m28]?).bind fun x32 => (ix 16 (w64 (x7 + 2))).bind fun m37 => (x9[m37]?).bind fun x41 => (ix 16 (w64 (x7 + 3))).bind fun m46 => (x9[m46]?).bind fun x50 => (aes_twice Fu (x23 ^^^ x32)).bind fun x55 => (ix 16 x7).bind fun m58 => (aes_twice Fu (x32 ^^^ x41)).bind fun x65 => (ix 16 (w64 (x7 + 1))).bind fun m68 => (aes_twice Fu (x41 ^^^ x50)).bind fun x75 => (ix 16 (w64 (x7 + 2))).bind fun m78 => (aes_twice Fu (x50 ^^^ x23)).bind fun x85 => (ix 16 (w64 (x7 + 3))).bind fun m88 => aes_mix_l0 Fu k (w64 (x7 + 4)) ((((x9.set m58 ((x23 ^^^ (((x23 ^^^ x32) ^^^ x41) ^^^ x50)) ^^^ x55)).set m68 ((x32 ^^^ (((x23 ^^^ x32) ^^^ x41) ^^^ x50)) ^^^ x65)).set m78 ((x41 ^^^ (((x23 ^^^ x32) ^^^ x41) ^^^ x50)) ^^^ x75)).set m88 ((x50 ^^^ (((x23 ^^^ x32) ^^^ x41) ^^^ x50)) ^^^ x85))) else (some x9)
def aes_mix (Fu : Nat) (a0 : List UInt8) : Option ((List UInt8)) :=
  (aes_mix_l0 Fu Fu 0 a0).bind fun x13 => some x13
set_option maxRecDepth 100000 in
set_option maxHeartbeats 2000000 in
theorem aes_mix_ok (Fu : Nat) {S0 : Snap} (csa0 : List Value) (a0 : List UInt8) (hsa0 : (tyA 16 ty8).rep S0 csa0 a0) (r : (List UInt8)) (hf : aes_mix Fu a0 = some r) (w0 : World) (hm : Mem w0 (ownL ([] ++ [.sn S0])) ([] ++ [.sn S0]) w0) :
    Calls Try.prog 80 #[.agg csa0.toArray] w0 (Ret w0 S0 [] (fun v L1 S1 => ∃ (k96 : List Value), v = .agg k96.toArray ∧ L1 = [] ∧ (tyA 16 ty8).rep S1 k96 r ∧ True)) := by
  unfold aes_mix at hf
  obtain ⟨hs1, hl2⟩ := hsa0
  refine c_enterM Try.func80 rfl 79 rfl (by simp) _ hm _ rfl (fun a h => ?_)
  refine c_rs ?_
  refine s_box h rfl rfl rfl (by decide) rfl (cs := csa0) (by rfl) (fun a w g3 h => ?_)
  refine s_alloc h rfl rfl rfl (by decide) zi_A16_uint8 rfl (fun a w g4 h => ?_)
  have h := h.parts (L' := [.box g4 79 (List.replicate 16 (.int .u8 0 : Value)), .box g3 79 csa0, .sn S0]) rfl
  refine l_end ?_
  refine wp_seq ?_
  refine c_rs ?_
  refine sAV h (fun a h => ?_)
  refine l_end ?_
  obtain ⟨o5, hl6, hf⟩ := bsome hf
  refine c_fin (fun a w => ∃ (x13 : List UInt8), ∃ (k14 : List Value), x13 = o5 ∧ reps ty8 S0 k14 x13 ∧ x13.length = 16 ∧ St 79 w0 (ownL ([] ++ [.sn S0])) [(1, .pointer (some ⟨g3, 0, none⟩)), (2, .pointer (some ⟨g4, 0, none⟩))] [.box g3 79 k14, .box g4 79 (List.replicate 16 (.int .u8 0 : Value)), .sn S0] a w) ?_ ?_
  · refine wp_block ?_
    have h := h.pick [1, 0, 2] (by decide) rfl
    refine c_loop (fun m18 a w => ∃ (x7 : Int), ∃ (x9 : List UInt8), ∃ (k10 : List Value), aes_mix_l0 Fu m18 x7 x9 = some o5 ∧ r64 x7 ∧ reps ty8 S0 k10 x9 ∧ x9.length = 16 ∧ St 79 w0 (ownL ([] ++ [.sn S0])) [(1, .pointer (some ⟨g3, 0, none⟩)), (2, .pointer (some ⟨g4, 0, none⟩)), (3, .int .i64 x7)] [.box g3 79 k10, .box g4 79 (List.replicate 16 (.int .u8 0 : Value)), .sn S0] a w) Fu ⟨0, a0, csa0, hl6, (show r64 0 from ⟨by decide, by decide⟩), hs1, hl2, h.has (by exact ⟨rfl, rfl, rfl, trivial⟩)⟩ (fun m18 a w hI => ?_)
    obtain ⟨x7, x9, k10, hl17, hr8, hs11, hl12, h⟩ := hI
    obtain _ | m18 := m18
    · rw [aes_mix_l0] at hl17; cases hl17
    rw [aes_mix_l0] at hl17
    refine wp_seq ?_
    refine c_rs ?_
    refine sMV h (fun a h => ?_)
    refine sX h (x_bin h.k rfl rfl rfl ib_lss) (fun a h => ?_)
    refine l_end ?_
    refine c_cond h rfl (fun hb => ?_) (fun hb => ?_)
    · rw [if_pos (of_decide_eq_true hb)] at hl17
      refine wp_skip ?_
      refine e_thenN ?_
      refine wp_seq ?_
      refine wp_block ?_
      refine wp_seq ?_
      -- region 4 draws
      obtain ⟨m19, h20, hl17⟩ := bsome hl17
      obtain ⟨x23, h24, hl17⟩ := bsome hl17
      obtain ⟨m28, h29, hl17⟩ := bsome hl17
      obtain ⟨x32, h33, hl17⟩ := bsome hl17
      obtain ⟨m37, h38, hl17⟩ := bsome hl17
      obtain ⟨x41, h42, hl17⟩ := bsome hl17
      obtain ⟨m46, h47, hl17⟩ := bsome hl17
      obtain ⟨x50, h51, hl17⟩ := bsome hl17
      refine d_start h (Mem _ _ _) 19 19 rfl (by kernel_rfl) (fun _ _ _ _ _ h => h) (fun _ h => h) (fun Q a w HE HN h HS => ?_)
      refine d_takeP h (fun _ => HS) HN 0 rfl (by kernel_rfl) (by kernel_rfl) (by kernel_rfl) (by decide) rfl rfl (by decide) (fun w' => x_move h.k _ rfl rfl) (fun a h => ?_)
      obtain ⟨hi21, hm22⟩ := ix_some h20
      refine d_takeP h (fun _ => HS) HN 1 rfl (by kernel_rfl) (by kernel_rfl) (by kernel_rfl) (by decide) rfl rfl (by decide) (fun w' => x_iaddrA h.k rfl Try.underlying79 sz_uint8 rfl rfl hi21 hm22 rfl) (fun a h => ?_)
      obtain ⟨u25, hv26, hu27⟩ := (hs11).cell rfl h24
      cases hu27
      refine d_take h HS HN 2 rfl (by kernel_rfl) (by kernel_rfl) (by kernel_rfl) (by kernel_rfl) (by kernel_rfl) rfl rfl (by decide) (fun w' hw => x_ld h.k rfl Try.underlying5 rfl rfl ((hw.cell (i := 0) rfl _).trans (by rw [Nat.zero_add, Nat.mul_one]; exact hv26))) (fun a h => ?_)
      refine d_takeP h (fun _ => HS) HN 3 rfl (by kernel_rfl) (by kernel_rfl) (by kernel_rfl) (by decide) rfl rfl (by decide) (fun w' => x_move h.k _ rfl rfl) (fun a h => ?_)
      refine d_takeP h (fun _ => HS) HN 4 rfl (by kernel_rfl) (by kernel_rfl) (by kernel_rfl) (by decide) rfl rfl (by decide) (fun w' => x_bin h.k rfl rfl rfl (ib_add rfl)) (fun a h => ?_)
      obtain ⟨hi30, hm31⟩ := ix_some h29
      refine d_takeP h (fun _ => HS) HN 5 rfl (by kernel_rfl) (by kernel_rfl) (by kernel_rfl) (by decide) rfl rfl (by decide) (fun w' => x_iaddrA h.k rfl Try.underlying79 sz_uint8 rfl rfl hi30 hm31 rfl) (fun a h => ?_)
      obtain ⟨u34, hv35, hu36⟩ := (hs11).cell rfl h33
      cases hu36
      refine d_take h HS HN 6 rfl (by kernel_rfl) (by kernel_rfl) (by kernel_rfl) (by kernel_rfl) (by kernel_rfl) rfl rfl (by decide) (fun w' hw => x_ld h.k rfl Try.underlying5 rfl rfl ((hw.cell (i := 0) rfl _).trans (by rw [Nat.zero_add, Nat.mul_one]; exact hv35))) (fun a h => ?_)
      refine d_takeP h (fun _ => HS) HN 7 rfl (by kernel_rfl) (by kernel_rfl) (by kernel_rfl) (by decide) rfl rfl (by decide) (fun w' => x_move h.k _ rfl rfl) (fun a h => ?_)
      refine d_takeP h (fun _ => HS) HN 8 rfl (by kernel_rfl) (by kernel_rfl) (by kernel_rfl) (by decide) rfl rfl (by decide) (fun w' => x_bin h.k rfl rfl rfl (ib_add rfl)) (fun a h => ?_)
      obtain ⟨hi39, hm40⟩ := ix_some h38
      refine d_takeP h (fun _ => HS) HN 9 rfl (by kernel_rfl) (by kernel_rfl) (by kernel_rfl) (by decide) rfl rfl (by decide) (fun w' => x_iaddrA h.k rfl Try.underlying79 sz_uint8 rfl rfl hi39 hm40 rfl) (fun a h => ?_)
      obtain ⟨u43, hv44, hu45⟩ := (hs11).cell rfl h42
      cases hu45
      refine d_take h HS HN 10 rfl (by kernel_rfl) (by kernel_rfl) (by kernel_rfl) (by kernel_rfl) (by kernel_rfl) rfl rfl (by decide) (fun w' hw => x_ld h.k rfl Try.underlying5 rfl rfl ((hw.cell (i := 0) rfl _).trans (by rw [Nat.zero_add, Nat.mul_one]; exact hv44))) (fun a h => ?_)
      refine d_takeP h (fun _ => HS) HN 11 rfl (by kernel_rfl) (by kernel_rfl) (by kernel_rfl) (by decide) rfl rfl (by decide) (fun w' => x_move h.k _ rfl rfl) (fun a h => ?_)
      refine d_takeP h (fun _ => HS) HN 12 rfl (by kernel_rfl) (by kernel_rfl) (by kernel_rfl) (by decide) rfl rfl (by decide) (fun w' => x_bin h.k rfl rfl rfl (ib_add rfl)) (fun a h => ?_)
      obtain ⟨hi48, hm49⟩ := ix_some h47
      refine d_takeP h (fun _ => HS) HN 13 rfl (by kernel_rfl) (by kernel_rfl) (by kernel_rfl) (by decide) rfl rfl (by decide) (fun w' => x_iaddrA h.k rfl Try.underlying79 sz_uint8 rfl rfl hi48 hm49 rfl) (fun a h => ?_)
      obtain ⟨u52, hv53, hu54⟩ := (hs11).cell rfl h51
      cases hu54
      refine d_take h HS HN 14 rfl (by kernel_rfl) (by kernel_rfl) (by kernel_rfl) (by kernel_rfl) (by kernel_rfl) rfl rfl (by decide) (fun w' hw => x_ld h.k rfl Try.underlying5 rfl rfl ((hw.cell (i := 0) rfl _).trans (by rw [Nat.zero_add, Nat.mul_one]; exact hv53))) (fun a h => ?_)
      refine d_takeP h (fun _ => HS) HN 15 rfl (by kernel_rfl) (by kernel_rfl) (by kernel_rfl) (by decide) rfl rfl (by decide) (fun w' => x_assign h.k _ rfl rfl) (fun a h => ?_)
      refine d_takeP h (fun _ => HS) HN 16 rfl (by kernel_rfl) (by kernel_rfl) (by kernel_rfl) (by decide) rfl rfl (by decide) (fun w' => x_assign h.k _ rfl rfl) (fun a h => ?_)
      refine d_takeP h (fun _ => HS) HN 17 rfl (by kernel_rfl) (by kernel_rfl) (by kernel_rfl) (by decide) rfl rfl (by decide) (fun w' => x_assign h.k _ rfl rfl) (fun a h => ?_)
      refine d_takeP h (fun _ => HS) HN 18 rfl (by kernel_rfl) (by kernel_rfl) (by kernel_rfl) (by decide) rfl rfl (by decide) (fun w' => x_assign h.k _ rfl rfl) (fun a h => ?_)
      refine d_done (by kernel_rfl) (HE _ _ ?_) _
      refine e_thenN ?_
      refine c_rs ?_
      refine sMV h (fun a h => ?_)
      refine sMV h (fun a h => ?_)
      refine sX h (x_bin h.k rfl rfl rfl (ib_xor (u8_xor_ x23 x32))) (fun a h => ?_)
      refine sMV h (fun a h => ?_)
      refine sX h (x_bin h.k rfl rfl rfl (ib_xor (u8_xor_ (x23 ^^^ x32) x41))) (fun a h => ?_)
      refine sMV h (fun a h => ?_)
      refine sX h (x_bin h.k rfl rfl rfl (ib_xor (u8_xor_ ((x23 ^^^ x32) ^^^ x41) x50))) (fun a h => ?_)
      refine sAV h (fun a h => ?_)
      refine l_end ?_
      refine c_rs ?_
      refine sMV h (fun a h => ?_)
      refine sMV h (fun a h => ?_)
      refine sMV h (fun a h => ?_)
      refine sX h (x_bin h.k rfl rfl rfl (ib_xor (u8_xor_ x23 (((x23 ^^^ x32) ^^^ x41) ^^^ x50)))) (fun a h => ?_)
      refine sMV h (fun a h => ?_)
      refine sMV h (fun a h => ?_)
      refine sX h (x_bin h.k rfl rfl rfl (ib_xor (u8_xor_ x23 x32))) (fun a h => ?_)
      obtain ⟨x55, h56, hl17⟩ := bsome hl17
      have hX := aes_twice_ok Fu (S0 := snapAll _) (x23 ^^^ x32) _ h56 _ h.startAll
      refine q_callX hX h rfl rfl rfl (by decide) Try.func91 rfl rfl rfl (fun a w v L1 S1 hR hb1 h => ?_)
      obtain ⟨rfl, rfl, _⟩ := hR
      refine sX h (x_bin h.k rfl rfl rfl (ib_xor (u8_xor_ (x23 ^^^ (((x23 ^^^ x32) ^^^ x41) ^^^ x50)) x55))) (fun a h => ?_)
      obtain ⟨m58, h59, hl17⟩ := bsome hl17
      obtain ⟨hi60, hm61⟩ := ix_some h59
      refine sX h (x_iaddrA h.k rfl Try.underlying79 sz_uint8 rfl rfl hi60 hm61 rfl) (fun a h => ?_)
      refine q_setBox (T := ty8) (q := ((x23 ^^^ (((x23 ^^^ x32) ^^^ x41) ^^^ x50)) ^^^ x55)) h rfl rfl rfl sz_uint8 rfl rfl 0 rfl rfl hs11 rfl (by first | omega | (simp_all; done)) (fun a w cs62 hq63 h => ?_)
      have hl64 : (x9.set m58 ((x23 ^^^ (((x23 ^^^ x32) ^^^ x41) ^^^ x50)) ^^^ x55)).length = 16 := by rw [List.length_set]; exact hl12
      refine l_end ?_
      refine c_rs ?_
      refine sMV h (fun a h => ?_)
      refine sX h (x_bin h.k rfl rfl rfl (ib_add rfl)) (fun a h => ?_)
      refine sMV h (fun a h => ?_)
      refine sMV h (fun a h => ?_)
      refine sX h (x_bin h.k rfl rfl rfl (ib_xor (u8_xor_ x32 (((x23 ^^^ x32) ^^^ x41) ^^^ x50)))) (fun a h => ?_)
      refine sMV h (fun a h => ?_)
      refine sMV h (fun a h => ?_)
      refine sX h (x_bin h.k rfl rfl rfl (ib_xor (u8_xor_ x32 x41))) (fun a h => ?_)
      obtain ⟨x65, h66, hl17⟩ := bsome hl17
      have hX := aes_twice_ok Fu (S0 := snapAll _) (x32 ^^^ x41) _ h66 _ h.startAll
      refine q_callX hX h rfl rfl rfl (by decide) Try.func91 rfl rfl rfl (fun a w v L1 S1 hR hb1 h => ?_)
      obtain ⟨rfl, rfl, _⟩ := hR
      refine sX h (x_bin h.k rfl rfl rfl (ib_xor (u8_xor_ (x32 ^^^ (((x23 ^^^ x32) ^^^ x41) ^^^ x50)) x65))) (fun a h => ?_)
      obtain ⟨m68, h69, hl17⟩ := bsome hl17
      obtain ⟨hi70, hm71⟩ := ix_some h69
      refine sX h (x_iaddrA h.k rfl Try.underlying79 sz_uint8 rfl rfl hi70 hm71 rfl) (fun a h => ?_)
      refine q_setBox (T := ty8) (q := ((x32 ^^^ (((x23 ^^^ x32) ^^^ x41) ^^^ x50)) ^^^ x65)) h rfl rfl rfl sz_uint8 rfl rfl 0 rfl rfl hq63 rfl (by first | omega | (simp_all; done)) (fun a w cs72 hq73 h => ?_)
      have hl74 : ((x9.set m58 ((x23 ^^^ (((x23 ^^^ x32) ^^^ x41) ^^^ x50)) ^^^ x55)).set m68 ((x32 ^^^ (((x23 ^^^ x32) ^^^ x41) ^^^ x50)) ^^^ x65)).length = 16 := by rw [List.length_set]; exact hl64
      refine l_end ?_
      refine c_rs ?_
      refine sMV h (fun a h => ?_)
      refine sX h (x_bin h.k rfl rfl rfl (ib_add rfl)) (fun a h => ?_)
      refine sMV h (fun a h => ?_)
      refine sMV h (fun a h => ?_)
      refine sX h (x_bin h.k rfl rfl rfl (ib_xor (u8_xor_ x41 (((x23 ^^^ x32) ^^^ x41) ^^^ x50)))) (fun a h => ?_)
      refine sMV h (fun a h => ?_)
      refine sMV h (fun a h => ?_)
      refine sX h (x_bin h.k rfl rfl rfl (ib_xor (u8_xor_ x41 x50))) (fun a h => ?_)
      obtain ⟨x75, h76, hl17⟩ := bsome hl17
      have hX := aes_twice_ok Fu (S0 := snapAll _) (x41 ^^^ x50) _ h76 _ h.startAll
      refine q_callX hX h rfl rfl rfl (by decide) Try.func91 rfl rfl rfl (fun a w v L1 S1 hR hb1 h => ?_)
      obtain ⟨rfl, rfl, _⟩ := hR
      refine sX h (x_bin h.k rfl rfl rfl (ib_xor (u8_xor_ (x41 ^^^ (((x23 ^^^ x32) ^^^ x41) ^^^ x50)) x75))) (fun a h => ?_)
      obtain ⟨m78, h79, hl17⟩ := bsome hl17
      obtain ⟨hi80, hm81⟩ := ix_some h79
      refine sX h (x_iaddrA h.k rfl Try.underlying79 sz_uint8 rfl rfl hi80 hm81 rfl) (fun a h => ?_)
      refine q_setBox (T := ty8) (q := ((x41 ^^^ (((x23 ^^^ x32) ^^^ x41) ^^^ x50)) ^^^ x75)) h rfl rfl rfl sz_uint8 rfl rfl 0 rfl rfl hq73 rfl (by first | omega | (simp_all; done)) (fun a w cs82 hq83 h => ?_)
      have hl84 : (((x9.set m58 ((x23 ^^^ (((x23 ^^^ x32) ^^^ x41) ^^^ x50)) ^^^ x55)).set m68 ((x32 ^^^ (((x23 ^^^ x32) ^^^ x41) ^^^ x50)) ^^^ x65)).set m78 ((x41 ^^^ (((x23 ^^^ x32) ^^^ x41) ^^^ x50)) ^^^ x75)).length = 16 := by rw [List.length_set]; exact hl74
      refine l_end ?_
      refine c_r ?_
      refine sMV h (fun a h => ?_)
      refine sX h (x_bin h.k rfl rfl rfl (ib_add rfl)) (fun a h => ?_)
      refine sMV h (fun a h => ?_)
      refine sMV h (fun a h => ?_)
      refine sX h (x_bin h.k rfl rfl rfl (ib_xor (u8_xor_ x50 (((x23 ^^^ x32) ^^^ x41) ^^^ x50)))) (fun a h => ?_)
      refine sMV h (fun a h => ?_)
      refine sMV h (fun a h => ?_)
      refine sX h (x_bin h.k rfl rfl rfl (ib_xor (u8_xor_ x50 x23))) (fun a h => ?_)
      obtain ⟨x85, h86, hl17⟩ := bsome hl17
      have hX := aes_twice_ok Fu (S0 := snapAll _) (x50 ^^^ x23) _ h86 _ h.startAll
      refine q_callX hX h rfl rfl rfl (by decide) Try.func91 rfl rfl rfl (fun a w v L1 S1 hR hb1 h => ?_)
      obtain ⟨rfl, rfl, _⟩ := hR
      refine sX h (x_bin h.k rfl rfl rfl (ib_xor (u8_xor_ (x50 ^^^ (((x23 ^^^ x32) ^^^ x41) ^^^ x50)) x85))) (fun a h => ?_)
      obtain ⟨m88, h89, hl17⟩ := bsome hl17
      obtain ⟨hi90, hm91⟩ := ix_some h89
      refine sX h (x_iaddrA h.k rfl Try.underlying79 sz_uint8 rfl rfl hi90 hm91 rfl) (fun a h => ?_)
      refine q_setBox (T := ty8) (q := ((x50 ^^^ (((x23 ^^^ x32) ^^^ x41) ^^^ x50)) ^^^ x85)) h rfl rfl rfl sz_uint8 rfl rfl 0 rfl rfl hq83 rfl (by first | omega | (simp_all; done)) (fun a w cs92 hq93 h => ?_)
      have hl94 : ((((x9.set m58 ((x23 ^^^ (((x23 ^^^ x32) ^^^ x41) ^^^ x50)) ^^^ x55)).set m68 ((x32 ^^^ (((x23 ^^^ x32) ^^^ x41) ^^^ x50)) ^^^ x65)).set m78 ((x41 ^^^ (((x23 ^^^ x32) ^^^ x41) ^^^ x50)) ^^^ x75)).set m88 ((x50 ^^^ (((x23 ^^^ x32) ^^^ x41) ^^^ x50)) ^^^ x85)).length = 16 := by rw [List.length_set]; exact hl84
      refine l_nil ?_
      refine e_blkN ?_
      refine e_thenN ?_
      refine c_r ?_
      refine sMV h (fun a h => ?_)
      refine sX h (x_bin h.k rfl rfl rfl (ib_add rfl)) (fun a h => ?_)
      refine sAV h (fun a h => ?_)
      refine l_nil ?_
      exact e_thenN ⟨m18, Nat.lt_succ_self _, w64 (x7 + 4), ((((x9.set m58 ((x23 ^^^ (((x23 ^^^ x32) ^^^ x41) ^^^ x50)) ^^^ x55)).set m68 ((x32 ^^^ (((x23 ^^^ x32) ^^^ x41) ^^^ x50)) ^^^ x65)).set m78 ((x41 ^^^ (((x23 ^^^ x32) ^^^ x41) ^^^ x50)) ^^^ x75)).set m88 ((x50 ^^^ (((x23 ^^^ x32) ^^^ x41) ^^^ x50)) ^^^ x85)), cs92, hl17, (w64_r _), hq93, hl94, h.has (by exact ⟨rfl, rfl, rfl, trivial⟩)⟩
    · rw [if_neg (of_decide_eq_false hb)] at hl17
      refine wp_exit ?_
      refine e_thenX ?_
      refine e_thenX ?_
      refine e_blkX ?_
      refine e_thenN ?_
      exact ⟨x9, k10, (Option.some.inj hl17), hs11, hl12, h.has (by exact ⟨rfl, rfl, trivial⟩)⟩
  · rintro a w ⟨x13, k14, rfl, hs15, hl16, h⟩
    refine e_thenN ?_
    refine c_rs ?_
    refine sX h (x_ldR h.k rfl ag_A16_uint8 rfl k14 ((hs15).len.trans (by rw [hl16]; rfl)) (h.m.range0 (i := 0) rfl)) (fun a h => ?_)
    refine s_stW h rfl rfl rfl ag_A16_uint8 rfl (es := k14) rfl ((hs15).len.trans (by rw [hl16]; rfl)) (hs15).one 1 rfl (by first | rfl | simp_all) (fun a w h => ?_)
    refine l_end ?_
    refine wp_ret ?_
    rw [← Option.some.inj hf]
    exact r_ret1 h rfl (rv_cellA h rfl 1 rfl ag_A16_uint8 ((hs15).len.trans (by rw [hl16]; rfl))) ⟨_, [], _, rfl, ⟨k14, rfl, rfl, ⟨hs15, hl16⟩, trivial⟩, rfl, (Up.refl _ _ _), (h.m.pick [2] _ (by decide) rfl)⟩
def aes_unmix_l0 (Fu : Nat) : Nat → Int → (List UInt8) → Option ((List UInt8))
  | 0, _, _ => none
  | k + 1, x7, x9 => if x7 < 16 then ((ix 16 x7).bind fun m19 => (x9[m19]?).bind fun x23 => (ix 16 (w64 (x7 + 2))).bind fun m28 => (x9[m28]?).bind fun x32 => (aes_twice Fu (x23 ^^^ x32)).bind fun x37 => (aes_twice Fu x37).bind fun x40 => (ix 16 (w64 (x7 + 1))).bind fun m43 => (x9[m43]?).bind fun x47 => (ix 16 (w64 (x7 + 3))).bind fun m52 => (x9[m52]?).bind fun x56 => (aes_twice Fu (x47 ^^^ x56)).bind fun x61 => (aes_twice Fu x61).bind fun x64 => (ix 16 x7).bind fun m67 => (x9[m67]?).bind fun x71 => (ix 16 (w64 (x7 + 1))).bind fun m76 => (x9[m76]?).bind fun x80 => (ix 16 (w64 (x7 + 2))).bind fun m85 => (x9[m85]?).bind fun x89 => (ix 16 (w64 (x7 + 3))).bind fun m94 => (x9[m94]?).bind fun x98 => (ix 16 x7).bind fun m103 => (ix 16 (w64 (x7 + 1))).bind fun m110 => (ix 16 (w64 (x7 + 2))).bind fun m117 => (ix 16 (w64 (x7 + 3))).bind fun m124 => aes_unmix_l0 Fu k (w64 (x7 + 4)) ((((x9.set m103 (x71 ^^^ x40)).set m110 (x80 ^^^ x64)).set m117 (x89 ^^^ x40)).set m124 (x98 ^^^ x64))) else (some x9)
def aes_unmix (Fu : Nat) (a0 : List UInt8) : Option ((List UInt8)) :=
  (aes_unmix_l0 Fu Fu 0 a0).bind fun x13 => (aes_mix Fu x13).bind fun x131 => some x131
set_option maxRecDepth 100000 in
set_option maxHeartbeats 2000000 in
theorem aes_unmix_ok (Fu : Nat) {S0 : Snap} (csa0 : List Value) (a0 : List UInt8) (hsa0 : (tyA 16 ty8).rep S0 csa0 a0) (r : (List UInt8)) (hf : aes_unmix Fu a0 = some r) (w0 : World) (hm : Mem w0 (ownL ([] ++ [.sn S0])) ([] ++ [.sn S0]) w0) :
    Calls Try.prog 74 #[.agg csa0.toArray] w0 (Ret w0 S0 [] (fun v L1 S1 => ∃ (k140 : List Value), v = .agg k140.toArray ∧ L1 = [] ∧ (tyA 16 ty8).rep S1 k140 r ∧ True)) := by
  unfold aes_unmix at hf
  obtain ⟨hs1, hl2⟩ := hsa0
  refine c_enterM Try.func74 rfl 67 rfl (by simp) _ hm _ rfl (fun a h => ?_)
  refine c_rs ?_
  refine s_box h rfl rfl rfl (by decide) rfl (cs := csa0) (by rfl) (fun a w g3 h => ?_)
  refine s_alloc h rfl rfl rfl (by decide) zi_A16_uint8 rfl (fun a w g4 h => ?_)
  have h := h.parts (L' := [.box g4 79 (List.replicate 16 (.int .u8 0 : Value)), .box g3 79 csa0, .sn S0]) rfl
  refine l_end ?_
  refine wp_seq ?_
  refine c_rs ?_
  refine sAV h (fun a h => ?_)
  refine l_end ?_
  obtain ⟨o5, hl6, hf⟩ := bsome hf
  refine c_fin (fun a w => ∃ (x13 : List UInt8), ∃ (k14 : List Value), x13 = o5 ∧ reps ty8 S0 k14 x13 ∧ x13.length = 16 ∧ St 67 w0 (ownL ([] ++ [.sn S0])) [(1, .pointer (some ⟨g3, 0, none⟩)), (2, .pointer (some ⟨g4, 0, none⟩))] [.box g3 79 k14, .box g4 79 (List.replicate 16 (.int .u8 0 : Value)), .sn S0] a w) ?_ ?_
  · refine wp_block ?_
    have h := h.pick [1, 0, 2] (by decide) rfl
    refine c_loop (fun m18 a w => ∃ (x7 : Int), ∃ (x9 : List UInt8), ∃ (k10 : List Value), aes_unmix_l0 Fu m18 x7 x9 = some o5 ∧ r64 x7 ∧ reps ty8 S0 k10 x9 ∧ x9.length = 16 ∧ St 67 w0 (ownL ([] ++ [.sn S0])) [(1, .pointer (some ⟨g3, 0, none⟩)), (2, .pointer (some ⟨g4, 0, none⟩)), (3, .int .i64 x7)] [.box g3 79 k10, .box g4 79 (List.replicate 16 (.int .u8 0 : Value)), .sn S0] a w) Fu ⟨0, a0, csa0, hl6, (show r64 0 from ⟨by decide, by decide⟩), hs1, hl2, h.has (by exact ⟨rfl, rfl, rfl, trivial⟩)⟩ (fun m18 a w hI => ?_)
    obtain ⟨x7, x9, k10, hl17, hr8, hs11, hl12, h⟩ := hI
    obtain _ | m18 := m18
    · rw [aes_unmix_l0] at hl17; cases hl17
    rw [aes_unmix_l0] at hl17
    refine wp_seq ?_
    refine c_rs ?_
    refine sMV h (fun a h => ?_)
    refine sX h (x_bin h.k rfl rfl rfl ib_lss) (fun a h => ?_)
    refine l_end ?_
    refine c_cond h rfl (fun hb => ?_) (fun hb => ?_)
    · rw [if_pos (of_decide_eq_true hb)] at hl17
      refine wp_skip ?_
      refine e_thenN ?_
      refine wp_seq ?_
      refine wp_block ?_
      refine wp_seq ?_
      -- region 4 draws
      obtain ⟨m19, h20, hl17⟩ := bsome hl17
      obtain ⟨x23, h24, hl17⟩ := bsome hl17
      obtain ⟨m28, h29, hl17⟩ := bsome hl17
      obtain ⟨x32, h33, hl17⟩ := bsome hl17
      obtain ⟨x37, h38, hl17⟩ := bsome hl17
      obtain ⟨x40, h41, hl17⟩ := bsome hl17
      obtain ⟨m43, h44, hl17⟩ := bsome hl17
      obtain ⟨x47, h48, hl17⟩ := bsome hl17
      obtain ⟨m52, h53, hl17⟩ := bsome hl17
      obtain ⟨x56, h57, hl17⟩ := bsome hl17
      obtain ⟨x61, h62, hl17⟩ := bsome hl17
      obtain ⟨x64, h65, hl17⟩ := bsome hl17
      refine d_start h (Mem _ _ _) 23 23 rfl (by kernel_rfl) (fun _ _ _ _ _ h => h) (fun _ h => h) (fun Q a w HE HN h HS => ?_)
      refine d_takeP h (fun _ => HS) HN 0 rfl (by kernel_rfl) (by kernel_rfl) (by kernel_rfl) (by decide) rfl rfl (by decide) (fun w' => x_move h.k _ rfl rfl) (fun a h => ?_)
      obtain ⟨hi21, hm22⟩ := ix_some h20
      refine d_takeP h (fun _ => HS) HN 1 rfl (by kernel_rfl) (by kernel_rfl) (by kernel_rfl) (by decide) rfl rfl (by decide) (fun w' => x_iaddrA h.k rfl Try.underlying79 sz_uint8 rfl rfl hi21 hm22 rfl) (fun a h => ?_)
      obtain ⟨u25, hv26, hu27⟩ := (hs11).cell rfl h24
      cases hu27
      refine d_take h HS HN 2 rfl (by kernel_rfl) (by kernel_rfl) (by kernel_rfl) (by kernel_rfl) (by kernel_rfl) rfl rfl (by decide) (fun w' hw => x_ld h.k rfl Try.underlying5 rfl rfl ((hw.cell (i := 0) rfl _).trans (by rw [Nat.zero_add, Nat.mul_one]; exact hv26))) (fun a h => ?_)
      refine d_takeP h (fun _ => HS) HN 3 rfl (by kernel_rfl) (by kernel_rfl) (by kernel_rfl) (by decide) rfl rfl (by decide) (fun w' => x_move h.k _ rfl rfl) (fun a h => ?_)
      refine d_takeP h (fun _ => HS) HN 4 rfl (by kernel_rfl) (by kernel_rfl) (by kernel_rfl) (by decide) rfl rfl (by decide) (fun w' => x_bin h.k rfl rfl rfl (ib_add rfl)) (fun a h => ?_)
      obtain ⟨hi30, hm31⟩ := ix_some h29
      refine d_takeP h (fun _ => HS) HN 5 rfl (by kernel_rfl) (by kernel_rfl) (by kernel_rfl) (by decide) rfl rfl (by decide) (fun w' => x_iaddrA h.k rfl Try.underlying79 sz_uint8 rfl rfl hi30 hm31 rfl) (fun a h => ?_)
      obtain ⟨u34, hv35, hu36⟩ := (hs11).cell rfl h33
      cases hu36
      refine d_take h HS HN 6 rfl (by kernel_rfl) (by kernel_rfl) (by kernel_rfl) (by kernel_rfl) (by kernel_rfl) rfl rfl (by decide) (fun w' hw => x_ld h.k rfl Try.underlying5 rfl rfl ((hw.cell (i := 0) rfl _).trans (by rw [Nat.zero_add, Nat.mul_one]; exact hv35))) (fun a h => ?_)
      refine d_takeP h (fun _ => HS) HN 7 rfl (by kernel_rfl) (by kernel_rfl) (by kernel_rfl) (by decide) rfl rfl (by decide) (fun w' => x_bin h.k rfl rfl rfl (ib_xor (u8_xor_ x23 x32))) (fun a h => ?_)
      refine d_takeP h (fun _ => HS) HN 10 rfl (by kernel_rfl) (by kernel_rfl) (by kernel_rfl) (by decide) rfl rfl (by decide) (fun w' => x_move h.k _ rfl rfl) (fun a h => ?_)
      refine d_takeP h (fun _ => HS) HN 11 rfl (by kernel_rfl) (by kernel_rfl) (by kernel_rfl) (by decide) rfl rfl (by decide) (fun w' => x_bin h.k rfl rfl rfl (ib_add rfl)) (fun a h => ?_)
      obtain ⟨hi45, hm46⟩ := ix_some h44
      refine d_takeP h (fun _ => HS) HN 12 rfl (by kernel_rfl) (by kernel_rfl) (by kernel_rfl) (by decide) rfl rfl (by decide) (fun w' => x_iaddrA h.k rfl Try.underlying79 sz_uint8 rfl rfl hi45 hm46 rfl) (fun a h => ?_)
      obtain ⟨u49, hv50, hu51⟩ := (hs11).cell rfl h48
      cases hu51
      refine d_take h HS HN 13 rfl (by kernel_rfl) (by kernel_rfl) (by kernel_rfl) (by kernel_rfl) (by kernel_rfl) rfl rfl (by decide) (fun w' hw => x_ld h.k rfl Try.underlying5 rfl rfl ((hw.cell (i := 0) rfl _).trans (by rw [Nat.zero_add, Nat.mul_one]; exact hv50))) (fun a h => ?_)
      refine d_takeP h (fun _ => HS) HN 14 rfl (by kernel_rfl) (by kernel_rfl) (by kernel_rfl) (by decide) rfl rfl (by decide) (fun w' => x_move h.k _ rfl rfl) (fun a h => ?_)
      refine d_takeP h (fun _ => HS) HN 15 rfl (by kernel_rfl) (by kernel_rfl) (by kernel_rfl) (by decide) rfl rfl (by decide) (fun w' => x_bin h.k rfl rfl rfl (ib_add rfl)) (fun a h => ?_)
      obtain ⟨hi54, hm55⟩ := ix_some h53
      refine d_takeP h (fun _ => HS) HN 16 rfl (by kernel_rfl) (by kernel_rfl) (by kernel_rfl) (by decide) rfl rfl (by decide) (fun w' => x_iaddrA h.k rfl Try.underlying79 sz_uint8 rfl rfl hi54 hm55 rfl) (fun a h => ?_)
      obtain ⟨u58, hv59, hu60⟩ := (hs11).cell rfl h57
      cases hu60
      refine d_take h HS HN 17 rfl (by kernel_rfl) (by kernel_rfl) (by kernel_rfl) (by kernel_rfl) (by kernel_rfl) rfl rfl (by decide) (fun w' hw => x_ld h.k rfl Try.underlying5 rfl rfl ((hw.cell (i := 0) rfl _).trans (by rw [Nat.zero_add, Nat.mul_one]; exact hv59))) (fun a h => ?_)
      refine d_takeP h (fun _ => HS) HN 18 rfl (by kernel_rfl) (by kernel_rfl) (by kernel_rfl) (by decide) rfl rfl (by decide) (fun w' => x_bin h.k rfl rfl rfl (ib_xor (u8_xor_ x47 x56))) (fun a h => ?_)
      refine d_alone 8 rfl (by kernel_rfl) (fun K hK => ?_)
      have hX := aes_twice_ok Fu (S0 := snapAll _) (x23 ^^^ x32) _ h38 _ h.startAll
      refine q_callX hX h rfl rfl rfl (by decide) Try.func91 rfl rfl rfl (fun a w v L1 S1 hR hb1 h => ?_)
      obtain ⟨rfl, rfl, _⟩ := hR
      refine hK _ _ (fun _ _ => HS.ext hb1) ?_
      replace HS := HS.ext hb1
      clear hK
      refine d_alone 9 rfl (by kernel_rfl) (fun K hK => ?_)
      have hX := aes_twice_ok Fu (S0 := snapAll _) x37 _ h41 _ h.startAll
      refine q_callX hX h rfl rfl rfl (by decide) Try.func91 rfl rfl rfl (fun a w v L1 S1 hR hb1 h => ?_)
      obtain ⟨rfl, rfl, _⟩ := hR
      refine hK _ _ (fun _ _ => HS.ext hb1) ?_
      replace HS := HS.ext hb1
      clear hK
      refine d_alone 19 rfl (by kernel_rfl) (fun K hK => ?_)
      have hX := aes_twice_ok Fu (S0 := snapAll _) (x47 ^^^ x56) _ h62 _ h.startAll
      refine q_callX hX h rfl rfl rfl (by decide) Try.func91 rfl rfl rfl (fun a w v L1 S1 hR hb1 h => ?_)
      obtain ⟨rfl, rfl, _⟩ := hR
      refine hK _ _ (fun _ _ => HS.ext hb1) ?_
      replace HS := HS.ext hb1
      clear hK
      refine d_alone 20 rfl (by kernel_rfl) (fun K hK => ?_)
      have hX := aes_twice_ok Fu (S0 := snapAll _) x61 _ h65 _ h.startAll
      refine q_callX hX h rfl rfl rfl (by decide) Try.func91 rfl rfl rfl (fun a w v L1 S1 hR hb1 h => ?_)
      obtain ⟨rfl, rfl, _⟩ := hR
      refine hK _ _ (fun _ _ => HS.ext hb1) ?_
      replace HS := HS.ext hb1
      clear hK
      refine d_takeP h (fun _ => HS) HN 21 rfl (by kernel_rfl) (by kernel_rfl) (by kernel_rfl) (by decide) rfl rfl (by decide) (fun w' => x_assign h.k _ rfl rfl) (fun a h => ?_)
      refine d_takeP h (fun _ => HS) HN 22 rfl (by kernel_rfl) (by kernel_rfl) (by kernel_rfl) (by decide) rfl rfl (by decide) (fun w' => x_assign h.k _ rfl rfl) (fun a h => ?_)
      refine d_done (by kernel_rfl) (HE _ _ ?_) _
      refine e_thenN ?_
      -- region 5 draws
      obtain ⟨m67, h68, hl17⟩ := bsome hl17
      obtain ⟨x71, h72, hl17⟩ := bsome hl17
      obtain ⟨m76, h77, hl17⟩ := bsome hl17
      obtain ⟨x80, h81, hl17⟩ := bsome hl17
      obtain ⟨m85, h86, hl17⟩ := bsome hl17
      obtain ⟨x89, h90, hl17⟩ := bsome hl17
      obtain ⟨m94, h95, hl17⟩ := bsome hl17
      obtain ⟨x98, h99, hl17⟩ := bsome hl17
      obtain ⟨m103, h104, hl17⟩ := bsome hl17
      obtain ⟨m110, h111, hl17⟩ := bsome hl17
      obtain ⟨m117, h118, hl17⟩ := bsome hl17
      obtain ⟨m124, h125, hl17⟩ := bsome hl17
      refine d_start h (Mem _ _ _) 31 38 rfl (by kernel_rfl) (fun _ _ _ _ _ h => h) (fun _ h => h) (fun Q a w HE HN h HS => ?_)
      refine d_takeP h (fun _ => HS) HN 0 rfl (by kernel_rfl) (by kernel_rfl) (by kernel_rfl) (by decide) rfl rfl (by decide) (fun w' => x_move h.k _ rfl rfl) (fun a h => ?_)
      refine d_takeP h (fun _ => HS) HN 1 rfl (by kernel_rfl) (by kernel_rfl) (by kernel_rfl) (by decide) rfl rfl (by decide) (fun w' => x_move h.k _ rfl rfl) (fun a h => ?_)
      refine d_takeP h (fun _ => HS) HN 2 rfl (by kernel_rfl) (by kernel_rfl) (by kernel_rfl) (by decide) rfl rfl (by decide) (fun w' => x_bin h.k rfl rfl rfl (ib_add rfl)) (fun a h => ?_)
      refine d_takeP h (fun _ => HS) HN 3 rfl (by kernel_rfl) (by kernel_rfl) (by kernel_rfl) (by decide) rfl rfl (by decide) (fun w' => x_move h.k _ rfl rfl) (fun a h => ?_)
      refine d_takeP h (fun _ => HS) HN 4 rfl (by kernel_rfl) (by kernel_rfl) (by kernel_rfl) (by decide) rfl rfl (by decide) (fun w' => x_bin h.k rfl rfl rfl (ib_add rfl)) (fun a h => ?_)
      refine d_takeP h (fun _ => HS) HN 5 rfl (by kernel_rfl) (by kernel_rfl) (by kernel_rfl) (by decide) rfl rfl (by decide) (fun w' => x_move h.k _ rfl rfl) (fun a h => ?_)
      refine d_takeP h (fun _ => HS) HN 6 rfl (by kernel_rfl) (by kernel_rfl) (by kernel_rfl) (by decide) rfl rfl (by decide) (fun w' => x_bin h.k rfl rfl rfl (ib_add rfl)) (fun a h => ?_)
      refine d_takeP h (fun _ => HS) HN 7 rfl (by kernel_rfl) (by kernel_rfl) (by kernel_rfl) (by decide) rfl rfl (by decide) (fun w' => x_move h.k _ rfl rfl) (fun a h => ?_)
      obtain ⟨hi69, hm70⟩ := ix_some h68
      refine d_takeP h (fun _ => HS) HN 8 rfl (by kernel_rfl) (by kernel_rfl) (by kernel_rfl) (by decide) rfl rfl (by decide) (fun w' => x_iaddrA h.k rfl Try.underlying79 sz_uint8 rfl rfl hi69 hm70 rfl) (fun a h => ?_)
      obtain ⟨u73, hv74, hu75⟩ := (hs11).cell rfl h72
      cases hu75
      refine d_take h HS HN 9 rfl (by kernel_rfl) (by kernel_rfl) (by kernel_rfl) (by kernel_rfl) (by kernel_rfl) rfl rfl (by decide) (fun w' hw => x_ld h.k rfl Try.underlying5 rfl rfl ((hw.cell (i := 0) rfl _).trans (by rw [Nat.zero_add, Nat.mul_one]; exact hv74))) (fun a h => ?_)
      refine d_takeP h (fun _ => HS) HN 10 rfl (by kernel_rfl) (by kernel_rfl) (by kernel_rfl) (by decide) rfl rfl (by decide) (fun w' => x_move h.k _ rfl rfl) (fun a h => ?_)
      refine d_takeP h (fun _ => HS) HN 11 rfl (by kernel_rfl) (by kernel_rfl) (by kernel_rfl) (by decide) rfl rfl (by decide) (fun w' => x_bin h.k rfl rfl rfl (ib_xor (u8_xor_ x71 x40))) (fun a h => ?_)
      refine d_takeP h (fun _ => HS) HN 12 rfl (by kernel_rfl) (by kernel_rfl) (by kernel_rfl) (by decide) rfl rfl (by decide) (fun w' => x_move h.k _ rfl rfl) (fun a h => ?_)
      refine d_takeP h (fun _ => HS) HN 13 rfl (by kernel_rfl) (by kernel_rfl) (by kernel_rfl) (by decide) rfl rfl (by decide) (fun w' => x_bin h.k rfl rfl rfl (ib_add rfl)) (fun a h => ?_)
      obtain ⟨hi78, hm79⟩ := ix_some h77
      refine d_takeP h (fun _ => HS) HN 14 rfl (by kernel_rfl) (by kernel_rfl) (by kernel_rfl) (by decide) rfl rfl (by decide) (fun w' => x_iaddrA h.k rfl Try.underlying79 sz_uint8 rfl rfl hi78 hm79 rfl) (fun a h => ?_)
      obtain ⟨u82, hv83, hu84⟩ := (hs11).cell rfl h81
      cases hu84
      refine d_take h HS HN 15 rfl (by kernel_rfl) (by kernel_rfl) (by kernel_rfl) (by kernel_rfl) (by kernel_rfl) rfl rfl (by decide) (fun w' hw => x_ld h.k rfl Try.underlying5 rfl rfl ((hw.cell (i := 0) rfl _).trans (by rw [Nat.zero_add, Nat.mul_one]; exact hv83))) (fun a h => ?_)
      refine d_takeP h (fun _ => HS) HN 16 rfl (by kernel_rfl) (by kernel_rfl) (by kernel_rfl) (by decide) rfl rfl (by decide) (fun w' => x_move h.k _ rfl rfl) (fun a h => ?_)
      refine d_takeP h (fun _ => HS) HN 17 rfl (by kernel_rfl) (by kernel_rfl) (by kernel_rfl) (by decide) rfl rfl (by decide) (fun w' => x_bin h.k rfl rfl rfl (ib_xor (u8_xor_ x80 x64))) (fun a h => ?_)
      refine d_takeP h (fun _ => HS) HN 18 rfl (by kernel_rfl) (by kernel_rfl) (by kernel_rfl) (by decide) rfl rfl (by decide) (fun w' => x_move h.k _ rfl rfl) (fun a h => ?_)
      refine d_takeP h (fun _ => HS) HN 19 rfl (by kernel_rfl) (by kernel_rfl) (by kernel_rfl) (by decide) rfl rfl (by decide) (fun w' => x_bin h.k rfl rfl rfl (ib_add rfl)) (fun a h => ?_)
      obtain ⟨hi87, hm88⟩ := ix_some h86
      refine d_takeP h (fun _ => HS) HN 20 rfl (by kernel_rfl) (by kernel_rfl) (by kernel_rfl) (by decide) rfl rfl (by decide) (fun w' => x_iaddrA h.k rfl Try.underlying79 sz_uint8 rfl rfl hi87 hm88 rfl) (fun a h => ?_)
      obtain ⟨u91, hv92, hu93⟩ := (hs11).cell rfl h90
      cases hu93
      refine d_take h HS HN 21 rfl (by kernel_rfl) (by kernel_rfl) (by kernel_rfl) (by kernel_rfl) (by kernel_rfl) rfl rfl (by decide) (fun w' hw => x_ld h.k rfl Try.underlying5 rfl rfl ((hw.cell (i := 0) rfl _).trans (by rw [Nat.zero_add, Nat.mul_one]; exact hv92))) (fun a h => ?_)
      refine d_takeP h (fun _ => HS) HN 22 rfl (by kernel_rfl) (by kernel_rfl) (by kernel_rfl) (by decide) rfl rfl (by decide) (fun w' => x_move h.k _ rfl rfl) (fun a h => ?_)
      refine d_takeP h (fun _ => HS) HN 23 rfl (by kernel_rfl) (by kernel_rfl) (by kernel_rfl) (by decide) rfl rfl (by decide) (fun w' => x_bin h.k rfl rfl rfl (ib_xor (u8_xor_ x89 x40))) (fun a h => ?_)
      refine d_takeP h (fun _ => HS) HN 24 rfl (by kernel_rfl) (by kernel_rfl) (by kernel_rfl) (by decide) rfl rfl (by decide) (fun w' => x_move h.k _ rfl rfl) (fun a h => ?_)
      refine d_takeP h (fun _ => HS) HN 25 rfl (by kernel_rfl) (by kernel_rfl) (by kernel_rfl) (by decide) rfl rfl (by decide) (fun w' => x_bin h.k rfl rfl rfl (ib_add rfl)) (fun a h => ?_)
      obtain ⟨hi96, hm97⟩ := ix_some h95
      refine d_takeP h (fun _ => HS) HN 26 rfl (by kernel_rfl) (by kernel_rfl) (by kernel_rfl) (by decide) rfl rfl (by decide) (fun w' => x_iaddrA h.k rfl Try.underlying79 sz_uint8 rfl rfl hi96 hm97 rfl) (fun a h => ?_)
      obtain ⟨u100, hv101, hu102⟩ := (hs11).cell rfl h99
      cases hu102
      refine d_take h HS HN 27 rfl (by kernel_rfl) (by kernel_rfl) (by kernel_rfl) (by kernel_rfl) (by kernel_rfl) rfl rfl (by decide) (fun w' hw => x_ld h.k rfl Try.underlying5 rfl rfl ((hw.cell (i := 0) rfl _).trans (by rw [Nat.zero_add, Nat.mul_one]; exact hv101))) (fun a h => ?_)
      refine d_takeP h (fun _ => HS) HN 28 rfl (by kernel_rfl) (by kernel_rfl) (by kernel_rfl) (by decide) rfl rfl (by decide) (fun w' => x_move h.k _ rfl rfl) (fun a h => ?_)
      refine d_takeP h (fun _ => HS) HN 29 rfl (by kernel_rfl) (by kernel_rfl) (by kernel_rfl) (by decide) rfl rfl (by decide) (fun w' => x_bin h.k rfl rfl rfl (ib_xor (u8_xor_ x98 x64))) (fun a h => ?_)
      obtain ⟨hi105, hm106⟩ := ix_some h104
      refine d_takeP h (fun _ => HS) HN 30 rfl (by kernel_rfl) (by kernel_rfl) (by kernel_rfl) (by decide) rfl rfl (by decide) (fun w' => x_iaddrA h.k rfl Try.underlying79 sz_uint8 rfl rfl hi105 hm106 rfl) (fun a h => ?_)
      refine d_alone 31 rfl (by kernel_rfl) (fun K hK => ?_)
      refine q_setBox (T := ty8) (q := (x71 ^^^ x40)) h rfl rfl rfl sz_uint8 rfl rfl 0 rfl rfl hs11 rfl (by first | omega | (simp_all; done)) (fun a w cs107 hq108 h => ?_)
      have hl109 : (x9.set m103 (x71 ^^^ x40)).length = 16 := by rw [List.length_set]; exact hl12
      refine hK _ _ (fun hne _ => absurd rfl hne) ?_
      clear hK
      obtain ⟨hi112, hm113⟩ := ix_some h111
      refine d_takeP h (fun hl => absurd hl (by decide)) HN 32 rfl (by kernel_rfl) (by kernel_rfl) (by kernel_rfl) (by decide) rfl rfl (by decide) (fun w' => x_iaddrA h.k rfl Try.underlying79 sz_uint8 rfl rfl hi112 hm113 rfl) (fun a h => ?_)
      refine d_alone 33 rfl (by kernel_rfl) (fun K hK => ?_)
      refine q_setBox (T := ty8) (q := (x80 ^^^ x64)) h rfl rfl rfl sz_uint8 rfl rfl 0 rfl rfl hq108 rfl (by first | omega | (simp_all; done)) (fun a w cs114 hq115 h => ?_)
      have hl116 : ((x9.set m103 (x71 ^^^ x40)).set m110 (x80 ^^^ x64)).length = 16 := by rw [List.length_set]; exact hl109
      refine hK _ _ (fun _ hl => absurd hl (by decide)) ?_
      clear hK
      obtain ⟨hi119, hm120⟩ := ix_some h118
      refine d_takeP h (fun hl => absurd hl (by decide)) HN 34 rfl (by kernel_rfl) (by kernel_rfl) (by kernel_rfl) (by decide) rfl rfl (by decide) (fun w' => x_iaddrA h.k rfl Try.underlying79 sz_uint8 rfl rfl hi119 hm120 rfl) (fun a h => ?_)
      refine d_alone 35 rfl (by kernel_rfl) (fun K hK => ?_)
      refine q_setBox (T := ty8) (q := (x89 ^^^ x40)) h rfl rfl rfl sz_uint8 rfl rfl 0 rfl rfl hq115 rfl (by first | omega | (simp_all; done)) (fun a w cs121 hq122 h => ?_)
      have hl123 : (((x9.set m103 (x71 ^^^ x40)).set m110 (x80 ^^^ x64)).set m117 (x89 ^^^ x40)).length = 16 := by rw [List.length_set]; exact hl116
      refine hK _ _ (fun _ hl => absurd hl (by decide)) ?_
      clear hK
      obtain ⟨hi126, hm127⟩ := ix_some h125
      refine d_takeP h (fun hl => absurd hl (by decide)) HN 36 rfl (by kernel_rfl) (by kernel_rfl) (by kernel_rfl) (by decide) rfl rfl (by decide) (fun w' => x_iaddrA h.k rfl Try.underlying79 sz_uint8 rfl rfl hi126 hm127 rfl) (fun a h => ?_)
      refine d_alone 37 rfl (by kernel_rfl) (fun K hK => ?_)
      refine q_setBox (T := ty8) (q := (x98 ^^^ x64)) h rfl rfl rfl sz_uint8 rfl rfl 0 rfl rfl hq122 rfl (by first | omega | (simp_all; done)) (fun a w cs128 hq129 h => ?_)
      have hl130 : ((((x9.set m103 (x71 ^^^ x40)).set m110 (x80 ^^^ x64)).set m117 (x89 ^^^ x40)).set m124 (x98 ^^^ x64)).length = 16 := by rw [List.length_set]; exact hl123
      refine hK _ _ (fun _ hl => absurd hl (by decide)) ?_
      clear hK
      refine d_done (by kernel_rfl) (HE _ _ ?_) _
      refine e_blkN ?_
      refine e_thenN ?_
      refine c_r ?_
      refine sMV h (fun a h => ?_)
      refine sX h (x_bin h.k rfl rfl rfl (ib_add rfl)) (fun a h => ?_)
      refine sAV h (fun a h => ?_)
      refine l_nil ?_
      exact e_thenN ⟨m18, Nat.lt_succ_self _, w64 (x7 + 4), ((((x9.set m103 (x71 ^^^ x40)).set m110 (x80 ^^^ x64)).set m117 (x89 ^^^ x40)).set m124 (x98 ^^^ x64)), cs128, hl17, (w64_r _), hq129, hl130, h.has (by exact ⟨rfl, rfl, rfl, trivial⟩)⟩
    · rw [if_neg (of_decide_eq_false hb)] at hl17
      refine wp_exit ?_
      refine e_thenX ?_
      refine e_thenX ?_
      refine e_blkX ?_
      refine e_thenN ?_
      exact ⟨x9, k10, (Option.some.inj hl17), hs11, hl12, h.has (by exact ⟨rfl, rfl, trivial⟩)⟩
  · rintro a w ⟨x13, k14, rfl, hs15, hl16, h⟩
    refine e_thenN ?_
    refine c_rs ?_
    refine sX h (x_ldR h.k rfl ag_A16_uint8 rfl k14 ((hs15).len.trans (by rw [hl16]; rfl)) (h.m.range0 (i := 0) rfl)) (fun a h => ?_)
    obtain ⟨x131, h132, hf⟩ := bsome hf
    have hX := aes_mix_ok Fu (S0 := snapAll _) k14 x13 ((tyA 16 ty8).mono (h.m.leAll (i := 2) rfl) (show (tyA 16 ty8).rep S0 k14 x13 from ⟨hs15, hl16⟩)) _ h132 _ h.startAll
    refine q_callX hX h rfl rfl rfl (by decide) Try.func80 rfl rfl rfl (fun a w v L1 S1 hR hb1 h => ?_)
    obtain ⟨k134, rfl, rfl, hv135, _⟩ := hR
    obtain ⟨hs136, hl137⟩ := hv135
    have hq138 := hs136.fl (S' := S0) fl_8
    refine s_stW h rfl rfl rfl ag_A16_uint8 rfl (es := k134) rfl ((hq138).len.trans (by rw [hl137]; rfl)) (hq138).one 1 rfl (by first | rfl | simp_all) (fun a w h => ?_)
    refine l_end ?_
    refine wp_ret ?_
    rw [← Option.some.inj hf]
    exact r_ret1 h rfl (rv_cellA h rfl 1 rfl ag_A16_uint8 ((hq138).len.trans (by rw [hl137]; rfl))) ⟨_, [], _, rfl, ⟨k134, rfl, rfl, ⟨hq138, hl137⟩, trivial⟩, rfl, (Up.refl _ _ _), (h.m.pick [2] _ (by decide) rfl)⟩
def aes_swap_fat1_aes_Cipher_1_l0 (Fu : Nat) (a0 : List UInt8) (a1 : (List UInt32) × (List UInt8) × (List UInt8)) (a2 : Int) : Nat → Int → (List UInt8) → Option ((List UInt8))
  | 0, _, _ => none
  | k + 1, x8, x10 => if x8 < 16 then ((ix 16 (w64 ((Int.tmod x8 4) + (w64 (4 * (i64_and (w64 ((w64 (Int.tdiv x8 4)) + (w64 (a2 * (Int.tmod x8 4))))) 3)))))).bind fun m20 => (a0[m20]?).bind fun x24 => (ix 256 (x24.toNat : Int)).bind fun m42 => (a1.2.1[m42]?).bind fun x46 => (ix 16 x8).bind fun m51 => aes_swap_fat1_aes_Cipher_1_l0 Fu a0 a1 a2 k (w64 (x8 + 1)) (x10.set m51 x46)) else (some x10)
def aes_swap_fat1_aes_Cipher_1 (Fu : Nat) (a0 : List UInt8) (a1 : (List UInt32) × (List UInt8) × (List UInt8)) (a2 : Int) : Option ((List UInt8)) :=
  (aes_swap_fat1_aes_Cipher_1_l0 Fu a0 a1 a2 Fu 0 (List.replicate 16 ((0 : UInt8) : UInt8))).bind fun x14 => some x14
set_option maxRecDepth 100000 in
set_option maxHeartbeats 2000000 in
theorem aes_swap_fat1_aes_Cipher_1_ok (Fu : Nat) {S0 : Snap} (csa0 : List Value) (a0 : List UInt8) (hsa0 : (tyA 16 ty8).rep S0 csa0 a0) (ga1 : Nat) (a1 : (List UInt32) × (List UInt8) × (List UInt8)) (hpa1 : ptS (tyP (tyL ty32) (tyP (tyA 256 ty8) (tyA 256 ty8))) S0 ga1 a1) (a2 : Int) (hra2 : r64 a2) (r : (List UInt8)) (hf : aes_swap_fat1_aes_Cipher_1 Fu a0 a1 a2 = some r) (w0 : World) (hm : Mem w0 (ownL ([] ++ [.sn S0])) ([] ++ [.sn S0]) w0) :
    Calls Try.prog 75 #[.agg csa0.toArray, .pointer (some ⟨ga1, 1, none⟩), .int .i64 a2] w0 (Ret w0 S0 [] (fun v L1 S1 => ∃ (k59 : List Value), v = .agg k59.toArray ∧ L1 = [] ∧ (tyA 16 ty8).rep S1 k59 r ∧ True)) := by
  unfold aes_swap_fat1_aes_Cipher_1 at hf
  obtain ⟨hs1, hl2⟩ := hsa0
  refine c_enterM Try.func75 rfl 37 rfl (by simp) _ hm _ rfl (fun a h => ?_)
  refine c_rs ?_
  refine s_box h rfl rfl rfl (by decide) rfl (cs := csa0) (by rfl) (fun a w g3 h => ?_)
  refine s_alloc h rfl rfl rfl (by decide) zi_A16_uint8 rfl (fun a w g4 h => ?_)
  have h := h.parts (L' := [.box g4 79 (List.replicate 16 (.int .u8 0 : Value)), .box g3 79 csa0, .sn S0]) rfl
  refine l_end ?_
  refine c_rs ?_
  refine s_alloc h rfl rfl rfl (by decide) zi_A16_uint8 rfl (fun a w g5 h => ?_)
  have h := h.parts (L' := [.box g5 79 (List.replicate 16 (.int .u8 0 : Value)), .box g4 79 (List.replicate 16 (.int .u8 0 : Value)), .box g3 79 csa0, .sn S0]) rfl
  refine l_end ?_
  refine wp_seq ?_
  refine c_rs ?_
  refine sMV h (fun a h => ?_)
  refine l_end ?_
  obtain ⟨o6, hl7, hf⟩ := bsome hf
  refine c_fin (fun a w => ∃ (x14 : List UInt8), ∃ (k15 : List Value), x14 = o6 ∧ reps ty8 S0 k15 x14 ∧ x14.length = 16 ∧ St 37 w0 (ownL ([] ++ [.sn S0])) [(6, .pointer (some ⟨g4, 0, none⟩)), (7, .pointer (some ⟨g5, 0, none⟩))] [.box g4 79 (List.replicate 16 (.int .u8 0 : Value)), .box g5 79 k15, .sn S0] a w) ?_ ?_
  · refine wp_block ?_
    have h := h.pick [2, 1, 0, 3] (by decide) rfl
    refine c_loop (fun m19 a w => ∃ (x8 : Int), ∃ (x10 : List UInt8), ∃ (k11 : List Value), aes_swap_fat1_aes_Cipher_1_l0 Fu a0 a1 a2 m19 x8 x10 = some o6 ∧ r64 x8 ∧ reps ty8 S0 k11 x10 ∧ x10.length = 16 ∧ St 37 w0 (ownL ([] ++ [.sn S0])) [(1, .pointer (some ⟨ga1, 1, none⟩)), (2, .int .i64 a2), (3, .pointer (some ⟨g3, 0, none⟩)), (6, .pointer (some ⟨g4, 0, none⟩)), (7, .pointer (some ⟨g5, 0, none⟩)), (11, .int .i64 x8)] [.box g3 79 csa0, .box g4 79 (List.replicate 16 (.int .u8 0 : Value)), .box g5 79 k11, .sn S0] a w) Fu ⟨0, (List.replicate 16 ((0 : UInt8) : UInt8)), (List.replicate 16 (.int .u8 0 : Value)), hl7, (show r64 0 from ⟨by decide, by decide⟩), (show reps ty8 S0 (List.replicate 16 (.int .u8 0 : Value)) (List.replicate 16 ((0 : UInt8) : UInt8)) from repsRep1 (x := ((0 : UInt8) : UInt8)) rfl), (show (List.replicate 16 ((0 : UInt8) : UInt8)).length = 16 from List.length_replicate), h.has (by exact ⟨rfl, rfl, rfl, rfl, rfl, rfl, trivial⟩)⟩ (fun m19 a w hI => ?_)
    obtain ⟨x8, x10, k11, hl18, hr9, hs12, hl13, h⟩ := hI
    obtain _ | m19 := m19
    · rw [aes_swap_fat1_aes_Cipher_1_l0] at hl18; cases hl18
    rw [aes_swap_fat1_aes_Cipher_1_l0] at hl18
    refine c_rs ?_
    refine sX h (x_bin h.k rfl rfl rfl ib_lss) (fun a h => ?_)
    refine l_end ?_
    refine c_cs h rfl (fun hb => ?_) (fun hb => ?_)
    · rw [if_pos (of_decide_eq_true hb)] at hl18
      refine wp_skip ?_
      refine e_thenN ?_
      refine wp_seq ?_
      refine wp_block ?_
      refine c_rs ?_
      refine sMV h (fun a h => ?_)
      refine sAV h (fun a h => ?_)
      refine l_end ?_
      refine c_rs ?_
      refine sMV h (fun a h => ?_)
      refine sX h (x_bin h.k rfl rfl rfl (ib_remw (by decide))) (fun a h => ?_)
      refine sMV h (fun a h => ?_)
      refine sX h (x_bin h.k rfl rfl rfl (ib_quow (by decide))) (fun a h => ?_)
      refine sAV h (fun a h => ?_)
      refine sAV h (fun a h => ?_)
      refine l_end ?_
      -- region 6 draws
      obtain ⟨m20, h21, hl18⟩ := bsome hl18
      obtain ⟨x24, h25, hl18⟩ := bsome hl18
      obtain ⟨m42, h43, hl18⟩ := bsome hl18
      obtain ⟨x46, h47, hl18⟩ := bsome hl18
      obtain ⟨m51, h52, hl18⟩ := bsome hl18
      refine d_start h (Mem _ _ _) 17 18 rfl (by kernel_rfl) (fun _ _ _ _ _ h => h) (fun _ h => h) (fun Q a w HE HN h HS => ?_)
      refine d_takeP h (fun _ => HS) HN 0 rfl (by kernel_rfl) (by kernel_rfl) (by kernel_rfl) (by decide) rfl rfl (by decide) (fun w' => x_move h.k _ rfl rfl) (fun a h => ?_)
      refine d_takeP h (fun _ => HS) HN 1 rfl (by kernel_rfl) (by kernel_rfl) (by kernel_rfl) (by decide) rfl rfl (by decide) (fun w' => x_move h.k _ rfl rfl) (fun a h => ?_)
      refine d_takeP h (fun _ => HS) HN 2 rfl (by kernel_rfl) (by kernel_rfl) (by kernel_rfl) (by decide) rfl rfl (by decide) (fun w' => x_move h.k _ rfl rfl) (fun a h => ?_)
      refine d_takeP h (fun _ => HS) HN 3 rfl (by kernel_rfl) (by kernel_rfl) (by kernel_rfl) (by decide) rfl rfl (by decide) (fun w' => x_move h.k _ rfl rfl) (fun a h => ?_)
      refine d_takeP h (fun _ => HS) HN 4 rfl (by kernel_rfl) (by kernel_rfl) (by kernel_rfl) (by decide) rfl rfl (by decide) (fun w' => x_move h.k _ rfl rfl) (fun a h => ?_)
      refine d_takeP h (fun _ => HS) HN 5 rfl (by kernel_rfl) (by kernel_rfl) (by kernel_rfl) (by decide) rfl rfl (by decide) (fun w' => x_move h.k _ rfl rfl) (fun a h => ?_)
      refine d_takeP h (fun _ => HS) HN 6 rfl (by kernel_rfl) (by kernel_rfl) (by kernel_rfl) (by decide) rfl rfl (by decide) (fun w' => x_bin h.k rfl rfl rfl (ib_mul rfl)) (fun a h => ?_)
      refine d_takeP h (fun _ => HS) HN 7 rfl (by kernel_rfl) (by kernel_rfl) (by kernel_rfl) (by decide) rfl rfl (by decide) (fun w' => x_bin h.k rfl rfl rfl (ib_add rfl)) (fun a h => ?_)
      refine d_takeP h (fun _ => HS) HN 8 rfl (by kernel_rfl) (by kernel_rfl) (by kernel_rfl) (by decide) rfl rfl (by decide) (fun w' => x_bin h.k rfl rfl rfl (ib_and rfl)) (fun a h => ?_)
      refine d_takeP h (fun _ => HS) HN 9 rfl (by kernel_rfl) (by kernel_rfl) (by kernel_rfl) (by decide) rfl rfl (by decide) (fun w' => x_bin h.k rfl rfl rfl (ib_mul rfl)) (fun a h => ?_)
      refine d_takeP h (fun _ => HS) HN 10 rfl (by kernel_rfl) (by kernel_rfl) (by kernel_rfl) (by decide) rfl rfl (by decide) (fun w' => x_bin h.k rfl rfl rfl (ib_add rfl)) (fun a h => ?_)
      obtain ⟨hi22, hm23⟩ := ix_some h21
      refine d_takeP h (fun _ => HS) HN 11 rfl (by kernel_rfl) (by kernel_rfl) (by kernel_rfl) (by decide) rfl rfl (by decide) (fun w' => x_iaddrA h.k rfl Try.underlying79 sz_uint8 rfl rfl hi22 hm23 rfl) (fun a h => ?_)
      obtain ⟨u26, hv27, hu28⟩ := (hs1).cell rfl h25
      cases hu28
      refine d_take h HS HN 12 rfl (by kernel_rfl) (by kernel_rfl) (by kernel_rfl) (by kernel_rfl) (by kernel_rfl) rfl rfl (by decide) (fun w' hw => x_ld h.k rfl Try.underlying5 rfl rfl ((hw.cell (i := 0) rfl _).trans (by rw [Nat.zero_add, Nat.mul_one]; exact hv27))) (fun a h => ?_)
      obtain ⟨k29, hc30, ⟨k31, k32, rfl, ⟨A33, c34, rfl, hs35⟩, ⟨k36, k37, rfl, ⟨hs38, hl39⟩, ⟨hs40, hl41⟩⟩⟩⟩ := id hpa1
      refine d_takeP h (fun _ => HS) HN 13 rfl (by kernel_rfl) (by kernel_rfl) (by kernel_rfl) (by decide) rfl rfl (by decide) (fun w' => x_nil h.k rfl rfl) (fun a h => ?_)
      obtain ⟨hi44, hm45⟩ := ix_some h43
      refine d_takeP h (fun _ => HS) HN 14 rfl (by kernel_rfl) (by kernel_rfl) (by kernel_rfl) (by decide) rfl rfl (by decide) (fun w' => x_iaddrA h.k rfl Try.underlying93 sz_uint8 rfl rfl hi44 hm45 rfl) (fun a h => ?_)
      obtain ⟨u48, hv49, hu50⟩ := (hs38).cell rfl h47
      cases hu50
      refine d_take h HS HN 15 rfl (by kernel_rfl) (by kernel_rfl) (by kernel_rfl) (by kernel_rfl) (by kernel_rfl) rfl rfl (by decide) (fun w' hw => x_ld h.k rfl Try.underlying5 rfl rfl (by have hz := hc30 _ (hw.snOK (i := 3) rfl) _ _ (cell_midE (cs := ([.slice A33 a1.1.length c34] : List Value) ++ (k36 ++ k37)) (X := [.slice A33 a1.1.length c34]) (Z := k37) (off := 1) (by simp only [List.append_assoc, List.cons_append, List.nil_append, List.append_nil]) rfl hv49); simpa using hz)) (fun a h => ?_)
      obtain ⟨hi53, hm54⟩ := ix_some h52
      refine d_takeP h (fun _ => HS) HN 16 rfl (by kernel_rfl) (by kernel_rfl) (by kernel_rfl) (by decide) rfl rfl (by decide) (fun w' => x_iaddrA h.k rfl Try.underlying79 sz_uint8 rfl rfl hi53 hm54 rfl) (fun a h => ?_)
      refine d_alone 17 rfl (by kernel_rfl) (fun K hK => ?_)
      refine q_setBox (T := ty8) (q := x46) h rfl rfl rfl sz_uint8 rfl rfl 2 rfl rfl hs12 rfl (by first | omega | (simp_all; done)) (fun a w cs55 hq56 h => ?_)
      have hl57 : (x10.set m51 x46).length = 16 := by rw [List.length_set]; exact hl13
      refine hK _ _ (fun hne _ => absurd rfl hne) ?_
      clear hK
      refine d_done (by kernel_rfl) (HE _ _ ?_) _
      refine e_blkN ?_
      refine e_thenN ?_
      refine c_r ?_
      refine sX h (x_bin h.k rfl rfl rfl (ib_add rfl)) (fun a h => ?_)
      refine sMV h (fun a h => ?_)
      refine l_nil ?_
      exact e_thenN ⟨m19, Nat.lt_succ_self _, w64 (x8 + 1), (x10.set m51 x46), cs55, hl18, (w64_r _), hq56, hl57, h.has (by exact ⟨rfl, rfl, rfl, rfl, rfl, rfl, trivial⟩)⟩
    · rw [if_neg (of_decide_eq_false hb)] at hl18
      refine wp_exit ?_
      refine e_thenX ?_
      refine e_thenX ?_
      refine e_blkX ?_
      refine e_thenN ?_
      have h := h.pick [1, 2, 3] (by decide) rfl
      exact ⟨x10, k11, (Option.some.inj hl18), hs12, hl13, h.has (by exact ⟨rfl, rfl, trivial⟩)⟩
  · rintro a w ⟨x14, k15, rfl, hs16, hl17, h⟩
    refine e_thenN ?_
    refine c_rs ?_
    refine sX h (x_ldR h.k rfl ag_A16_uint8 rfl k15 ((hs16).len.trans (by rw [hl17]; rfl)) (h.m.range0 (i := 1) rfl)) (fun a h => ?_)
    refine s_stW h rfl rfl rfl ag_A16_uint8 rfl (es := k15) rfl ((hs16).len.trans (by rw [hl17]; rfl)) (hs16).one 0 rfl (by first | rfl | simp_all) (fun a w h => ?_)
    refine l_end ?_
    refine wp_ret ?_
    rw [← Option.some.inj hf]
    exact r_ret1 h rfl (rv_cellA h rfl 0 rfl ag_A16_uint8 ((hs16).len.trans (by rw [hl17]; rfl))) ⟨_, [], _, rfl, ⟨k15, rfl, rfl, ⟨hs16, hl17⟩, trivial⟩, rfl, (Up.refl _ _ _), (h.m.pick [2] _ (by decide) rfl)⟩
def aes_Cipher_Encrypt_l0 (Fu : Nat) (a0 : (List UInt32) × (List UInt8) × (List UInt8)) (x8 : Int) : Nat → Int → (List UInt8) → Option ((List UInt8))
  | 0, _, _ => none
  | k + 1, x26, x28 => if x26 ≤ x8 then ((aes_swap_fat1_aes_Cipher_1 Fu x28 a0 1).bind fun x54 => (if x26 < x8 then ((aes_mix Fu x54).bind fun x68 => some x68) else (some x54)).bind fun x64 => (aes_Cipher_add Fu a0 x64 x26).bind fun x76 => aes_Cipher_Encrypt_l0 Fu a0 x8 k (w64 (x26 + 1)) x76) else (some x28)
def aes_Cipher_Encrypt (Fu : Nat) (a0 : (List UInt32) × (List UInt8) × (List UInt8)) (a1 : List UInt8) : Option ((List UInt8)) :=
  (aes_Cipher_is Fu a0).bind fun x5 => if (!x5) = true then (some (List.replicate 16 ((0 : UInt8) : UInt8))) else ((aes_Cipher_Rounds Fu a0).bind fun x8 => (aes_Cipher_add Fu a0 a1 0).bind fun x12 => (aes_Cipher_Encrypt_l0 Fu a0 x8 Fu 1 x12).bind fun x35 => some x35)
set_option maxRecDepth 100000 in
set_option maxHeartbeats 2000000 in
theorem aes_Cipher_Encrypt_ok (Fu : Nat) {S0 : Snap} (ga0 : Nat) (a0 : (List UInt32) × (List UInt8) × (List UInt8)) (hpa0 : ptS (tyP (tyL ty32) (tyP (tyA 256 ty8) (tyA 256 ty8))) S0 ga0 a0) (csa1 : List Value) (a1 : List UInt8) (hsa1 : (tyA 16 ty8).rep S0 csa1 a1) (r : (List UInt8)) (hf : aes_Cipher_Encrypt Fu a0 a1 = some r) (w0 : World) (hm : Mem w0 (ownL ([] ++ [.sn S0])) ([] ++ [.sn S0]) w0) :
    Calls Try.prog 61 #[.pointer (some ⟨ga0, 0, none⟩), .agg csa1.toArray] w0 (Ret w0 S0 [] (fun v L1 S1 => ∃ (k87 : List Value), v = .agg k87.toArray ∧ L1 = [] ∧ (tyA 16 ty8).rep S1 k87 r ∧ True)) := by
  unfold aes_Cipher_Encrypt at hf
  obtain ⟨hs1, hl2⟩ := hsa1
  refine c_enterM Try.func61 rfl 34 rfl (by simp) _ hm _ rfl (fun a h => ?_)
  refine c_rs ?_
  refine s_box h rfl rfl rfl (by decide) rfl (cs := csa1) (by rfl) (fun a w g3 h => ?_)
  refine s_alloc h rfl rfl rfl (by decide) zi_A16_uint8 rfl (fun a w g4 h => ?_)
  have h := h.parts (L' := [.box g4 79 (List.replicate 16 (.int .u8 0 : Value)), .box g3 79 csa1, .sn S0]) rfl
  refine l_end ?_
  refine wp_seq ?_
  refine c_rs ?_
  refine sMV h (fun a h => ?_)
  obtain ⟨x5, h6, hf⟩ := bsome hf
  have hX := aes_Cipher_is_ok Fu (S0 := snapAll _) ga0 a0 (hpa0.mono (h.m.leAll (i := 2) rfl)) _ h6 _ h.startAll
  refine q_callX hX h rfl rfl rfl (by decide) Try.func71 rfl rfl rfl (fun a w v L1 S1 hR hb1 h => ?_)
  obtain ⟨rfl, rfl, _⟩ := hR
  refine sX h (x_not h.k rfl rfl) (fun a h => ?_)
  refine l_end ?_
  refine c_cond h rfl (fun hb => ?_) (fun hb => ?_)
  · rw [if_pos hb] at hf
    refine c_rs ?_
    refine sX h (x_build h.k rfl [] rfl (List.replicate 16 (.int .u8 0 : Value)) (by kernel_rfl)) (fun a h => ?_)
    refine s_stW h rfl rfl rfl ag_A16_uint8 rfl (es := (List.replicate 16 (.int .u8 0 : Value))) rfl (by first | rfl | simp_all) ((show reps ty8 S0 (List.replicate 16 (.int .u8 0 : Value)) (List.replicate 16 ((0 : UInt8) : UInt8)) from repsRep1 (x := ((0 : UInt8) : UInt8)) rfl)).one 0 rfl (by first | rfl | simp_all) (fun a w h => ?_)
    refine l_end ?_
    refine wp_ret ?_
    refine e_thenR ?_
    obtain rfl := Option.some.inj hf
    exact r_ret1 h rfl (rv_cellA h rfl 0 rfl ag_A16_uint8 (by first | rfl | simp_all)) ⟨_, [], _, rfl, ⟨(List.replicate 16 (.int .u8 0 : Value)), rfl, rfl, ⟨(show reps ty8 S0 (List.replicate 16 (.int .u8 0 : Value)) (List.replicate 16 ((0 : UInt8) : UInt8)) from repsRep1 (x := ((0 : UInt8) : UInt8)) rfl), (show (List.replicate 16 ((0 : UInt8) : UInt8)).length = 16 from List.length_replicate)⟩, trivial⟩, rfl, (Up.refl _ _ _), (h.m.pick [2] _ (by decide) rfl)⟩
  · rw [if_neg (by rw [hb]; decide)] at hf
    refine wp_skip ?_
    refine e_thenN ?_
    refine c_rs ?_
    refine sMV h (fun a h => ?_)
    obtain ⟨x8, h9, hf⟩ := bsome hf
    have hX := aes_Cipher_Rounds_ok Fu (S0 := snapAll _) ga0 a0 (hpa0.mono (h.m.leAll (i := 2) rfl)) _ h9 _ h.startAll
    refine q_callX hX h rfl rfl rfl (by decide) Try.func72 rfl rfl rfl (fun a w v L1 S1 hR hb1 h => ?_)
    obtain ⟨rfl, rfl, hr11, _⟩ := hR
    refine sAV h (fun a h => ?_)
    refine l_end ?_
    refine c_rs ?_
    refine sMV h (fun a h => ?_)
    obtain ⟨x12, h13, hf⟩ := bsome hf
    have h := h.pick [1, 2, 0] (by decide) rfl
    have hX := aes_Cipher_add_ok Fu (S0 := S0) ga0 a0 hpa0 a1 g3 csa1 hs1 hl2 0 (show r64 0 from ⟨by decide, by decide⟩) _ h13 _ (h.sub (Ls := [.box g3 79 csa1]))
    refine q_callY (Ls := [.box g3 79 csa1]) hX h (Up.refl _ _ _) rfl rfl rfl (by decide) Try.func73 rfl rfl rfl (fun a w v L1 S15 hR le17 up16 h => ?_)
    obtain ⟨k18, rfl, rfl, hs19, hl20, _⟩ := hR
    refine l_end ?_
    refine wp_seq ?_
    refine c_rs ?_
    refine sAV h (fun a h => ?_)
    refine l_end ?_
    obtain ⟨o21, hl22, hf⟩ := bsome hf
    refine c_fin (fun a w => ∃ (S32 : Snap), ∃ (x35 : List UInt8), ∃ (k36 : List Value), x35 = o21 ∧ Snap.le S15 S32 ∧ Up (ownL ([] ++ [.sn S0])) w0 S0 S32 ∧ reps ty8 S32 k36 x35 ∧ x35.length = 16 ∧ St 34 w0 (ownL ([] ++ [.sn S0])) [(3, .pointer (some ⟨g3, 0, none⟩)), (4, .pointer (some ⟨g4, 0, none⟩))] [.box g3 79 k36, .box g4 79 (List.replicate 16 (.int .u8 0 : Value)), .sn S32] a w) ?_ ?_
    · refine wp_block ?_
      have h := h.pick [0, 2, 1] (by decide) rfl
      refine c_loop (fun m40 a w => ∃ (S23 : Snap), ∃ (x26 : Int), ∃ (x28 : List UInt8), ∃ (k29 : List Value), aes_Cipher_Encrypt_l0 Fu a0 x8 m40 x26 x28 = some o21 ∧ Snap.le S15 S23 ∧ Up (ownL ([] ++ [.sn S0])) w0 S0 S23 ∧ r64 x26 ∧ reps ty8 S23 k29 x28 ∧ x28.length = 16 ∧ St 34 w0 (ownL ([] ++ [.sn S0])) [(0, .pointer (some ⟨ga0, 0, none⟩)), (3, .pointer (some ⟨g3, 0, none⟩)), (4, .pointer (some ⟨g4, 0, none⟩)), (5, .int .i64 x8), (6, .int .i64 x26)] [.box g3 79 k29, .box g4 79 (List.replicate 16 (.int .u8 0 : Value)), .sn S23] a w) Fu ⟨S15, 1, x12, k18, hl22, (Snap.le.refl _), up16, (show r64 1 from ⟨by decide, by decide⟩), hs19, hl20, h.has (by exact ⟨rfl, rfl, rfl, rfl, rfl, trivial⟩)⟩ (fun m40 a w hI => ?_)
      obtain ⟨S23, x26, x28, k29, hl39, le24, up25, hr27, hs30, hl31, h⟩ := hI
      obtain _ | m40 := m40
      · rw [aes_Cipher_Encrypt_l0] at hl39; cases hl39
      rw [aes_Cipher_Encrypt_l0] at hl39
      refine wp_seq ?_
      refine c_rs ?_
      refine sMV h (fun a h => ?_)
      refine sMV h (fun a h => ?_)
      refine sX h (x_bin h.k rfl rfl rfl ib_leq) (fun a h => ?_)
      refine l_end ?_
      refine c_cond h rfl (fun hb => ?_) (fun hb => ?_)
      · rw [if_pos (of_decide_eq_true hb)] at hl39
        refine wp_skip ?_
        refine e_thenN ?_
        refine wp_seq ?_
        refine wp_block ?_
        refine wp_seq ?_
        -- region 8 draws
        obtain ⟨x54, h55, hl39⟩ := bsome hl39
        refine d_start h (Mem _ _ _) 5 6 rfl (by kernel_rfl) (fun _ _ _ _ _ h => h) (fun _ h => h) (fun Q a w HE HN h HS => ?_)
        refine d_take h HS HN 0 rfl (by kernel_rfl) (by kernel_rfl) (by kernel_rfl) (by kernel_rfl) (by kernel_rfl) rfl rfl (by decide) (fun w' hw => x_ldR h.k rfl ag_A16_uint8 rfl k29 ((hs30).len.trans (by rw [hl31]; rfl)) (hw.range0 (i := 0) rfl)) (fun a h => ?_)
        refine d_takeP h (fun _ => HS) HN 1 rfl (by kernel_rfl) (by kernel_rfl) (by kernel_rfl) (by decide) rfl rfl (by decide) (fun w' => x_move h.k _ rfl rfl) (fun a h => ?_)
        obtain ⟨k41, hc42, ⟨k43, k44, rfl, ⟨A45, c46, rfl, hs47⟩, ⟨k48, k49, rfl, ⟨hs50, hl51⟩, ⟨hs52, hl53⟩⟩⟩⟩ := id (hpa0.mono (le17.trans le24))
        refine d_takeP h (fun _ => HS) HN 2 rfl (by kernel_rfl) (by kernel_rfl) (by kernel_rfl) (by decide) rfl rfl (by decide) (fun w' => x_nil h.k rfl rfl) (fun a h => ?_)
        refine d_takeP h (fun _ => HS) HN 3 rfl (by kernel_rfl) (by kernel_rfl) (by kernel_rfl) (by decide) rfl rfl (by decide) (fun w' => x_faddr h.k rfl Try.underlying97 rfl sz_A256_uint8 rfl) (fun a h => ?_)
        refine d_alone 4 rfl (by kernel_rfl) (fun K hK => ?_)
        have hX := aes_swap_fat1_aes_Cipher_1_ok Fu (S0 := snapAll _) k29 x28 ((tyA 16 ty8).mono (h.m.leAll (i := 2) rfl) (show (tyA 16 ty8).rep S23 k29 x28 from ⟨hs30, hl31⟩)) ga0 a0 ((hpa0.mono (le17.trans le24)).mono (h.m.leAll (i := 2) rfl)) 1 (show r64 1 from ⟨by decide, by decide⟩) _ h55 _ h.startAll
        refine q_callX hX h rfl rfl rfl (by decide) Try.func75 rfl rfl rfl (fun a w v L1 S1 hR hb1 h => ?_)
        obtain ⟨k57, rfl, rfl, hv58, _⟩ := hR
        obtain ⟨hs59, hl60⟩ := hv58
        have hq61 := hs59.fl (S' := S23) fl_8
        refine hK _ _ (fun _ _ => HS.ext hb1) ?_
        replace HS := HS.ext hb1
        clear hK
        refine d_alone 5 rfl (by kernel_rfl) (fun K hK => ?_)
        refine s_stW h rfl rfl rfl ag_A16_uint8 rfl (es := k57) rfl ((hq61).len.trans (by rw [hl60]; rfl)) (hq61).one 0 rfl ((hs30).len.trans (by rw [hl31]; rfl)) (fun a w h => ?_)
        refine hK _ _ (fun hne _ => absurd rfl hne) ?_
        clear hK
        refine d_done (by kernel_rfl) (HE _ _ ?_) _
        refine e_thenN ?_
        obtain ⟨o62, hc63, hl39⟩ := bsome hl39
        refine c_cut (fun a w => ∃ (x64 : List UInt8), ∃ (k65 : List Value), x64 = o62 ∧ reps ty8 S23 k65 x64 ∧ x64.length = 16 ∧ St 34 w0 (ownL ([] ++ [.sn S0])) [(0, .pointer (some ⟨ga0, 0, none⟩)), (3, .pointer (some ⟨g3, 0, none⟩)), (4, .pointer (some ⟨g4, 0, none⟩)), (5, .int .i64 x8), (6, .int .i64 x26)] [.box g3 79 k65, .box g4 79 (List.replicate 16 (.int .u8 0 : Value)), .sn S23] a w) ?_ ?_
        · refine c_rs ?_
          refine sMV h (fun a h => ?_)
          refine sMV h (fun a h => ?_)
          refine sX h (x_bin h.k rfl rfl rfl ib_lss) (fun a h => ?_)
          refine l_end ?_
          refine c_cond h rfl (fun hb => ?_) (fun hb => ?_)
          · rw [if_pos (of_decide_eq_true hb)] at hc63
            refine c_r ?_
            refine sX h (x_ldR h.k rfl ag_A16_uint8 rfl k57 ((hq61).len.trans (by rw [hl60]; rfl)) (h.m.range0 (i := 0) rfl)) (fun a h => ?_)
            obtain ⟨x68, h69, hc63⟩ := bsome hc63
            have hX := aes_mix_ok Fu (S0 := snapAll _) k57 x54 ((tyA 16 ty8).mono (h.m.leAll (i := 2) rfl) (show (tyA 16 ty8).rep S23 k57 x54 from ⟨hq61, hl60⟩)) _ h69 _ h.startAll
            refine q_callX hX h rfl rfl rfl (by decide) Try.func80 rfl rfl rfl (fun a w v L1 S1 hR hb1 h => ?_)
            obtain ⟨k71, rfl, rfl, hv72, _⟩ := hR
            obtain ⟨hs73, hl74⟩ := hv72
            have hq75 := hs73.fl (S' := S23) fl_8
            refine s_stW h rfl rfl rfl ag_A16_uint8 rfl (es := k71) rfl ((hq75).len.trans (by rw [hl74]; rfl)) (hq75).one 0 rfl ((hq61).len.trans (by rw [hl60]; rfl)) (fun a w h => ?_)
            refine l_nil ?_
            refine e_thenN ?_
            exact ⟨x68, k71, (Option.some.inj hc63), hq75, hl74, h.has (by exact ⟨rfl, rfl, rfl, rfl, rfl, trivial⟩)⟩
          · rw [if_neg (of_decide_eq_false hb)] at hc63
            refine wp_skip ?_
            refine e_thenN ?_
            exact ⟨x54, k57, (Option.some.inj hc63), hq61, hl60, h.has (by exact ⟨rfl, rfl, rfl, rfl, rfl, trivial⟩)⟩
        · rintro a w ⟨x64, k65, rfl, hs66, hl67, h⟩
          refine c_r ?_
          refine sMV h (fun a h => ?_)
          refine sMV h (fun a h => ?_)
          obtain ⟨x76, h77, hl39⟩ := bsome hl39
          have h := h.pick [0, 2, 1] (by decide) rfl
          have hX := aes_Cipher_add_ok Fu (S0 := S23) ga0 a0 (hpa0.mono (le17.trans le24)) x64 g3 k65 hs66 hl67 x26 hr27 _ h77 _ (h.sub (Ls := [.box g3 79 k65]))
          refine q_callY (Ls := [.box g3 79 k65]) hX h up25 rfl rfl rfl (by decide) Try.func73 rfl rfl rfl (fun a w v L1 S79 hR le81 up80 h => ?_)
          obtain ⟨k82, rfl, rfl, hs83, hl84, _⟩ := hR
          refine l_nil ?_
          refine e_blkN ?_
          refine e_thenN ?_
          refine c_r ?_
          refine sMV h (fun a h => ?_)
          refine sX h (x_bin h.k rfl rfl rfl (ib_add rfl)) (fun a h => ?_)
          refine sAV h (fun a h => ?_)
          refine l_nil ?_
          have h := h.pick [0, 2, 1] (by decide) rfl
          exact e_thenN ⟨m40, Nat.lt_succ_self _, S79, w64 (x26 + 1), x76, k82, hl39, (le24.trans le81), up80, (w64_r _), hs83, hl84, h.has (by exact ⟨rfl, rfl, rfl, rfl, rfl, trivial⟩)⟩
      · rw [if_neg (of_decide_eq_false hb)] at hl39
        refine wp_exit ?_
        refine e_thenX ?_
        refine e_thenX ?_
        refine e_blkX ?_
        refine e_thenN ?_
        exact ⟨S23, x28, k29, (Option.some.inj hl39), le24, up25, hs30, hl31, h.has (by exact ⟨rfl, rfl, trivial⟩)⟩
    · rintro a w ⟨S32, x35, k36, rfl, le33, up34, hs37, hl38, h⟩
      refine e_thenN ?_
      refine c_rs ?_
      refine sX h (x_ldR h.k rfl ag_A16_uint8 rfl k36 ((hs37).len.trans (by rw [hl38]; rfl)) (h.m.range0 (i := 0) rfl)) (fun a h => ?_)
      refine s_stW h rfl rfl rfl ag_A16_uint8 rfl (es := k36) rfl ((hs37).len.trans (by rw [hl38]; rfl)) (hs37).one 1 rfl (by first | rfl | simp_all) (fun a w h => ?_)
      refine l_end ?_
      refine wp_ret ?_
      rw [← Option.some.inj hf]
      exact r_ret1 h rfl (rv_cellA h rfl 1 rfl ag_A16_uint8 ((hs37).len.trans (by rw [hl38]; rfl))) ⟨_, [], _, rfl, ⟨k36, rfl, rfl, ⟨hs37, hl38⟩, trivial⟩, rfl, up34, (h.m.pick [2] _ (by decide) rfl)⟩
def aes_Cipher_Encrypt_nil0 (Fu : Nat) (a1 : List UInt8) : Option ((List UInt8)) :=
  (aes_Cipher_is_nil0 Fu).bind fun x5 => some (List.replicate 16 ((0 : UInt8) : UInt8))
set_option maxRecDepth 100000 in
set_option maxHeartbeats 2000000 in
theorem aes_Cipher_Encrypt_nil0_ok (Fu : Nat) {S0 : Snap} (csa1 : List Value) (a1 : List UInt8) (hsa1 : (tyA 16 ty8).rep S0 csa1 a1) (r : (List UInt8)) (hf : aes_Cipher_Encrypt_nil0 Fu a1 = some r) (w0 : World) (hm : Mem w0 (ownL ([] ++ [.sn S0])) ([] ++ [.sn S0]) w0) :
    Calls Try.prog 61 #[.pointer none, .agg csa1.toArray] w0 (Ret w0 S0 [] (fun v L1 S1 => ∃ (k8 : List Value), v = .agg k8.toArray ∧ L1 = [] ∧ (tyA 16 ty8).rep S1 k8 r ∧ True)) := by
  unfold aes_Cipher_Encrypt_nil0 at hf
  obtain ⟨hs1, hl2⟩ := hsa1
  refine c_enterM Try.func61 rfl 34 rfl (by simp) _ hm _ rfl (fun a h => ?_)
  refine c_rs ?_
  refine s_box h rfl rfl rfl (by decide) rfl (cs := csa1) (by rfl) (fun a w g3 h => ?_)
  refine s_alloc h rfl rfl rfl (by decide) zi_A16_uint8 rfl (fun a w g4 h => ?_)
  have h := h.parts (L' := [.box g4 79 (List.replicate 16 (.int .u8 0 : Value)), .box g3 79 csa1, .sn S0]) rfl
  refine l_end ?_
  refine wp_seq ?_
  refine c_rs ?_
  refine sMV h (fun a h => ?_)
  obtain ⟨x5, h6, hf⟩ := bsome hf
  have hX := aes_Cipher_is_nil0_ok Fu (S0 := snapAll _)  _ h6 _ h.startAll
  refine q_callX hX h rfl rfl rfl (by decide) Try.func71 rfl rfl rfl (fun a w v L1 S1 hR hb1 h => ?_)
  obtain ⟨rfl, rfl, _⟩ := hR
  obtain rfl : x5 = false := by unfold aes_Cipher_is_nil0 at h6; exact (Option.some.inj h6).symm
  refine sX h (x_not h.k rfl rfl) (fun a h => ?_)
  refine l_end ?_
  refine c_cond h rfl (fun hb => ?_) (fun hb => ?_)
  · refine c_rs ?_
    refine sX h (x_build h.k rfl [] rfl (List.replicate 16 (.int .u8 0 : Value)) (by kernel_rfl)) (fun a h => ?_)
    refine s_stW h rfl rfl rfl ag_A16_uint8 rfl (es := (List.replicate 16 (.int .u8 0 : Value))) rfl (by first | rfl | simp_all) ((show reps ty8 S0 (List.replicate 16 (.int .u8 0 : Value)) (List.replicate 16 ((0 : UInt8) : UInt8)) from repsRep1 (x := ((0 : UInt8) : UInt8)) rfl)).one 0 rfl (by first | rfl | simp_all) (fun a w h => ?_)
    refine l_end ?_
    refine wp_ret ?_
    refine e_thenR ?_
    obtain rfl := Option.some.inj hf
    exact r_ret1 h rfl (rv_cellA h rfl 0 rfl ag_A16_uint8 (by first | rfl | simp_all)) ⟨_, [], _, rfl, ⟨(List.replicate 16 (.int .u8 0 : Value)), rfl, rfl, ⟨(show reps ty8 S0 (List.replicate 16 (.int .u8 0 : Value)) (List.replicate 16 ((0 : UInt8) : UInt8)) from repsRep1 (x := ((0 : UInt8) : UInt8)) rfl), (show (List.replicate 16 ((0 : UInt8) : UInt8)).length = 16 from List.length_replicate)⟩, trivial⟩, rfl, (Up.refl _ _ _), (h.m.pick [2] _ (by decide) rfl)⟩
  · exact absurd hb (by decide)
def aes_swap_fat1_aes_Cipher_257_l0 (Fu : Nat) (a0 : List UInt8) (a1 : (List UInt32) × (List UInt8) × (List UInt8)) (a2 : Int) : Nat → Int → (List UInt8) → Option ((List UInt8))
  | 0, _, _ => none
  | k + 1, x8, x10 => if x8 < 16 then ((ix 16 (w64 ((Int.tmod x8 4) + (w64 (4 * (i64_and (w64 ((w64 (Int.tdiv x8 4)) + (w64 (a2 * (Int.tmod x8 4))))) 3)))))).bind fun m20 => (a0[m20]?).bind fun x24 => (ix 256 (x24.toNat : Int)).bind fun m42 => (a1.2.2[m42]?).bind fun x46 => (ix 16 x8).bind fun m51 => aes_swap_fat1_aes_Cipher_257_l0 Fu a0 a1 a2 k (w64 (x8 + 1)) (x10.set m51 x46)) else (some x10)
def aes_swap_fat1_aes_Cipher_257 (Fu : Nat) (a0 : List UInt8) (a1 : (List UInt32) × (List UInt8) × (List UInt8)) (a2 : Int) : Option ((List UInt8)) :=
  (aes_swap_fat1_aes_Cipher_257_l0 Fu a0 a1 a2 Fu 0 (List.replicate 16 ((0 : UInt8) : UInt8))).bind fun x14 => some x14
set_option maxRecDepth 100000 in
set_option maxHeartbeats 2000000 in
theorem aes_swap_fat1_aes_Cipher_257_ok (Fu : Nat) {S0 : Snap} (csa0 : List Value) (a0 : List UInt8) (hsa0 : (tyA 16 ty8).rep S0 csa0 a0) (ga1 : Nat) (a1 : (List UInt32) × (List UInt8) × (List UInt8)) (hpa1 : ptS (tyP (tyL ty32) (tyP (tyA 256 ty8) (tyA 256 ty8))) S0 ga1 a1) (a2 : Int) (hra2 : r64 a2) (r : (List UInt8)) (hf : aes_swap_fat1_aes_Cipher_257 Fu a0 a1 a2 = some r) (w0 : World) (hm : Mem w0 (ownL ([] ++ [.sn S0])) ([] ++ [.sn S0]) w0) :
    Calls Try.prog 75 #[.agg csa0.toArray, .pointer (some ⟨ga1, 257, none⟩), .int .i64 a2] w0 (Ret w0 S0 [] (fun v L1 S1 => ∃ (k59 : List Value), v = .agg k59.toArray ∧ L1 = [] ∧ (tyA 16 ty8).rep S1 k59 r ∧ True)) := by
  unfold aes_swap_fat1_aes_Cipher_257 at hf
  obtain ⟨hs1, hl2⟩ := hsa0
  refine c_enterM Try.func75 rfl 37 rfl (by simp) _ hm _ rfl (fun a h => ?_)
  refine c_rs ?_
  refine s_box h rfl rfl rfl (by decide) rfl (cs := csa0) (by rfl) (fun a w g3 h => ?_)
  refine s_alloc h rfl rfl rfl (by decide) zi_A16_uint8 rfl (fun a w g4 h => ?_)
  have h := h.parts (L' := [.box g4 79 (List.replicate 16 (.int .u8 0 : Value)), .box g3 79 csa0, .sn S0]) rfl
  refine l_end ?_
  refine c_rs ?_
  refine s_alloc h rfl rfl rfl (by decide) zi_A16_uint8 rfl (fun a w g5 h => ?_)
  have h := h.parts (L' := [.box g5 79 (List.replicate 16 (.int .u8 0 : Value)), .box g4 79 (List.replicate 16 (.int .u8 0 : Value)), .box g3 79 csa0, .sn S0]) rfl
  refine l_end ?_
  refine wp_seq ?_
  refine c_rs ?_
  refine sMV h (fun a h => ?_)
  refine l_end ?_
  obtain ⟨o6, hl7, hf⟩ := bsome hf
  refine c_fin (fun a w => ∃ (x14 : List UInt8), ∃ (k15 : List Value), x14 = o6 ∧ reps ty8 S0 k15 x14 ∧ x14.length = 16 ∧ St 37 w0 (ownL ([] ++ [.sn S0])) [(6, .pointer (some ⟨g4, 0, none⟩)), (7, .pointer (some ⟨g5, 0, none⟩))] [.box g4 79 (List.replicate 16 (.int .u8 0 : Value)), .box g5 79 k15, .sn S0] a w) ?_ ?_
  · refine wp_block ?_
    have h := h.pick [2, 1, 0, 3] (by decide) rfl
    refine c_loop (fun m19 a w => ∃ (x8 : Int), ∃ (x10 : List UInt8), ∃ (k11 : List Value), aes_swap_fat1_aes_Cipher_257_l0 Fu a0 a1 a2 m19 x8 x10 = some o6 ∧ r64 x8 ∧ reps ty8 S0 k11 x10 ∧ x10.length = 16 ∧ St 37 w0 (ownL ([] ++ [.sn S0])) [(1, .pointer (some ⟨ga1, 257, none⟩)), (2, .int .i64 a2), (3, .pointer (some ⟨g3, 0, none⟩)), (6, .pointer (some ⟨g4, 0, none⟩)), (7, .pointer (some ⟨g5, 0, none⟩)), (11, .int .i64 x8)] [.box g3 79 csa0, .box g4 79 (List.replicate 16 (.int .u8 0 : Value)), .box g5 79 k11, .sn S0] a w) Fu ⟨0, (List.replicate 16 ((0 : UInt8) : UInt8)), (List.replicate 16 (.int .u8 0 : Value)), hl7, (show r64 0 from ⟨by decide, by decide⟩), (show reps ty8 S0 (List.replicate 16 (.int .u8 0 : Value)) (List.replicate 16 ((0 : UInt8) : UInt8)) from repsRep1 (x := ((0 : UInt8) : UInt8)) rfl), (show (List.replicate 16 ((0 : UInt8) : UInt8)).length = 16 from List.length_replicate), h.has (by exact ⟨rfl, rfl, rfl, rfl, rfl, rfl, trivial⟩)⟩ (fun m19 a w hI => ?_)
    obtain ⟨x8, x10, k11, hl18, hr9, hs12, hl13, h⟩ := hI
    obtain _ | m19 := m19
    · rw [aes_swap_fat1_aes_Cipher_257_l0] at hl18; cases hl18
    rw [aes_swap_fat1_aes_Cipher_257_l0] at hl18
    refine c_rs ?_
    refine sX h (x_bin h.k rfl rfl rfl ib_lss) (fun a h => ?_)
    refine l_end ?_
    refine c_cs h rfl (fun hb => ?_) (fun hb => ?_)
    · rw [if_pos (of_decide_eq_true hb)] at hl18
      refine wp_skip ?_
      refine e_thenN ?_
      refine wp_seq ?_
      refine wp_block ?_
      refine c_rs ?_
      refine sMV h (fun a h => ?_)
      refine sAV h (fun a h => ?_)
      refine l_end ?_
      refine c_rs ?_
      refine sMV h (fun a h => ?_)
      refine sX h (x_bin h.k rfl rfl rfl (ib_remw (by decide))) (fun a h => ?_)
      refine sMV h (fun a h => ?_)
      refine sX h (x_bin h.k rfl rfl rfl (ib_quow (by decide))) (fun a h => ?_)
      refine sAV h (fun a h => ?_)
      refine sAV h (fun a h => ?_)
      refine l_end ?_
      -- region 6 draws
      obtain ⟨m20, h21, hl18⟩ := bsome hl18
      obtain ⟨x24, h25, hl18⟩ := bsome hl18
      obtain ⟨m42, h43, hl18⟩ := bsome hl18
      obtain ⟨x46, h47, hl18⟩ := bsome hl18
      obtain ⟨m51, h52, hl18⟩ := bsome hl18
      refine d_start h (Mem _ _ _) 17 18 rfl (by kernel_rfl) (fun _ _ _ _ _ h => h) (fun _ h => h) (fun Q a w HE HN h HS => ?_)
      refine d_takeP h (fun _ => HS) HN 0 rfl (by kernel_rfl) (by kernel_rfl) (by kernel_rfl) (by decide) rfl rfl (by decide) (fun w' => x_move h.k _ rfl rfl) (fun a h => ?_)
      refine d_takeP h (fun _ => HS) HN 1 rfl (by kernel_rfl) (by kernel_rfl) (by kernel_rfl) (by decide) rfl rfl (by decide) (fun w' => x_move h.k _ rfl rfl) (fun a h => ?_)
      refine d_takeP h (fun _ => HS) HN 2 rfl (by kernel_rfl) (by kernel_rfl) (by kernel_rfl) (by decide) rfl rfl (by decide) (fun w' => x_move h.k _ rfl rfl) (fun a h => ?_)
      refine d_takeP h (fun _ => HS) HN 3 rfl (by kernel_rfl) (by kernel_rfl) (by kernel_rfl) (by decide) rfl rfl (by decide) (fun w' => x_move h.k _ rfl rfl) (fun a h => ?_)
      refine d_takeP h (fun _ => HS) HN 4 rfl (by kernel_rfl) (by kernel_rfl) (by kernel_rfl) (by decide) rfl rfl (by decide) (fun w' => x_move h.k _ rfl rfl) (fun a h => ?_)
      refine d_takeP h (fun _ => HS) HN 5 rfl (by kernel_rfl) (by kernel_rfl) (by kernel_rfl) (by decide) rfl rfl (by decide) (fun w' => x_move h.k _ rfl rfl) (fun a h => ?_)
      refine d_takeP h (fun _ => HS) HN 6 rfl (by kernel_rfl) (by kernel_rfl) (by kernel_rfl) (by decide) rfl rfl (by decide) (fun w' => x_bin h.k rfl rfl rfl (ib_mul rfl)) (fun a h => ?_)
      refine d_takeP h (fun _ => HS) HN 7 rfl (by kernel_rfl) (by kernel_rfl) (by kernel_rfl) (by decide) rfl rfl (by decide) (fun w' => x_bin h.k rfl rfl rfl (ib_add rfl)) (fun a h => ?_)
      refine d_takeP h (fun _ => HS) HN 8 rfl (by kernel_rfl) (by kernel_rfl) (by kernel_rfl) (by decide) rfl rfl (by decide) (fun w' => x_bin h.k rfl rfl rfl (ib_and rfl)) (fun a h => ?_)
      refine d_takeP h (fun _ => HS) HN 9 rfl (by kernel_rfl) (by kernel_rfl) (by kernel_rfl) (by decide) rfl rfl (by decide) (fun w' => x_bin h.k rfl rfl rfl (ib_mul rfl)) (fun a h => ?_)
      refine d_takeP h (fun _ => HS) HN 10 rfl (by kernel_rfl) (by kernel_rfl) (by kernel_rfl) (by decide) rfl rfl (by decide) (fun w' => x_bin h.k rfl rfl rfl (ib_add rfl)) (fun a h => ?_)
      obtain ⟨hi22, hm23⟩ := ix_some h21
      refine d_takeP h (fun _ => HS) HN 11 rfl (by kernel_rfl) (by kernel_rfl) (by kernel_rfl) (by decide) rfl rfl (by decide) (fun w' => x_iaddrA h.k rfl Try.underlying79 sz_uint8 rfl rfl hi22 hm23 rfl) (fun a h => ?_)
      obtain ⟨u26, hv27, hu28⟩ := (hs1).cell rfl h25
      cases hu28
      refine d_take h HS HN 12 rfl (by kernel_rfl) (by kernel_rfl) (by kernel_rfl) (by kernel_rfl) (by kernel_rfl) rfl rfl (by decide) (fun w' hw => x_ld h.k rfl Try.underlying5 rfl rfl ((hw.cell (i := 0) rfl _).trans (by rw [Nat.zero_add, Nat.mul_one]; exact hv27))) (fun a h => ?_)
      obtain ⟨k29, hc30, ⟨k31, k32, rfl, ⟨A33, c34, rfl, hs35⟩, ⟨k36, k37, rfl, ⟨hs38, hl39⟩, ⟨hs40, hl41⟩⟩⟩⟩ := id hpa1
      refine d_takeP h (fun _ => HS) HN 13 rfl (by kernel_rfl) (by kernel_rfl) (by kernel_rfl) (by decide) rfl rfl (by decide) (fun w' => x_nil h.k rfl rfl) (fun a h => ?_)
      obtain ⟨hi44, hm45⟩ := ix_some h43
      refine d_takeP h (fun _ => HS) HN 14 rfl (by kernel_rfl) (by kernel_rfl) (by kernel_rfl) (by decide) rfl rfl (by decide) (fun w' => x_iaddrA h.k rfl Try.underlying93 sz_uint8 rfl rfl hi44 hm45 rfl) (fun a h => ?_)
      obtain ⟨u48, hv49, hu50⟩ := (hs40).cell rfl h47
      cases hu50
      refine d_take h HS HN 15 rfl (by kernel_rfl) (by kernel_rfl) (by kernel_rfl) (by kernel_rfl) (by kernel_rfl) rfl rfl (by decide) (fun w' hw => x_ld h.k rfl Try.underlying5 rfl rfl (by have hz := hc30 _ (hw.snOK (i := 3) rfl) _ _ (cell_midE (cs := ([.slice A33 a1.1.length c34] : List Value) ++ (k36 ++ k37)) (X := ([.slice A33 a1.1.length c34] : List Value) ++ (k36)) (Z := []) (off := 257) (by simp only [List.append_assoc, List.cons_append, List.nil_append, List.append_nil]) (show (([.slice A33 a1.1.length c34] : List Value) ++ (k36) : List Value).length = 257 from by simp only [List.length_append, List.length_cons, List.length_nil, (show (k36 : List Value).length = 256 from ((hs38).len.trans (by rw [hl39]; rfl))), (show (k37 : List Value).length = 256 from ((hs40).len.trans (by rw [hl41]; rfl)))]) hv49); simpa using hz)) (fun a h => ?_)
      obtain ⟨hi53, hm54⟩ := ix_some h52
      refine d_takeP h (fun _ => HS) HN 16 rfl (by kernel_rfl) (by kernel_rfl) (by kernel_rfl) (by decide) rfl rfl (by decide) (fun w' => x_iaddrA h.k rfl Try.underlying79 sz_uint8 rfl rfl hi53 hm54 rfl) (fun a h => ?_)
      refine d_alone 17 rfl (by kernel_rfl) (fun K hK => ?_)
      refine q_setBox (T := ty8) (q := x46) h rfl rfl rfl sz_uint8 rfl rfl 2 rfl rfl hs12 rfl (by first | omega | (simp_all; done)) (fun a w cs55 hq56 h => ?_)
      have hl57 : (x10.set m51 x46).length = 16 := by rw [List.length_set]; exact hl13
      refine hK _ _ (fun hne _ => absurd rfl hne) ?_
      clear hK
      refine d_done (by kernel_rfl) (HE _ _ ?_) _
      refine e_blkN ?_
      refine e_thenN ?_
      refine c_r ?_
      refine sX h (x_bin h.k rfl rfl rfl (ib_add rfl)) (fun a h => ?_)
      refine sMV h (fun a h => ?_)
      refine l_nil ?_
      exact e_thenN ⟨m19, Nat.lt_succ_self _, w64 (x8 + 1), (x10.set m51 x46), cs55, hl18, (w64_r _), hq56, hl57, h.has (by exact ⟨rfl, rfl, rfl, rfl, rfl, rfl, trivial⟩)⟩
    · rw [if_neg (of_decide_eq_false hb)] at hl18
      refine wp_exit ?_
      refine e_thenX ?_
      refine e_thenX ?_
      refine e_blkX ?_
      refine e_thenN ?_
      have h := h.pick [1, 2, 3] (by decide) rfl
      exact ⟨x10, k11, (Option.some.inj hl18), hs12, hl13, h.has (by exact ⟨rfl, rfl, trivial⟩)⟩
  · rintro a w ⟨x14, k15, rfl, hs16, hl17, h⟩
    refine e_thenN ?_
    refine c_rs ?_
    refine sX h (x_ldR h.k rfl ag_A16_uint8 rfl k15 ((hs16).len.trans (by rw [hl17]; rfl)) (h.m.range0 (i := 1) rfl)) (fun a h => ?_)
    refine s_stW h rfl rfl rfl ag_A16_uint8 rfl (es := k15) rfl ((hs16).len.trans (by rw [hl17]; rfl)) (hs16).one 0 rfl (by first | rfl | simp_all) (fun a w h => ?_)
    refine l_end ?_
    refine wp_ret ?_
    rw [← Option.some.inj hf]
    exact r_ret1 h rfl (rv_cellA h rfl 0 rfl ag_A16_uint8 ((hs16).len.trans (by rw [hl17]; rfl))) ⟨_, [], _, rfl, ⟨k15, rfl, rfl, ⟨hs16, hl17⟩, trivial⟩, rfl, (Up.refl _ _ _), (h.m.pick [2] _ (by decide) rfl)⟩
def aes_Cipher_Decrypt_l0 (Fu : Nat) (a0 : (List UInt32) × (List UInt8) × (List UInt8)) (x8 : Int) : Nat → Int → (List UInt8) → Option ((List UInt8))
  | 0, _, _ => none
  | k + 1, x17, x19 => if 1 ≤ x17 then ((aes_Cipher_add Fu a0 x19 x17).bind fun x32 => (if x17 < x8 then ((aes_unmix Fu x32).bind fun x47 => some x47) else (some x32)).bind fun x43 => (aes_swap_fat1_aes_Cipher_257 Fu x43 a0 3).bind fun x68 => aes_Cipher_Decrypt_l0 Fu a0 x8 k (w64 (x17 - 1)) x68) else (some x19)
def aes_Cipher_Decrypt (Fu : Nat) (a0 : (List UInt32) × (List UInt8) × (List UInt8)) (a1 : List UInt8) : Option ((List UInt8)) :=
  (aes_Cipher_is Fu a0).bind fun x5 => if (!x5) = true then (some (List.replicate 16 ((0 : UInt8) : UInt8))) else ((aes_Cipher_Rounds Fu a0).bind fun x8 => (aes_Cipher_Decrypt_l0 Fu a0 x8 Fu x8 a1).bind fun x26 => (aes_Cipher_add Fu a0 x26 0).bind fun x77 => some x77)
set_option maxRecDepth 100000 in
set_option maxHeartbeats 2000000 in
theorem aes_Cipher_Decrypt_ok (Fu : Nat) {S0 : Snap} (ga0 : Nat) (a0 : (List UInt32) × (List UInt8) × (List UInt8)) (hpa0 : ptS (tyP (tyL ty32) (tyP (tyA 256 ty8) (tyA 256 ty8))) S0 ga0 a0) (csa1 : List Value) (a1 : List UInt8) (hsa1 : (tyA 16 ty8).rep S0 csa1 a1) (r : (List UInt8)) (hf : aes_Cipher_Decrypt Fu a0 a1 = some r) (w0 : World) (hm : Mem w0 (ownL ([] ++ [.sn S0])) ([] ++ [.sn S0]) w0) :
    Calls Try.prog 54 #[.pointer (some ⟨ga0, 0, none⟩), .agg csa1.toArray] w0 (Ret w0 S0 [] (fun v L1 S1 => ∃ (k87 : List Value), v = .agg k87.toArray ∧ L1 = [] ∧ (tyA 16 ty8).rep S1 k87 r ∧ True)) := by
  unfold aes_Cipher_Decrypt at hf
  obtain ⟨hs1, hl2⟩ := hsa1
  refine c_enterM Try.func54 rfl 34 rfl (by simp) _ hm _ rfl (fun a h => ?_)
  refine c_rs ?_
  refine s_box h rfl rfl rfl (by decide) rfl (cs := csa1) (by rfl) (fun a w g3 h => ?_)
  refine s_alloc h rfl rfl rfl (by decide) zi_A16_uint8 rfl (fun a w g4 h => ?_)
  have h := h.parts (L' := [.box g4 79 (List.replicate 16 (.int .u8 0 : Value)), .box g3 79 csa1, .sn S0]) rfl
  refine l_end ?_
  refine wp_seq ?_
  refine c_rs ?_
  refine sMV h (fun a h => ?_)
  obtain ⟨x5, h6, hf⟩ := bsome hf
  have hX := aes_Cipher_is_ok Fu (S0 := snapAll _) ga0 a0 (hpa0.mono (h.m.leAll (i := 2) rfl)) _ h6 _ h.startAll
  refine q_callX hX h rfl rfl rfl (by decide) Try.func71 rfl rfl rfl (fun a w v L1 S1 hR hb1 h => ?_)
  obtain ⟨rfl, rfl, _⟩ := hR
  refine sX h (x_not h.k rfl rfl) (fun a h => ?_)
  refine l_end ?_
  refine c_cond h rfl (fun hb => ?_) (fun hb => ?_)
  · rw [if_pos hb] at hf
    refine c_rs ?_
    refine sX h (x_build h.k rfl [] rfl (List.replicate 16 (.int .u8 0 : Value)) (by kernel_rfl)) (fun a h => ?_)
    refine s_stW h rfl rfl rfl ag_A16_uint8 rfl (es := (List.replicate 16 (.int .u8 0 : Value))) rfl (by first | rfl | simp_all) ((show reps ty8 S0 (List.replicate 16 (.int .u8 0 : Value)) (List.replicate 16 ((0 : UInt8) : UInt8)) from repsRep1 (x := ((0 : UInt8) : UInt8)) rfl)).one 0 rfl (by first | rfl | simp_all) (fun a w h => ?_)
    refine l_end ?_
    refine wp_ret ?_
    refine e_thenR ?_
    obtain rfl := Option.some.inj hf
    exact r_ret1 h rfl (rv_cellA h rfl 0 rfl ag_A16_uint8 (by first | rfl | simp_all)) ⟨_, [], _, rfl, ⟨(List.replicate 16 (.int .u8 0 : Value)), rfl, rfl, ⟨(show reps ty8 S0 (List.replicate 16 (.int .u8 0 : Value)) (List.replicate 16 ((0 : UInt8) : UInt8)) from repsRep1 (x := ((0 : UInt8) : UInt8)) rfl), (show (List.replicate 16 ((0 : UInt8) : UInt8)).length = 16 from List.length_replicate)⟩, trivial⟩, rfl, (Up.refl _ _ _), (h.m.pick [2] _ (by decide) rfl)⟩
  · rw [if_neg (by rw [hb]; decide)] at hf
    refine wp_skip ?_
    refine e_thenN ?_
    refine c_rs ?_
    refine sMV h (fun a h => ?_)
    obtain ⟨x8, h9, hf⟩ := bsome hf
    have hX := aes_Cipher_Rounds_ok Fu (S0 := snapAll _) ga0 a0 (hpa0.mono (h.m.leAll (i := 2) rfl)) _ h9 _ h.startAll
    refine q_callX hX h rfl rfl rfl (by decide) Try.func72 rfl rfl rfl (fun a w v L1 S1 hR hb1 h => ?_)
    obtain ⟨rfl, rfl, hr11, _⟩ := hR
    refine sAV h (fun a h => ?_)
    refine l_end ?_
    refine wp_seq ?_
    refine c_rs ?_
    refine sMV h (fun a h => ?_)
    refine sAV h (fun a h => ?_)
    refine l_end ?_
    obtain ⟨o12, hl13, hf⟩ := bsome hf
    refine c_fin (fun a w => ∃ (S23 : Snap), ∃ (x26 : List UInt8), ∃ (k27 : List Value), x26 = o12 ∧ Snap.le S0 S23 ∧ Up (ownL ([] ++ [.sn S0])) w0 S0 S23 ∧ reps ty8 S23 k27 x26 ∧ x26.length = 16 ∧ St 34 w0 (ownL ([] ++ [.sn S0])) [(0, .pointer (some ⟨ga0, 0, none⟩)), (3, .pointer (some ⟨g3, 0, none⟩)), (4, .pointer (some ⟨g4, 0, none⟩))] [.box g3 79 k27, .box g4 79 (List.replicate 16 (.int .u8 0 : Value)), .sn S23] a w) ?_ ?_
    · refine wp_block ?_
      have h := h.pick [1, 0, 2] (by decide) rfl
      refine c_loop (fun m31 a w => ∃ (S14 : Snap), ∃ (x17 : Int), ∃ (x19 : List UInt8), ∃ (k20 : List Value), aes_Cipher_Decrypt_l0 Fu a0 x8 m31 x17 x19 = some o12 ∧ Snap.le S0 S14 ∧ Up (ownL ([] ++ [.sn S0])) w0 S0 S14 ∧ r64 x17 ∧ reps ty8 S14 k20 x19 ∧ x19.length = 16 ∧ St 34 w0 (ownL ([] ++ [.sn S0])) [(0, .pointer (some ⟨ga0, 0, none⟩)), (3, .pointer (some ⟨g3, 0, none⟩)), (4, .pointer (some ⟨g4, 0, none⟩)), (5, .int .i64 x8), (6, .int .i64 x17)] [.box g3 79 k20, .box g4 79 (List.replicate 16 (.int .u8 0 : Value)), .sn S14] a w) Fu ⟨S0, x8, a1, csa1, hl13, (Snap.le.refl _), (Up.refl _ _ _), hr11, hs1, hl2, h.has (by exact ⟨rfl, rfl, rfl, rfl, rfl, trivial⟩)⟩ (fun m31 a w hI => ?_)
      obtain ⟨S14, x17, x19, k20, hl30, le15, up16, hr18, hs21, hl22, h⟩ := hI
      obtain _ | m31 := m31
      · rw [aes_Cipher_Decrypt_l0] at hl30; cases hl30
      rw [aes_Cipher_Decrypt_l0] at hl30
      refine wp_seq ?_
      refine c_rs ?_
      refine sMV h (fun a h => ?_)
      refine sX h (x_bin h.k rfl rfl rfl ib_geq) (fun a h => ?_)
      refine l_end ?_
      refine c_cond h rfl (fun hb => ?_) (fun hb => ?_)
      · rw [if_pos (of_decide_eq_true hb)] at hl30
        refine wp_skip ?_
        refine e_thenN ?_
        refine wp_seq ?_
        refine wp_block ?_
        refine c_rs ?_
        refine sMV h (fun a h => ?_)
        refine sMV h (fun a h => ?_)
        obtain ⟨x32, h33, hl30⟩ := bsome hl30
        have h := h.pick [0, 2, 1] (by decide) rfl
        have hX := aes_Cipher_add_ok Fu (S0 := S14) ga0 a0 (hpa0.mono le15) x19 g3 k20 hs21 hl22 x17 hr18 _ h33 _ (h.sub (Ls := [.box g3 79 k20]))
        refine q_callY (Ls := [.box g3 79 k20]) hX h up16 rfl rfl rfl (by decide) Try.func73 rfl rfl rfl (fun a w v L1 S35 hR le37 up36 h => ?_)
        obtain ⟨k38, rfl, rfl, hs39, hl40, _⟩ := hR
        refine l_end ?_
        obtain ⟨o41, hc42, hl30⟩ := bsome hl30
        refine c_cut (fun a w => ∃ (x43 : List UInt8), ∃ (k44 : List Value), x43 = o41 ∧ reps ty8 S35 k44 x43 ∧ x43.length = 16 ∧ St 34 w0 (ownL ([] ++ [.sn S0])) [(0, .pointer (some ⟨ga0, 0, none⟩)), (3, .pointer (some ⟨g3, 0, none⟩)), (4, .pointer (some ⟨g4, 0, none⟩)), (5, .int .i64 x8), (6, .int .i64 x17)] [.box g3 79 k44, .box g4 79 (List.replicate 16 (.int .u8 0 : Value)), .sn S35] a w) ?_ ?_
        · refine c_rs ?_
          refine sMV h (fun a h => ?_)
          refine sMV h (fun a h => ?_)
          refine sX h (x_bin h.k rfl rfl rfl ib_lss) (fun a h => ?_)
          refine l_end ?_
          refine c_cond h rfl (fun hb => ?_) (fun hb => ?_)
          · rw [if_pos (of_decide_eq_true hb)] at hc42
            refine c_r ?_
            refine sX h (x_ldR h.k rfl ag_A16_uint8 rfl k38 ((hs39).len.trans (by rw [hl40]; rfl)) (h.m.range0 (i := 0) rfl)) (fun a h => ?_)
            obtain ⟨x47, h48, hc42⟩ := bsome hc42
            have hX := aes_unmix_ok Fu (S0 := snapAll _) k38 x32 ((tyA 16 ty8).mono (h.m.leAll (i := 1) rfl) (show (tyA 16 ty8).rep S35 k38 x32 from ⟨hs39, hl40⟩)) _ h48 _ h.startAll
            refine q_callX hX h rfl rfl rfl (by decide) Try.func74 rfl rfl rfl (fun a w v L1 S1 hR hb1 h => ?_)
            obtain ⟨k50, rfl, rfl, hv51, _⟩ := hR
            obtain ⟨hs52, hl53⟩ := hv51
            have hq54 := hs52.fl (S' := S35) fl_8
            refine s_stW h rfl rfl rfl ag_A16_uint8 rfl (es := k50) rfl ((hq54).len.trans (by rw [hl53]; rfl)) (hq54).one 0 rfl ((hs39).len.trans (by rw [hl40]; rfl)) (fun a w h => ?_)
            refine l_nil ?_
            refine e_thenN ?_
            have h := h.pick [0, 2, 1] (by decide) rfl
            exact ⟨x47, k50, (Option.some.inj hc42), hq54, hl53, h.has (by exact ⟨rfl, rfl, rfl, rfl, rfl, trivial⟩)⟩
          · rw [if_neg (of_decide_eq_false hb)] at hc42
            refine wp_skip ?_
            refine e_thenN ?_
            have h := h.pick [0, 2, 1] (by decide) rfl
            exact ⟨x32, k38, (Option.some.inj hc42), hs39, hl40, h.has (by exact ⟨rfl, rfl, rfl, rfl, rfl, trivial⟩)⟩
        · rintro a w ⟨x43, k44, rfl, hs45, hl46, h⟩
          -- region 10 draws
          obtain ⟨x68, h69, hl30⟩ := bsome hl30
          refine d_start h (Mem _ _ _) 5 6 rfl (by kernel_rfl) (fun _ _ _ _ _ h => h) (fun _ h => h) (fun Q a w HE HN h HS => ?_)
          refine d_take h HS HN 0 rfl (by kernel_rfl) (by kernel_rfl) (by kernel_rfl) (by kernel_rfl) (by kernel_rfl) rfl rfl (by decide) (fun w' hw => x_ldR h.k rfl ag_A16_uint8 rfl k44 ((hs45).len.trans (by rw [hl46]; rfl)) (hw.range0 (i := 0) rfl)) (fun a h => ?_)
          refine d_takeP h (fun _ => HS) HN 1 rfl (by kernel_rfl) (by kernel_rfl) (by kernel_rfl) (by decide) rfl rfl (by decide) (fun w' => x_move h.k _ rfl rfl) (fun a h => ?_)
          obtain ⟨k55, hc56, ⟨k57, k58, rfl, ⟨A59, c60, rfl, hs61⟩, ⟨k62, k63, rfl, ⟨hs64, hl65⟩, ⟨hs66, hl67⟩⟩⟩⟩ := id (hpa0.mono (le15.trans le37))
          refine d_takeP h (fun _ => HS) HN 2 rfl (by kernel_rfl) (by kernel_rfl) (by kernel_rfl) (by decide) rfl rfl (by decide) (fun w' => x_nil h.k rfl rfl) (fun a h => ?_)
          refine d_takeP h (fun _ => HS) HN 3 rfl (by kernel_rfl) (by kernel_rfl) (by kernel_rfl) (by decide) rfl rfl (by decide) (fun w' => x_faddr h.k rfl Try.underlying97 rfl sz_A256_uint8 rfl) (fun a h => ?_)
          refine d_alone 4 rfl (by kernel_rfl) (fun K hK => ?_)
          have hX := aes_swap_fat1_aes_Cipher_257_ok Fu (S0 := snapAll _) k44 x43 ((tyA 16 ty8).mono (h.m.leAll (i := 2) rfl) (show (tyA 16 ty8).rep S35 k44 x43 from ⟨hs45, hl46⟩)) ga0 a0 ((hpa0.mono (le15.trans le37)).mono (h.m.leAll (i := 2) rfl)) 3 (show r64 3 from ⟨by decide, by decide⟩) _ h69 _ h.startAll
          refine q_callX hX h rfl rfl rfl (by decide) Try.func75 rfl rfl rfl (fun a w v L1 S1 hR hb1 h => ?_)
          obtain ⟨k71, rfl, rfl, hv72, _⟩ := hR
          obtain ⟨hs73, hl74⟩ := hv72
          have hq75 := hs73.fl (S' := S35) fl_8
          refine hK _ _ (fun _ _ => HS.ext hb1) ?_
          replace HS := HS.ext hb1
          clear hK
          refine d_alone 5 rfl (by kernel_rfl) (fun K hK => ?_)
          refine s_stW h rfl rfl rfl ag_A16_uint8 rfl (es := k71) rfl ((hq75).len.trans (by rw [hl74]; rfl)) (hq75).one 0 rfl ((hs45).len.trans (by rw [hl46]; rfl)) (fun a w h => ?_)
          refine hK _ _ (fun hne _ => absurd rfl hne) ?_
          clear hK
          refine d_done (by kernel_rfl) (HE _ _ ?_) _
          refine e_blkN ?_
          refine e_thenN ?_
          refine c_r ?_
          refine sMV h (fun a h => ?_)
          refine sX h (x_bin h.k rfl rfl rfl (ib_sub rfl)) (fun a h => ?_)
          refine sAV h (fun a h => ?_)
          refine l_nil ?_
          exact e_thenN ⟨m31, Nat.lt_succ_self _, S35, w64 (x17 - 1), x68, k71, hl30, (le15.trans le37), up36, (w64_r _), hq75, hl74, h.has (by exact ⟨rfl, rfl, rfl, rfl, rfl, trivial⟩)⟩
      · rw [if_neg (of_decide_eq_false hb)] at hl30
        refine wp_exit ?_
        refine e_thenX ?_
        refine e_thenX ?_
        refine e_blkX ?_
        refine e_thenN ?_
        exact ⟨S14, x19, k20, (Option.some.inj hl30), le15, up16, hs21, hl22, h.has (by exact ⟨rfl, rfl, rfl, trivial⟩)⟩
    · rintro a w ⟨S23, x26, k27, rfl, le24, up25, hs28, hl29, h⟩
      refine e_thenN ?_
      refine c_rs ?_
      refine sMV h (fun a h => ?_)
      obtain ⟨x77, h78, hf⟩ := bsome hf
      have h := h.pick [0, 2, 1] (by decide) rfl
      have hX := aes_Cipher_add_ok Fu (S0 := S23) ga0 a0 (hpa0.mono le24) x26 g3 k27 hs28 hl29 0 (show r64 0 from ⟨by decide, by decide⟩) _ h78 _ (h.sub (Ls := [.box g3 79 k27]))
      refine q_callY (Ls := [.box g3 79 k27]) hX h up25 rfl rfl rfl (by decide) Try.func73 rfl rfl rfl (fun a w v L1 S80 hR le82 up81 h => ?_)
      obtain ⟨k83, rfl, rfl, hs84, hl85, _⟩ := hR
      refine l_end ?_
      refine c_rs ?_
      refine sX h (x_ldR h.k rfl ag_A16_uint8 rfl k83 ((hs84).len.trans (by rw [hl85]; rfl)) (h.m.range0 (i := 0) rfl)) (fun a h => ?_)
      refine s_stW h rfl rfl rfl ag_A16_uint8 rfl (es := k83) rfl ((hs84).len.trans (by rw [hl85]; rfl)) (hs84).one 2 rfl (by first | rfl | simp_all) (fun a w h => ?_)
      refine l_end ?_
      refine wp_ret ?_
      rw [← Option.some.inj hf]
      exact r_ret1 h rfl (rv_cellA h rfl 2 rfl ag_A16_uint8 ((hs84).len.trans (by rw [hl85]; rfl))) ⟨_, [], _, rfl, ⟨k83, rfl, rfl, ⟨hs84, hl85⟩, trivial⟩, rfl, up81, (h.m.pick [1] _ (by decide) rfl)⟩
def aes_Cipher_Decrypt_nil0 (Fu : Nat) (a1 : List UInt8) : Option ((List UInt8)) :=
  (aes_Cipher_is_nil0 Fu).bind fun x5 => some (List.replicate 16 ((0 : UInt8) : UInt8))
set_option maxRecDepth 100000 in
set_option maxHeartbeats 2000000 in
theorem aes_Cipher_Decrypt_nil0_ok (Fu : Nat) {S0 : Snap} (csa1 : List Value) (a1 : List UInt8) (hsa1 : (tyA 16 ty8).rep S0 csa1 a1) (r : (List UInt8)) (hf : aes_Cipher_Decrypt_nil0 Fu a1 = some r) (w0 : World) (hm : Mem w0 (ownL ([] ++ [.sn S0])) ([] ++ [.sn S0]) w0) :
    Calls Try.prog 54 #[.pointer none, .agg csa1.toArray] w0 (Ret w0 S0 [] (fun v L1 S1 => ∃ (k8 : List Value), v = .agg k8.toArray ∧ L1 = [] ∧ (tyA 16 ty8).rep S1 k8 r ∧ True)) := by
  unfold aes_Cipher_Decrypt_nil0 at hf
  obtain ⟨hs1, hl2⟩ := hsa1
  refine c_enterM Try.func54 rfl 34 rfl (by simp) _ hm _ rfl (fun a h => ?_)
  refine c_rs ?_
  refine s_box h rfl rfl rfl (by decide) rfl (cs := csa1) (by rfl) (fun a w g3 h => ?_)
  refine s_alloc h rfl rfl rfl (by decide) zi_A16_uint8 rfl (fun a w g4 h => ?_)
  have h := h.parts (L' := [.box g4 79 (List.replicate 16 (.int .u8 0 : Value)), .box g3 79 csa1, .sn S0]) rfl
  refine l_end ?_
  refine wp_seq ?_
  refine c_rs ?_
  refine sMV h (fun a h => ?_)
  obtain ⟨x5, h6, hf⟩ := bsome hf
  have hX := aes_Cipher_is_nil0_ok Fu (S0 := snapAll _)  _ h6 _ h.startAll
  refine q_callX hX h rfl rfl rfl (by decide) Try.func71 rfl rfl rfl (fun a w v L1 S1 hR hb1 h => ?_)
  obtain ⟨rfl, rfl, _⟩ := hR
  obtain rfl : x5 = false := by unfold aes_Cipher_is_nil0 at h6; exact (Option.some.inj h6).symm
  refine sX h (x_not h.k rfl rfl) (fun a h => ?_)
  refine l_end ?_
  refine c_cond h rfl (fun hb => ?_) (fun hb => ?_)
  · refine c_rs ?_
    refine sX h (x_build h.k rfl [] rfl (List.replicate 16 (.int .u8 0 : Value)) (by kernel_rfl)) (fun a h => ?_)
    refine s_stW h rfl rfl rfl ag_A16_uint8 rfl (es := (List.replicate 16 (.int .u8 0 : Value))) rfl (by first | rfl | simp_all) ((show reps ty8 S0 (List.replicate 16 (.int .u8 0 : Value)) (List.replicate 16 ((0 : UInt8) : UInt8)) from repsRep1 (x := ((0 : UInt8) : UInt8)) rfl)).one 0 rfl (by first | rfl | simp_all) (fun a w h => ?_)
    refine l_end ?_
    refine wp_ret ?_
    refine e_thenR ?_
    obtain rfl := Option.some.inj hf
    exact r_ret1 h rfl (rv_cellA h rfl 0 rfl ag_A16_uint8 (by first | rfl | simp_all)) ⟨_, [], _, rfl, ⟨(List.replicate 16 (.int .u8 0 : Value)), rfl, rfl, ⟨(show reps ty8 S0 (List.replicate 16 (.int .u8 0 : Value)) (List.replicate 16 ((0 : UInt8) : UInt8)) from repsRep1 (x := ((0 : UInt8) : UInt8)) rfl), (show (List.replicate 16 ((0 : UInt8) : UInt8)).length = 16 from List.length_replicate)⟩, trivial⟩, rfl, (Up.refl _ _ _), (h.m.pick [2] _ (by decide) rfl)⟩
  · exact absurd hb (by decide)
end Go.Proofs.Ytohgmggdfmjgnaa
