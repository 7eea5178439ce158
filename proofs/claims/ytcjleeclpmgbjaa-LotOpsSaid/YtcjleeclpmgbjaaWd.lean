/- Wd: Go functions as plain functions, and that they are so (written by xt.py). -/
import Derived.Test.YtcjleeclpmgbjaaWb
set_option linter.unusedVariables false
set_option linter.unusedSimpArgs false
namespace Go.Proofs.Ytcjleeclpmgbjaa
open Go.RowKit
def word_Get64 (Fu : Nat) (a0 : List UInt8) : Option (UInt64 × Bool) :=
  if (a0.length : Int) ≠ 8 then (some ((0 : UInt64), false)) else ((sub a0 0 4).bind fun x1 => (word_Get32 Fu x1).bind fun x11 => (sub a0 4 (a0.length : Int)).bind fun x14 => (word_Get32 Fu x14).bind fun x24 => some (((u64_shl (UInt64.ofNat x11.1.toNat) 32) ||| (UInt64.ofNat x24.1.toNat)), true))
set_option maxRecDepth 100000 in
set_option maxHeartbeats 2000000 in
theorem word_Get64_ok (Fu : Nat) {S0 : Snap} (Aa0 : Option Addr) (ca0 : Nat) (a0 : List UInt8) (hsa0 : slS ty8 S0 Aa0 ca0 a0) (r : UInt64 × Bool) (hf : word_Get64 Fu a0 = some r) (w0 : World) (hm : Mem w0 (ownL ([] ++ [.sn S0])) ([] ++ [.sn S0]) w0) :
    Calls Try.prog 32 #[.slice Aa0 a0.length ca0] w0 (Ret w0 S0 [] (fun v L1 S1 => v = .tuple #[.int .u64 (r.1.toNat : Int), .bool r.2] ∧ L1 = [] ∧ True)) := by
  unfold word_Get64 at hf
  refine c_enterM Try.func32 rfl 29 rfl (by simp) _ hm _ rfl (fun a h => ?_)
  refine c_rs ?_ -- region 0
  refine s_assign h rfl _ rfl rfl (by decide) rfl (fun a h => ?_)
  refine s_assign h rfl _ rfl rfl (by decide) rfl (fun a h => ?_)
  refine l_end ?_
  refine wp_seq ?_
  refine c_rs ?_ -- region 1
  refine s_move h rfl _ rfl rfl (by decide) rfl (fun a h => ?_)
  refine s_x h rfl rfl (by decide) (x_len h.k rfl Try.underlying22 rfl) (fun a h => ?_)
  refine s_x h rfl rfl (by decide) (x_bin h.k rfl rfl rfl ib_neq) (fun a h => ?_)
  refine l_end ?_
  refine c_cond h rfl (fun hb => ?_) (fun hb => ?_)
  · rw [if_pos (of_decide_eq_true hb)] at hf
    refine c_rs ?_ -- region 2
    refine s_assign h rfl _ rfl rfl (by decide) rfl (fun a h => ?_)
    refine s_assign h rfl _ rfl rfl (by decide) rfl (fun a h => ?_)
    refine l_end ?_
    refine wp_ret ?_
    refine e_thenR ?_
    obtain rfl := Option.some.inj hf
    exact r_ret2 h rfl (rv_tmp h rfl) (rv_tmp h rfl) ⟨_, [], _, rfl, ⟨rfl, rfl, trivial⟩, rfl, (Up.refl _ _ _), h.m⟩
  · rw [if_neg (of_decide_eq_false hb)] at hf
    refine wp_skip ?_
    refine e_thenN ?_
    refine c_rs ?_ -- region 3
    refine s_move h rfl _ rfl rfl (by decide) rfl (fun a h => ?_)
    obtain ⟨x1, h2, hf⟩ := bsome hf
    obtain ⟨m3, n4, hi5, hi6, hm7, hm8, hr9⟩ := sub_some h2
    have hs10 := slS.sub (hsa0) hm7 hm8 (Nat.le_trans hm8 (hsa0).1) (Nat.le_refl _) hr9
    refine s_x h rfl rfl (by decide) (x_sliceE h.k rfl Try.underlying22 sz_uint8 rfl ca0 hr9 (bd_none (by omega)) (bd_some rfl hi6) (bd_none rfl) (by intro hh; cases hh) hm7 hm8 (Nat.le_trans hm8 (hsa0).1) (Nat.le_refl _)) (fun a h => ?_)
    obtain ⟨x11, h12, hf⟩ := bsome hf
    have hX := word_Get32_ok Fu (S0 := snapAll _) (sA Aa0 ca0 m3 1) (ca0 - m3) x1 (hs10.mono (h.m.leAll (i := 0) rfl)) _ h12 _ h.startAll
    refine q_callX hX h rfl rfl rfl (by decide) Try.func53 rfl rfl rfl (fun a w v L1 S1 hR hb1 h => ?_)
    obtain ⟨rfl, rfl, _⟩ := hR
    refine s_move h rfl _ rfl rfl (by decide) rfl (fun a h => ?_)
    refine s_x h rfl rfl (by decide) (x_ext h.k rfl rfl rfl) (fun a h => ?_)
    refine s_x h rfl rfl (by decide) (x_ext h.k rfl rfl rfl) (fun a h => ?_)
    refine s_assign h rfl _ rfl rfl (by decide) rfl (fun a h => ?_)
    refine s_assign h rfl _ rfl rfl (by decide) rfl (fun a h => ?_)
    refine l_end ?_
    refine c_rs ?_ -- region 4
    refine s_move h rfl _ rfl rfl (by decide) rfl (fun a h => ?_)
    obtain ⟨x14, h15, hf⟩ := bsome hf
    obtain ⟨m16, n17, hi18, hi19, hm20, hm21, hr22⟩ := sub_some h15
    have hs23 := slS.sub (hsa0) hm20 hm21 (Nat.le_trans hm21 (hsa0).1) (Nat.le_refl _) hr22
    refine s_x h rfl rfl (by decide) (x_sliceE h.k rfl Try.underlying22 sz_uint8 rfl ca0 hr22 (bd_some rfl hi18) (bd_none (by omega)) (bd_none rfl) (by intro _; rfl) hm20 hm21 (Nat.le_trans hm21 (hsa0).1) (Nat.le_refl _)) (fun a h => ?_)
    obtain ⟨x24, h25, hf⟩ := bsome hf
    have hX := word_Get32_ok Fu (S0 := snapAll _) (sA Aa0 ca0 m16 1) (ca0 - m16) x14 (hs23.mono (h.m.leAll (i := 0) rfl)) _ h25 _ h.startAll
    refine q_callX hX h rfl rfl rfl (by decide) Try.func53 rfl rfl rfl (fun a w v L1 S1 hR hb1 h => ?_)
    obtain ⟨rfl, rfl, _⟩ := hR
    refine s_move h rfl _ rfl rfl (by decide) rfl (fun a h => ?_)
    refine s_x h rfl rfl (by decide) (x_ext h.k rfl rfl rfl) (fun a h => ?_)
    refine s_x h rfl rfl (by decide) (x_ext h.k rfl rfl rfl) (fun a h => ?_)
    refine s_assign h rfl _ rfl rfl (by decide) rfl (fun a h => ?_)
    refine s_assign h rfl _ rfl rfl (by decide) rfl (fun a h => ?_)
    refine l_end ?_
    refine c_rs ?_ -- region 5
    refine s_move h rfl _ rfl rfl (by decide) rfl (fun a h => ?_)
    refine s_x h rfl rfl (by decide) (x_convE h.k rfl Try.underlying88 Try.underlying63 rfl (u32_to_u64 _)) (fun a h => ?_)
    refine s_x h rfl rfl (by decide) (x_bin h.k rfl rfl rfl (ib_shl_u64 (UInt64.ofNat x11.1.toNat) 32)) (fun a h => ?_)
    refine s_move h rfl _ rfl rfl (by decide) rfl (fun a h => ?_)
    refine s_x h rfl rfl (by decide) (x_convE h.k rfl Try.underlying88 Try.underlying63 rfl (u32_to_u64 _)) (fun a h => ?_)
    refine s_x h rfl rfl (by decide) (x_bin h.k rfl rfl rfl (ib_or (u64_or_ (u64_shl (UInt64.ofNat x11.1.toNat) 32) (UInt64.ofNat x24.1.toNat)))) (fun a h => ?_)
    refine s_assign h rfl _ rfl rfl (by decide) rfl (fun a h => ?_)
    refine s_assign h rfl _ rfl rfl (by decide) rfl (fun a h => ?_)
    refine l_end ?_
    refine wp_ret ?_
    obtain rfl := Option.some.inj hf
    exact r_ret2 h rfl (rv_tmp h rfl) (rv_tmp h rfl) ⟨_, [], _, rfl, ⟨rfl, rfl, trivial⟩, rfl, (Up.refl _ _ _), h.m⟩
end Go.Proofs.Ytcjleeclpmgbjaa
