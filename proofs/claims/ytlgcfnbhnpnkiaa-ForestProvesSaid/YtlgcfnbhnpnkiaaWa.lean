/- Wa: Go functions as plain functions, and that they are so (written by xt.py). -/
import Derived.Test.YtlgcfnbhnpnkiaaPk
import Derived.Test.YtlgcfnbhnpnkiaaTy
import Derived.Test.YtlgcfnbhnpnkiaaPo
import Derived.Test.YtlgcfnbhnpnkiaaSpec
import Derived.Test.YtlgcfnbhnpnkiaaPs
set_option linter.unusedVariables false
set_option linter.unusedSimpArgs false
namespace Go.Proofs.Ytlgcfnbhnpnkiaa
open Go.RowKit
def word_Put32_l0 (Fu : Nat) (a0 : UInt32) : Nat → Int → (List UInt8) → Option ((List UInt8))
  | 0, _, _ => none
  | k + 1, x5, x7 => if x5 < 4 then ((idx ([(24 : UInt64), (16 : UInt64), (8 : UInt64), (0 : UInt64)]) x5).bind fun x18 => (ix 4 x5).bind fun m26 => word_Put32_l0 Fu a0 k (w64 (x5 + 1)) (x7.set m26 (UInt8.ofNat (u32_shr a0 x18.toNat).toNat))) else (some x7)
def word_Put32 (Fu : Nat) (a0 : UInt32) : Option ((List UInt8)) :=
  (word_Put32_l0 Fu a0 Fu 0 (List.replicate 4 ((0 : UInt8) : UInt8))).bind fun x11 => (bnd 4 0 (4 : Int)).bind fun y33 => some ((x11.take y33.2).drop y33.1)
set_option maxRecDepth 100000 in
set_option maxHeartbeats 2000000 in
theorem word_Put32_ok (Fu : Nat) {S0 : Snap} (a0 : UInt32) (r : (List UInt8)) (hf : word_Put32 Fu a0 = some r) (w0 : World) (hm : Mem w0 (ownL ([] ++ [.sn S0])) ([] ++ [.sn S0]) w0) :
    Calls Try.prog 103 #[.int .u32 (a0.toNat : Int)] w0 (Ret w0 S0 [] (fun v L1 S1 => ∃ (A49 : Option Addr), ∃ (c50 : Nat), v = .slice A49 r.length c50 ∧ L1 = [] ∧ slS ty8 S1 A49 c50 r ∧ c50 ≤ r.length ∧ True)) := by
  unfold word_Put32 at hf
  refine c_enterM Try.func103 rfl 19 rfl (by simp) _ hm _ rfl (fun a h => ?_)
  refine c_rs ?_ -- region 0
  refine s_assign h rfl _ rfl rfl (by decide) rfl (fun a h => ?_)
  refine l_end ?_
  refine c_rs ?_ -- region 1
  refine s_alloc h rfl rfl rfl (by decide) zi_A4_uint8 rfl (fun a w g1 h => ?_)
  have h := h.parts (L' := [.box g1 23 (List.replicate 4 (.int .u8 0 : Value)), .sn S0]) rfl
  refine l_end ?_
  refine wp_seq ?_
  refine c_rs ?_ -- region 2
  have hq2 : reps ty64 S0 [.int .u64 24, .int .u64 16, .int .u64 8, .int .u64 0] [(24 : UInt64), (16 : UInt64), (8 : UInt64), (0 : UInt64)] := ⟨[.int .u64 24], _, rfl, rfl, ⟨[.int .u64 16], _, rfl, rfl, ⟨[.int .u64 8], _, rfl, rfl, ⟨[.int .u64 0], _, rfl, rfl, rfl⟩⟩⟩⟩
  refine s_x h rfl rfl (by decide) (x_build h.k rfl [(0, .int .u64 24), (1, .int .u64 16), (2, .int .u64 8), (3, .int .u64 0)] rfl [.int .u64 24, .int .u64 16, .int .u64 8, .int .u64 0] (by kernel_rfl)) (fun a h => ?_)
  refine s_move h rfl _ rfl rfl (by decide) rfl (fun a h => ?_)
  refine l_end ?_
  obtain ⟨o3, hl4, hf⟩ := bsome hf
  refine c_fin (fun a w => ∃ (x11 : List UInt8), ∃ (k12 : List Value), x11 = o3 ∧ reps ty8 S0 k12 x11 ∧ x11.length = 4 ∧ St 19 w0 (ownL ([] ++ [.sn S0])) [(3, .pointer (some ⟨g1, 0, none⟩))] [.box g1 23 k12, .sn S0] a w) ?_ ?_
  · refine wp_block ?_
    refine c_loop (fun m16 a w => ∃ (x5 : Int), ∃ (x7 : List UInt8), ∃ (k8 : List Value), word_Put32_l0 Fu a0 m16 x5 x7 = some o3 ∧ r64 x5 ∧ reps ty8 S0 k8 x7 ∧ x7.length = 4 ∧ St 19 w0 (ownL ([] ++ [.sn S0])) [(0, .int .u32 (a0.toNat : Int)), (3, .pointer (some ⟨g1, 0, none⟩)), (6, .agg ([.int .u64 24, .int .u64 16, .int .u64 8, .int .u64 0]).toArray), (7, .int .i64 x5)] [.box g1 23 k8, .sn S0] a w) Fu ⟨0, (List.replicate 4 ((0 : UInt8) : UInt8)), (List.replicate 4 (.int .u8 0 : Value)), hl4, (show r64 0 from ⟨by decide, by decide⟩), (show reps ty8 S0 (List.replicate 4 (.int .u8 0 : Value)) (List.replicate 4 ((0 : UInt8) : UInt8)) from repsRep1 (x := ((0 : UInt8) : UInt8)) rfl), (show (List.replicate 4 ((0 : UInt8) : UInt8)).length = 4 from List.length_replicate), h.has (by exact ⟨rfl, rfl, rfl, rfl, trivial⟩)⟩ (fun m16 a w hI => ?_)
    obtain ⟨x5, x7, k8, hl15, hr6, hs9, hl10, h⟩ := hI
    obtain _ | m16 := m16
    · rw [word_Put32_l0] at hl15; cases hl15
    rw [word_Put32_l0] at hl15
    refine c_rs ?_ -- region 3
    refine s_x h rfl rfl (by decide) (x_bin h.k rfl rfl rfl ib_lss) (fun a h => ?_)
    refine l_end ?_
    refine c_cs h rfl (fun hb => ?_) (fun hb => ?_)
    · rw [if_pos (of_decide_eq_true hb)] at hl15
      refine wp_skip ?_
      refine e_thenN ?_
      refine wp_seq ?_
      refine wp_block ?_
      refine c_rs ?_ -- region 4
      refine s_move h rfl _ rfl rfl (by decide) rfl (fun a h => ?_)
      obtain ⟨x18, h19, hl15⟩ := bsome hl15
      obtain ⟨m17, hi20, hm21, hx22⟩ := idx_some h19
      obtain ⟨u23, hv24, hu25⟩ := (hq2).cell rfl hx22
      cases hu25
      refine s_x h rfl rfl (by decide) (x_index h.k rfl Try.underlying163 Try.underlying153 rfl sz_uint rfl rfl hi20 (Nat.lt_of_lt_of_eq hm21 (show [(24 : UInt64), (16 : UInt64), (8 : UInt64), (0 : UInt64)].length = 4 from rfl)) (by simpa using hv24)) (fun a h => ?_)
      refine s_assign h rfl _ rfl rfl (by decide) rfl (fun a h => ?_)
      refine s_assign h rfl _ rfl rfl (by decide) rfl (fun a h => ?_)
      refine l_end ?_
      refine c_r ?_ -- region 5
      refine s_move h rfl _ rfl rfl (by decide) rfl (fun a h => ?_)
      refine s_move h rfl _ rfl rfl (by decide) rfl (fun a h => ?_)
      refine s_move h rfl _ rfl rfl (by decide) rfl (fun a h => ?_)
      refine s_x h rfl rfl (by decide) (x_bin h.k rfl rfl rfl (ib_shr_u32 a0 x18.toNat)) (fun a h => ?_)
      refine s_x h rfl rfl (by decide) (x_convE h.k rfl Try.underlying139 Try.underlying5 rfl (u32_to_u8 _)) (fun a h => ?_)
      obtain ⟨m26, h27, hl15⟩ := bsome hl15
      obtain ⟨hi28, hm29⟩ := ix_some h27
      refine s_x h rfl rfl (by decide) (x_iaddrA h.k rfl Try.underlying23 sz_uint8 rfl rfl hi28 hm29 rfl) (fun a h => ?_)
      refine q_setBox (T := ty8) (q := UInt8.ofNat (u32_shr a0 x18.toNat).toNat) h rfl rfl rfl sz_uint8 rfl rfl 0 rfl rfl hs9 rfl (by first | omega | (simp_all; done)) (fun a w cs30 hq31 h => ?_)
      have hl32 : (x7.set m26 (UInt8.ofNat (u32_shr a0 x18.toNat).toNat)).length = 4 := by rw [List.length_set]; exact hl10
      refine l_nil ?_
      refine e_blkN ?_
      refine e_thenN ?_
      refine c_r ?_ -- region 6
      refine s_x h rfl rfl (by decide) (x_bin h.k rfl rfl rfl (ib_add rfl)) (fun a h => ?_)
      refine s_move h rfl _ rfl rfl (by decide) rfl (fun a h => ?_)
      refine l_nil ?_
      exact e_thenN ⟨m16, Nat.lt_succ_self _, w64 (x5 + 1), (x7.set m26 (UInt8.ofNat (u32_shr a0 x18.toNat).toNat)), cs30, hl15, (w64_r _), hq31, hl32, h.has (by exact ⟨rfl, rfl, rfl, rfl, trivial⟩)⟩
    · rw [if_neg (of_decide_eq_false hb)] at hl15
      refine wp_exit ?_
      refine e_thenX ?_
      refine e_thenX ?_
      refine e_blkX ?_
      refine e_thenN ?_
      exact ⟨x7, k8, (Option.some.inj hl15), hs9, hl10, h.has (by exact ⟨rfl, trivial⟩)⟩
  · rintro a w ⟨x11, k12, rfl, hs13, hl14, h⟩
    refine e_thenN ?_
    refine c_rs ?_ -- region 7
    obtain ⟨y33, h34, hf⟩ := bsome hf
    obtain ⟨hi35, hi36, hm37, hm38⟩ := bnd_some h34
    obtain ⟨n39, hn40⟩ : ∃ n, y33.2 - y33.1 = n := ⟨_, rfl⟩
    refine s_x h rfl rfl (by decide) (x_viewB h.k rfl Try.underlying23 sz_uint8 rfl (bd_none (by omega)) (bd_none (by omega)) hm37 hm38 hn40) (fun a h => ?_)
    refine s_assign h rfl _ rfl rfl (by decide) rfl (fun a h => ?_)
    refine l_end ?_
    refine wp_ret ?_
    obtain rfl := Option.some.inj hf
    obtain ⟨S42, le43, up44, hc45, h⟩ := q_freezeBox h (Up.refl _ _ _)
    obtain rfl : n39 = ((x11.take y33.2).drop y33.1).length := cut_len (by have := hm38; have := hl14; omega) hn40
    have hs46 := slS_vA (T := ty8) hc45 (hs13.mono le43) rfl hl14 (by decide) hm37 hm38
    have hf47 : 4 - y33.1 ≤ ((x11.take y33.2).drop y33.1).length := by have := hl14; have := hi36; simp only [List.length_drop, List.length_take]; omega
    exact r_ret1 h rfl (rv_tmp h rfl) ⟨_, [], _, rfl, ⟨(vA g1 4 y33.1), (4 - y33.1), rfl, rfl, hs46, hf47, trivial⟩, rfl, up44, h.m⟩
end Go.Proofs.Ytlgcfnbhnpnkiaa
