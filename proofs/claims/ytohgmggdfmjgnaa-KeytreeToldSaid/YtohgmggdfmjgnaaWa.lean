/- Wa: Go functions as plain functions, and that they are so (written by xt.py). -/
import Derived.Test.YtohgmggdfmjgnaaPk
import Derived.Test.YtohgmggdfmjgnaaTy
import Derived.Test.YtohgmggdfmjgnaaSpec
import Derived.Test.YtohgmggdfmjgnaaPs
set_option linter.unusedVariables false
set_option linter.unusedSimpArgs false
namespace Go.Proofs.Ytohgmggdfmjgnaa
open Go.RowKit
def word_Put32_l0 (Fu : Nat) (a0 : UInt32) : Nat → Int → (List UInt8) → Option ((List UInt8))
  | 0, _, _ => none
  | k + 1, x5, x7 => if x5 < 4 then ((idx ([(24 : UInt64), (16 : UInt64), (8 : UInt64), (0 : UInt64)]) x5).bind fun x18 => (ix 4 x5).bind fun m26 => word_Put32_l0 Fu a0 k (w64 (x5 + 1)) (x7.set m26 (UInt8.ofNat (u32_shr a0 x18.toNat).toNat))) else (some x7)
def word_Put32 (Fu : Nat) (a0 : UInt32) : Option ((List UInt8)) :=
  (word_Put32_l0 Fu a0 Fu 0 (List.replicate 4 ((0 : UInt8) : UInt8))).bind fun x11 => (bnd 4 0 (4 : Int)).bind fun y33 => some ((x11.take y33.2).drop y33.1)
set_option maxRecDepth 100000 in
set_option maxHeartbeats 2000000 in
theorem word_Put32_ok (Fu : Nat) {S0 : Snap} (a0 : UInt32) (r : (List UInt8)) (hf : word_Put32 Fu a0 = some r) (w0 : World) (hm : Mem w0 (ownL ([] ++ [.sn S0])) ([] ++ [.sn S0]) w0) :
    Calls Try.prog 90 #[.int .u32 (a0.toNat : Int)] w0 (Ret w0 S0 [] (fun v L1 S1 => ∃ (A49 : Option Addr), ∃ (c50 : Nat), v = .slice A49 r.length c50 ∧ L1 = [] ∧ slS ty8 S1 A49 c50 r ∧ c50 ≤ r.length ∧ True)) := by
  unfold word_Put32 at hf
  refine c_enterM Try.func90 rfl 19 rfl (by simp) _ hm _ rfl (fun a h => ?_)
  refine c_rs ?_
  refine sAV h (fun a h => ?_)
  refine l_end ?_
  refine c_rs ?_
  refine s_alloc h rfl rfl rfl (by decide) zi_A4_uint8 rfl (fun a w g1 h => ?_)
  have h := h.parts (L' := [.box g1 134 (List.replicate 4 (.int .u8 0 : Value)), .sn S0]) rfl
  refine l_end ?_
  refine wp_seq ?_
  refine c_rs ?_
  have hq2 : reps ty64 S0 [.int .u64 24, .int .u64 16, .int .u64 8, .int .u64 0] [(24 : UInt64), (16 : UInt64), (8 : UInt64), (0 : UInt64)] := ⟨[.int .u64 24], _, rfl, rfl, ⟨[.int .u64 16], _, rfl, rfl, ⟨[.int .u64 8], _, rfl, rfl, ⟨[.int .u64 0], _, rfl, rfl, rfl⟩⟩⟩⟩
  refine sX h (x_build h.k rfl [(0, .int .u64 24), (1, .int .u64 16), (2, .int .u64 8), (3, .int .u64 0)] rfl [.int .u64 24, .int .u64 16, .int .u64 8, .int .u64 0] (by kernel_rfl)) (fun a h => ?_)
  refine sMV h (fun a h => ?_)
  refine l_end ?_
  obtain ⟨o3, hl4, hf⟩ := bsome hf
  refine c_fin (fun a w => ∃ (x11 : List UInt8), ∃ (k12 : List Value), x11 = o3 ∧ reps ty8 S0 k12 x11 ∧ x11.length = 4 ∧ St 19 w0 (ownL ([] ++ [.sn S0])) [(3, .pointer (some ⟨g1, 0, none⟩))] [.box g1 134 k12, .sn S0] a w) ?_ ?_
  · refine wp_block ?_
    refine c_loop (fun m16 a w => ∃ (x5 : Int), ∃ (x7 : List UInt8), ∃ (k8 : List Value), word_Put32_l0 Fu a0 m16 x5 x7 = some o3 ∧ r64 x5 ∧ reps ty8 S0 k8 x7 ∧ x7.length = 4 ∧ St 19 w0 (ownL ([] ++ [.sn S0])) [(0, .int .u32 (a0.toNat : Int)), (3, .pointer (some ⟨g1, 0, none⟩)), (6, .agg ([.int .u64 24, .int .u64 16, .int .u64 8, .int .u64 0]).toArray), (7, .int .i64 x5)] [.box g1 134 k8, .sn S0] a w) Fu ⟨0, (List.replicate 4 ((0 : UInt8) : UInt8)), (List.replicate 4 (.int .u8 0 : Value)), hl4, (show r64 0 from ⟨by decide, by decide⟩), (show reps ty8 S0 (List.replicate 4 (.int .u8 0 : Value)) (List.replicate 4 ((0 : UInt8) : UInt8)) from repsRep1 (x := ((0 : UInt8) : UInt8)) rfl), (show (List.replicate 4 ((0 : UInt8) : UInt8)).length = 4 from List.length_replicate), h.has (by exact ⟨rfl, rfl, rfl, rfl, trivial⟩)⟩ (fun m16 a w hI => ?_)
    obtain ⟨x5, x7, k8, hl15, hr6, hs9, hl10, h⟩ := hI
    obtain _ | m16 := m16
    · rw [word_Put32_l0] at hl15; cases hl15
    rw [word_Put32_l0] at hl15
    refine c_rs ?_
    refine sX h (x_bin h.k rfl rfl rfl ib_lss) (fun a h => ?_)
    refine l_end ?_
    refine c_cs h rfl (fun hb => ?_) (fun hb => ?_)
    · rw [if_pos (of_decide_eq_true hb)] at hl15
      refine wp_skip ?_
      refine e_thenN ?_
      refine wp_seq ?_
      refine wp_block ?_
      refine c_rs ?_
      refine sMV h (fun a h => ?_)
      obtain ⟨x18, h19, hl15⟩ := bsome hl15
      obtain ⟨m17, hi20, hm21, hx22⟩ := idx_some h19
      obtain ⟨u23, hv24, hu25⟩ := (hq2).cell rfl hx22
      cases hu25
      refine sX h (x_index h.k rfl Try.underlying135 Try.underlying111 rfl sz_uint rfl rfl hi20 (Nat.lt_of_lt_of_eq hm21 (show [(24 : UInt64), (16 : UInt64), (8 : UInt64), (0 : UInt64)].length = 4 from rfl)) (by simpa using hv24)) (fun a h => ?_)
      refine sAV h (fun a h => ?_)
      refine sAV h (fun a h => ?_)
      refine l_end ?_
      refine c_r ?_
      refine sMV h (fun a h => ?_)
      refine sMV h (fun a h => ?_)
      refine sMV h (fun a h => ?_)
      refine sX h (x_bin h.k rfl rfl rfl (ib_shr_u32 a0 x18.toNat)) (fun a h => ?_)
      refine sX h (x_convE h.k rfl Try.underlying106 Try.underlying5 rfl (u32_to_u8 _)) (fun a h => ?_)
      obtain ⟨m26, h27, hl15⟩ := bsome hl15
      obtain ⟨hi28, hm29⟩ := ix_some h27
      refine sX h (x_iaddrA h.k rfl Try.underlying134 sz_uint8 rfl rfl hi28 hm29 rfl) (fun a h => ?_)
      refine q_setBox (T := ty8) (q := UInt8.ofNat (u32_shr a0 x18.toNat).toNat) h rfl rfl rfl sz_uint8 rfl rfl 0 rfl rfl hs9 rfl (by first | omega | (simp_all; done)) (fun a w cs30 hq31 h => ?_)
      have hl32 : (x7.set m26 (UInt8.ofNat (u32_shr a0 x18.toNat).toNat)).length = 4 := by rw [List.length_set]; exact hl10
      refine l_nil ?_
      refine e_blkN ?_
      refine e_thenN ?_
      refine c_r ?_
      refine sX h (x_bin h.k rfl rfl rfl (ib_add rfl)) (fun a h => ?_)
      refine sMV h (fun a h => ?_)
      refine l_nil ?_
      exact e_thenN ⟨m16, Nat.lt_succ_self _, w64 (x5 + 1), (x7.set m26 (UInt8.ofNat (u32_shr a0 x18.toNat).toNat)), cs30, hl15, (w64_r _), hq31, hl32, h.has (by exact ⟨rfl, rfl, rfl, rfl, trivial⟩)⟩
    · rw [if_neg (of_decide_eq_false hb)] at hl15
      refine wp_exit ?_
      refine e_thenX ?_
      refine e_thenX ?_
      refine e_blkX ?_
      refine e_thenN ?_
      exact ⟨x7, k8, (Option.some.inj hl15), hs9, hl10, h.has (by exact ⟨rfl, trivial⟩)⟩
  · rintro a w ⟨x11, k12, rfl, hs13, hl14, h⟩
    refine e_thenN ?_
    refine c_rs ?_
    obtain ⟨y33, h34, hf⟩ := bsome hf
    obtain ⟨hi35, hi36, hm37, hm38⟩ := bnd_some h34
    obtain ⟨n39, hn40⟩ : ∃ n, y33.2 - y33.1 = n := ⟨_, rfl⟩
    refine sX h (x_viewB h.k rfl Try.underlying134 sz_uint8 rfl (bd_none (by omega)) (bd_none (by omega)) hm37 hm38 hn40) (fun a h => ?_)
    refine sAV h (fun a h => ?_)
    refine l_end ?_
    refine wp_ret ?_
    obtain rfl := Option.some.inj hf
    obtain ⟨S42, le43, up44, hc45, h⟩ := q_freezeBox h (Up.refl _ _ _)
    obtain rfl : n39 = ((x11.take y33.2).drop y33.1).length := cut_len (by have := hm38; have := hl14; omega) hn40
    have hs46 := slS_vA (T := ty8) hc45 (hs13.mono le43) rfl hl14 (by decide) hm37 hm38
    have hf47 : 4 - y33.1 ≤ ((x11.take y33.2).drop y33.1).length := by have := hl14; have := hi36; simp only [List.length_drop, List.length_take]; omega
    exact r_ret1 h rfl (rv_tmp h rfl) ⟨_, [], _, rfl, ⟨(vA g1 4 y33.1), (4 - y33.1), rfl, rfl, hs46, hf47, trivial⟩, rfl, up44, h.m⟩
def word_Get32 (Fu : Nat) (a0 : List UInt8) : Option (UInt32 × Bool) :=
  if (a0.length : Int) ≠ 4 then (some ((0 : UInt32), false)) else ((idx a0 0).bind fun x1 => (idx a0 1).bind fun x13 => (idx a0 2).bind fun x25 => (idx a0 3).bind fun x37 => some (((((u32_shl (UInt32.ofNat x1.toNat) 24) ||| (u32_shl (UInt32.ofNat x13.toNat) 16)) ||| (u32_shl (UInt32.ofNat x25.toNat) 8)) ||| (UInt32.ofNat x37.toNat)), true))
set_option maxRecDepth 100000 in
set_option maxHeartbeats 2000000 in
theorem word_Get32_ok (Fu : Nat) {S0 : Snap} (Aa0 : Option Addr) (ca0 : Nat) (a0 : List UInt8) (hsa0 : slS ty8 S0 Aa0 ca0 a0) (r : UInt32 × Bool) (hf : word_Get32 Fu a0 = some r) (w0 : World) (hm : Mem w0 (ownL ([] ++ [.sn S0])) ([] ++ [.sn S0]) w0) :
    Calls Try.prog 87 #[.slice Aa0 a0.length ca0] w0 (Ret w0 S0 [] (fun v L1 S1 => v = .tuple #[.int .u32 (r.1.toNat : Int), .bool r.2] ∧ L1 = [] ∧ True)) := by
  unfold word_Get32 at hf
  refine c_enterM Try.func87 rfl 29 rfl (by simp) _ hm _ rfl (fun a h => ?_)
  refine c_rs ?_
  refine sAV h (fun a h => ?_)
  refine sAV h (fun a h => ?_)
  refine l_end ?_
  refine wp_seq ?_
  refine c_rs ?_
  refine sMV h (fun a h => ?_)
  refine sX h (x_len h.k rfl Try.underlying22 rfl) (fun a h => ?_)
  refine sX h (x_bin h.k rfl rfl rfl ib_neq) (fun a h => ?_)
  refine l_end ?_
  refine c_cond h rfl (fun hb => ?_) (fun hb => ?_)
  · rw [if_pos (of_decide_eq_true hb)] at hf
    refine c_rs ?_
    refine sAV h (fun a h => ?_)
    refine sAV h (fun a h => ?_)
    refine l_end ?_
    refine wp_ret ?_
    refine e_thenR ?_
    obtain rfl := Option.some.inj hf
    exact r_ret2 h rfl (rv_tmp h rfl) (rv_tmp h rfl) ⟨_, [], _, rfl, ⟨rfl, rfl, trivial⟩, rfl, (Up.refl _ _ _), h.m⟩
  · rw [if_neg (of_decide_eq_false hb)] at hf
    refine wp_skip ?_
    refine e_thenN ?_
    refine wp_seq ?_
    -- region 3 draws
    obtain ⟨x1, h5, hf⟩ := bsome hf
    obtain ⟨x13, h17, hf⟩ := bsome hf
    obtain ⟨x25, h29, hf⟩ := bsome hf
    obtain ⟨x37, h41, hf⟩ := bsome hf
    refine d_start h (Mem _ _ _) 24 24 rfl (by kernel_rfl) (fun _ _ _ _ _ h => h) (fun _ h => h) (fun Q a w HE HN h HS => ?_)
    refine d_takeP h (fun _ => HS) HN 0 rfl (by kernel_rfl) (by kernel_rfl) (by kernel_rfl) (by decide) rfl rfl (by decide) (fun w' => x_move h.k _ rfl rfl) (fun a h => ?_)
    obtain ⟨m2, hi6, hm7, hx8⟩ := idx_some h5
    obtain ⟨b3, off4, k9, hA10, hu11, hc12⟩ := (hsa0).at1 rfl hx8 (h.m.snOK (i := 0) rfl)
    cases hu11
    refine d_takeP h (fun _ => HS) HN 1 rfl (by kernel_rfl) (by kernel_rfl) (by kernel_rfl) (by decide) rfl rfl (by decide) (fun w' => x_iaddrE h.k rfl Try.underlying22 sz_uint8 hA10 rfl rfl hi6 hm7) (fun a h => ?_)
    refine d_take h HS HN 2 rfl (by kernel_rfl) (by kernel_rfl) (by kernel_rfl) (by kernel_rfl) (by kernel_rfl) rfl rfl (by decide) (fun w' hw => x_ld h.k rfl Try.underlying5 rfl rfl (hc12 _ (hw.snOK (i := 0) rfl))) (fun a h => ?_)
    refine d_takeP h (fun _ => HS) HN 3 rfl (by kernel_rfl) (by kernel_rfl) (by kernel_rfl) (by decide) rfl rfl (by decide) (fun w' => x_convE h.k rfl Try.underlying5 Try.underlying106 rfl (u8_to_u32 _)) (fun a h => ?_)
    refine d_takeP h (fun _ => HS) HN 4 rfl (by kernel_rfl) (by kernel_rfl) (by kernel_rfl) (by decide) rfl rfl (by decide) (fun w' => x_bin h.k rfl rfl rfl (ib_shl_u32 (UInt32.ofNat x1.toNat) 24)) (fun a h => ?_)
    refine d_takeP h (fun _ => HS) HN 5 rfl (by kernel_rfl) (by kernel_rfl) (by kernel_rfl) (by decide) rfl rfl (by decide) (fun w' => x_move h.k _ rfl rfl) (fun a h => ?_)
    obtain ⟨m14, hi18, hm19, hx20⟩ := idx_some h17
    obtain ⟨b15, off16, k21, hA22, hu23, hc24⟩ := (hsa0).at1 rfl hx20 (h.m.snOK (i := 0) rfl)
    cases hu23
    refine d_takeP h (fun _ => HS) HN 6 rfl (by kernel_rfl) (by kernel_rfl) (by kernel_rfl) (by decide) rfl rfl (by decide) (fun w' => x_iaddrE h.k rfl Try.underlying22 sz_uint8 hA22 rfl rfl hi18 hm19) (fun a h => ?_)
    refine d_take h HS HN 7 rfl (by kernel_rfl) (by kernel_rfl) (by kernel_rfl) (by kernel_rfl) (by kernel_rfl) rfl rfl (by decide) (fun w' hw => x_ld h.k rfl Try.underlying5 rfl rfl (hc24 _ (hw.snOK (i := 0) rfl))) (fun a h => ?_)
    refine d_takeP h (fun _ => HS) HN 8 rfl (by kernel_rfl) (by kernel_rfl) (by kernel_rfl) (by decide) rfl rfl (by decide) (fun w' => x_convE h.k rfl Try.underlying5 Try.underlying106 rfl (u8_to_u32 _)) (fun a h => ?_)
    refine d_takeP h (fun _ => HS) HN 9 rfl (by kernel_rfl) (by kernel_rfl) (by kernel_rfl) (by decide) rfl rfl (by decide) (fun w' => x_bin h.k rfl rfl rfl (ib_shl_u32 (UInt32.ofNat x13.toNat) 16)) (fun a h => ?_)
    refine d_takeP h (fun _ => HS) HN 10 rfl (by kernel_rfl) (by kernel_rfl) (by kernel_rfl) (by decide) rfl rfl (by decide) (fun w' => x_bin h.k rfl rfl rfl (ib_or (u32_or_ (u32_shl (UInt32.ofNat x1.toNat) 24) (u32_shl (UInt32.ofNat x13.toNat) 16)))) (fun a h => ?_)
    refine d_takeP h (fun _ => HS) HN 11 rfl (by kernel_rfl) (by kernel_rfl) (by kernel_rfl) (by decide) rfl rfl (by decide) (fun w' => x_move h.k _ rfl rfl) (fun a h => ?_)
    obtain ⟨m26, hi30, hm31, hx32⟩ := idx_some h29
    obtain ⟨b27, off28, k33, hA34, hu35, hc36⟩ := (hsa0).at1 rfl hx32 (h.m.snOK (i := 0) rfl)
    cases hu35
    refine d_takeP h (fun _ => HS) HN 12 rfl (by kernel_rfl) (by kernel_rfl) (by kernel_rfl) (by decide) rfl rfl (by decide) (fun w' => x_iaddrE h.k rfl Try.underlying22 sz_uint8 hA34 rfl rfl hi30 hm31) (fun a h => ?_)
    refine d_take h HS HN 13 rfl (by kernel_rfl) (by kernel_rfl) (by kernel_rfl) (by kernel_rfl) (by kernel_rfl) rfl rfl (by decide) (fun w' hw => x_ld h.k rfl Try.underlying5 rfl rfl (hc36 _ (hw.snOK (i := 0) rfl))) (fun a h => ?_)
    refine d_takeP h (fun _ => HS) HN 14 rfl (by kernel_rfl) (by kernel_rfl) (by kernel_rfl) (by decide) rfl rfl (by decide) (fun w' => x_convE h.k rfl Try.underlying5 Try.underlying106 rfl (u8_to_u32 _)) (fun a h => ?_)
    refine d_takeP h (fun _ => HS) HN 15 rfl (by kernel_rfl) (by kernel_rfl) (by kernel_rfl) (by decide) rfl rfl (by decide) (fun w' => x_bin h.k rfl rfl rfl (ib_shl_u32 (UInt32.ofNat x25.toNat) 8)) (fun a h => ?_)
    refine d_takeP h (fun _ => HS) HN 16 rfl (by kernel_rfl) (by kernel_rfl) (by kernel_rfl) (by decide) rfl rfl (by decide) (fun w' => x_bin h.k rfl rfl rfl (ib_or (u32_or_ ((u32_shl (UInt32.ofNat x1.toNat) 24) ||| (u32_shl (UInt32.ofNat x13.toNat) 16)) (u32_shl (UInt32.ofNat x25.toNat) 8)))) (fun a h => ?_)
    refine d_takeP h (fun _ => HS) HN 17 rfl (by kernel_rfl) (by kernel_rfl) (by kernel_rfl) (by decide) rfl rfl (by decide) (fun w' => x_move h.k _ rfl rfl) (fun a h => ?_)
    obtain ⟨m38, hi42, hm43, hx44⟩ := idx_some h41
    obtain ⟨b39, off40, k45, hA46, hu47, hc48⟩ := (hsa0).at1 rfl hx44 (h.m.snOK (i := 0) rfl)
    cases hu47
    refine d_takeP h (fun _ => HS) HN 18 rfl (by kernel_rfl) (by kernel_rfl) (by kernel_rfl) (by decide) rfl rfl (by decide) (fun w' => x_iaddrE h.k rfl Try.underlying22 sz_uint8 hA46 rfl rfl hi42 hm43) (fun a h => ?_)
    refine d_take h HS HN 19 rfl (by kernel_rfl) (by kernel_rfl) (by kernel_rfl) (by kernel_rfl) (by kernel_rfl) rfl rfl (by decide) (fun w' hw => x_ld h.k rfl Try.underlying5 rfl rfl (hc48 _ (hw.snOK (i := 0) rfl))) (fun a h => ?_)
    refine d_takeP h (fun _ => HS) HN 20 rfl (by kernel_rfl) (by kernel_rfl) (by kernel_rfl) (by decide) rfl rfl (by decide) (fun w' => x_convE h.k rfl Try.underlying5 Try.underlying106 rfl (u8_to_u32 _)) (fun a h => ?_)
    refine d_takeP h (fun _ => HS) HN 21 rfl (by kernel_rfl) (by kernel_rfl) (by kernel_rfl) (by decide) rfl rfl (by decide) (fun w' => x_bin h.k rfl rfl rfl (ib_or (u32_or_ (((u32_shl (UInt32.ofNat x1.toNat) 24) ||| (u32_shl (UInt32.ofNat x13.toNat) 16)) ||| (u32_shl (UInt32.ofNat x25.toNat) 8)) (UInt32.ofNat x37.toNat)))) (fun a h => ?_)
    refine d_takeP h (fun _ => HS) HN 22 rfl (by kernel_rfl) (by kernel_rfl) (by kernel_rfl) (by decide) rfl rfl (by decide) (fun w' => x_assign h.k _ rfl rfl) (fun a h => ?_)
    refine d_takeP h (fun _ => HS) HN 23 rfl (by kernel_rfl) (by kernel_rfl) (by kernel_rfl) (by decide) rfl rfl (by decide) (fun w' => x_assign h.k _ rfl rfl) (fun a h => ?_)
    refine d_done (by kernel_rfl) (HE _ _ ?_) _
    refine e_thenN ?_
    refine wp_ret ?_
    obtain rfl := Option.some.inj hf
    exact r_ret2 h rfl (rv_tmp h rfl) (rv_tmp h rfl) ⟨_, [], _, rfl, ⟨rfl, rfl, trivial⟩, rfl, (Up.refl _ _ _), h.m⟩
def word_Rotate (Fu : Nat) (a0 : UInt32) (a1 : Int) : Option UInt32 :=
  some ((u32_shr a0 (((u64I a1) &&& (31 : UInt64)).toNat)) ||| (u32_shl a0 (((32 : UInt64) - ((u64I a1) &&& (31 : UInt64))).toNat)))
set_option maxRecDepth 100000 in
set_option maxHeartbeats 2000000 in
theorem word_Rotate_ok (Fu : Nat) {S0 : Snap} (a0 : UInt32) (a1 : Int) (hra1 : r64 a1) (r : UInt32) (hf : word_Rotate Fu a0 a1 = some r) (w0 : World) (hm : Mem w0 (ownL ([] ++ [.sn S0])) ([] ++ [.sn S0]) w0) :
    Calls Try.prog 89 #[.int .u32 (a0.toNat : Int), .int .i64 a1] w0 (Ret w0 S0 [] (fun v L1 S1 => v = .int .u32 (r.toNat : Int) ∧ L1 = [] ∧ True)) := by
  unfold word_Rotate at hf
  refine c_enterM Try.func89 rfl 17 rfl (by simp) _ hm _ rfl (fun a h => ?_)
  refine c_rs ?_
  refine sAV h (fun a h => ?_)
  refine l_end ?_
  refine c_rs ?_
  refine sMV h (fun a h => ?_)
  refine sX h (x_convE h.k rfl Try.underlying3 Try.underlying111 rfl (u64I_wrap _)) (fun a h => ?_)
  refine sX h (x_bin h.k rfl rfl rfl (ib_and (u64_and_ (u64I a1) (31 : UInt64)))) (fun a h => ?_)
  refine sAV h (fun a h => ?_)
  refine l_end ?_
  refine c_rs ?_
  refine sMV h (fun a h => ?_)
  refine sMV h (fun a h => ?_)
  refine sX h (x_bin h.k rfl rfl rfl (ib_shr_u32 a0 (((u64I a1) &&& (31 : UInt64)).toNat))) (fun a h => ?_)
  refine sMV h (fun a h => ?_)
  refine sMV h (fun a h => ?_)
  refine sX h (x_bin h.k rfl rfl rfl (ib_sub (u64_sub (32 : UInt64) ((u64I a1) &&& (31 : UInt64))))) (fun a h => ?_)
  refine sX h (x_bin h.k rfl rfl rfl (ib_shl_u32 a0 (((32 : UInt64) - ((u64I a1) &&& (31 : UInt64))).toNat))) (fun a h => ?_)
  refine sX h (x_bin h.k rfl rfl rfl (ib_or (u32_or_ (u32_shr a0 (((u64I a1) &&& (31 : UInt64)).toNat)) (u32_shl a0 (((32 : UInt64) - ((u64I a1) &&& (31 : UInt64))).toNat))))) (fun a h => ?_)
  refine sAV h (fun a h => ?_)
  refine l_end ?_
  refine wp_ret ?_
  obtain rfl := Option.some.inj hf
  exact r_ret1 h rfl (rv_tmp h rfl) ⟨_, [], _, rfl, ⟨rfl, rfl, trivial⟩, rfl, (Up.refl _ _ _), h.m⟩
end Go.Proofs.Ytohgmggdfmjgnaa
