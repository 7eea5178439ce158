/- Wp: Go functions as plain functions, and that they are so (written by xt.py). -/
import Derived.Test.YtohgmggdfmjgnaaAe
import Derived.Test.YtohgmggdfmjgnaaWd
set_option linter.unusedVariables false
set_option linter.unusedSimpArgs false
namespace Go.Proofs.Ytohgmggdfmjgnaa
open Go.RowKit
def same_none (Fu : Nat) (a0 : UInt32) : Option UInt32 :=
  some ((u32_shr (a0 ||| (-a0)) 31) ^^^ (1 : UInt32))
set_option maxRecDepth 100000 in
set_option maxHeartbeats 2000000 in
theorem same_none_ok (Fu : Nat) {S0 : Snap} (a0 : UInt32) (r : UInt32) (hf : same_none Fu a0 = some r) (w0 : World) (hm : Mem w0 (ownL ([] ++ [.sn S0])) ([] ++ [.sn S0]) w0) :
    Calls Try.prog 76 #[.int .u32 (a0.toNat : Int)] w0 (Ret w0 S0 [] (fun v L1 S1 => v = .int .u32 (r.toNat : Int) ∧ L1 = [] ∧ True)) := by
  unfold same_none at hf
  refine c_enterM Try.func76 rfl 9 rfl (by simp) _ hm _ rfl (fun a h => ?_)
  refine c_rs ?_
  refine sAV h (fun a h => ?_)
  refine l_end ?_
  refine c_rs ?_
  refine sMV h (fun a h => ?_)
  refine sMV h (fun a h => ?_)
  refine sX h (x_neg h.k rfl rfl (u32_neg _)) (fun a h => ?_)
  refine sX h (x_bin h.k rfl rfl rfl (ib_or (u32_or_ a0 (-a0)))) (fun a h => ?_)
  refine sX h (x_bin h.k rfl rfl rfl (ib_shr_u32 (a0 ||| (-a0)) 31)) (fun a h => ?_)
  refine sX h (x_bin h.k rfl rfl rfl (ib_xor (u32_xor_ (u32_shr (a0 ||| (-a0)) 31) (1 : UInt32)))) (fun a h => ?_)
  refine sAV h (fun a h => ?_)
  refine l_end ?_
  refine wp_ret ?_
  obtain rfl := Option.some.inj hf
  exact r_ret1 h rfl (rv_tmp h rfl) ⟨_, [], _, rfl, ⟨rfl, rfl, trivial⟩, rfl, (Up.refl _ _ _), h.m⟩
def same_differs_l0 (Fu : Nat) (a0 : List UInt8) (a1 : List UInt8) : Nat → UInt32 → Int → Option UInt32
  | 0, _, _ => none
  | k + 1, x3, x4 => if x4 < (a0.length : Int) then ((idx a0 x4).bind fun x9 => (idx a1 x4).bind fun x21 => same_differs_l0 Fu a0 a1 k (x3 ||| (UInt32.ofNat (x9 ^^^ x21).toNat)) (w64 (x4 + 1))) else (some x3)
def same_differs (Fu : Nat) (a0 : List UInt8) (a1 : List UInt8) : Option UInt32 :=
  (same_differs_l0 Fu a0 a1 Fu (0 : UInt32) 0).bind fun x6 => some x6
set_option maxRecDepth 100000 in
set_option maxHeartbeats 2000000 in
theorem same_differs_ok (Fu : Nat) {S0 : Snap} (Aa0 : Option Addr) (ca0 : Nat) (a0 : List UInt8) (hsa0 : slS ty8 S0 Aa0 ca0 a0) (Aa1 : Option Addr) (ca1 : Nat) (a1 : List UInt8) (hsa1 : slS ty8 S0 Aa1 ca1 a1) (r : UInt32) (hf : same_differs Fu a0 a1 = some r) (w0 : World) (hm : Mem w0 (ownL ([] ++ [.sn S0])) ([] ++ [.sn S0]) w0) :
    Calls Try.prog 77 #[.slice Aa0 a0.length ca0, .slice Aa1 a1.length ca1] w0 (Ret w0 S0 [] (fun v L1 S1 => v = .int .u32 (r.toNat : Int) ∧ L1 = [] ∧ True)) := by
  unfold same_differs at hf
  refine c_enterM Try.func77 rfl 26 rfl (by simp) _ hm _ rfl (fun a h => ?_)
  refine c_rs ?_
  refine sAV h (fun a h => ?_)
  refine l_end ?_
  refine c_rs ?_
  refine sAV h (fun a h => ?_)
  refine l_end ?_
  refine wp_seq ?_
  refine c_rs ?_
  refine sMV h (fun a h => ?_)
  refine sX h (x_len h.k rfl Try.underlying22 rfl) (fun a h => ?_)
  refine sMV h (fun a h => ?_)
  refine l_end ?_
  obtain ⟨o1, hl2, hf⟩ := bsome hf
  refine c_fin (fun a w => ∃ (x6 : UInt32), x6 = o1 ∧ St 26 w0 (ownL ([] ++ [.sn S0])) [(5, .int .u32 (x6.toNat : Int))] [.sn S0] a w) ?_ ?_
  · refine wp_block ?_
    refine c_loop (fun m8 a w => ∃ (x3 : UInt32), ∃ (x4 : Int), same_differs_l0 Fu a0 a1 m8 x3 x4 = some o1 ∧ r64 x4 ∧ St 26 w0 (ownL ([] ++ [.sn S0])) [(0, .slice Aa0 a0.length ca0), (1, .slice Aa1 a1.length ca1), (5, .int .u32 (x3.toNat : Int)), (8, .int .i64 (a0.length : Int)), (9, .int .i64 x4)] [.sn S0] a w) Fu ⟨(0 : UInt32), 0, hl2, (show r64 0 from ⟨by decide, by decide⟩), h.has (by exact ⟨rfl, rfl, rfl, rfl, rfl, trivial⟩)⟩ (fun m8 a w hI => ?_)
    obtain ⟨x3, x4, hl7, hr5, h⟩ := hI
    obtain _ | m8 := m8
    · rw [same_differs_l0] at hl7; cases hl7
    rw [same_differs_l0] at hl7
    refine c_rs ?_
    refine sX h (x_bin h.k rfl rfl rfl ib_lss) (fun a h => ?_)
    refine l_end ?_
    refine c_cs h rfl (fun hb => ?_) (fun hb => ?_)
    · rw [if_pos (of_decide_eq_true hb)] at hl7
      refine wp_skip ?_
      refine e_thenN ?_
      refine wp_seq ?_
      refine wp_block ?_
      refine c_rs ?_
      refine sMV h (fun a h => ?_)
      refine sAV h (fun a h => ?_)
      refine l_end ?_
      -- region 5 draws
      obtain ⟨x9, h13, hl7⟩ := bsome hl7
      obtain ⟨x21, h25, hl7⟩ := bsome hl7
      refine d_start h (Mem _ _ _) 13 13 rfl (by kernel_rfl) (fun _ _ _ _ _ h => h) (fun _ h => h) (fun Q a w HE HN h HS => ?_)
      refine d_takeP h (fun _ => HS) HN 0 rfl (by kernel_rfl) (by kernel_rfl) (by kernel_rfl) (by decide) rfl rfl (by decide) (fun w' => x_move h.k _ rfl rfl) (fun a h => ?_)
      refine d_takeP h (fun _ => HS) HN 1 rfl (by kernel_rfl) (by kernel_rfl) (by kernel_rfl) (by decide) rfl rfl (by decide) (fun w' => x_move h.k _ rfl rfl) (fun a h => ?_)
      refine d_takeP h (fun _ => HS) HN 2 rfl (by kernel_rfl) (by kernel_rfl) (by kernel_rfl) (by decide) rfl rfl (by decide) (fun w' => x_move h.k _ rfl rfl) (fun a h => ?_)
      obtain ⟨m10, hi14, hm15, hx16⟩ := idx_some h13
      obtain ⟨b11, off12, k17, hA18, hu19, hc20⟩ := (hsa0).at1 rfl hx16 (h.m.snOK (i := 0) rfl)
      cases hu19
      refine d_takeP h (fun _ => HS) HN 3 rfl (by kernel_rfl) (by kernel_rfl) (by kernel_rfl) (by decide) rfl rfl (by decide) (fun w' => x_iaddrE h.k rfl Try.underlying22 sz_uint8 hA18 rfl rfl hi14 hm15) (fun a h => ?_)
      refine d_take h HS HN 4 rfl (by kernel_rfl) (by kernel_rfl) (by kernel_rfl) (by kernel_rfl) (by kernel_rfl) rfl rfl (by decide) (fun w' hw => x_ld h.k rfl Try.underlying5 rfl rfl (hc20 _ (hw.snOK (i := 0) rfl))) (fun a h => ?_)
      refine d_takeP h (fun _ => HS) HN 5 rfl (by kernel_rfl) (by kernel_rfl) (by kernel_rfl) (by decide) rfl rfl (by decide) (fun w' => x_move h.k _ rfl rfl) (fun a h => ?_)
      refine d_takeP h (fun _ => HS) HN 6 rfl (by kernel_rfl) (by kernel_rfl) (by kernel_rfl) (by decide) rfl rfl (by decide) (fun w' => x_move h.k _ rfl rfl) (fun a h => ?_)
      obtain ⟨m22, hi26, hm27, hx28⟩ := idx_some h25
      obtain ⟨b23, off24, k29, hA30, hu31, hc32⟩ := (hsa1).at1 rfl hx28 (h.m.snOK (i := 0) rfl)
      cases hu31
      refine d_takeP h (fun _ => HS) HN 7 rfl (by kernel_rfl) (by kernel_rfl) (by kernel_rfl) (by decide) rfl rfl (by decide) (fun w' => x_iaddrE h.k rfl Try.underlying22 sz_uint8 hA30 rfl rfl hi26 hm27) (fun a h => ?_)
      refine d_take h HS HN 8 rfl (by kernel_rfl) (by kernel_rfl) (by kernel_rfl) (by kernel_rfl) (by kernel_rfl) rfl rfl (by decide) (fun w' hw => x_ld h.k rfl Try.underlying5 rfl rfl (hc32 _ (hw.snOK (i := 0) rfl))) (fun a h => ?_)
      refine d_takeP h (fun _ => HS) HN 9 rfl (by kernel_rfl) (by kernel_rfl) (by kernel_rfl) (by decide) rfl rfl (by decide) (fun w' => x_bin h.k rfl rfl rfl (ib_xor (u8_xor_ x9 x21))) (fun a h => ?_)
      refine d_takeP h (fun _ => HS) HN 10 rfl (by kernel_rfl) (by kernel_rfl) (by kernel_rfl) (by decide) rfl rfl (by decide) (fun w' => x_convE h.k rfl Try.underlying5 Try.underlying106 rfl (u8_to_u32 _)) (fun a h => ?_)
      refine d_takeP h (fun _ => HS) HN 11 rfl (by kernel_rfl) (by kernel_rfl) (by kernel_rfl) (by decide) rfl rfl (by decide) (fun w' => x_bin h.k rfl rfl rfl (ib_or (u32_or_ x3 (UInt32.ofNat (x9 ^^^ x21).toNat)))) (fun a h => ?_)
      refine d_takeP h (fun _ => HS) HN 12 rfl (by kernel_rfl) (by kernel_rfl) (by kernel_rfl) (by decide) rfl rfl (by decide) (fun w' => x_assign h.k _ rfl rfl) (fun a h => ?_)
      refine d_done (by kernel_rfl) (HE _ _ ?_) _
      refine e_blkN ?_
      refine e_thenN ?_
      refine c_r ?_
      refine sX h (x_bin h.k rfl rfl rfl (ib_add rfl)) (fun a h => ?_)
      refine sMV h (fun a h => ?_)
      refine l_nil ?_
      exact e_thenN ⟨m8, Nat.lt_succ_self _, (x3 ||| (UInt32.ofNat (x9 ^^^ x21).toNat)), w64 (x4 + 1), hl7, (w64_r _), h.has (by exact ⟨rfl, rfl, rfl, rfl, rfl, trivial⟩)⟩
    · rw [if_neg (of_decide_eq_false hb)] at hl7
      refine wp_exit ?_
      refine e_thenX ?_
      refine e_thenX ?_
      refine e_blkX ?_
      refine e_thenN ?_
      exact ⟨x3, (Option.some.inj hl7), h.has (by exact ⟨rfl, trivial⟩)⟩
  · rintro a w ⟨x6, rfl, h⟩
    refine e_thenN ?_
    refine c_rs ?_
    refine sMV h (fun a h => ?_)
    refine sAV h (fun a h => ?_)
    refine l_end ?_
    refine wp_ret ?_
    rw [← Option.some.inj hf]
    exact r_ret1 h rfl (rv_tmp h rfl) ⟨_, [], _, rfl, ⟨rfl, rfl, trivial⟩, rfl, (Up.refl _ _ _), h.m⟩
def same_Bytes (Fu : Nat) (a0 : List UInt8) (a1 : List UInt8) : Option Bool :=
  (if (a0.length : Int) = (a1.length : Int) then (same_differs Fu a0 a1).bind fun x4 => (same_none Fu x4).bind fun x7 => some (decide ((x7.toNat : Int) = 1)) else some false).bind fun z2 => some z2
set_option maxRecDepth 100000 in
set_option maxHeartbeats 2000000 in
theorem same_Bytes_ok (Fu : Nat) {S0 : Snap} (Aa0 : Option Addr) (ca0 : Nat) (a0 : List UInt8) (hsa0 : slS ty8 S0 Aa0 ca0 a0) (Aa1 : Option Addr) (ca1 : Nat) (a1 : List UInt8) (hsa1 : slS ty8 S0 Aa1 ca1 a1) (r : Bool) (hf : same_Bytes Fu a0 a1 = some r) (w0 : World) (hm : Mem w0 (ownL ([] ++ [.sn S0])) ([] ++ [.sn S0]) w0) :
    Calls Try.prog 55 #[.slice Aa0 a0.length ca0, .slice Aa1 a1.length ca1] w0 (Ret w0 S0 [] (fun v L1 S1 => v = .bool r ∧ L1 = [] ∧ True)) := by
  unfold same_Bytes at hf
  refine c_enterM Try.func55 rfl 17 rfl (by simp) _ hm _ rfl (fun a h => ?_)
  refine c_rs ?_
  refine sAV h (fun a h => ?_)
  refine l_end ?_
  refine c_rs ?_
  refine sMV h (fun a h => ?_)
  refine sX h (x_len h.k rfl Try.underlying22 rfl) (fun a h => ?_)
  refine sMV h (fun a h => ?_)
  refine sX h (x_len h.k rfl Try.underlying22 rfl) (fun a h => ?_)
  refine sX h (x_bin h.k rfl rfl rfl ib_eql) (fun a h => ?_)
  refine sMV h (fun a h => ?_)
  obtain ⟨z2, hz1, hf⟩ := bsome hf
  refine q_grp h 6 (t := 10) 16 z2 rfl (fun hB5 => ?_) (fun hB5 => ?_) (fun a w h => ?_)
  · rw [if_pos (of_decide_eq_true hB5)] at hz1
    refine g_yes h rfl rfl rfl rfl hB5 ?_
    refine sMV h (fun a h => ?_)
    refine g_yes h rfl rfl rfl rfl hB5 ?_
    refine sMV h (fun a h => ?_)
    refine g_yes h rfl rfl rfl rfl hB5 ?_
    obtain ⟨x4, h5, hz1⟩ := bsome hz1
    have hX := same_differs_ok Fu (S0 := snapAll _) Aa0 ca0 a0 (hsa0.mono (h.m.leAll (i := 0) rfl)) Aa1 ca1 a1 (hsa1.mono (h.m.leAll (i := 0) rfl)) _ h5 _ h.startAll
    refine q_callX hX h rfl rfl rfl (by decide) Try.func77 rfl rfl rfl (fun a w v L1 S1 hR hb1 h => ?_)
    obtain ⟨rfl, rfl, _⟩ := hR
    refine g_yes h rfl rfl rfl rfl hB5 ?_
    obtain ⟨x7, h8, hz1⟩ := bsome hz1
    have hX := same_none_ok Fu (S0 := snapAll _) x4 _ h8 _ h.startAll
    refine q_callX hX h rfl rfl rfl (by decide) Try.func76 rfl rfl rfl (fun a w v L1 S1 hR hb1 h => ?_)
    obtain ⟨rfl, rfl, _⟩ := hR
    refine g_yes h rfl rfl rfl rfl hB5 ?_
    refine sX h (x_bin h.k rfl rfl rfl ib_eql) (fun a h => ?_)
    refine sX h (x_pick (u' := undef) h.k rfl rfl (fun _ => rfl) (fun hh => absurd (hB5.symm.trans hh) (by decide))) (fun a h => ?_)
    exact (h.mid 5 rfl).val (by rw [Option.some.inj hz1])
  · refine g_no h rfl rfl rfl rfl hB5 rfl (by decide) (fun a h => ?_)
    refine g_no h rfl rfl rfl rfl hB5 rfl (by decide) (fun a h => ?_)
    refine g_no h rfl rfl rfl rfl hB5 rfl (by decide) (fun a h => ?_)
    refine g_no h rfl rfl rfl rfl hB5 rfl (by decide) (fun a h => ?_)
    refine g_no h rfl rfl rfl rfl hB5 rfl (by decide) (fun a h => ?_)
    rw [if_neg (of_decide_eq_false hB5)] at hz1
    refine sX h (x_pick (u' := undef) h.k rfl rfl (fun hh => absurd (hB5.symm.trans hh) (by decide)) (fun _ => rfl)) (fun a h => ?_)
    exact (h.mid 5 rfl).val (by rw [Option.some.inj hz1])
  refine sAV h (fun a h => ?_)
  refine l_end ?_
  refine wp_ret ?_
  rw [← Option.some.inj hf]
  exact r_ret1 h rfl (rv_tmp h rfl) ⟨_, [], _, rfl, ⟨rfl, rfl, trivial⟩, rfl, (Up.refl _ _ _), h.m⟩
def wrap_Size (Fu : Nat) (a0 : Int) : Option (Int × Bool) :=
  if (((decide (Int.tmod a0 8 ≠ 0)) || (decide (a0 < 16))) || (decide (64 < a0))) = true then (some (0, false)) else (some (w64 (a0 + 8), true))
set_option maxRecDepth 100000 in
set_option maxHeartbeats 2000000 in
theorem wrap_Size_ok (Fu : Nat) {S0 : Snap} (a0 : Int) (hra0 : r64 a0) (r : Int × Bool) (hf : wrap_Size Fu a0 = some r) (w0 : World) (hm : Mem w0 (ownL ([] ++ [.sn S0])) ([] ++ [.sn S0]) w0) :
    Calls Try.prog 52 #[.int .i64 a0] w0 (Ret w0 S0 [] (fun v L1 S1 => v = .tuple #[.int .i64 r.1, .bool r.2] ∧ L1 = [] ∧ r64 r.1 ∧ True)) := by
  unfold wrap_Size at hf
  refine c_enterM Try.func52 rfl 17 rfl (by simp) _ hm _ rfl (fun a h => ?_)
  refine c_rs ?_
  refine sAV h (fun a h => ?_)
  refine sAV h (fun a h => ?_)
  refine l_end ?_
  refine wp_seq ?_
  refine c_rs ?_
  refine sMV h (fun a h => ?_)
  refine sX h (x_bin h.k rfl rfl rfl (ib_remw (by decide))) (fun a h => ?_)
  refine sX h (x_bin h.k rfl rfl rfl ib_neq) (fun a h => ?_)
  refine sMV h (fun a h => ?_)
  refine q_grp h 3 (t := 7) 10 ((decide (Int.tmod a0 8 ≠ 0)) || (decide (a0 < 16))) rfl (fun hB3 => ?_) (fun hB3 => ?_) (fun a w h => ?_)
  · refine g_no h rfl rfl rfl rfl hB3 rfl (by decide) (fun a h => ?_)
    refine g_no h rfl rfl rfl rfl hB3 rfl (by decide) (fun a h => ?_)
    refine sX h (x_pick (u' := undef) h.k rfl rfl (fun _ => rfl) (fun hh => absurd (hB3.symm.trans hh) (by decide))) (fun a h => ?_)
    exact (h.mid 2 rfl).val (by first | rfl | (rw [hB3]; first | rfl | simp))
  · refine g_yes h rfl rfl rfl rfl hB3 ?_
    refine sMV h (fun a h => ?_)
    refine g_yes h rfl rfl rfl rfl hB3 ?_
    refine sX h (x_bin h.k rfl rfl rfl ib_lss) (fun a h => ?_)
    refine sX h (x_pick (u' := undef) h.k rfl rfl (fun hh => absurd (hB3.symm.trans hh) (by decide)) (fun _ => rfl)) (fun a h => ?_)
    exact (h.mid 2 rfl).val (by first | rfl | (rw [hB3]; first | rfl | simp))
  refine sMV h (fun a h => ?_)
  refine q_grp h 3 (t := 11) 14 (((decide (Int.tmod a0 8 ≠ 0)) || (decide (a0 < 16))) || (decide (64 < a0))) rfl (fun hB7 => ?_) (fun hB7 => ?_) (fun a w h => ?_)
  · refine g_no h rfl rfl rfl rfl hB7 rfl (by decide) (fun a h => ?_)
    refine g_no h rfl rfl rfl rfl hB7 rfl (by decide) (fun a h => ?_)
    refine sX h (x_pick (u' := undef) h.k rfl rfl (fun _ => rfl) (fun hh => absurd (hB7.symm.trans hh) (by decide))) (fun a h => ?_)
    exact (h.mid 2 rfl).val (by first | rfl | (rw [hB7]; first | rfl | simp))
  · refine g_yes h rfl rfl rfl rfl hB7 ?_
    refine sMV h (fun a h => ?_)
    refine g_yes h rfl rfl rfl rfl hB7 ?_
    refine sX h (x_bin h.k rfl rfl rfl ib_gtr) (fun a h => ?_)
    refine sX h (x_pick (u' := undef) h.k rfl rfl (fun hh => absurd (hB7.symm.trans hh) (by decide)) (fun _ => rfl)) (fun a h => ?_)
    exact (h.mid 2 rfl).val (by first | rfl | (rw [hB7]; first | rfl | simp))
  refine l_end ?_
  refine c_cond h rfl (fun hb => ?_) (fun hb => ?_)
  · rw [if_pos hb] at hf
    refine c_rs ?_
    refine sAV h (fun a h => ?_)
    refine sAV h (fun a h => ?_)
    refine l_end ?_
    refine wp_ret ?_
    refine e_thenR ?_
    obtain rfl := Option.some.inj hf
    exact r_ret2 h rfl (rv_tmp h rfl) (rv_tmp h rfl) ⟨_, [], _, rfl, ⟨rfl, rfl, (show r64 0 from ⟨by decide, by decide⟩), trivial⟩, rfl, (Up.refl _ _ _), h.m⟩
  · rw [if_neg (by rw [hb]; decide)] at hf
    refine wp_skip ?_
    refine e_thenN ?_
    refine c_rs ?_
    refine sMV h (fun a h => ?_)
    refine sX h (x_bin h.k rfl rfl rfl (ib_add rfl)) (fun a h => ?_)
    refine sAV h (fun a h => ?_)
    refine sAV h (fun a h => ?_)
    refine l_end ?_
    refine wp_ret ?_
    obtain rfl := Option.some.inj hf
    exact r_ret2 h rfl (rv_tmp h rfl) (rv_tmp h rfl) ⟨_, [], _, rfl, ⟨rfl, rfl, (w64_r _), trivial⟩, rfl, (Up.refl _ _ _), h.m⟩
def wrap_marks_l0 (Fu : Nat) : Nat → Int → Int → (List UInt8) → Option ((List UInt8))
  | 0, _, _, _ => none
  | k + 1, x9, x11, x13 => if x11 < x9 then ((ix x13.length x11).bind fun m25 => wrap_marks_l0 Fu k x9 (w64 (x11 + 1)) (x13.set m25 (166 : UInt8))) else (some x13)
def wrap_marks (Fu : Nat) : Option ((List UInt8)) :=
  (mkN 1 8).bind fun n1 => (wrap_marks_l0 Fu Fu ((List.replicate n1 ((0 : UInt8) : UInt8)).length : Int) 0 (List.replicate n1 ((0 : UInt8) : UInt8))).bind fun x18 => some x18
set_option maxRecDepth 100000 in
set_option maxHeartbeats 2000000 in
theorem wrap_marks_ok (Fu : Nat) {S0 : Snap}  (r : (List UInt8)) (hf : wrap_marks Fu = some r) (w0 : World) (hm : Mem w0 (ownL ([] ++ [.sn S0])) ([] ++ [.sn S0]) w0) :
    Calls Try.prog 56 #[] w0 (Ret w0 S0 [] (fun v L1 S1 => ∃ (A35 : Option Addr), ∃ (c36 : Nat), ∃ (cs37 : List Value), v = .slice A35 r.length c36 ∧ L1 = [.row (.slice A35 r.length c36) 5 1 r.length cs37] ∧ reps ty8 S1 cs37 r ∧ True)) := by
  unfold wrap_marks at hf
  refine c_enterM Try.func56 rfl 14 rfl (by simp) _ hm _ rfl (fun a h => ?_)
  refine c_rs ?_
  refine sAV h (fun a h => ?_)
  refine l_end ?_
  refine c_rs ?_
  obtain ⟨n1, h2, hf⟩ := bsome hf
  refine q_make (T := ty8) (S := S0) h rfl rfl rfl (by decide) Try.underlying22 zb_uint8 rfl rfl (q := (0 : UInt8)) rfl rfl rfl h2 (fun a w A3 cs4 hq5 h => ?_)
  refine sAV h (fun a h => ?_)
  refine l_end ?_
  refine wp_seq ?_
  refine c_rs ?_
  refine sMV h (fun a h => ?_)
  have hr6 : r64 ((List.replicate n1 ((0 : UInt8) : UInt8)).length : Int) := len_r (h.m.rowLen (i := 0) rfl)
  refine sX h (x_len h.k rfl Try.underlying22 rfl) (fun a h => ?_)
  refine sMV h (fun a h => ?_)
  refine l_end ?_
  obtain ⟨o7, hl8, hf⟩ := bsome hf
  refine c_fin (fun a w => ∃ (x18 : List UInt8), ∃ (A19 : Option Addr), ∃ (c20 : Nat), ∃ (cs21 : List Value), x18 = o7 ∧ reps ty8 S0 cs21 x18 ∧ St 14 w0 (ownL ([] ++ [.sn S0])) [(1, .slice A19 x18.length c20)] [.row (.slice A19 x18.length c20) 5 1 x18.length cs21, .sn S0] a w) ?_ ?_
  · refine wp_block ?_
    refine c_loop (fun m24 a w => ∃ (x9 : Int), ∃ (x11 : Int), ∃ (x13 : List UInt8), ∃ (A14 : Option Addr), ∃ (c15 : Nat), ∃ (cs16 : List Value), wrap_marks_l0 Fu m24 x9 x11 x13 = some o7 ∧ r64 x9 ∧ r64 x11 ∧ reps ty8 S0 cs16 x13 ∧ St 14 w0 (ownL ([] ++ [.sn S0])) [(1, .slice A14 x13.length c15), (5, .int .i64 x9), (6, .int .i64 x11)] [.row (.slice A14 x13.length c15) 5 1 x13.length cs16, .sn S0] a w) Fu ⟨((List.replicate n1 ((0 : UInt8) : UInt8)).length : Int), 0, (List.replicate n1 ((0 : UInt8) : UInt8)), A3, n1, cs4, hl8, hr6, (show r64 0 from ⟨by decide, by decide⟩), hq5, h.has (by exact ⟨rfl, rfl, rfl, trivial⟩)⟩ (fun m24 a w hI => ?_)
    obtain ⟨x9, x11, x13, A14, c15, cs16, hl23, hr10, hr12, hq17, h⟩ := hI
    obtain _ | m24 := m24
    · rw [wrap_marks_l0] at hl23; cases hl23
    rw [wrap_marks_l0] at hl23
    refine c_rs ?_
    refine sX h (x_bin h.k rfl rfl rfl ib_lss) (fun a h => ?_)
    refine l_end ?_
    refine c_cs h rfl (fun hb => ?_) (fun hb => ?_)
    · rw [if_pos (of_decide_eq_true hb)] at hl23
      refine wp_skip ?_
      refine e_thenN ?_
      refine wp_seq ?_
      refine wp_block ?_
      refine c_rs ?_
      refine sMV h (fun a h => ?_)
      refine sAV h (fun a h => ?_)
      refine l_end ?_
      refine c_r ?_
      refine sMV h (fun a h => ?_)
      refine sMV h (fun a h => ?_)
      obtain ⟨m25, h26, hl23⟩ := bsome hl23
      obtain ⟨hi27, hm28⟩ := ix_some h26
      obtain ⟨g30, hA29⟩ := h.m.rowHead (i := 0) rfl (Nat.lt_of_le_of_lt (Nat.zero_le _) hm28)
      refine sX h (x_iaddrE h.k rfl Try.underlying22 sz_uint8 hA29 rfl rfl hi27 hm28) (fun a h => ?_)
      refine q_setRow (T := ty8) (q := (166 : UInt8)) h rfl rfl rfl sz_uint8 hA29 rfl rfl 0 rfl rfl hq17 rfl (by first | exact hm28 | simpa using hm28) (fun a w cs31 hq32 h => ?_)
      have hl33 : x13.length = (x13.set m25 (166 : UInt8)).length := by simp only [List.length_set]
      rw [hl33] at h
      refine l_nil ?_
      refine e_blkN ?_
      refine e_thenN ?_
      refine c_r ?_
      refine sX h (x_bin h.k rfl rfl rfl (ib_add rfl)) (fun a h => ?_)
      refine sMV h (fun a h => ?_)
      refine l_nil ?_
      exact e_thenN ⟨m24, Nat.lt_succ_self _, x9, w64 (x11 + 1), (x13.set m25 (166 : UInt8)), A14, c15, cs31, hl23, hr10, (w64_r _), hq32, h.has (by exact ⟨rfl, rfl, rfl, trivial⟩)⟩
    · rw [if_neg (of_decide_eq_false hb)] at hl23
      refine wp_exit ?_
      refine e_thenX ?_
      refine e_thenX ?_
      refine e_blkX ?_
      refine e_thenN ?_
      exact ⟨x13, A14, c15, cs16, (Option.some.inj hl23), hq17, h.has (by exact ⟨rfl, trivial⟩)⟩
  · rintro a w ⟨x18, A19, c20, cs21, rfl, hq22, h⟩
    refine e_thenN ?_
    refine c_rs ?_
    refine sMV h (fun a h => ?_)
    refine sAV h (fun a h => ?_)
    refine l_end ?_
    refine wp_ret ?_
    rw [← Option.some.inj hf]
    exact r_ret1 h rfl (rv_tmp h rfl) ⟨_, [.row (.slice A19 x18.length c20) 5 1 x18.length cs21], _, rfl, ⟨A19, c20, cs21, rfl, rfl, hq22, trivial⟩, rfl, (Up.refl _ _ _), h.m⟩
def wrap_count_view0_16_uint8_l0 (Fu : Nat) (ya0 : Nat × Nat) (x5 : (List UInt8)) : Nat → Int → (List UInt8) → Option ((List UInt8))
  | 0, _, _ => none
  | k + 1, x16, x18 => if x16 < (x5.length : Int) then ((ix x5.length x16).bind fun m28 => (x5[m28]?).bind fun x34 => (ix (ya0.2 - ya0.1) x16).bind fun m39 => (x18[(ya0.1 + m39)]?).bind fun x44 => (ix (ya0.2 - ya0.1) x16).bind fun m49 => wrap_count_view0_16_uint8_l0 Fu ya0 x5 k (w64 (x16 + 1)) (x18.set (ya0.1 + m49) (x44 ^^^ x34))) else (some x18)
def wrap_count_view0_16_uint8 (Fu : Nat) (a0 : List UInt8) (ya0 : Nat × Nat) (a1 : Int) : Option ((List UInt8)) :=
  (word_Put64 Fu (u64I a1)).bind fun x5 => (wrap_count_view0_16_uint8_l0 Fu ya0 x5 Fu 0 a0).bind fun x22 => some x22
set_option maxRecDepth 100000 in
set_option maxHeartbeats 2000000 in
theorem wrap_count_view0_16_uint8_ok (Fu : Nat) {S0 : Snap} (a0 : List UInt8) (g1 : Nat) (k2 : List Value) (hs3 : reps ty8 S0 k2 a0) (hl4 : a0.length = 16) (ya0 : Nat × Nat) (na0 : Nat) (h1a0 : ya0.1 ≤ ya0.2) (h2a0 : ya0.2 ≤ 16) (h3a0 : ya0.2 - ya0.1 = na0) (a1 : Int) (hra1 : r64 a1) (r : (List UInt8)) (hf : wrap_count_view0_16_uint8 Fu a0 ya0 a1 = some r) (w0 : World) (hm : Mem w0 (ownL ([.box g1 79 k2] ++ [.sn S0])) ([.box g1 79 k2] ++ [.sn S0]) w0) :
    Calls Try.prog 53 #[.slice (vA g1 16 ya0.1) na0 (16 - ya0.1), .int .i64 a1] w0 (Ret w0 S0 [.box g1 79 k2] (fun v L1 S1 => ∃ (k58 : List Value), v = .tuple #[] ∧ L1 = [.box g1 79 k58] ∧ reps ty8 S1 k58 r ∧ r.length = 16 ∧ True)) := by
  unfold wrap_count_view0_16_uint8 at hf
  obtain ⟨B0, hB0⟩ : ∃ B0, B0 = (ownL ([.box g1 79 k2] ++ [.sn S0])) := ⟨_, rfl⟩
  rw [← hB0] at hm
  refine c_enterM Try.func53 rfl 23 rfl (by simp) _ hm _ rfl (fun a h => ?_)
  refine c_rs ?_
  refine sMV h (fun a h => ?_)
  refine sX h (x_convE h.k rfl Try.underlying3 Try.underlying59 rfl (u64I_wrap _)) (fun a h => ?_)
  obtain ⟨x5, h6, hf⟩ := bsome hf
  have hX := word_Put64_ok Fu (S0 := snapAll _) (u64I a1) _ h6 _ h.startAll
  refine q_callX hX h rfl rfl rfl (by decide) Try.func70 rfl rfl rfl (fun a w v L1 S1 hR hb1 h => ?_)
  obtain ⟨A8, c9, cs10, rfl, rfl, hq11, _⟩ := hR
  have hq12 := hq11.fl (S' := S0) fl_8
  have hr13 : r64 (x5.length : Int) := len_r (h.m.rowLen (i := 0) rfl)
  refine sX h (x_len h.k rfl Try.underlying22 rfl) (fun a h => ?_)
  refine sMV h (fun a h => ?_)
  refine l_end ?_
  obtain ⟨o14, hl15, hf⟩ := bsome hf
  refine c_fin (fun a w => ∃ (x22 : List UInt8), ∃ (k23 : List Value), x22 = o14 ∧ reps ty8 S0 k23 x22 ∧ x22.length = 16 ∧ St 23 w0 B0 [] [.box g1 79 k23, .sn S0] a w) ?_ ?_
  · refine wp_block ?_
    have h := h.pick [1, 0, 2] (by decide) rfl
    refine c_loop (fun m27 a w => ∃ (x16 : Int), ∃ (x18 : List UInt8), ∃ (k19 : List Value), wrap_count_view0_16_uint8_l0 Fu ya0 x5 m27 x16 x18 = some o14 ∧ r64 x16 ∧ reps ty8 S0 k19 x18 ∧ x18.length = 16 ∧ St 23 w0 B0 [(0, .slice (vA g1 16 ya0.1) na0 (16 - ya0.1)), (8, .slice A8 x5.length c9), (9, .int .i64 (x5.length : Int)), (10, .int .i64 x16)] [.box g1 79 k19, .row (.slice A8 x5.length c9) 5 1 x5.length cs10, .sn S0] a w) Fu ⟨0, a0, k2, hl15, (show r64 0 from ⟨by decide, by decide⟩), hs3, hl4, h.has (by exact ⟨rfl, rfl, rfl, rfl, trivial⟩)⟩ (fun m27 a w hI => ?_)
    obtain ⟨x16, x18, k19, hl26, hr17, hs20, hl21, h⟩ := hI
    obtain _ | m27 := m27
    · rw [wrap_count_view0_16_uint8_l0] at hl26; cases hl26
    rw [wrap_count_view0_16_uint8_l0] at hl26
    refine c_rs ?_
    refine sX h (x_bin h.k rfl rfl rfl ib_lss) (fun a h => ?_)
    refine l_end ?_
    refine c_cs h rfl (fun hb => ?_) (fun hb => ?_)
    · rw [if_pos (of_decide_eq_true hb)] at hl26
      refine wp_skip ?_
      refine e_thenN ?_
      refine wp_seq ?_
      refine wp_block ?_
      refine c_rs ?_
      refine sMV h (fun a h => ?_)
      obtain ⟨m28, h29, hl26⟩ := bsome hl26
      obtain ⟨hi30, hm31⟩ := ix_some h29
      obtain ⟨g33, hA32⟩ := h.m.rowHead (i := 1) rfl (Nat.lt_of_le_of_lt (Nat.zero_le _) hm31)
      refine sX h (x_iaddrE h.k rfl Try.underlying22 sz_uint8 hA32 rfl rfl hi30 hm31) (fun a h => ?_)
      obtain ⟨x34, h35, hl26⟩ := bsome hl26
      obtain ⟨u36, hv37, hu38⟩ := (hq12).cell rfl h35
      cases hu38
      refine sX h (x_ld h.k rfl Try.underlying5 rfl rfl (h.m.cellRowE (i := 1) rfl hA32 _ (by rw [Nat.mul_one]; exact hv37))) (fun a h => ?_)
      refine sAV h (fun a h => ?_)
      refine sAV h (fun a h => ?_)
      refine l_end ?_
      refine c_r ?_
      refine sMV h (fun a h => ?_)
      refine sMV h (fun a h => ?_)
      obtain ⟨m39, h41, hl26⟩ := bsome hl26
      obtain ⟨hi42, hm43⟩ := ix_some h41
      have hl40 : ya0.1 + m39 < 16 := by have := h1a0; have := h2a0; omega
      refine sX h (x_iaddrV h.k rfl Try.underlying22 sz_uint8 rfl rfl hi42 (Nat.lt_of_lt_of_eq hm43 h3a0) (by omega)) (fun a h => ?_)
      obtain ⟨x44, h45, hl26⟩ := bsome hl26
      obtain ⟨u46, hv47, hu48⟩ := (hs20).cell rfl h45
      cases hu48
      refine sX h (x_ld h.k rfl Try.underlying5 rfl rfl ((h.m.cell (i := 0) rfl _).trans (by rw [Nat.zero_add, Nat.mul_one]; exact hv47))) (fun a h => ?_)
      refine sMV h (fun a h => ?_)
      refine sX h (x_bin h.k rfl rfl rfl (ib_xor (u8_xor_ x44 x34))) (fun a h => ?_)
      obtain ⟨m49, h51, hl26⟩ := bsome hl26
      obtain ⟨hi52, hm53⟩ := ix_some h51
      have hl50 : ya0.1 + m49 < 16 := by have := h1a0; have := h2a0; omega
      refine sX h (x_iaddrV h.k rfl Try.underlying22 sz_uint8 rfl rfl hi52 (Nat.lt_of_lt_of_eq hm53 h3a0) (by omega)) (fun a h => ?_)
      refine q_setBox (T := ty8) (q := (x44 ^^^ x34)) h rfl rfl rfl sz_uint8 rfl rfl 0 rfl rfl hs20 rfl (by first | omega | (simp_all; done)) (fun a w cs54 hq55 h => ?_)
      have hl56 : (x18.set (ya0.1 + m49) (x44 ^^^ x34)).length = 16 := by rw [List.length_set]; exact hl21
      refine l_nil ?_
      refine e_blkN ?_
      refine e_thenN ?_
      refine c_r ?_
      refine sX h (x_bin h.k rfl rfl rfl (ib_add rfl)) (fun a h => ?_)
      refine sMV h (fun a h => ?_)
      refine l_nil ?_
      exact e_thenN ⟨m27, Nat.lt_succ_self _, w64 (x16 + 1), (x18.set (ya0.1 + m49) (x44 ^^^ x34)), cs54, hl26, (w64_r _), hq55, hl56, h.has (by exact ⟨rfl, rfl, rfl, rfl, trivial⟩)⟩
    · rw [if_neg (of_decide_eq_false hb)] at hl26
      refine wp_exit ?_
      refine e_thenX ?_
      refine e_thenX ?_
      refine e_blkX ?_
      refine e_thenN ?_
      have h := h.pick [0, 2] (by decide) rfl
      exact ⟨x18, k19, (Option.some.inj hl26), hs20, hl21, h.has trivial⟩
  · rintro a w ⟨x22, k23, rfl, hs24, hl25, h⟩
    rw [← Option.some.inj hf]
    subst hB0
    exact r_ret0 h rfl  ⟨_, [.box g1 79 k23], _, rfl, ⟨k23, rfl, rfl, hs24, hl25, trivial⟩, rfl, (Up.refl _ _ _), h.m⟩
def wrap_Wrap_l0 (Fu : Nat) (a1 : List UInt8) : Nat → Int → (List UInt8) → (List UInt8) → Option ((List UInt8))
  | 0, _, _, _ => none
  | k + 1, x38, x40, x45 => if x38 ≤ w64 (6 * (w64 (Int.tdiv (a1.length : Int) 8))) then ((remI (w64 (x38 - 1)) (w64 (Int.tdiv (a1.length : Int) 8))).bind fun x59 => (bnd 16 0 8).bind fun y61 => (bnd 16 8 (16 : Int)).bind fun y74 => (bnd x40.length (w64 (8 * (w64 (x59 + 1)))) (w64 ((w64 (8 * (w64 (x59 + 1)))) + 8))).bind fun y83 => (aes_Cipher_Encrypt_nil0 Fu (cpy (cpy x45 y61.1 y61.2 x40) y74.1 y74.2 ((x40.take y83.2).drop y83.1))).bind fun x99 => (bnd 16 0 8).bind fun y107 => (wrap_count_view0_16_uint8 Fu x99 y107 x38).bind fun x116 => (bnd 16 0 8).bind fun y125 => (bnd ((cpy x40 0 x40.length ((x116.take y125.2).drop y125.1)).length) (w64 (8 * (w64 (x59 + 1)))) ((cpy x40 0 x40.length ((x116.take y125.2).drop y125.1)).length : Int)).bind fun y139 => (bnd 16 8 (16 : Int)).bind fun y150 => wrap_Wrap_l0 Fu a1 k (w64 (x38 + 1)) (cpy (cpy x40 0 x40.length ((x116.take y125.2).drop y125.1)) y139.1 y139.2 ((x116.take y150.2).drop y150.1)) x116) else (some x40)
def wrap_Wrap_l1 (Fu : Nat) (a1 : List UInt8) (x165 : ((List UInt32) × (List UInt8) × (List UInt8)) × Int) : Nat → Int → (List UInt8) → (List UInt8) → Option ((List UInt8))
  | 0, _, _, _ => none
  | k + 1, x198, x200, x205 => if x198 ≤ w64 (6 * (w64 (Int.tdiv (a1.length : Int) 8))) then ((remI (w64 (x198 - 1)) (w64 (Int.tdiv (a1.length : Int) 8))).bind fun x219 => (bnd 16 0 8).bind fun y221 => (bnd 16 8 (16 : Int)).bind fun y234 => (bnd x200.length (w64 (8 * (w64 (x219 + 1)))) (w64 ((w64 (8 * (w64 (x219 + 1)))) + 8))).bind fun y243 => (aes_Cipher_Encrypt Fu x165.1 (cpy (cpy x205 y221.1 y221.2 x200) y234.1 y234.2 ((x200.take y243.2).drop y243.1))).bind fun x259 => (bnd 16 0 8).bind fun y267 => (wrap_count_view0_16_uint8 Fu x259 y267 x198).bind fun x276 => (bnd 16 0 8).bind fun y285 => (bnd ((cpy x200 0 x200.length ((x276.take y285.2).drop y285.1)).length) (w64 (8 * (w64 (x219 + 1)))) ((cpy x200 0 x200.length ((x276.take y285.2).drop y285.1)).length : Int)).bind fun y299 => (bnd 16 8 (16 : Int)).bind fun y310 => wrap_Wrap_l1 Fu a1 x165 k (w64 (x198 + 1)) (cpy (cpy x200 0 x200.length ((x276.take y285.2).drop y285.1)) y299.1 y299.2 ((x276.take y310.2).drop y310.1)) x276) else (some x200)
def wrap_Wrap (Fu : Nat) (a0 : List UInt8) (a1 : List UInt8) : Option ((List UInt8) × Int) :=
  (aes_New Fu a0).bind fun x1 => (match x1 with | .inl x7 => (if x7 ≠ 0 then (some ([], x7)) else ((wrap_Size Fu (a1.length : Int)).bind fun x10 => if (!x10.2) = true then (some ([], 2)) else ((wrap_marks Fu).bind fun x15 => (app 1 x15 a1).bind fun x23 => (wrap_Wrap_l0 Fu a1 Fu 1 x23 (List.replicate 16 ((0 : UInt8) : UInt8))).bind fun x52 => some (x52, 0)))) | .inr x165 => (if x165.2 ≠ 0 then (some ([], x165.2)) else ((wrap_Size Fu (a1.length : Int)).bind fun x170 => if (!x170.2) = true then (some ([], 2)) else ((wrap_marks Fu).bind fun x175 => (app 1 x175 a1).bind fun x183 => (wrap_Wrap_l1 Fu a1 x165 Fu 1 x183 (List.replicate 16 ((0 : UInt8) : UInt8))).bind fun x212 => some (x212, 0)))))
set_option maxRecDepth 100000 in
set_option maxHeartbeats 2000000 in
theorem wrap_Wrap_ok (Fu : Nat) {S0 : Snap} (Aa0 : Option Addr) (ca0 : Nat) (a0 : List UInt8) (hsa0 : slS ty8 S0 Aa0 ca0 a0) (Aa1 : Option Addr) (ca1 : Nat) (a1 : List UInt8) (hsa1 : slS ty8 S0 Aa1 ca1 a1) (r : (List UInt8) × Int) (hf : wrap_Wrap Fu a0 a1 = some r) (w0 : World) (hm : Mem w0 (ownL ([] ++ [.sn S0])) ([] ++ [.sn S0]) w0) :
    Calls Try.prog 41 #[.slice Aa0 a0.length ca0, .slice Aa1 a1.length ca1] w0 (Ret w0 S0 [] (fun v L1 S1 => ∃ (A325 : Option Addr), ∃ (c326 : Nat), ∃ (cs327 : List Value), v = .tuple #[.slice A325 r.1.length c326, .int .i64 r.2] ∧ L1 = [.row (.slice A325 r.1.length c326) 5 1 r.1.length cs327] ∧ reps ty8 S1 cs327 r.1 ∧ r64 r.2 ∧ True)) := by
  unfold wrap_Wrap at hf
  refine c_enterM Try.func41 rfl 74 rfl (by simp) _ hm _ rfl (fun a h => ?_)
  refine c_rs ?_
  refine sAV h (fun a h => ?_)
  refine sAV h (fun a h => ?_)
  refine l_end ?_
  refine c_rs ?_
  refine sMV h (fun a h => ?_)
  obtain ⟨x1, h2, hf⟩ := bsome hf
  have hX := aes_New_ok Fu (S0 := S0) Aa0 ca0 a0 hsa0 _ h2 _ (h.sub (Ls := []))
  refine q_callY (Ls := []) hX h (Up.refl _ _ _) rfl rfl rfl (by decide) Try.func51 rfl rfl rfl (fun a w v L1 S4 hR le6 up5 h => ?_)
  rcases hR with hR | hR
  · obtain ⟨x7, rfl, hR⟩ := hR
    dsimp only at hf
    obtain ⟨rfl, rfl, hr8, _⟩ := hR
    refine sMV h (fun a h => ?_)
    refine sX h (x_ext h.k rfl rfl rfl) (fun a h => ?_)
    refine sX h (x_ext h.k rfl rfl rfl) (fun a h => ?_)
    refine sAV h (fun a h => ?_)
    refine sAV h (fun a h => ?_)
    refine l_end ?_
    refine wp_seq ?_
    refine c_rs ?_
    refine sMV h (fun a h => ?_)
    refine sX h (x_bin h.k rfl rfl rfl ib_neq) (fun a h => ?_)
    refine l_end ?_
    refine c_cond h rfl (fun hb => ?_) (fun hb => ?_)
    · rw [if_pos (of_decide_eq_true hb)] at hf
      refine c_rs ?_
      refine sMV h (fun a h => ?_)
      refine sAV h (fun a h => ?_)
      refine sAV h (fun a h => ?_)
      refine l_end ?_
      refine wp_ret ?_
      refine e_thenR ?_
      obtain rfl := Option.some.inj hf
      have h := h.mem (h.m.nilrow 5 1)
      exact r_ret2 h rfl (rv_tmp h rfl) (rv_tmp h rfl) ⟨_, [.row (.slice none ([]).length 0) 5 1 ([]).length []], _, rfl, ⟨none, 0, [], rfl, rfl, (show reps ty8 S4 [] [] from rfl), hr8, trivial⟩, rfl, up5, h.m⟩
    · rw [if_neg (of_decide_eq_false hb)] at hf
      refine wp_skip ?_
      refine e_thenN ?_
      refine wp_seq ?_
      refine c_rs ?_
      refine sMV h (fun a h => ?_)
      refine sX h (x_len h.k rfl Try.underlying22 rfl) (fun a h => ?_)
      obtain ⟨x10, h11, hf⟩ := bsome hf
      have hX := wrap_Size_ok Fu (S0 := snapAll _) (a1.length : Int) (len_r ((hsa1.mono le6)).len) _ h11 _ h.startAll
      refine q_callX hX h rfl rfl rfl (by decide) Try.func52 rfl rfl rfl (fun a w v L1 S1 hR hb1 h => ?_)
      obtain ⟨rfl, rfl, hr13, _⟩ := hR
      refine sMV h (fun a h => ?_)
      refine sX h (x_ext h.k rfl rfl rfl) (fun a h => ?_)
      refine sX h (x_ext h.k rfl rfl rfl) (fun a h => ?_)
      refine sAV h (fun a h => ?_)
      refine sAV h (fun a h => ?_)
      refine l_end ?_
      refine c_rs ?_
      refine sMV h (fun a h => ?_)
      refine sX h (x_not h.k rfl rfl) (fun a h => ?_)
      refine l_end ?_
      refine c_cond h rfl (fun hb => ?_) (fun hb => ?_)
      · rw [if_pos hb] at hf
        refine c_rs ?_
        refine sAV h (fun a h => ?_)
        refine sAV h (fun a h => ?_)
        refine l_end ?_
        refine wp_ret ?_
        refine e_thenR ?_
        obtain rfl := Option.some.inj hf
        have h := h.mem (h.m.nilrow 5 1)
        exact r_ret2 h rfl (rv_tmp h rfl) (rv_tmp h rfl) ⟨_, [.row (.slice none ([]).length 0) 5 1 ([]).length []], _, rfl, ⟨none, 0, [], rfl, rfl, (show reps ty8 S4 [] [] from rfl), (show r64 2 from ⟨by decide, by decide⟩), trivial⟩, rfl, up5, h.m⟩
      · rw [if_neg (by rw [hb]; decide)] at hf
        refine wp_skip ?_
        refine e_thenN ?_
        refine c_rs ?_
        obtain ⟨x15, h16, hf⟩ := bsome hf
        have hX := wrap_marks_ok Fu (S0 := snapAll _)  _ h16 _ h.startAll
        refine q_callX hX h rfl rfl rfl (by decide) Try.func56 rfl rfl rfl (fun a w v L1 S1 hR hb1 h => ?_)
        obtain ⟨A18, c19, cs20, rfl, rfl, hq21, _⟩ := hR
        have hq22 := hq21.fl (S' := S4) fl_8
        refine sMV h (fun a h => ?_)
        obtain ⟨x23, h24, hf⟩ := bsome hf
        obtain ⟨_, _, vs25, hrd26, hrp27⟩ := id (hsa1.mono le6)
        refine q_append (T := ty8) (S := S4) h rfl rfl rfl (by decide) Try.underlying22 zb_uint8 rfl (by decide) rfl 0 rfl hq22 rfl hrp27 (hrd26 _ (h.m.snOK (i := 1) rfl)) h24 (fun a w A28 c29 cs30 hq31 h => ?_)
        refine sAV h (fun a h => ?_)
        refine l_end ?_
        refine c_rs ?_
        refine sMV h (fun a h => ?_)
        refine sX h (x_len h.k rfl Try.underlying22 rfl) (fun a h => ?_)
        refine sX h (x_bin h.k rfl rfl rfl (ib_quow (by decide))) (fun a h => ?_)
        refine sAV h (fun a h => ?_)
        refine l_end ?_
        refine c_rs ?_
        refine s_alloc h rfl rfl rfl (by decide) zi_A16_uint8 rfl (fun a w g32 h => ?_)
        have h := h.parts (L' := [.box g32 79 (List.replicate 16 (.int .u8 0 : Value)), .row (.slice A28 x23.length c29) 5 1 x23.length cs30, .sn S4]) rfl
        refine l_end ?_
        refine wp_seq ?_
        refine c_rs ?_
        refine sAV h (fun a h => ?_)
        refine l_end ?_
        obtain ⟨o33, hl34, hf⟩ := bsome hf
        refine c_fin (fun a w => ∃ (S49 : Snap), ∃ (x52 : List UInt8), ∃ (A53 : Option Addr), ∃ (c54 : Nat), ∃ (cs55 : List Value), x52 = o33 ∧ Snap.le S4 S49 ∧ Up (ownL ([] ++ [.sn S0])) w0 S0 S49 ∧ reps ty8 S49 cs55 x52 ∧ St 74 w0 (ownL ([] ++ [.sn S0])) [(10, .slice A53 x52.length c54)] [.row (.slice A53 x52.length c54) 5 1 x52.length cs55, .sn S49] a w) ?_ ?_
        · refine wp_block ?_
          have h := h.pick [1, 0, 2] (by decide) rfl
          refine c_loop (fun m58 a w => ∃ (S35 : Snap), ∃ (x38 : Int), ∃ (x40 : List UInt8), ∃ (A41 : Option Addr), ∃ (c42 : Nat), ∃ (cs43 : List Value), ∃ (x45 : List UInt8), ∃ (k46 : List Value), wrap_Wrap_l0 Fu a1 m58 x38 x40 x45 = some o33 ∧ Snap.le S4 S35 ∧ Up (ownL ([] ++ [.sn S0])) w0 S0 S35 ∧ r64 x38 ∧ reps ty8 S35 cs43 x40 ∧ reps ty8 S35 k46 x45 ∧ x45.length = 16 ∧ St 74 w0 (ownL ([] ++ [.sn S0])) [(6, .pointer none), (10, .slice A41 x40.length c42), (11, .int .i64 (w64 (Int.tdiv (a1.length : Int) 8))), (12, .pointer (some ⟨g32, 0, none⟩)), (13, .int .i64 x38)] [.row (.slice A41 x40.length c42) 5 1 x40.length cs43, .box g32 79 k46, .sn S35] a w) Fu ⟨S4, 1, x23, A28, c29, cs30, (List.replicate 16 ((0 : UInt8) : UInt8)), (List.replicate 16 (.int .u8 0 : Value)), hl34, (Snap.le.refl _), up5, (show r64 1 from ⟨by decide, by decide⟩), hq31, (show reps ty8 S4 (List.replicate 16 (.int .u8 0 : Value)) (List.replicate 16 ((0 : UInt8) : UInt8)) from repsRep1 (x := ((0 : UInt8) : UInt8)) rfl), (show (List.replicate 16 ((0 : UInt8) : UInt8)).length = 16 from List.length_replicate), h.has (by exact ⟨rfl, rfl, rfl, rfl, rfl, trivial⟩)⟩ (fun m58 a w hI => ?_)
          obtain ⟨S35, x38, x40, A41, c42, cs43, x45, k46, hl57, le36, up37, hr39, hq44, hs47, hl48, h⟩ := hI
          obtain _ | m58 := m58
          · rw [wrap_Wrap_l0] at hl57; cases hl57
          rw [wrap_Wrap_l0] at hl57
          refine wp_seq ?_
          refine c_rs ?_
          refine sMV h (fun a h => ?_)
          refine sMV h (fun a h => ?_)
          refine sX h (x_bin h.k rfl rfl rfl (ib_mul rfl)) (fun a h => ?_)
          refine sX h (x_bin h.k rfl rfl rfl ib_leq) (fun a h => ?_)
          refine l_end ?_
          refine c_cond h rfl (fun hb => ?_) (fun hb => ?_)
          · rw [if_pos (of_decide_eq_true hb)] at hl57
            refine wp_skip ?_
            refine e_thenN ?_
            refine wp_seq ?_
            refine wp_block ?_
            refine c_rs ?_
            refine sMV h (fun a h => ?_)
            refine sX h (x_bin h.k rfl rfl rfl (ib_sub rfl)) (fun a h => ?_)
            refine sMV h (fun a h => ?_)
            obtain ⟨x59, h60, hl57⟩ := bsome hl57
            refine sX h (x_bin h.k rfl rfl rfl (ib_rem_ h60)) (fun a h => ?_)
            refine sX h (x_bin h.k rfl rfl rfl (ib_add rfl)) (fun a h => ?_)
            refine sX h (x_bin h.k rfl rfl rfl (ib_mul rfl)) (fun a h => ?_)
            refine sAV h (fun a h => ?_)
            refine l_end ?_
            refine c_rs ?_
            obtain ⟨y61, h62, hl57⟩ := bsome hl57
            obtain ⟨hi63, hi64, hm65, hm66⟩ := bnd_some h62
            obtain ⟨n67, hn68⟩ : ∃ n, y61.2 - y61.1 = n := ⟨_, rfl⟩
            refine sX h (x_viewB h.k rfl Try.underlying79 sz_uint8 rfl (bd_none (by omega)) (bd_some rfl hi64) hm65 hm66 hn68) (fun a h => ?_)
            refine sMV h (fun a h => ?_)
            refine q_copyB (T := ty8) (S := S35) (l := y61.1) (g := y61.2) h rfl rfl rfl (by decide) Try.underlying22 sz_uint8 rfl rfl 1 rfl rfl hs47 hq44 (h.m.rdRowA (i := 0) rfl) rfl hn68 hm65 hm66 hl48 (fun a w cs70 n71 hq72 h => ?_)
            have hl73 : (cpy x45 y61.1 y61.2 x40).length = 16 := (cpy_len _ hm65 (by have := hm66; have := hl48; omega)).trans hl48
            refine l_end ?_
            refine wp_seq ?_
            -- region 15 draws
            obtain ⟨y74, h75, hl57⟩ := bsome hl57
            obtain ⟨y83, h84, hl57⟩ := bsome hl57
            refine d_start h (Mem _ _ _) 6 7 rfl (by kernel_rfl) (fun _ _ _ _ _ h => h) (fun _ h => h) (fun Q a w HE HN h HS => ?_)
            obtain ⟨hi76, hi77, hm78, hm79⟩ := bnd_some h75
            obtain ⟨n80, hn81⟩ : ∃ n, y74.2 - y74.1 = n := ⟨_, rfl⟩
            refine d_takeP h (fun _ => HS) HN 0 rfl (by kernel_rfl) (by kernel_rfl) (by kernel_rfl) (by decide) rfl rfl (by decide) (fun w' => x_viewB h.k rfl Try.underlying79 sz_uint8 rfl (bd_some rfl hi76) (bd_none (by omega)) hm78 hm79 hn81) (fun a h => ?_)
            refine d_takeP h (fun _ => HS) HN 1 rfl (by kernel_rfl) (by kernel_rfl) (by kernel_rfl) (by decide) rfl rfl (by decide) (fun w' => x_move h.k _ rfl rfl) (fun a h => ?_)
            refine d_takeP h (fun _ => HS) HN 2 rfl (by kernel_rfl) (by kernel_rfl) (by kernel_rfl) (by decide) rfl rfl (by decide) (fun w' => x_move h.k _ rfl rfl) (fun a h => ?_)
            refine d_takeP h (fun _ => HS) HN 3 rfl (by kernel_rfl) (by kernel_rfl) (by kernel_rfl) (by decide) rfl rfl (by decide) (fun w' => x_move h.k _ rfl rfl) (fun a h => ?_)
            refine d_takeP h (fun _ => HS) HN 4 rfl (by kernel_rfl) (by kernel_rfl) (by kernel_rfl) (by decide) rfl rfl (by decide) (fun w' => x_bin h.k rfl rfl rfl (ib_add rfl)) (fun a h => ?_)
            obtain ⟨hi85, hi86, hm87, hm88⟩ := bnd_some h84
            obtain ⟨n89, hn90⟩ : ∃ n, y83.2 - y83.1 = n := ⟨_, rfl⟩
            have hl92 := h.m.rowLe (i := 0) rfl
            have hz93 := Nat.le_trans hm88 hl92.1
            refine d_takeP h (fun _ => HS) HN 5 rfl (by kernel_rfl) (by kernel_rfl) (by kernel_rfl) (by decide) rfl rfl (by decide) (fun w' => x_viewR h.k rfl Try.underlying22 sz_uint8 rfl (bd_some rfl hi85) (bd_some rfl hi86) hm87 hm88 hl92.1 hn90) (fun a h => ?_)
            refine d_alone 6 rfl (by kernel_rfl) (fun K hK => ?_)
            have hl94 : y83.2 ≤ x40.length := hm88
            refine q_copyB (T := ty8) (S := S35) (l := y74.1) (g := y74.2) h rfl rfl rfl (by decide) Try.underlying22 sz_uint8 rfl rfl 1 rfl rfl hq72 (reps.cut rfl hq44 y83.1 y83.2) ((h.m.rdRowA (i := 0) rfl).sA rfl hz93) (cut_len hl94 hn90) hn81 hm78 hm79 hl73 (fun a w cs95 n96 hq97 h => ?_)
            have hl98 : (cpy (cpy x45 y61.1 y61.2 x40) y74.1 y74.2 ((x40.take y83.2).drop y83.1)).length = 16 := (cpy_len _ hm78 (by have := hm79; have := hl73; omega)).trans hl73
            refine hK _ _ (fun hne _ => absurd rfl hne) ?_
            clear hK
            refine d_done (by kernel_rfl) (HE _ _ ?_) _
            refine e_thenN ?_
            refine c_rs ?_
            refine sMV h (fun a h => ?_)
            refine sX h (x_ldR h.k rfl ag_A16_uint8 rfl cs95 ((hq97).len.trans (by rw [hl98]; rfl)) (h.m.range0 (i := 1) rfl)) (fun a h => ?_)
            obtain ⟨x99, h100, hl57⟩ := bsome hl57
            have hX := aes_Cipher_Encrypt_nil0_ok Fu (S0 := snapAll _) cs95 (cpy (cpy x45 y61.1 y61.2 x40) y74.1 y74.2 ((x40.take y83.2).drop y83.1)) ((tyA 16 ty8).mono (h.m.leAll (i := 2) rfl) (show (tyA 16 ty8).rep S35 cs95 (cpy (cpy x45 y61.1 y61.2 x40) y74.1 y74.2 ((x40.take y83.2).drop y83.1)) from ⟨hq97, hl98⟩)) _ h100 _ h.startAll
            refine q_callX hX h rfl rfl rfl (by decide) Try.func61 rfl rfl rfl (fun a w v L1 S1 hR hb1 h => ?_)
            obtain ⟨k102, rfl, rfl, hv103, _⟩ := hR
            obtain ⟨hs104, hl105⟩ := hv103
            have hq106 := hs104.fl (S' := S35) fl_8
            refine s_stW h rfl rfl rfl ag_A16_uint8 rfl (es := k102) rfl ((hq106).len.trans (by rw [hl105]; rfl)) (hq106).one 1 rfl ((hq97).len.trans (by rw [hl98]; rfl)) (fun a w h => ?_)
            refine l_end ?_
            refine c_rs ?_
            obtain ⟨y107, h108, hl57⟩ := bsome hl57
            obtain ⟨hi109, hi110, hm111, hm112⟩ := bnd_some h108
            obtain ⟨n113, hn114⟩ : ∃ n, y107.2 - y107.1 = n := ⟨_, rfl⟩
            refine sX h (x_viewB h.k rfl Try.underlying79 sz_uint8 rfl (bd_none (by omega)) (bd_some rfl hi110) hm111 hm112 hn114) (fun a h => ?_)
            refine sMV h (fun a h => ?_)
            obtain ⟨x116, h117, hl57⟩ := bsome hl57
            have h := h.pick [1, 2, 0] (by decide) rfl
            have hX := wrap_count_view0_16_uint8_ok Fu (S0 := S35) x99 g32 k102 hq106 hl105 y107 n113 hm111 hm112 hn114 x38 hr39 _ h117 _ (h.sub (Ls := [.box g32 79 k102]))
            refine q_callY (Ls := [.box g32 79 k102]) hX h up37 rfl rfl rfl (by decide) Try.func53 rfl rfl rfl (fun a w v L1 S119 hR le121 up120 h => ?_)
            obtain ⟨k122, rfl, rfl, hs123, hl124, _⟩ := hR
            refine l_end ?_
            refine c_rs ?_
            refine sMV h (fun a h => ?_)
            obtain ⟨y125, h126, hl57⟩ := bsome hl57
            obtain ⟨hi127, hi128, hm129, hm130⟩ := bnd_some h126
            obtain ⟨n131, hn132⟩ : ∃ n, y125.2 - y125.1 = n := ⟨_, rfl⟩
            refine sX h (x_viewB h.k rfl Try.underlying79 sz_uint8 rfl (bd_none (by omega)) (bd_some rfl hi128) hm129 hm130 hn132) (fun a h => ?_)
            have hl134 : y125.2 ≤ x116.length := (by have := hm130; have := hl124; omega)
            refine q_copyR (T := ty8) (S := S119) (l := 0) (g := x40.length) h rfl rfl rfl (by decide) Try.underlying22 sz_uint8 rfl rfl 2 rfl rfl (hq44.mono le121) (reps.cut rfl hs123 y125.1 y125.2) ((h.m.rdBox0 (i := 0) rfl).vA (l := y125.1) hm130) (cut_len hl134 hn132) (Nat.sub_zero _) (Nat.zero_le _) (Nat.le_refl _) dA_row (fun a w cs135 n136 hq137 h => ?_)
            have hl138 : (cpy x40 0 x40.length ((x116.take y125.2).drop y125.1)).length = x40.length := (cpy_len _ (Nat.zero_le _) (Nat.le_refl _))
            rw [hl138, ← hl138] at h
            refine l_end ?_
            -- region 19 draws
            obtain ⟨y139, h140, hl57⟩ := bsome hl57
            obtain ⟨y150, h151, hl57⟩ := bsome hl57
            refine d_start h (Mem _ _ _) 4 5 rfl (by kernel_rfl) (fun _ _ _ _ _ h => h) (fun _ h => h) (fun Q a w HE HN h HS => ?_)
            refine d_takeP h (fun _ => HS) HN 0 rfl (by kernel_rfl) (by kernel_rfl) (by kernel_rfl) (by decide) rfl rfl (by decide) (fun w' => x_move h.k _ rfl rfl) (fun a h => ?_)
            refine d_takeP h (fun _ => HS) HN 1 rfl (by kernel_rfl) (by kernel_rfl) (by kernel_rfl) (by decide) rfl rfl (by decide) (fun w' => x_move h.k _ rfl rfl) (fun a h => ?_)
            obtain ⟨hi141, hi142, hm143, hm144⟩ := bnd_some h140
            obtain ⟨n145, hn146⟩ : ∃ n, y139.2 - y139.1 = n := ⟨_, rfl⟩
            have hl148 := h.m.rowLe (i := 2) rfl
            have hz149 := Nat.le_trans hm144 hl148.1
            refine d_takeP h (fun _ => HS) HN 2 rfl (by kernel_rfl) (by kernel_rfl) (by kernel_rfl) (by decide) rfl rfl (by decide) (fun w' => x_viewR h.k rfl Try.underlying22 sz_uint8 rfl (bd_some rfl hi141) (bd_none (by omega)) hm143 hm144 hl148.1 hn146) (fun a h => ?_)
            obtain ⟨hi152, hi153, hm154, hm155⟩ := bnd_some h151
            obtain ⟨n156, hn157⟩ : ∃ n, y150.2 - y150.1 = n := ⟨_, rfl⟩
            refine d_takeP h (fun _ => HS) HN 3 rfl (by kernel_rfl) (by kernel_rfl) (by kernel_rfl) (by decide) rfl rfl (by decide) (fun w' => x_viewB h.k rfl Try.underlying79 sz_uint8 rfl (bd_some rfl hi152) (bd_none (by omega)) hm154 hm155 hn157) (fun a h => ?_)
            refine d_alone 4 rfl (by kernel_rfl) (fun K hK => ?_)
            have hl159 : y150.2 ≤ x116.length := (by have := hm155; have := hl124; omega)
            refine q_copyR (T := ty8) (S := S119) (l := y139.1) (g := y139.2) h rfl rfl rfl (by decide) Try.underlying22 sz_uint8 rfl rfl 2 rfl rfl hq137 (reps.cut rfl hs123 y150.1 y150.2) ((h.m.rdBox0 (i := 0) rfl).vA (l := y150.1) hm155) (cut_len hl159 hn157) hn146 hm143 hm144 (dA_sA rfl hz149) (fun a w cs160 n161 hq162 h => ?_)
            have hl163 : (cpy (cpy x40 0 x40.length ((x116.take y125.2).drop y125.1)) y139.1 y139.2 ((x116.take y150.2).drop y150.1)).length = (cpy x40 0 x40.length ((x116.take y125.2).drop y125.1)).length := (cpy_len _ hm143 hm144)
            rw [hl163, ← hl163] at h
            refine hK _ _ (fun hne _ => absurd rfl hne) ?_
            clear hK
            refine d_done (by kernel_rfl) (HE _ _ ?_) _
            refine e_blkN ?_
            refine e_thenN ?_
            refine c_r ?_
            refine sMV h (fun a h => ?_)
            refine sX h (x_bin h.k rfl rfl rfl (ib_add rfl)) (fun a h => ?_)
            refine sAV h (fun a h => ?_)
            refine l_nil ?_
            have h := h.pick [2, 0, 1] (by decide) rfl
            exact e_thenN ⟨m58, Nat.lt_succ_self _, S119, w64 (x38 + 1), (cpy (cpy x40 0 x40.length ((x116.take y125.2).drop y125.1)) y139.1 y139.2 ((x116.take y150.2).drop y150.1)), A41, c42, cs160, x116, k122, hl57, (le36.trans le121), up120, (w64_r _), hq162, hs123, hl124, h.has (by exact ⟨rfl, rfl, rfl, rfl, rfl, trivial⟩)⟩
          · rw [if_neg (of_decide_eq_false hb)] at hl57
            refine wp_exit ?_
            refine e_thenX ?_
            refine e_thenX ?_
            refine e_blkX ?_
            refine e_thenN ?_
            have h := h.pick [0, 2] (by decide) rfl
            exact ⟨S35, x40, A41, c42, cs43, (Option.some.inj hl57), le36, up37, hq44, h.has (by exact ⟨rfl, trivial⟩)⟩
        · rintro a w ⟨S49, x52, A53, c54, cs55, rfl, le50, up51, hq56, h⟩
          refine e_thenN ?_
          refine c_rs ?_
          refine sMV h (fun a h => ?_)
          refine sAV h (fun a h => ?_)
          refine sAV h (fun a h => ?_)
          refine l_end ?_
          refine wp_ret ?_
          obtain rfl := Option.some.inj hf
          exact r_ret2 h rfl (rv_tmp h rfl) (rv_tmp h rfl) ⟨_, [.row (.slice A53 x52.length c54) 5 1 x52.length cs55], _, rfl, ⟨A53, c54, cs55, rfl, rfl, hq56, (show r64 0 from ⟨by decide, by decide⟩), trivial⟩, rfl, up51, h.m⟩
  · obtain ⟨x165, rfl, hR⟩ := hR
    dsimp only at hf
    obtain ⟨g166, rfl, rfl, hp167, hr168, _⟩ := hR
    refine sMV h (fun a h => ?_)
    refine sX h (x_ext h.k rfl rfl rfl) (fun a h => ?_)
    refine sX h (x_ext h.k rfl rfl rfl) (fun a h => ?_)
    refine sAV h (fun a h => ?_)
    refine sAV h (fun a h => ?_)
    refine l_end ?_
    refine wp_seq ?_
    refine c_rs ?_
    refine sMV h (fun a h => ?_)
    refine sX h (x_bin h.k rfl rfl rfl ib_neq) (fun a h => ?_)
    refine l_end ?_
    refine c_cond h rfl (fun hb => ?_) (fun hb => ?_)
    · rw [if_pos (of_decide_eq_true hb)] at hf
      refine c_rs ?_
      refine sMV h (fun a h => ?_)
      refine sAV h (fun a h => ?_)
      refine sAV h (fun a h => ?_)
      refine l_end ?_
      refine wp_ret ?_
      refine e_thenR ?_
      obtain rfl := Option.some.inj hf
      have h := h.mem (h.m.nilrow 5 1)
      exact r_ret2 h rfl (rv_tmp h rfl) (rv_tmp h rfl) ⟨_, [.row (.slice none ([]).length 0) 5 1 ([]).length []], _, rfl, ⟨none, 0, [], rfl, rfl, (show reps ty8 S4 [] [] from rfl), hr168, trivial⟩, rfl, up5, h.m⟩
    · rw [if_neg (of_decide_eq_false hb)] at hf
      refine wp_skip ?_
      refine e_thenN ?_
      refine wp_seq ?_
      refine c_rs ?_
      refine sMV h (fun a h => ?_)
      refine sX h (x_len h.k rfl Try.underlying22 rfl) (fun a h => ?_)
      obtain ⟨x170, h171, hf⟩ := bsome hf
      have hX := wrap_Size_ok Fu (S0 := snapAll _) (a1.length : Int) (len_r ((hsa1.mono le6)).len) _ h171 _ h.startAll
      refine q_callX hX h rfl rfl rfl (by decide) Try.func52 rfl rfl rfl (fun a w v L1 S1 hR hb1 h => ?_)
      obtain ⟨rfl, rfl, hr173, _⟩ := hR
      refine sMV h (fun a h => ?_)
      refine sX h (x_ext h.k rfl rfl rfl) (fun a h => ?_)
      refine sX h (x_ext h.k rfl rfl rfl) (fun a h => ?_)
      refine sAV h (fun a h => ?_)
      refine sAV h (fun a h => ?_)
      refine l_end ?_
      refine c_rs ?_
      refine sMV h (fun a h => ?_)
      refine sX h (x_not h.k rfl rfl) (fun a h => ?_)
      refine l_end ?_
      refine c_cond h rfl (fun hb => ?_) (fun hb => ?_)
      · rw [if_pos hb] at hf
        refine c_rs ?_
        refine sAV h (fun a h => ?_)
        refine sAV h (fun a h => ?_)
        refine l_end ?_
        refine wp_ret ?_
        refine e_thenR ?_
        obtain rfl := Option.some.inj hf
        have h := h.mem (h.m.nilrow 5 1)
        exact r_ret2 h rfl (rv_tmp h rfl) (rv_tmp h rfl) ⟨_, [.row (.slice none ([]).length 0) 5 1 ([]).length []], _, rfl, ⟨none, 0, [], rfl, rfl, (show reps ty8 S4 [] [] from rfl), (show r64 2 from ⟨by decide, by decide⟩), trivial⟩, rfl, up5, h.m⟩
      · rw [if_neg (by rw [hb]; decide)] at hf
        refine wp_skip ?_
        refine e_thenN ?_
        refine c_rs ?_
        obtain ⟨x175, h176, hf⟩ := bsome hf
        have hX := wrap_marks_ok Fu (S0 := snapAll _)  _ h176 _ h.startAll
        refine q_callX hX h rfl rfl rfl (by decide) Try.func56 rfl rfl rfl (fun a w v L1 S1 hR hb1 h => ?_)
        obtain ⟨A178, c179, cs180, rfl, rfl, hq181, _⟩ := hR
        have hq182 := hq181.fl (S' := S4) fl_8
        refine sMV h (fun a h => ?_)
        obtain ⟨x183, h184, hf⟩ := bsome hf
        obtain ⟨_, _, vs185, hrd186, hrp187⟩ := id (hsa1.mono le6)
        refine q_append (T := ty8) (S := S4) h rfl rfl rfl (by decide) Try.underlying22 zb_uint8 rfl (by decide) rfl 0 rfl hq182 rfl hrp187 (hrd186 _ (h.m.snOK (i := 1) rfl)) h184 (fun a w A188 c189 cs190 hq191 h => ?_)
        refine sAV h (fun a h => ?_)
        refine l_end ?_
        refine c_rs ?_
        refine sMV h (fun a h => ?_)
        refine sX h (x_len h.k rfl Try.underlying22 rfl) (fun a h => ?_)
        refine sX h (x_bin h.k rfl rfl rfl (ib_quow (by decide))) (fun a h => ?_)
        refine sAV h (fun a h => ?_)
        refine l_end ?_
        refine c_rs ?_
        refine s_alloc h rfl rfl rfl (by decide) zi_A16_uint8 rfl (fun a w g192 h => ?_)
        have h := h.parts (L' := [.box g192 79 (List.replicate 16 (.int .u8 0 : Value)), .row (.slice A188 x183.length c189) 5 1 x183.length cs190, .sn S4]) rfl
        refine l_end ?_
        refine wp_seq ?_
        refine c_rs ?_
        refine sAV h (fun a h => ?_)
        refine l_end ?_
        obtain ⟨o193, hl194, hf⟩ := bsome hf
        refine c_fin (fun a w => ∃ (S209 : Snap), ∃ (x212 : List UInt8), ∃ (A213 : Option Addr), ∃ (c214 : Nat), ∃ (cs215 : List Value), x212 = o193 ∧ Snap.le S4 S209 ∧ Up (ownL ([] ++ [.sn S0])) w0 S0 S209 ∧ reps ty8 S209 cs215 x212 ∧ St 74 w0 (ownL ([] ++ [.sn S0])) [(10, .slice A213 x212.length c214)] [.row (.slice A213 x212.length c214) 5 1 x212.length cs215, .sn S209] a w) ?_ ?_
        · refine wp_block ?_
          have h := h.pick [1, 0, 2] (by decide) rfl
          refine c_loop (fun m218 a w => ∃ (S195 : Snap), ∃ (x198 : Int), ∃ (x200 : List UInt8), ∃ (A201 : Option Addr), ∃ (c202 : Nat), ∃ (cs203 : List Value), ∃ (x205 : List UInt8), ∃ (k206 : List Value), wrap_Wrap_l1 Fu a1 x165 m218 x198 x200 x205 = some o193 ∧ Snap.le S4 S195 ∧ Up (ownL ([] ++ [.sn S0])) w0 S0 S195 ∧ r64 x198 ∧ reps ty8 S195 cs203 x200 ∧ reps ty8 S195 k206 x205 ∧ x205.length = 16 ∧ St 74 w0 (ownL ([] ++ [.sn S0])) [(6, .pointer (some ⟨g166, 0, none⟩)), (10, .slice A201 x200.length c202), (11, .int .i64 (w64 (Int.tdiv (a1.length : Int) 8))), (12, .pointer (some ⟨g192, 0, none⟩)), (13, .int .i64 x198)] [.row (.slice A201 x200.length c202) 5 1 x200.length cs203, .box g192 79 k206, .sn S195] a w) Fu ⟨S4, 1, x183, A188, c189, cs190, (List.replicate 16 ((0 : UInt8) : UInt8)), (List.replicate 16 (.int .u8 0 : Value)), hl194, (Snap.le.refl _), up5, (show r64 1 from ⟨by decide, by decide⟩), hq191, (show reps ty8 S4 (List.replicate 16 (.int .u8 0 : Value)) (List.replicate 16 ((0 : UInt8) : UInt8)) from repsRep1 (x := ((0 : UInt8) : UInt8)) rfl), (show (List.replicate 16 ((0 : UInt8) : UInt8)).length = 16 from List.length_replicate), h.has (by exact ⟨rfl, rfl, rfl, rfl, rfl, trivial⟩)⟩ (fun m218 a w hI => ?_)
          obtain ⟨S195, x198, x200, A201, c202, cs203, x205, k206, hl217, le196, up197, hr199, hq204, hs207, hl208, h⟩ := hI
          obtain _ | m218 := m218
          · rw [wrap_Wrap_l1] at hl217; cases hl217
          rw [wrap_Wrap_l1] at hl217
          refine wp_seq ?_
          refine c_rs ?_
          refine sMV h (fun a h => ?_)
          refine sMV h (fun a h => ?_)
          refine sX h (x_bin h.k rfl rfl rfl (ib_mul rfl)) (fun a h => ?_)
          refine sX h (x_bin h.k rfl rfl rfl ib_leq) (fun a h => ?_)
          refine l_end ?_
          refine c_cond h rfl (fun hb => ?_) (fun hb => ?_)
          · rw [if_pos (of_decide_eq_true hb)] at hl217
            refine wp_skip ?_
            refine e_thenN ?_
            refine wp_seq ?_
            refine wp_block ?_
            refine c_rs ?_
            refine sMV h (fun a h => ?_)
            refine sX h (x_bin h.k rfl rfl rfl (ib_sub rfl)) (fun a h => ?_)
            refine sMV h (fun a h => ?_)
            obtain ⟨x219, h220, hl217⟩ := bsome hl217
            refine sX h (x_bin h.k rfl rfl rfl (ib_rem_ h220)) (fun a h => ?_)
            refine sX h (x_bin h.k rfl rfl rfl (ib_add rfl)) (fun a h => ?_)
            refine sX h (x_bin h.k rfl rfl rfl (ib_mul rfl)) (fun a h => ?_)
            refine sAV h (fun a h => ?_)
            refine l_end ?_
            refine c_rs ?_
            obtain ⟨y221, h222, hl217⟩ := bsome hl217
            obtain ⟨hi223, hi224, hm225, hm226⟩ := bnd_some h222
            obtain ⟨n227, hn228⟩ : ∃ n, y221.2 - y221.1 = n := ⟨_, rfl⟩
            refine sX h (x_viewB h.k rfl Try.underlying79 sz_uint8 rfl (bd_none (by omega)) (bd_some rfl hi224) hm225 hm226 hn228) (fun a h => ?_)
            refine sMV h (fun a h => ?_)
            refine q_copyB (T := ty8) (S := S195) (l := y221.1) (g := y221.2) h rfl rfl rfl (by decide) Try.underlying22 sz_uint8 rfl rfl 1 rfl rfl hs207 hq204 (h.m.rdRowA (i := 0) rfl) rfl hn228 hm225 hm226 hl208 (fun a w cs230 n231 hq232 h => ?_)
            have hl233 : (cpy x205 y221.1 y221.2 x200).length = 16 := (cpy_len _ hm225 (by have := hm226; have := hl208; omega)).trans hl208
            refine l_end ?_
            refine wp_seq ?_
            -- region 15 draws
            obtain ⟨y234, h235, hl217⟩ := bsome hl217
            obtain ⟨y243, h244, hl217⟩ := bsome hl217
            refine d_start h (Mem _ _ _) 6 7 rfl (by kernel_rfl) (fun _ _ _ _ _ h => h) (fun _ h => h) (fun Q a w HE HN h HS => ?_)
            obtain ⟨hi236, hi237, hm238, hm239⟩ := bnd_some h235
            obtain ⟨n240, hn241⟩ : ∃ n, y234.2 - y234.1 = n := ⟨_, rfl⟩
            refine d_takeP h (fun _ => HS) HN 0 rfl (by kernel_rfl) (by kernel_rfl) (by kernel_rfl) (by decide) rfl rfl (by decide) (fun w' => x_viewB h.k rfl Try.underlying79 sz_uint8 rfl (bd_some rfl hi236) (bd_none (by omega)) hm238 hm239 hn241) (fun a h => ?_)
            refine d_takeP h (fun _ => HS) HN 1 rfl (by kernel_rfl) (by kernel_rfl) (by kernel_rfl) (by decide) rfl rfl (by decide) (fun w' => x_move h.k _ rfl rfl) (fun a h => ?_)
            refine d_takeP h (fun _ => HS) HN 2 rfl (by kernel_rfl) (by kernel_rfl) (by kernel_rfl) (by decide) rfl rfl (by decide) (fun w' => x_move h.k _ rfl rfl) (fun a h => ?_)
            refine d_takeP h (fun _ => HS) HN 3 rfl (by kernel_rfl) (by kernel_rfl) (by kernel_rfl) (by decide) rfl rfl (by decide) (fun w' => x_move h.k _ rfl rfl) (fun a h => ?_)
            refine d_takeP h (fun _ => HS) HN 4 rfl (by kernel_rfl) (by kernel_rfl) (by kernel_rfl) (by decide) rfl rfl (by decide) (fun w' => x_bin h.k rfl rfl rfl (ib_add rfl)) (fun a h => ?_)
            obtain ⟨hi245, hi246, hm247, hm248⟩ := bnd_some h244
            obtain ⟨n249, hn250⟩ : ∃ n, y243.2 - y243.1 = n := ⟨_, rfl⟩
            have hl252 := h.m.rowLe (i := 0) rfl
            have hz253 := Nat.le_trans hm248 hl252.1
            refine d_takeP h (fun _ => HS) HN 5 rfl (by kernel_rfl) (by kernel_rfl) (by kernel_rfl) (by decide) rfl rfl (by decide) (fun w' => x_viewR h.k rfl Try.underlying22 sz_uint8 rfl (bd_some rfl hi245) (bd_some rfl hi246) hm247 hm248 hl252.1 hn250) (fun a h => ?_)
            refine d_alone 6 rfl (by kernel_rfl) (fun K hK => ?_)
            have hl254 : y243.2 ≤ x200.length := hm248
            refine q_copyB (T := ty8) (S := S195) (l := y234.1) (g := y234.2) h rfl rfl rfl (by decide) Try.underlying22 sz_uint8 rfl rfl 1 rfl rfl hq232 (reps.cut rfl hq204 y243.1 y243.2) ((h.m.rdRowA (i := 0) rfl).sA rfl hz253) (cut_len hl254 hn250) hn241 hm238 hm239 hl233 (fun a w cs255 n256 hq257 h => ?_)
            have hl258 : (cpy (cpy x205 y221.1 y221.2 x200) y234.1 y234.2 ((x200.take y243.2).drop y243.1)).length = 16 := (cpy_len _ hm238 (by have := hm239; have := hl233; omega)).trans hl233
            refine hK _ _ (fun hne _ => absurd rfl hne) ?_
            clear hK
            refine d_done (by kernel_rfl) (HE _ _ ?_) _
            refine e_thenN ?_
            refine c_rs ?_
            refine sMV h (fun a h => ?_)
            refine sX h (x_ldR h.k rfl ag_A16_uint8 rfl cs255 ((hq257).len.trans (by rw [hl258]; rfl)) (h.m.range0 (i := 1) rfl)) (fun a h => ?_)
            obtain ⟨x259, h260, hl217⟩ := bsome hl217
            have hX := aes_Cipher_Encrypt_ok Fu (S0 := snapAll _) g166 x165.1 ((hp167.mono le196).mono (h.m.leAll (i := 2) rfl)) cs255 (cpy (cpy x205 y221.1 y221.2 x200) y234.1 y234.2 ((x200.take y243.2).drop y243.1)) ((tyA 16 ty8).mono (h.m.leAll (i := 2) rfl) (show (tyA 16 ty8).rep S195 cs255 (cpy (cpy x205 y221.1 y221.2 x200) y234.1 y234.2 ((x200.take y243.2).drop y243.1)) from ⟨hq257, hl258⟩)) _ h260 _ h.startAll
            refine q_callX hX h rfl rfl rfl (by decide) Try.func61 rfl rfl rfl (fun a w v L1 S1 hR hb1 h => ?_)
            obtain ⟨k262, rfl, rfl, hv263, _⟩ := hR
            obtain ⟨hs264, hl265⟩ := hv263
            have hq266 := hs264.fl (S' := S195) fl_8
            refine s_stW h rfl rfl rfl ag_A16_uint8 rfl (es := k262) rfl ((hq266).len.trans (by rw [hl265]; rfl)) (hq266).one 1 rfl ((hq257).len.trans (by rw [hl258]; rfl)) (fun a w h => ?_)
            refine l_end ?_
            refine c_rs ?_
            obtain ⟨y267, h268, hl217⟩ := bsome hl217
            obtain ⟨hi269, hi270, hm271, hm272⟩ := bnd_some h268
            obtain ⟨n273, hn274⟩ : ∃ n, y267.2 - y267.1 = n := ⟨_, rfl⟩
            refine sX h (x_viewB h.k rfl Try.underlying79 sz_uint8 rfl (bd_none (by omega)) (bd_some rfl hi270) hm271 hm272 hn274) (fun a h => ?_)
            refine sMV h (fun a h => ?_)
            obtain ⟨x276, h277, hl217⟩ := bsome hl217
            have h := h.pick [1, 2, 0] (by decide) rfl
            have hX := wrap_count_view0_16_uint8_ok Fu (S0 := S195) x259 g192 k262 hq266 hl265 y267 n273 hm271 hm272 hn274 x198 hr199 _ h277 _ (h.sub (Ls := [.box g192 79 k262]))
            refine q_callY (Ls := [.box g192 79 k262]) hX h up197 rfl rfl rfl (by decide) Try.func53 rfl rfl rfl (fun a w v L1 S279 hR le281 up280 h => ?_)
            obtain ⟨k282, rfl, rfl, hs283, hl284, _⟩ := hR
            refine l_end ?_
            refine c_rs ?_
            refine sMV h (fun a h => ?_)
            obtain ⟨y285, h286, hl217⟩ := bsome hl217
            obtain ⟨hi287, hi288, hm289, hm290⟩ := bnd_some h286
            obtain ⟨n291, hn292⟩ : ∃ n, y285.2 - y285.1 = n := ⟨_, rfl⟩
            refine sX h (x_viewB h.k rfl Try.underlying79 sz_uint8 rfl (bd_none (by omega)) (bd_some rfl hi288) hm289 hm290 hn292) (fun a h => ?_)
            have hl294 : y285.2 ≤ x276.length := (by have := hm290; have := hl284; omega)
            refine q_copyR (T := ty8) (S := S279) (l := 0) (g := x200.length) h rfl rfl rfl (by decide) Try.underlying22 sz_uint8 rfl rfl 2 rfl rfl (hq204.mono le281) (reps.cut rfl hs283 y285.1 y285.2) ((h.m.rdBox0 (i := 0) rfl).vA (l := y285.1) hm290) (cut_len hl294 hn292) (Nat.sub_zero _) (Nat.zero_le _) (Nat.le_refl _) dA_row (fun a w cs295 n296 hq297 h => ?_)
            have hl298 : (cpy x200 0 x200.length ((x276.take y285.2).drop y285.1)).length = x200.length := (cpy_len _ (Nat.zero_le _) (Nat.le_refl _))
            rw [hl298, ← hl298] at h
            refine l_end ?_
            -- region 19 draws
            obtain ⟨y299, h300, hl217⟩ := bsome hl217
            obtain ⟨y310, h311, hl217⟩ := bsome hl217
            refine d_start h (Mem _ _ _) 4 5 rfl (by kernel_rfl) (fun _ _ _ _ _ h => h) (fun _ h => h) (fun Q a w HE HN h HS => ?_)
            refine d_takeP h (fun _ => HS) HN 0 rfl (by kernel_rfl) (by kernel_rfl) (by kernel_rfl) (by decide) rfl rfl (by decide) (fun w' => x_move h.k _ rfl rfl) (fun a h => ?_)
            refine d_takeP h (fun _ => HS) HN 1 rfl (by kernel_rfl) (by kernel_rfl) (by kernel_rfl) (by decide) rfl rfl (by decide) (fun w' => x_move h.k _ rfl rfl) (fun a h => ?_)
            obtain ⟨hi301, hi302, hm303, hm304⟩ := bnd_some h300
            obtain ⟨n305, hn306⟩ : ∃ n, y299.2 - y299.1 = n := ⟨_, rfl⟩
            have hl308 := h.m.rowLe (i := 2) rfl
            have hz309 := Nat.le_trans hm304 hl308.1
            refine d_takeP h (fun _ => HS) HN 2 rfl (by kernel_rfl) (by kernel_rfl) (by kernel_rfl) (by decide) rfl rfl (by decide) (fun w' => x_viewR h.k rfl Try.underlying22 sz_uint8 rfl (bd_some rfl hi301) (bd_none (by omega)) hm303 hm304 hl308.1 hn306) (fun a h => ?_)
            obtain ⟨hi312, hi313, hm314, hm315⟩ := bnd_some h311
            obtain ⟨n316, hn317⟩ : ∃ n, y310.2 - y310.1 = n := ⟨_, rfl⟩
            refine d_takeP h (fun _ => HS) HN 3 rfl (by kernel_rfl) (by kernel_rfl) (by kernel_rfl) (by decide) rfl rfl (by decide) (fun w' => x_viewB h.k rfl Try.underlying79 sz_uint8 rfl (bd_some rfl hi312) (bd_none (by omega)) hm314 hm315 hn317) (fun a h => ?_)
            refine d_alone 4 rfl (by kernel_rfl) (fun K hK => ?_)
            have hl319 : y310.2 ≤ x276.length := (by have := hm315; have := hl284; omega)
            refine q_copyR (T := ty8) (S := S279) (l := y299.1) (g := y299.2) h rfl rfl rfl (by decide) Try.underlying22 sz_uint8 rfl rfl 2 rfl rfl hq297 (reps.cut rfl hs283 y310.1 y310.2) ((h.m.rdBox0 (i := 0) rfl).vA (l := y310.1) hm315) (cut_len hl319 hn317) hn306 hm303 hm304 (dA_sA rfl hz309) (fun a w cs320 n321 hq322 h => ?_)
            have hl323 : (cpy (cpy x200 0 x200.length ((x276.take y285.2).drop y285.1)) y299.1 y299.2 ((x276.take y310.2).drop y310.1)).length = (cpy x200 0 x200.length ((x276.take y285.2).drop y285.1)).length := (cpy_len _ hm303 hm304)
            rw [hl323, ← hl323] at h
            refine hK _ _ (fun hne _ => absurd rfl hne) ?_
            clear hK
            refine d_done (by kernel_rfl) (HE _ _ ?_) _
            refine e_blkN ?_
            refine e_thenN ?_
            refine c_r ?_
            refine sMV h (fun a h => ?_)
            refine sX h (x_bin h.k rfl rfl rfl (ib_add rfl)) (fun a h => ?_)
            refine sAV h (fun a h => ?_)
            refine l_nil ?_
            have h := h.pick [2, 0, 1] (by decide) rfl
            exact e_thenN ⟨m218, Nat.lt_succ_self _, S279, w64 (x198 + 1), (cpy (cpy x200 0 x200.length ((x276.take y285.2).drop y285.1)) y299.1 y299.2 ((x276.take y310.2).drop y310.1)), A201, c202, cs320, x276, k282, hl217, (le196.trans le281), up280, (w64_r _), hq322, hs283, hl284, h.has (by exact ⟨rfl, rfl, rfl, rfl, rfl, trivial⟩)⟩
          · rw [if_neg (of_decide_eq_false hb)] at hl217
            refine wp_exit ?_
            refine e_thenX ?_
            refine e_thenX ?_
            refine e_blkX ?_
            refine e_thenN ?_
            have h := h.pick [0, 2] (by decide) rfl
            exact ⟨S195, x200, A201, c202, cs203, (Option.some.inj hl217), le196, up197, hq204, h.has (by exact ⟨rfl, trivial⟩)⟩
        · rintro a w ⟨S209, x212, A213, c214, cs215, rfl, le210, up211, hq216, h⟩
          refine e_thenN ?_
          refine c_rs ?_
          refine sMV h (fun a h => ?_)
          refine sAV h (fun a h => ?_)
          refine sAV h (fun a h => ?_)
          refine l_end ?_
          refine wp_ret ?_
          obtain rfl := Option.some.inj hf
          exact r_ret2 h rfl (rv_tmp h rfl) (rv_tmp h rfl) ⟨_, [.row (.slice A213 x212.length c214) 5 1 x212.length cs215], _, rfl, ⟨A213, c214, cs215, rfl, rfl, hq216, (show r64 0 from ⟨by decide, by decide⟩), trivial⟩, rfl, up211, h.m⟩
def wrap_Unwrap_g0 (Fu : Nat) (x16 : List UInt8) : Nat → Int → (List UInt8) → (List UInt8) → Option ((List UInt8) × Int)
  | 0, _, _, _ => none
  | k + 1, x30, x32, x37 => (remI (w64 (x30 - 1)) (w64 ((w64 (Int.tdiv (x16.length : Int) 8)) - 1))).bind fun x43 => (bnd 16 0 8).bind fun y45 => (bnd 16 0 8).bind fun y58 => (wrap_count_view0_16_uint8 Fu (cpy x37 y45.1 y45.2 x32) y58 x30).bind fun x67 => (bnd 16 8 (16 : Int)).bind fun y76 => (bnd x32.length (w64 (8 * (w64 (x43 + 1)))) (w64 ((w64 (8 * (w64 (x43 + 1)))) + 8))).bind fun y85 => (aes_Cipher_Decrypt_nil0 Fu (cpy x67 y76.1 y76.2 ((x32.take y85.2).drop y85.1))).bind fun x101 => (bnd 16 0 8).bind fun y109 => (bnd ((cpy x32 0 x32.length ((x101.take y109.2).drop y109.1)).length) (w64 (8 * (w64 (x43 + 1)))) ((cpy x32 0 x32.length ((x101.take y109.2).drop y109.1)).length : Int)).bind fun y123 => (bnd 16 8 (16 : Int)).bind fun y134 => if 0 < w64 (x30 - 1) then (wrap_Unwrap_g0 Fu x16 k (w64 (x30 - 1)) (cpy (cpy x32 0 x32.length ((x101.take y109.2).drop y109.1)) y123.1 y123.2 ((x101.take y134.2).drop y134.1)) x101) else ((sub (cpy (cpy x32 0 x32.length ((x101.take y109.2).drop y109.1)) y123.1 y123.2 ((x101.take y134.2).drop y134.1)) 0 8).bind fun x154 => (wrap_marks Fu).bind fun x164 => (same_Bytes Fu x154 x164).bind fun x172 => if (!x172) = true then (some ([], 21)) else ((sub (cpy (cpy x32 0 x32.length ((x101.take y109.2).drop y109.1)) y123.1 y123.2 ((x101.take y134.2).drop y134.1)) 8 ((cpy (cpy x32 0 x32.length ((x101.take y109.2).drop y109.1)) y123.1 y123.2 ((x101.take y134.2).drop y134.1)).length : Int)).bind fun x175 => some (x175, 0)))
def wrap_Unwrap_g1 (Fu : Nat) (x185 : ((List UInt32) × (List UInt8) × (List UInt8)) × Int) (x196 : List UInt8) : Nat → Int → (List UInt8) → (List UInt8) → Option ((List UInt8) × Int)
  | 0, _, _, _ => none
  | k + 1, x210, x212, x217 => (remI (w64 (x210 - 1)) (w64 ((w64 (Int.tdiv (x196.length : Int) 8)) - 1))).bind fun x223 => (bnd 16 0 8).bind fun y225 => (bnd 16 0 8).bind fun y238 => (wrap_count_view0_16_uint8 Fu (cpy x217 y225.1 y225.2 x212) y238 x210).bind fun x247 => (bnd 16 8 (16 : Int)).bind fun y256 => (bnd x212.length (w64 (8 * (w64 (x223 + 1)))) (w64 ((w64 (8 * (w64 (x223 + 1)))) + 8))).bind fun y265 => (aes_Cipher_Decrypt Fu x185.1 (cpy x247 y256.1 y256.2 ((x212.take y265.2).drop y265.1))).bind fun x281 => (bnd 16 0 8).bind fun y289 => (bnd ((cpy x212 0 x212.length ((x281.take y289.2).drop y289.1)).length) (w64 (8 * (w64 (x223 + 1)))) ((cpy x212 0 x212.length ((x281.take y289.2).drop y289.1)).length : Int)).bind fun y303 => (bnd 16 8 (16 : Int)).bind fun y314 => if 0 < w64 (x210 - 1) then (wrap_Unwrap_g1 Fu x185 x196 k (w64 (x210 - 1)) (cpy (cpy x212 0 x212.length ((x281.take y289.2).drop y289.1)) y303.1 y303.2 ((x281.take y314.2).drop y314.1)) x281) else ((sub (cpy (cpy x212 0 x212.length ((x281.take y289.2).drop y289.1)) y303.1 y303.2 ((x281.take y314.2).drop y314.1)) 0 8).bind fun x334 => (wrap_marks Fu).bind fun x344 => (same_Bytes Fu x334 x344).bind fun x352 => if (!x352) = true then (some ([], 21)) else ((sub (cpy (cpy x212 0 x212.length ((x281.take y289.2).drop y289.1)) y303.1 y303.2 ((x281.take y314.2).drop y314.1)) 8 ((cpy (cpy x212 0 x212.length ((x281.take y289.2).drop y289.1)) y303.1 y303.2 ((x281.take y314.2).drop y314.1)).length : Int)).bind fun x355 => some (x355, 0)))
def wrap_Unwrap (Fu : Nat) (a0 : List UInt8) (a1 : List UInt8) : Option ((List UInt8) × Int) :=
  (aes_New Fu a0).bind fun x1 => (match x1 with | .inl x7 => (if x7 ≠ 0 then (some ([], x7)) else ((wrap_Size Fu (w64 ((a1.length : Int) - 8))).bind fun x9 => if ((!x9.2) || (decide (x9.1 ≠ (a1.length : Int)))) = true then (some ([], 2)) else ((app 1 ([]) a1).bind fun x16 => wrap_Unwrap_g0 Fu x16 Fu (w64 (6 * (w64 ((w64 (Int.tdiv (x16.length : Int) 8)) - 1)))) x16 (List.replicate 16 ((0 : UInt8) : UInt8))))) | .inr x185 => (if x185.2 ≠ 0 then (some ([], x185.2)) else ((wrap_Size Fu (w64 ((a1.length : Int) - 8))).bind fun x189 => if ((!x189.2) || (decide (x189.1 ≠ (a1.length : Int)))) = true then (some ([], 2)) else ((app 1 ([]) a1).bind fun x196 => wrap_Unwrap_g1 Fu x185 x196 Fu (w64 (6 * (w64 ((w64 (Int.tdiv (x196.length : Int) 8)) - 1)))) x196 (List.replicate 16 ((0 : UInt8) : UInt8))))))
set_option maxRecDepth 100000 in
set_option maxHeartbeats 2000000 in
theorem wrap_Unwrap_ok (Fu : Nat) {S0 : Snap} (Aa0 : Option Addr) (ca0 : Nat) (a0 : List UInt8) (hsa0 : slS ty8 S0 Aa0 ca0 a0) (Aa1 : Option Addr) (ca1 : Nat) (a1 : List UInt8) (hsa1 : slS ty8 S0 Aa1 ca1 a1) (r : (List UInt8) × Int) (hf : wrap_Unwrap Fu a0 a1 = some r) (w0 : World) (hm : Mem w0 (ownL ([] ++ [.sn S0])) ([] ++ [.sn S0]) w0) :
    Calls Try.prog 32 #[.slice Aa0 a0.length ca0, .slice Aa1 a1.length ca1] w0 (Ret w0 S0 [] (fun v L1 S1 => ∃ (A365 : Option Addr), ∃ (c366 : Nat), v = .tuple #[.slice A365 r.1.length c366, .int .i64 r.2] ∧ L1 = [] ∧ slS ty8 S1 A365 c366 r.1 ∧ r64 r.2 ∧ True)) := by
  unfold wrap_Unwrap at hf
  refine c_enterM Try.func32 rfl 88 rfl (by simp) _ hm _ rfl (fun a h => ?_)
  refine c_rs ?_
  refine sAV h (fun a h => ?_)
  refine sAV h (fun a h => ?_)
  refine l_end ?_
  refine c_scopeJ 0 rfl ?_
  refine c_rs ?_
  refine sMV h (fun a h => ?_)
  obtain ⟨x1, h2, hf⟩ := bsome hf
  have hX := aes_New_ok Fu (S0 := S0) Aa0 ca0 a0 hsa0 _ h2 _ (h.sub (Ls := []))
  refine q_callY (Ls := []) hX h (Up.refl _ _ _) rfl rfl rfl (by decide) Try.func51 rfl rfl rfl (fun a w v L1 S4 hR le6 up5 h => ?_)
  rcases hR with hR | hR
  · obtain ⟨x7, rfl, hR⟩ := hR
    dsimp only at hf
    obtain ⟨rfl, rfl, hr8, _⟩ := hR
    refine sMV h (fun a h => ?_)
    refine sX h (x_ext h.k rfl rfl rfl) (fun a h => ?_)
    refine sX h (x_ext h.k rfl rfl rfl) (fun a h => ?_)
    refine sAV h (fun a h => ?_)
    refine sAV h (fun a h => ?_)
    refine l_end ?_
    refine wp_seq ?_
    refine c_rs ?_
    refine sMV h (fun a h => ?_)
    refine sX h (x_bin h.k rfl rfl rfl ib_neq) (fun a h => ?_)
    refine l_end ?_
    refine c_cond h rfl (fun hb => ?_) (fun hb => ?_)
    · rw [if_pos (of_decide_eq_true hb)] at hf
      refine c_rs ?_
      refine sMV h (fun a h => ?_)
      refine sAV h (fun a h => ?_)
      refine sAV h (fun a h => ?_)
      refine l_end ?_
      refine wp_ret ?_
      refine e_thenR ?_
      refine e_jR ?_
      obtain rfl := Option.some.inj hf
      exact r_ret2 h rfl (rv_tmp h rfl) (rv_tmp h rfl) ⟨_, [], _, rfl, ⟨none, 0, rfl, rfl, (slS.nil ty8 S4), hr8, trivial⟩, rfl, up5, h.m⟩
    · rw [if_neg (of_decide_eq_false hb)] at hf
      refine wp_skip ?_
      refine e_thenN ?_
      refine wp_seq ?_
      refine c_rs ?_
      refine sMV h (fun a h => ?_)
      refine sX h (x_len h.k rfl Try.underlying22 rfl) (fun a h => ?_)
      refine sX h (x_bin h.k rfl rfl rfl (ib_sub rfl)) (fun a h => ?_)
      obtain ⟨x9, h10, hf⟩ := bsome hf
      have hX := wrap_Size_ok Fu (S0 := snapAll _) (w64 ((a1.length : Int) - 8)) (w64_r _) _ h10 _ h.startAll
      refine q_callX hX h rfl rfl rfl (by decide) Try.func52 rfl rfl rfl (fun a w v L1 S1 hR hb1 h => ?_)
      obtain ⟨rfl, rfl, hr12, _⟩ := hR
      refine sMV h (fun a h => ?_)
      refine sX h (x_ext h.k rfl rfl rfl) (fun a h => ?_)
      refine sX h (x_ext h.k rfl rfl rfl) (fun a h => ?_)
      refine sAV h (fun a h => ?_)
      refine sAV h (fun a h => ?_)
      refine l_end ?_
      refine c_rs ?_
      refine sMV h (fun a h => ?_)
      refine sX h (x_not h.k rfl rfl) (fun a h => ?_)
      refine sMV h (fun a h => ?_)
      refine q_grp h 5 (t := 32) 37 ((!x9.2) || (decide (x9.1 ≠ (a1.length : Int)))) rfl (fun hB2 => ?_) (fun hB2 => ?_) (fun a w h => ?_)
      · refine g_no h rfl rfl rfl rfl hB2 rfl (by decide) (fun a h => ?_)
        refine g_no h rfl rfl rfl rfl hB2 rfl (by decide) (fun a h => ?_)
        refine g_no h rfl rfl rfl rfl hB2 rfl (by decide) (fun a h => ?_)
        refine g_no h rfl rfl rfl rfl hB2 rfl (by decide) (fun a h => ?_)
        refine sX h (x_pick (u' := undef) h.k rfl rfl (fun _ => rfl) (fun hh => absurd (hB2.symm.trans hh) (by decide))) (fun a h => ?_)
        exact (h.mid 4 rfl).val (by first | rfl | (rw [hB2]; first | rfl | simp))
      · refine g_yes h rfl rfl rfl rfl hB2 ?_
        refine sMV h (fun a h => ?_)
        refine g_yes h rfl rfl rfl rfl hB2 ?_
        refine sMV h (fun a h => ?_)
        refine g_yes h rfl rfl rfl rfl hB2 ?_
        refine sX h (x_len h.k rfl Try.underlying22 rfl) (fun a h => ?_)
        refine g_yes h rfl rfl rfl rfl hB2 ?_
        refine sX h (x_bin h.k rfl rfl rfl ib_neq) (fun a h => ?_)
        refine sX h (x_pick (u' := undef) h.k rfl rfl (fun hh => absurd (hB2.symm.trans hh) (by decide)) (fun _ => rfl)) (fun a h => ?_)
        exact (h.mid 4 rfl).val (by first | rfl | (rw [hB2]; first | rfl | simp))
      refine l_end ?_
      refine c_cond h rfl (fun hb => ?_) (fun hb => ?_)
      · rw [if_pos hb] at hf
        refine c_rs ?_
        refine sAV h (fun a h => ?_)
        refine sAV h (fun a h => ?_)
        refine l_end ?_
        refine wp_ret ?_
        refine e_thenR ?_
        refine e_jR ?_
        obtain rfl := Option.some.inj hf
        exact r_ret2 h rfl (rv_tmp h rfl) (rv_tmp h rfl) ⟨_, [], _, rfl, ⟨none, 0, rfl, rfl, (slS.nil ty8 S4), (show r64 2 from ⟨by decide, by decide⟩), trivial⟩, rfl, up5, h.m⟩
      · rw [if_neg (by rw [hb]; decide)] at hf
        refine wp_skip ?_
        refine e_thenN ?_
        refine c_rs ?_
        refine q_bslice0 h rfl rfl rfl (by decide) Try.underlying22 sz_uint8 (fun a w A15 h => ?_)
        refine sMV h (fun a h => ?_)
        obtain ⟨x16, h17, hf⟩ := bsome hf
        obtain ⟨_, _, vs18, hrd19, hrp20⟩ := id (hsa1.mono le6)
        refine q_append (T := ty8) (S := S4) h rfl rfl rfl (by decide) Try.underlying22 zb_uint8 rfl (by decide) rfl 0 rfl (show reps ty8 S4 [] [] from rfl) rfl hrp20 (hrd19 _ (h.m.snOK (i := 1) rfl)) h17 (fun a w A21 c22 cs23 hq24 h => ?_)
        refine sAV h (fun a h => ?_)
        refine l_end ?_
        refine c_rs ?_
        refine sMV h (fun a h => ?_)
        have hr25 : r64 (x16.length : Int) := len_r (h.m.rowLen (i := 0) rfl)
        refine sX h (x_len h.k rfl Try.underlying22 rfl) (fun a h => ?_)
        refine sX h (x_bin h.k rfl rfl rfl (ib_quow (by decide))) (fun a h => ?_)
        refine sX h (x_bin h.k rfl rfl rfl (ib_sub rfl)) (fun a h => ?_)
        refine sAV h (fun a h => ?_)
        refine l_end ?_
        refine c_rs ?_
        refine s_alloc h rfl rfl rfl (by decide) zi_A16_uint8 rfl (fun a w g26 h => ?_)
        have h := h.parts (L' := [.box g26 79 (List.replicate 16 (.int .u8 0 : Value)), .row (.slice A21 x16.length c22) 5 1 x16.length cs23, .sn S4]) rfl
        refine l_end ?_
        refine c_rs ?_
        refine sMV h (fun a h => ?_)
        refine sX h (x_bin h.k rfl rfl rfl (ib_mul rfl)) (fun a h => ?_)
        refine sAV h (fun a h => ?_)
        refine sAV h (fun a h => ?_)
        refine l_end ?_
        refine wp_seq ?_
        refine wp_label ?_
        refine e_thenN ?_
        have h := h.pick [1, 0, 2] (by decide) rfl
        refine c_label 0 (fun m42 a w => ∃ (S27 : Snap), ∃ (x30 : Int), ∃ (x32 : List UInt8), ∃ (A33 : Option Addr), ∃ (c34 : Nat), ∃ (cs35 : List Value), ∃ (x37 : List UInt8), ∃ (k38 : List Value), wrap_Unwrap_g0 Fu x16 m42 x30 x32 x37 = some r ∧ Snap.le S4 S27 ∧ Up (ownL ([] ++ [.sn S0])) w0 S0 S27 ∧ r64 x30 ∧ reps ty8 S27 cs35 x32 ∧ reps ty8 S27 k38 x37 ∧ x37.length = 16 ∧ St 88 w0 (ownL ([] ++ [.sn S0])) [(6, .pointer none), (10, .slice A33 x32.length c34), (11, .int .i64 (w64 ((w64 (Int.tdiv (x16.length : Int) 8)) - 1))), (12, .pointer (some ⟨g26, 0, none⟩)), (13, .int .i64 x30)] [.row (.slice A33 x32.length c34) 5 1 x32.length cs35, .box g26 79 k38, .sn S27] a w) Fu rfl ⟨S4, w64 (6 * (w64 ((w64 (Int.tdiv (x16.length : Int) 8)) - 1))), x16, A21, c22, cs23, (List.replicate 16 ((0 : UInt8) : UInt8)), (List.replicate 16 (.int .u8 0 : Value)), hf, (Snap.le.refl _), up5, (w64_r _), hq24, (show reps ty8 S4 (List.replicate 16 (.int .u8 0 : Value)) (List.replicate 16 ((0 : UInt8) : UInt8)) from repsRep1 (x := ((0 : UInt8) : UInt8)) rfl), (show (List.replicate 16 ((0 : UInt8) : UInt8)).length = 16 from List.length_replicate), h.has (by exact ⟨rfl, rfl, rfl, rfl, rfl, trivial⟩)⟩ (fun m42 a w hI => ?_)
        obtain ⟨S27, x30, x32, A33, c34, cs35, x37, k38, hl41, le28, up29, hr31, hq36, hs39, hl40, h⟩ := hI
        obtain _ | m42 := m42
        · rw [wrap_Unwrap_g0] at hl41; cases hl41
        rw [wrap_Unwrap_g0] at hl41
        refine c_rs ?_
        refine sMV h (fun a h => ?_)
        refine sX h (x_bin h.k rfl rfl rfl (ib_sub rfl)) (fun a h => ?_)
        refine sMV h (fun a h => ?_)
        obtain ⟨x43, h44, hl41⟩ := bsome hl41
        refine sX h (x_bin h.k rfl rfl rfl (ib_rem_ h44)) (fun a h => ?_)
        refine sX h (x_bin h.k rfl rfl rfl (ib_add rfl)) (fun a h => ?_)
        refine sX h (x_bin h.k rfl rfl rfl (ib_mul rfl)) (fun a h => ?_)
        refine sAV h (fun a h => ?_)
        refine l_end ?_
        refine c_rs ?_
        obtain ⟨y45, h46, hl41⟩ := bsome hl41
        obtain ⟨hi47, hi48, hm49, hm50⟩ := bnd_some h46
        obtain ⟨n51, hn52⟩ : ∃ n, y45.2 - y45.1 = n := ⟨_, rfl⟩
        refine sX h (x_viewB h.k rfl Try.underlying79 sz_uint8 rfl (bd_none (by omega)) (bd_some rfl hi48) hm49 hm50 hn52) (fun a h => ?_)
        refine sMV h (fun a h => ?_)
        refine q_copyB (T := ty8) (S := S27) (l := y45.1) (g := y45.2) h rfl rfl rfl (by decide) Try.underlying22 sz_uint8 rfl rfl 1 rfl rfl hs39 hq36 (h.m.rdRowA (i := 0) rfl) rfl hn52 hm49 hm50 hl40 (fun a w cs54 n55 hq56 h => ?_)
        have hl57 : (cpy x37 y45.1 y45.2 x32).length = 16 := (cpy_len _ hm49 (by have := hm50; have := hl40; omega)).trans hl40
        refine l_end ?_
        refine c_rs ?_
        obtain ⟨y58, h59, hl41⟩ := bsome hl41
        obtain ⟨hi60, hi61, hm62, hm63⟩ := bnd_some h59
        obtain ⟨n64, hn65⟩ : ∃ n, y58.2 - y58.1 = n := ⟨_, rfl⟩
        refine sX h (x_viewB h.k rfl Try.underlying79 sz_uint8 rfl (bd_none (by omega)) (bd_some rfl hi61) hm62 hm63 hn65) (fun a h => ?_)
        refine sMV h (fun a h => ?_)
        obtain ⟨x67, h68, hl41⟩ := bsome hl41
        have h := h.pick [1, 2, 0] (by decide) rfl
        have hX := wrap_count_view0_16_uint8_ok Fu (S0 := S27) (cpy x37 y45.1 y45.2 x32) g26 cs54 hq56 hl57 y58 n64 hm62 hm63 hn65 x30 hr31 _ h68 _ (h.sub (Ls := [.box g26 79 cs54]))
        refine q_callY (Ls := [.box g26 79 cs54]) hX h up29 rfl rfl rfl (by decide) Try.func53 rfl rfl rfl (fun a w v L1 S70 hR le72 up71 h => ?_)
        obtain ⟨k73, rfl, rfl, hs74, hl75, _⟩ := hR
        refine l_end ?_
        refine wp_seq ?_
        -- region 14 draws
        obtain ⟨y76, h77, hl41⟩ := bsome hl41
        obtain ⟨y85, h86, hl41⟩ := bsome hl41
        refine d_start h (Mem _ _ _) 6 7 rfl (by kernel_rfl) (fun _ _ _ _ _ h => h) (fun _ h => h) (fun Q a w HE HN h HS => ?_)
        obtain ⟨hi78, hi79, hm80, hm81⟩ := bnd_some h77
        obtain ⟨n82, hn83⟩ : ∃ n, y76.2 - y76.1 = n := ⟨_, rfl⟩
        refine d_takeP h (fun _ => HS) HN 0 rfl (by kernel_rfl) (by kernel_rfl) (by kernel_rfl) (by decide) rfl rfl (by decide) (fun w' => x_viewB h.k rfl Try.underlying79 sz_uint8 rfl (bd_some rfl hi78) (bd_none (by omega)) hm80 hm81 hn83) (fun a h => ?_)
        refine d_takeP h (fun _ => HS) HN 1 rfl (by kernel_rfl) (by kernel_rfl) (by kernel_rfl) (by decide) rfl rfl (by decide) (fun w' => x_move h.k _ rfl rfl) (fun a h => ?_)
        refine d_takeP h (fun _ => HS) HN 2 rfl (by kernel_rfl) (by kernel_rfl) (by kernel_rfl) (by decide) rfl rfl (by decide) (fun w' => x_move h.k _ rfl rfl) (fun a h => ?_)
        refine d_takeP h (fun _ => HS) HN 3 rfl (by kernel_rfl) (by kernel_rfl) (by kernel_rfl) (by decide) rfl rfl (by decide) (fun w' => x_move h.k _ rfl rfl) (fun a h => ?_)
        refine d_takeP h (fun _ => HS) HN 4 rfl (by kernel_rfl) (by kernel_rfl) (by kernel_rfl) (by decide) rfl rfl (by decide) (fun w' => x_bin h.k rfl rfl rfl (ib_add rfl)) (fun a h => ?_)
        obtain ⟨hi87, hi88, hm89, hm90⟩ := bnd_some h86
        obtain ⟨n91, hn92⟩ : ∃ n, y85.2 - y85.1 = n := ⟨_, rfl⟩
        have hl94 := h.m.rowLe (i := 2) rfl
        have hz95 := Nat.le_trans hm90 hl94.1
        refine d_takeP h (fun _ => HS) HN 5 rfl (by kernel_rfl) (by kernel_rfl) (by kernel_rfl) (by decide) rfl rfl (by decide) (fun w' => x_viewR h.k rfl Try.underlying22 sz_uint8 rfl (bd_some rfl hi87) (bd_some rfl hi88) hm89 hm90 hl94.1 hn92) (fun a h => ?_)
        refine d_alone 6 rfl (by kernel_rfl) (fun K hK => ?_)
        have hl96 : y85.2 ≤ x32.length := hm90
        refine q_copyB (T := ty8) (S := S70) (l := y76.1) (g := y76.2) h rfl rfl rfl (by decide) Try.underlying22 sz_uint8 rfl rfl 0 rfl rfl hs74 (reps.cut rfl (hq36.mono le72) y85.1 y85.2) ((h.m.rdRowA (i := 2) rfl).sA rfl hz95) (cut_len hl96 hn92) hn83 hm80 hm81 hl75 (fun a w cs97 n98 hq99 h => ?_)
        have hl100 : (cpy x67 y76.1 y76.2 ((x32.take y85.2).drop y85.1)).length = 16 := (cpy_len _ hm80 (by have := hm81; have := hl75; omega)).trans hl75
        refine hK _ _ (fun hne _ => absurd rfl hne) ?_
        clear hK
        refine d_done (by kernel_rfl) (HE _ _ ?_) _
        refine e_thenN ?_
        refine c_rs ?_
        refine sMV h (fun a h => ?_)
        refine sX h (x_ldR h.k rfl ag_A16_uint8 rfl cs97 ((hq99).len.trans (by rw [hl100]; rfl)) (h.m.range0 (i := 0) rfl)) (fun a h => ?_)
        obtain ⟨x101, h102, hl41⟩ := bsome hl41
        have hX := aes_Cipher_Decrypt_nil0_ok Fu (S0 := snapAll _) cs97 (cpy x67 y76.1 y76.2 ((x32.take y85.2).drop y85.1)) ((tyA 16 ty8).mono (h.m.leAll (i := 1) rfl) (show (tyA 16 ty8).rep S70 cs97 (cpy x67 y76.1 y76.2 ((x32.take y85.2).drop y85.1)) from ⟨hq99, hl100⟩)) _ h102 _ h.startAll
        refine q_callX hX h rfl rfl rfl (by decide) Try.func54 rfl rfl rfl (fun a w v L1 S1 hR hb1 h => ?_)
        obtain ⟨k104, rfl, rfl, hv105, _⟩ := hR
        obtain ⟨hs106, hl107⟩ := hv105
        have hq108 := hs106.fl (S' := S70) fl_8
        refine s_stW h rfl rfl rfl ag_A16_uint8 rfl (es := k104) rfl ((hq108).len.trans (by rw [hl107]; rfl)) (hq108).one 0 rfl ((hq99).len.trans (by rw [hl100]; rfl)) (fun a w h => ?_)
        refine l_end ?_
        refine c_rs ?_
        refine sMV h (fun a h => ?_)
        obtain ⟨y109, h110, hl41⟩ := bsome hl41
        obtain ⟨hi111, hi112, hm113, hm114⟩ := bnd_some h110
        obtain ⟨n115, hn116⟩ : ∃ n, y109.2 - y109.1 = n := ⟨_, rfl⟩
        refine sX h (x_viewB h.k rfl Try.underlying79 sz_uint8 rfl (bd_none (by omega)) (bd_some rfl hi112) hm113 hm114 hn116) (fun a h => ?_)
        have hl118 : y109.2 ≤ x101.length := (by have := hm114; have := hl107; omega)
        refine q_copyR (T := ty8) (S := S70) (l := 0) (g := x32.length) h rfl rfl rfl (by decide) Try.underlying22 sz_uint8 rfl rfl 2 rfl rfl (hq36.mono le72) (reps.cut rfl hq108 y109.1 y109.2) ((h.m.rdBox0 (i := 0) rfl).vA (l := y109.1) hm114) (cut_len hl118 hn116) (Nat.sub_zero _) (Nat.zero_le _) (Nat.le_refl _) dA_row (fun a w cs119 n120 hq121 h => ?_)
        have hl122 : (cpy x32 0 x32.length ((x101.take y109.2).drop y109.1)).length = x32.length := (cpy_len _ (Nat.zero_le _) (Nat.le_refl _))
        rw [hl122, ← hl122] at h
        refine l_end ?_
        refine wp_seq ?_
        -- region 17 draws
        obtain ⟨y123, h124, hl41⟩ := bsome hl41
        obtain ⟨y134, h135, hl41⟩ := bsome hl41
        refine d_start h (Mem _ _ _) 4 5 rfl (by kernel_rfl) (fun _ _ _ _ _ h => h) (fun _ h => h) (fun Q a w HE HN h HS => ?_)
        refine d_takeP h (fun _ => HS) HN 0 rfl (by kernel_rfl) (by kernel_rfl) (by kernel_rfl) (by decide) rfl rfl (by decide) (fun w' => x_move h.k _ rfl rfl) (fun a h => ?_)
        refine d_takeP h (fun _ => HS) HN 1 rfl (by kernel_rfl) (by kernel_rfl) (by kernel_rfl) (by decide) rfl rfl (by decide) (fun w' => x_move h.k _ rfl rfl) (fun a h => ?_)
        obtain ⟨hi125, hi126, hm127, hm128⟩ := bnd_some h124
        obtain ⟨n129, hn130⟩ : ∃ n, y123.2 - y123.1 = n := ⟨_, rfl⟩
        have hl132 := h.m.rowLe (i := 2) rfl
        have hz133 := Nat.le_trans hm128 hl132.1
        refine d_takeP h (fun _ => HS) HN 2 rfl (by kernel_rfl) (by kernel_rfl) (by kernel_rfl) (by decide) rfl rfl (by decide) (fun w' => x_viewR h.k rfl Try.underlying22 sz_uint8 rfl (bd_some rfl hi125) (bd_none (by omega)) hm127 hm128 hl132.1 hn130) (fun a h => ?_)
        obtain ⟨hi136, hi137, hm138, hm139⟩ := bnd_some h135
        obtain ⟨n140, hn141⟩ : ∃ n, y134.2 - y134.1 = n := ⟨_, rfl⟩
        refine d_takeP h (fun _ => HS) HN 3 rfl (by kernel_rfl) (by kernel_rfl) (by kernel_rfl) (by decide) rfl rfl (by decide) (fun w' => x_viewB h.k rfl Try.underlying79 sz_uint8 rfl (bd_some rfl hi136) (bd_none (by omega)) hm138 hm139 hn141) (fun a h => ?_)
        refine d_alone 4 rfl (by kernel_rfl) (fun K hK => ?_)
        have hl143 : y134.2 ≤ x101.length := (by have := hm139; have := hl107; omega)
        refine q_copyR (T := ty8) (S := S70) (l := y123.1) (g := y123.2) h rfl rfl rfl (by decide) Try.underlying22 sz_uint8 rfl rfl 2 rfl rfl hq121 (reps.cut rfl hq108 y134.1 y134.2) ((h.m.rdBox0 (i := 0) rfl).vA (l := y134.1) hm139) (cut_len hl143 hn141) hn130 hm127 hm128 (dA_sA rfl hz133) (fun a w cs144 n145 hq146 h => ?_)
        have hl147 : (cpy (cpy x32 0 x32.length ((x101.take y109.2).drop y109.1)) y123.1 y123.2 ((x101.take y134.2).drop y134.1)).length = (cpy x32 0 x32.length ((x101.take y109.2).drop y109.1)).length := (cpy_len _ hm127 hm128)
        rw [hl147, ← hl147] at h
        refine hK _ _ (fun hne _ => absurd rfl hne) ?_
        clear hK
        refine d_done (by kernel_rfl) (HE _ _ ?_) _
        refine e_thenN ?_
        refine wp_seq ?_
        refine c_rs ?_
        refine sMV h (fun a h => ?_)
        refine sX h (x_bin h.k rfl rfl rfl (ib_sub rfl)) (fun a h => ?_)
        refine sAV h (fun a h => ?_)
        refine l_end ?_
        refine c_rs ?_
        refine sMV h (fun a h => ?_)
        refine sX h (x_bin h.k rfl rfl rfl ib_gtr) (fun a h => ?_)
        refine l_end ?_
        refine c_cond h rfl (fun hb => ?_) (fun hb => ?_)
        · rw [if_pos (of_decide_eq_true hb)] at hl41
          refine wp_goto ?_
          refine e_thenG ?_
          have h := h.pick [2, 0, 1] (by decide) rfl
          exact ⟨rfl, m42, Nat.lt_succ_self _, S70, w64 (x30 - 1), (cpy (cpy x32 0 x32.length ((x101.take y109.2).drop y109.1)) y123.1 y123.2 ((x101.take y134.2).drop y134.1)), A33, c34, cs144, x101, k104, hl41, (le28.trans le72), up71, (w64_r _), hq146, hq108, hl107, h.has (by exact ⟨rfl, rfl, rfl, rfl, rfl, trivial⟩)⟩
        · rw [if_neg (of_decide_eq_false hb)] at hl41
          refine wp_skip ?_
          refine e_thenN ?_
          refine wp_seq ?_
          have h := h.pick [2, 1, 0] (by decide) rfl
          obtain ⟨S148, le149, up150, hs151, h⟩ := q_freeze (T := ty8) h up71 hq146
          obtain rfl : n91 = (((cpy (cpy x32 0 x32.length ((x101.take y109.2).drop y109.1)) y123.1 y123.2 ((x101.take y134.2).drop y134.1)).take y85.2).drop y85.1).length := cut_len (show y85.2 ≤ (cpy (cpy x32 0 x32.length ((x101.take y109.2).drop y109.1)) y123.1 y123.2 ((x101.take y134.2).drop y134.1)).length from (by have := hm90; simp only [cpy_len, List.length_set] at *; omega)) hn92
          have hs152 := slS.sub hs151 hm89 (show y85.2 ≤ (cpy (cpy x32 0 x32.length ((x101.take y109.2).drop y109.1)) y123.1 y123.2 ((x101.take y134.2).drop y134.1)).length from (by have := hm90; simp only [cpy_len, List.length_set] at *; omega)) hz95 (Nat.le_refl _) rfl
          obtain rfl : n129 = (((cpy (cpy x32 0 x32.length ((x101.take y109.2).drop y109.1)) y123.1 y123.2 ((x101.take y134.2).drop y134.1)).take y123.2).drop y123.1).length := cut_len (show y123.2 ≤ (cpy (cpy x32 0 x32.length ((x101.take y109.2).drop y109.1)) y123.1 y123.2 ((x101.take y134.2).drop y134.1)).length from (by have := hm128; simp only [cpy_len, List.length_set] at *; omega)) hn130
          have hs153 := slS.sub hs151 hm127 (show y123.2 ≤ (cpy (cpy x32 0 x32.length ((x101.take y109.2).drop y109.1)) y123.1 y123.2 ((x101.take y134.2).drop y134.1)).length from (by have := hm128; simp only [cpy_len, List.length_set] at *; omega)) hz133 (Nat.le_refl _) rfl
          refine wp_seq ?_
          -- region 20 draws
          obtain ⟨x154, h155, hl41⟩ := bsome hl41
          obtain ⟨x164, h165, hl41⟩ := bsome hl41
          obtain ⟨x172, h173, hl41⟩ := bsome hl41
          refine d_start h (Mem _ _ _) 5 5 rfl (by kernel_rfl) (fun _ _ _ _ _ h => h) (fun _ h => h) (fun Q a w HE HN h HS => ?_)
          refine d_takeP h (fun _ => HS) HN 0 rfl (by kernel_rfl) (by kernel_rfl) (by kernel_rfl) (by decide) rfl rfl (by decide) (fun w' => x_move h.k _ rfl rfl) (fun a h => ?_)
          obtain ⟨m156, n157, hi158, hi159, hm160, hm161, hr162⟩ := sub_some h155
          have hs163 := slS.sub (hs151) hm160 hm161 (Nat.le_trans hm161 (hs151).1) (Nat.le_refl _) hr162
          refine d_takeP h (fun _ => HS) HN 1 rfl (by kernel_rfl) (by kernel_rfl) (by kernel_rfl) (by decide) rfl rfl (by decide) (fun w' => x_sliceE h.k rfl Try.underlying22 sz_uint8 rfl c34 hr162 (bd_none (by omega)) (bd_some rfl hi159) (bd_none rfl) (by intro hh; cases hh) hm160 hm161 (Nat.le_trans hm161 (hs151).1) (Nat.le_refl _)) (fun a h => ?_)
          refine d_alone 2 rfl (by kernel_rfl) (fun K hK => ?_)
          have hX := wrap_marks_ok Fu (S0 := snapAll _)  _ h165 _ h.startAll
          refine q_callX hX h rfl rfl rfl (by decide) Try.func56 rfl rfl rfl (fun a w v L1 S1 hR hb1 h => ?_)
          obtain ⟨A167, c168, cs169, rfl, rfl, hq170, _⟩ := hR
          have hq171 := hq170.fl (S' := S148) fl_8
          refine hK _ _ (fun _ _ => HS.ext hb1) ?_
          replace HS := HS.ext hb1
          clear hK
          refine d_alone 3 rfl (by kernel_rfl) (fun K hK => ?_)
          have hX := same_Bytes_ok Fu (S0 := snapAll _) (sA A33 c34 m156 1) (c34 - m156) x154 (hs163.mono (h.m.leAll (i := 1) rfl)) A167 c168 x164 (h.m.rowAll (i := 0) rfl (j := 1) rfl hq171) _ h173 _ h.startAll
          refine q_callX hX h rfl rfl rfl (by decide) Try.func55 rfl rfl rfl (fun a w v L1 S1 hR hb1 h => ?_)
          obtain ⟨rfl, rfl, _⟩ := hR
          refine hK _ _ (fun _ _ => HS.ext hb1) ?_
          replace HS := HS.ext hb1
          clear hK
          refine d_takeP h (fun _ => HS) HN 4 rfl (by kernel_rfl) (by kernel_rfl) (by kernel_rfl) (by decide) rfl rfl (by decide) (fun w' => x_not h.k rfl rfl) (fun a h => ?_)
          refine d_done (by kernel_rfl) (HE _ _ ?_) _
          refine e_thenN ?_
          refine c_cond h rfl (fun hb => ?_) (fun hb => ?_)
          · rw [if_pos hb] at hl41
            refine c_rs ?_
            refine sAV h (fun a h => ?_)
            refine sAV h (fun a h => ?_)
            refine l_end ?_
            refine wp_ret ?_
            refine e_thenR ?_
            refine e_jR ?_
            obtain rfl := Option.some.inj hl41
            exact r_ret2 h rfl (rv_tmp h rfl) (rv_tmp h rfl) ⟨_, [], _, rfl, ⟨none, 0, rfl, rfl, (slS.nil ty8 S148), (show r64 21 from ⟨by decide, by decide⟩), trivial⟩, rfl, up150, (h.m.pick [1] _ (by decide) rfl)⟩
          · rw [if_neg (by rw [hb]; decide)] at hl41
            refine wp_skip ?_
            refine e_thenN ?_
            refine c_rs ?_
            refine sMV h (fun a h => ?_)
            obtain ⟨x175, h176, hl41⟩ := bsome hl41
            obtain ⟨m177, n178, hi179, hi180, hm181, hm182, hr183⟩ := sub_some h176
            have hs184 := slS.sub (hs151) hm181 hm182 (Nat.le_trans hm182 (hs151).1) (Nat.le_refl _) hr183
            refine sX h (x_sliceE h.k rfl Try.underlying22 sz_uint8 rfl c34 hr183 (bd_some rfl hi179) (bd_none (by omega)) (bd_none rfl) (by intro _; rfl) hm181 hm182 (Nat.le_trans hm182 (hs151).1) (Nat.le_refl _)) (fun a h => ?_)
            refine sAV h (fun a h => ?_)
            refine sAV h (fun a h => ?_)
            refine l_end ?_
            refine wp_ret ?_
            refine e_jR ?_
            obtain rfl := Option.some.inj hl41
            exact r_ret2 h rfl (rv_tmp h rfl) (rv_tmp h rfl) ⟨_, [], _, rfl, ⟨(sA A33 c34 m177 1), (c34 - m177), rfl, rfl, hs184, (show r64 0 from ⟨by decide, by decide⟩), trivial⟩, rfl, up150, (h.m.pick [1] _ (by decide) rfl)⟩
  · obtain ⟨x185, rfl, hR⟩ := hR
    dsimp only at hf
    obtain ⟨g186, rfl, rfl, hp187, hr188, _⟩ := hR
    refine sMV h (fun a h => ?_)
    refine sX h (x_ext h.k rfl rfl rfl) (fun a h => ?_)
    refine sX h (x_ext h.k rfl rfl rfl) (fun a h => ?_)
    refine sAV h (fun a h => ?_)
    refine sAV h (fun a h => ?_)
    refine l_end ?_
    refine wp_seq ?_
    refine c_rs ?_
    refine sMV h (fun a h => ?_)
    refine sX h (x_bin h.k rfl rfl rfl ib_neq) (fun a h => ?_)
    refine l_end ?_
    refine c_cond h rfl (fun hb => ?_) (fun hb => ?_)
    · rw [if_pos (of_decide_eq_true hb)] at hf
      refine c_rs ?_
      refine sMV h (fun a h => ?_)
      refine sAV h (fun a h => ?_)
      refine sAV h (fun a h => ?_)
      refine l_end ?_
      refine wp_ret ?_
      refine e_thenR ?_
      refine e_jR ?_
      obtain rfl := Option.some.inj hf
      exact r_ret2 h rfl (rv_tmp h rfl) (rv_tmp h rfl) ⟨_, [], _, rfl, ⟨none, 0, rfl, rfl, (slS.nil ty8 S4), hr188, trivial⟩, rfl, up5, h.m⟩
    · rw [if_neg (of_decide_eq_false hb)] at hf
      refine wp_skip ?_
      refine e_thenN ?_
      refine wp_seq ?_
      refine c_rs ?_
      refine sMV h (fun a h => ?_)
      refine sX h (x_len h.k rfl Try.underlying22 rfl) (fun a h => ?_)
      refine sX h (x_bin h.k rfl rfl rfl (ib_sub rfl)) (fun a h => ?_)
      obtain ⟨x189, h190, hf⟩ := bsome hf
      have hX := wrap_Size_ok Fu (S0 := snapAll _) (w64 ((a1.length : Int) - 8)) (w64_r _) _ h190 _ h.startAll
      refine q_callX hX h rfl rfl rfl (by decide) Try.func52 rfl rfl rfl (fun a w v L1 S1 hR hb1 h => ?_)
      obtain ⟨rfl, rfl, hr192, _⟩ := hR
      refine sMV h (fun a h => ?_)
      refine sX h (x_ext h.k rfl rfl rfl) (fun a h => ?_)
      refine sX h (x_ext h.k rfl rfl rfl) (fun a h => ?_)
      refine sAV h (fun a h => ?_)
      refine sAV h (fun a h => ?_)
      refine l_end ?_
      refine c_rs ?_
      refine sMV h (fun a h => ?_)
      refine sX h (x_not h.k rfl rfl) (fun a h => ?_)
      refine sMV h (fun a h => ?_)
      refine q_grp h 5 (t := 32) 37 ((!x189.2) || (decide (x189.1 ≠ (a1.length : Int)))) rfl (fun hB2 => ?_) (fun hB2 => ?_) (fun a w h => ?_)
      · refine g_no h rfl rfl rfl rfl hB2 rfl (by decide) (fun a h => ?_)
        refine g_no h rfl rfl rfl rfl hB2 rfl (by decide) (fun a h => ?_)
        refine g_no h rfl rfl rfl rfl hB2 rfl (by decide) (fun a h => ?_)
        refine g_no h rfl rfl rfl rfl hB2 rfl (by decide) (fun a h => ?_)
        refine sX h (x_pick (u' := undef) h.k rfl rfl (fun _ => rfl) (fun hh => absurd (hB2.symm.trans hh) (by decide))) (fun a h => ?_)
        exact (h.mid 4 rfl).val (by first | rfl | (rw [hB2]; first | rfl | simp))
      · refine g_yes h rfl rfl rfl rfl hB2 ?_
        refine sMV h (fun a h => ?_)
        refine g_yes h rfl rfl rfl rfl hB2 ?_
        refine sMV h (fun a h => ?_)
        refine g_yes h rfl rfl rfl rfl hB2 ?_
        refine sX h (x_len h.k rfl Try.underlying22 rfl) (fun a h => ?_)
        refine g_yes h rfl rfl rfl rfl hB2 ?_
        refine sX h (x_bin h.k rfl rfl rfl ib_neq) (fun a h => ?_)
        refine sX h (x_pick (u' := undef) h.k rfl rfl (fun hh => absurd (hB2.symm.trans hh) (by decide)) (fun _ => rfl)) (fun a h => ?_)
        exact (h.mid 4 rfl).val (by first | rfl | (rw [hB2]; first | rfl | simp))
      refine l_end ?_
      refine c_cond h rfl (fun hb => ?_) (fun hb => ?_)
      · rw [if_pos hb] at hf
        refine c_rs ?_
        refine sAV h (fun a h => ?_)
        refine sAV h (fun a h => ?_)
        refine l_end ?_
        refine wp_ret ?_
        refine e_thenR ?_
        refine e_jR ?_
        obtain rfl := Option.some.inj hf
        exact r_ret2 h rfl (rv_tmp h rfl) (rv_tmp h rfl) ⟨_, [], _, rfl, ⟨none, 0, rfl, rfl, (slS.nil ty8 S4), (show r64 2 from ⟨by decide, by decide⟩), trivial⟩, rfl, up5, h.m⟩
      · rw [if_neg (by rw [hb]; decide)] at hf
        refine wp_skip ?_
        refine e_thenN ?_
        refine c_rs ?_
        refine q_bslice0 h rfl rfl rfl (by decide) Try.underlying22 sz_uint8 (fun a w A195 h => ?_)
        refine sMV h (fun a h => ?_)
        obtain ⟨x196, h197, hf⟩ := bsome hf
        obtain ⟨_, _, vs198, hrd199, hrp200⟩ := id (hsa1.mono le6)
        refine q_append (T := ty8) (S := S4) h rfl rfl rfl (by decide) Try.underlying22 zb_uint8 rfl (by decide) rfl 0 rfl (show reps ty8 S4 [] [] from rfl) rfl hrp200 (hrd199 _ (h.m.snOK (i := 1) rfl)) h197 (fun a w A201 c202 cs203 hq204 h => ?_)
        refine sAV h (fun a h => ?_)
        refine l_end ?_
        refine c_rs ?_
        refine sMV h (fun a h => ?_)
        have hr205 : r64 (x196.length : Int) := len_r (h.m.rowLen (i := 0) rfl)
        refine sX h (x_len h.k rfl Try.underlying22 rfl) (fun a h => ?_)
        refine sX h (x_bin h.k rfl rfl rfl (ib_quow (by decide))) (fun a h => ?_)
        refine sX h (x_bin h.k rfl rfl rfl (ib_sub rfl)) (fun a h => ?_)
        refine sAV h (fun a h => ?_)
        refine l_end ?_
        refine c_rs ?_
        refine s_alloc h rfl rfl rfl (by decide) zi_A16_uint8 rfl (fun a w g206 h => ?_)
        have h := h.parts (L' := [.box g206 79 (List.replicate 16 (.int .u8 0 : Value)), .row (.slice A201 x196.length c202) 5 1 x196.length cs203, .sn S4]) rfl
        refine l_end ?_
        refine c_rs ?_
        refine sMV h (fun a h => ?_)
        refine sX h (x_bin h.k rfl rfl rfl (ib_mul rfl)) (fun a h => ?_)
        refine sAV h (fun a h => ?_)
        refine sAV h (fun a h => ?_)
        refine l_end ?_
        refine wp_seq ?_
        refine wp_label ?_
        refine e_thenN ?_
        have h := h.pick [1, 0, 2] (by decide) rfl
        refine c_label 0 (fun m222 a w => ∃ (S207 : Snap), ∃ (x210 : Int), ∃ (x212 : List UInt8), ∃ (A213 : Option Addr), ∃ (c214 : Nat), ∃ (cs215 : List Value), ∃ (x217 : List UInt8), ∃ (k218 : List Value), wrap_Unwrap_g1 Fu x185 x196 m222 x210 x212 x217 = some r ∧ Snap.le S4 S207 ∧ Up (ownL ([] ++ [.sn S0])) w0 S0 S207 ∧ r64 x210 ∧ reps ty8 S207 cs215 x212 ∧ reps ty8 S207 k218 x217 ∧ x217.length = 16 ∧ St 88 w0 (ownL ([] ++ [.sn S0])) [(6, .pointer (some ⟨g186, 0, none⟩)), (10, .slice A213 x212.length c214), (11, .int .i64 (w64 ((w64 (Int.tdiv (x196.length : Int) 8)) - 1))), (12, .pointer (some ⟨g206, 0, none⟩)), (13, .int .i64 x210)] [.row (.slice A213 x212.length c214) 5 1 x212.length cs215, .box g206 79 k218, .sn S207] a w) Fu rfl ⟨S4, w64 (6 * (w64 ((w64 (Int.tdiv (x196.length : Int) 8)) - 1))), x196, A201, c202, cs203, (List.replicate 16 ((0 : UInt8) : UInt8)), (List.replicate 16 (.int .u8 0 : Value)), hf, (Snap.le.refl _), up5, (w64_r _), hq204, (show reps ty8 S4 (List.replicate 16 (.int .u8 0 : Value)) (List.replicate 16 ((0 : UInt8) : UInt8)) from repsRep1 (x := ((0 : UInt8) : UInt8)) rfl), (show (List.replicate 16 ((0 : UInt8) : UInt8)).length = 16 from List.length_replicate), h.has (by exact ⟨rfl, rfl, rfl, rfl, rfl, trivial⟩)⟩ (fun m222 a w hI => ?_)
        obtain ⟨S207, x210, x212, A213, c214, cs215, x217, k218, hl221, le208, up209, hr211, hq216, hs219, hl220, h⟩ := hI
        obtain _ | m222 := m222
        · rw [wrap_Unwrap_g1] at hl221; cases hl221
        rw [wrap_Unwrap_g1] at hl221
        refine c_rs ?_
        refine sMV h (fun a h => ?_)
        refine sX h (x_bin h.k rfl rfl rfl (ib_sub rfl)) (fun a h => ?_)
        refine sMV h (fun a h => ?_)
        obtain ⟨x223, h224, hl221⟩ := bsome hl221
        refine sX h (x_bin h.k rfl rfl rfl (ib_rem_ h224)) (fun a h => ?_)
        refine sX h (x_bin h.k rfl rfl rfl (ib_add rfl)) (fun a h => ?_)
        refine sX h (x_bin h.k rfl rfl rfl (ib_mul rfl)) (fun a h => ?_)
        refine sAV h (fun a h => ?_)
        refine l_end ?_
        refine c_rs ?_
        obtain ⟨y225, h226, hl221⟩ := bsome hl221
        obtain ⟨hi227, hi228, hm229, hm230⟩ := bnd_some h226
        obtain ⟨n231, hn232⟩ : ∃ n, y225.2 - y225.1 = n := ⟨_, rfl⟩
        refine sX h (x_viewB h.k rfl Try.underlying79 sz_uint8 rfl (bd_none (by omega)) (bd_some rfl hi228) hm229 hm230 hn232) (fun a h => ?_)
        refine sMV h (fun a h => ?_)
        refine q_copyB (T := ty8) (S := S207) (l := y225.1) (g := y225.2) h rfl rfl rfl (by decide) Try.underlying22 sz_uint8 rfl rfl 1 rfl rfl hs219 hq216 (h.m.rdRowA (i := 0) rfl) rfl hn232 hm229 hm230 hl220 (fun a w cs234 n235 hq236 h => ?_)
        have hl237 : (cpy x217 y225.1 y225.2 x212).length = 16 := (cpy_len _ hm229 (by have := hm230; have := hl220; omega)).trans hl220
        refine l_end ?_
        refine c_rs ?_
        obtain ⟨y238, h239, hl221⟩ := bsome hl221
        obtain ⟨hi240, hi241, hm242, hm243⟩ := bnd_some h239
        obtain ⟨n244, hn245⟩ : ∃ n, y238.2 - y238.1 = n := ⟨_, rfl⟩
        refine sX h (x_viewB h.k rfl Try.underlying79 sz_uint8 rfl (bd_none (by omega)) (bd_some rfl hi241) hm242 hm243 hn245) (fun a h => ?_)
        refine sMV h (fun a h => ?_)
        obtain ⟨x247, h248, hl221⟩ := bsome hl221
        have h := h.pick [1, 2, 0] (by decide) rfl
        have hX := wrap_count_view0_16_uint8_ok Fu (S0 := S207) (cpy x217 y225.1 y225.2 x212) g206 cs234 hq236 hl237 y238 n244 hm242 hm243 hn245 x210 hr211 _ h248 _ (h.sub (Ls := [.box g206 79 cs234]))
        refine q_callY (Ls := [.box g206 79 cs234]) hX h up209 rfl rfl rfl (by decide) Try.func53 rfl rfl rfl (fun a w v L1 S250 hR le252 up251 h => ?_)
        obtain ⟨k253, rfl, rfl, hs254, hl255, _⟩ := hR
        refine l_end ?_
        refine wp_seq ?_
        -- region 14 draws
        obtain ⟨y256, h257, hl221⟩ := bsome hl221
        obtain ⟨y265, h266, hl221⟩ := bsome hl221
        refine d_start h (Mem _ _ _) 6 7 rfl (by kernel_rfl) (fun _ _ _ _ _ h => h) (fun _ h => h) (fun Q a w HE HN h HS => ?_)
        obtain ⟨hi258, hi259, hm260, hm261⟩ := bnd_some h257
        obtain ⟨n262, hn263⟩ : ∃ n, y256.2 - y256.1 = n := ⟨_, rfl⟩
        refine d_takeP h (fun _ => HS) HN 0 rfl (by kernel_rfl) (by kernel_rfl) (by kernel_rfl) (by decide) rfl rfl (by decide) (fun w' => x_viewB h.k rfl Try.underlying79 sz_uint8 rfl (bd_some rfl hi258) (bd_none (by omega)) hm260 hm261 hn263) (fun a h => ?_)
        refine d_takeP h (fun _ => HS) HN 1 rfl (by kernel_rfl) (by kernel_rfl) (by kernel_rfl) (by decide) rfl rfl (by decide) (fun w' => x_move h.k _ rfl rfl) (fun a h => ?_)
        refine d_takeP h (fun _ => HS) HN 2 rfl (by kernel_rfl) (by kernel_rfl) (by kernel_rfl) (by decide) rfl rfl (by decide) (fun w' => x_move h.k _ rfl rfl) (fun a h => ?_)
        refine d_takeP h (fun _ => HS) HN 3 rfl (by kernel_rfl) (by kernel_rfl) (by kernel_rfl) (by decide) rfl rfl (by decide) (fun w' => x_move h.k _ rfl rfl) (fun a h => ?_)
        refine d_takeP h (fun _ => HS) HN 4 rfl (by kernel_rfl) (by kernel_rfl) (by kernel_rfl) (by decide) rfl rfl (by decide) (fun w' => x_bin h.k rfl rfl rfl (ib_add rfl)) (fun a h => ?_)
        obtain ⟨hi267, hi268, hm269, hm270⟩ := bnd_some h266
        obtain ⟨n271, hn272⟩ : ∃ n, y265.2 - y265.1 = n := ⟨_, rfl⟩
        have hl274 := h.m.rowLe (i := 2) rfl
        have hz275 := Nat.le_trans hm270 hl274.1
        refine d_takeP h (fun _ => HS) HN 5 rfl (by kernel_rfl) (by kernel_rfl) (by kernel_rfl) (by decide) rfl rfl (by decide) (fun w' => x_viewR h.k rfl Try.underlying22 sz_uint8 rfl (bd_some rfl hi267) (bd_some rfl hi268) hm269 hm270 hl274.1 hn272) (fun a h => ?_)
        refine d_alone 6 rfl (by kernel_rfl) (fun K hK => ?_)
        have hl276 : y265.2 ≤ x212.length := hm270
        refine q_copyB (T := ty8) (S := S250) (l := y256.1) (g := y256.2) h rfl rfl rfl (by decide) Try.underlying22 sz_uint8 rfl rfl 0 rfl rfl hs254 (reps.cut rfl (hq216.mono le252) y265.1 y265.2) ((h.m.rdRowA (i := 2) rfl).sA rfl hz275) (cut_len hl276 hn272) hn263 hm260 hm261 hl255 (fun a w cs277 n278 hq279 h => ?_)
        have hl280 : (cpy x247 y256.1 y256.2 ((x212.take y265.2).drop y265.1)).length = 16 := (cpy_len _ hm260 (by have := hm261; have := hl255; omega)).trans hl255
        refine hK _ _ (fun hne _ => absurd rfl hne) ?_
        clear hK
        refine d_done (by kernel_rfl) (HE _ _ ?_) _
        refine e_thenN ?_
        refine c_rs ?_
        refine sMV h (fun a h => ?_)
        refine sX h (x_ldR h.k rfl ag_A16_uint8 rfl cs277 ((hq279).len.trans (by rw [hl280]; rfl)) (h.m.range0 (i := 0) rfl)) (fun a h => ?_)
        obtain ⟨x281, h282, hl221⟩ := bsome hl221
        have hX := aes_Cipher_Decrypt_ok Fu (S0 := snapAll _) g186 x185.1 ((hp187.mono (le208.trans le252)).mono (h.m.leAll (i := 1) rfl)) cs277 (cpy x247 y256.1 y256.2 ((x212.take y265.2).drop y265.1)) ((tyA 16 ty8).mono (h.m.leAll (i := 1) rfl) (show (tyA 16 ty8).rep S250 cs277 (cpy x247 y256.1 y256.2 ((x212.take y265.2).drop y265.1)) from ⟨hq279, hl280⟩)) _ h282 _ h.startAll
        refine q_callX hX h rfl rfl rfl (by decide) Try.func54 rfl rfl rfl (fun a w v L1 S1 hR hb1 h => ?_)
        obtain ⟨k284, rfl, rfl, hv285, _⟩ := hR
        obtain ⟨hs286, hl287⟩ := hv285
        have hq288 := hs286.fl (S' := S250) fl_8
        refine s_stW h rfl rfl rfl ag_A16_uint8 rfl (es := k284) rfl ((hq288).len.trans (by rw [hl287]; rfl)) (hq288).one 0 rfl ((hq279).len.trans (by rw [hl280]; rfl)) (fun a w h => ?_)
        refine l_end ?_
        refine c_rs ?_
        refine sMV h (fun a h => ?_)
        obtain ⟨y289, h290, hl221⟩ := bsome hl221
        obtain ⟨hi291, hi292, hm293, hm294⟩ := bnd_some h290
        obtain ⟨n295, hn296⟩ : ∃ n, y289.2 - y289.1 = n := ⟨_, rfl⟩
        refine sX h (x_viewB h.k rfl Try.underlying79 sz_uint8 rfl (bd_none (by omega)) (bd_some rfl hi292) hm293 hm294 hn296) (fun a h => ?_)
        have hl298 : y289.2 ≤ x281.length := (by have := hm294; have := hl287; omega)
        refine q_copyR (T := ty8) (S := S250) (l := 0) (g := x212.length) h rfl rfl rfl (by decide) Try.underlying22 sz_uint8 rfl rfl 2 rfl rfl (hq216.mono le252) (reps.cut rfl hq288 y289.1 y289.2) ((h.m.rdBox0 (i := 0) rfl).vA (l := y289.1) hm294) (cut_len hl298 hn296) (Nat.sub_zero _) (Nat.zero_le _) (Nat.le_refl _) dA_row (fun a w cs299 n300 hq301 h => ?_)
        have hl302 : (cpy x212 0 x212.length ((x281.take y289.2).drop y289.1)).length = x212.length := (cpy_len _ (Nat.zero_le _) (Nat.le_refl _))
        rw [hl302, ← hl302] at h
        refine l_end ?_
        refine wp_seq ?_
        -- region 17 draws
        obtain ⟨y303, h304, hl221⟩ := bsome hl221
        obtain ⟨y314, h315, hl221⟩ := bsome hl221
        refine d_start h (Mem _ _ _) 4 5 rfl (by kernel_rfl) (fun _ _ _ _ _ h => h) (fun _ h => h) (fun Q a w HE HN h HS => ?_)
        refine d_takeP h (fun _ => HS) HN 0 rfl (by kernel_rfl) (by kernel_rfl) (by kernel_rfl) (by decide) rfl rfl (by decide) (fun w' => x_move h.k _ rfl rfl) (fun a h => ?_)
        refine d_takeP h (fun _ => HS) HN 1 rfl (by kernel_rfl) (by kernel_rfl) (by kernel_rfl) (by decide) rfl rfl (by decide) (fun w' => x_move h.k _ rfl rfl) (fun a h => ?_)
        obtain ⟨hi305, hi306, hm307, hm308⟩ := bnd_some h304
        obtain ⟨n309, hn310⟩ : ∃ n, y303.2 - y303.1 = n := ⟨_, rfl⟩
        have hl312 := h.m.rowLe (i := 2) rfl
        have hz313 := Nat.le_trans hm308 hl312.1
        refine d_takeP h (fun _ => HS) HN 2 rfl (by kernel_rfl) (by kernel_rfl) (by kernel_rfl) (by decide) rfl rfl (by decide) (fun w' => x_viewR h.k rfl Try.underlying22 sz_uint8 rfl (bd_some rfl hi305) (bd_none (by omega)) hm307 hm308 hl312.1 hn310) (fun a h => ?_)
        obtain ⟨hi316, hi317, hm318, hm319⟩ := bnd_some h315
        obtain ⟨n320, hn321⟩ : ∃ n, y314.2 - y314.1 = n := ⟨_, rfl⟩
        refine d_takeP h (fun _ => HS) HN 3 rfl (by kernel_rfl) (by kernel_rfl) (by kernel_rfl) (by decide) rfl rfl (by decide) (fun w' => x_viewB h.k rfl Try.underlying79 sz_uint8 rfl (bd_some rfl hi316) (bd_none (by omega)) hm318 hm319 hn321) (fun a h => ?_)
        refine d_alone 4 rfl (by kernel_rfl) (fun K hK => ?_)
        have hl323 : y314.2 ≤ x281.length := (by have := hm319; have := hl287; omega)
        refine q_copyR (T := ty8) (S := S250) (l := y303.1) (g := y303.2) h rfl rfl rfl (by decide) Try.underlying22 sz_uint8 rfl rfl 2 rfl rfl hq301 (reps.cut rfl hq288 y314.1 y314.2) ((h.m.rdBox0 (i := 0) rfl).vA (l := y314.1) hm319) (cut_len hl323 hn321) hn310 hm307 hm308 (dA_sA rfl hz313) (fun a w cs324 n325 hq326 h => ?_)
        have hl327 : (cpy (cpy x212 0 x212.length ((x281.take y289.2).drop y289.1)) y303.1 y303.2 ((x281.take y314.2).drop y314.1)).length = (cpy x212 0 x212.length ((x281.take y289.2).drop y289.1)).length := (cpy_len _ hm307 hm308)
        rw [hl327, ← hl327] at h
        refine hK _ _ (fun hne _ => absurd rfl hne) ?_
        clear hK
        refine d_done (by kernel_rfl) (HE _ _ ?_) _
        refine e_thenN ?_
        refine wp_seq ?_
        refine c_rs ?_
        refine sMV h (fun a h => ?_)
        refine sX h (x_bin h.k rfl rfl rfl (ib_sub rfl)) (fun a h => ?_)
        refine sAV h (fun a h => ?_)
        refine l_end ?_
        refine c_rs ?_
        refine sMV h (fun a h => ?_)
        refine sX h (x_bin h.k rfl rfl rfl ib_gtr) (fun a h => ?_)
        refine l_end ?_
        refine c_cond h rfl (fun hb => ?_) (fun hb => ?_)
        · rw [if_pos (of_decide_eq_true hb)] at hl221
          refine wp_goto ?_
          refine e_thenG ?_
          have h := h.pick [2, 0, 1] (by decide) rfl
          exact ⟨rfl, m222, Nat.lt_succ_self _, S250, w64 (x210 - 1), (cpy (cpy x212 0 x212.length ((x281.take y289.2).drop y289.1)) y303.1 y303.2 ((x281.take y314.2).drop y314.1)), A213, c214, cs324, x281, k284, hl221, (le208.trans le252), up251, (w64_r _), hq326, hq288, hl287, h.has (by exact ⟨rfl, rfl, rfl, rfl, rfl, trivial⟩)⟩
        · rw [if_neg (of_decide_eq_false hb)] at hl221
          refine wp_skip ?_
          refine e_thenN ?_
          refine wp_seq ?_
          have h := h.pick [2, 1, 0] (by decide) rfl
          obtain ⟨S328, le329, up330, hs331, h⟩ := q_freeze (T := ty8) h up251 hq326
          obtain rfl : n271 = (((cpy (cpy x212 0 x212.length ((x281.take y289.2).drop y289.1)) y303.1 y303.2 ((x281.take y314.2).drop y314.1)).take y265.2).drop y265.1).length := cut_len (show y265.2 ≤ (cpy (cpy x212 0 x212.length ((x281.take y289.2).drop y289.1)) y303.1 y303.2 ((x281.take y314.2).drop y314.1)).length from (by have := hm270; simp only [cpy_len, List.length_set] at *; omega)) hn272
          have hs332 := slS.sub hs331 hm269 (show y265.2 ≤ (cpy (cpy x212 0 x212.length ((x281.take y289.2).drop y289.1)) y303.1 y303.2 ((x281.take y314.2).drop y314.1)).length from (by have := hm270; simp only [cpy_len, List.length_set] at *; omega)) hz275 (Nat.le_refl _) rfl
          obtain rfl : n309 = (((cpy (cpy x212 0 x212.length ((x281.take y289.2).drop y289.1)) y303.1 y303.2 ((x281.take y314.2).drop y314.1)).take y303.2).drop y303.1).length := cut_len (show y303.2 ≤ (cpy (cpy x212 0 x212.length ((x281.take y289.2).drop y289.1)) y303.1 y303.2 ((x281.take y314.2).drop y314.1)).length from (by have := hm308; simp only [cpy_len, List.length_set] at *; omega)) hn310
          have hs333 := slS.sub hs331 hm307 (show y303.2 ≤ (cpy (cpy x212 0 x212.length ((x281.take y289.2).drop y289.1)) y303.1 y303.2 ((x281.take y314.2).drop y314.1)).length from (by have := hm308; simp only [cpy_len, List.length_set] at *; omega)) hz313 (Nat.le_refl _) rfl
          refine wp_seq ?_
          -- region 20 draws
          obtain ⟨x334, h335, hl221⟩ := bsome hl221
          obtain ⟨x344, h345, hl221⟩ := bsome hl221
          obtain ⟨x352, h353, hl221⟩ := bsome hl221
          refine d_start h (Mem _ _ _) 5 5 rfl (by kernel_rfl) (fun _ _ _ _ _ h => h) (fun _ h => h) (fun Q a w HE HN h HS => ?_)
          refine d_takeP h (fun _ => HS) HN 0 rfl (by kernel_rfl) (by kernel_rfl) (by kernel_rfl) (by decide) rfl rfl (by decide) (fun w' => x_move h.k _ rfl rfl) (fun a h => ?_)
          obtain ⟨m336, n337, hi338, hi339, hm340, hm341, hr342⟩ := sub_some h335
          have hs343 := slS.sub (hs331) hm340 hm341 (Nat.le_trans hm341 (hs331).1) (Nat.le_refl _) hr342
          refine d_takeP h (fun _ => HS) HN 1 rfl (by kernel_rfl) (by kernel_rfl) (by kernel_rfl) (by decide) rfl rfl (by decide) (fun w' => x_sliceE h.k rfl Try.underlying22 sz_uint8 rfl c214 hr342 (bd_none (by omega)) (bd_some rfl hi339) (bd_none rfl) (by intro hh; cases hh) hm340 hm341 (Nat.le_trans hm341 (hs331).1) (Nat.le_refl _)) (fun a h => ?_)
          refine d_alone 2 rfl (by kernel_rfl) (fun K hK => ?_)
          have hX := wrap_marks_ok Fu (S0 := snapAll _)  _ h345 _ h.startAll
          refine q_callX hX h rfl rfl rfl (by decide) Try.func56 rfl rfl rfl (fun a w v L1 S1 hR hb1 h => ?_)
          obtain ⟨A347, c348, cs349, rfl, rfl, hq350, _⟩ := hR
          have hq351 := hq350.fl (S' := S328) fl_8
          refine hK _ _ (fun _ _ => HS.ext hb1) ?_
          replace HS := HS.ext hb1
          clear hK
          refine d_alone 3 rfl (by kernel_rfl) (fun K hK => ?_)
          have hX := same_Bytes_ok Fu (S0 := snapAll _) (sA A213 c214 m336 1) (c214 - m336) x334 (hs343.mono (h.m.leAll (i := 1) rfl)) A347 c348 x344 (h.m.rowAll (i := 0) rfl (j := 1) rfl hq351) _ h353 _ h.startAll
          refine q_callX hX h rfl rfl rfl (by decide) Try.func55 rfl rfl rfl (fun a w v L1 S1 hR hb1 h => ?_)
          obtain ⟨rfl, rfl, _⟩ := hR
          refine hK _ _ (fun _ _ => HS.ext hb1) ?_
          replace HS := HS.ext hb1
          clear hK
          refine d_takeP h (fun _ => HS) HN 4 rfl (by kernel_rfl) (by kernel_rfl) (by kernel_rfl) (by decide) rfl rfl (by decide) (fun w' => x_not h.k rfl rfl) (fun a h => ?_)
          refine d_done (by kernel_rfl) (HE _ _ ?_) _
          refine e_thenN ?_
          refine c_cond h rfl (fun hb => ?_) (fun hb => ?_)
          · rw [if_pos hb] at hl221
            refine c_rs ?_
            refine sAV h (fun a h => ?_)
            refine sAV h (fun a h => ?_)
            refine l_end ?_
            refine wp_ret ?_
            refine e_thenR ?_
            refine e_jR ?_
            obtain rfl := Option.some.inj hl221
            exact r_ret2 h rfl (rv_tmp h rfl) (rv_tmp h rfl) ⟨_, [], _, rfl, ⟨none, 0, rfl, rfl, (slS.nil ty8 S328), (show r64 21 from ⟨by decide, by decide⟩), trivial⟩, rfl, up330, (h.m.pick [1] _ (by decide) rfl)⟩
          · rw [if_neg (by rw [hb]; decide)] at hl221
            refine wp_skip ?_
            refine e_thenN ?_
            refine c_rs ?_
            refine sMV h (fun a h => ?_)
            obtain ⟨x355, h356, hl221⟩ := bsome hl221
            obtain ⟨m357, n358, hi359, hi360, hm361, hm362, hr363⟩ := sub_some h356
            have hs364 := slS.sub (hs331) hm361 hm362 (Nat.le_trans hm362 (hs331).1) (Nat.le_refl _) hr363
            refine sX h (x_sliceE h.k rfl Try.underlying22 sz_uint8 rfl c214 hr363 (bd_some rfl hi359) (bd_none (by omega)) (bd_none rfl) (by intro _; rfl) hm361 hm362 (Nat.le_trans hm362 (hs331).1) (Nat.le_refl _)) (fun a h => ?_)
            refine sAV h (fun a h => ?_)
            refine sAV h (fun a h => ?_)
            refine l_end ?_
            refine wp_ret ?_
            refine e_jR ?_
            obtain rfl := Option.some.inj hl221
            exact r_ret2 h rfl (rv_tmp h rfl) (rv_tmp h rfl) ⟨_, [], _, rfl, ⟨(sA A213 c214 m357 1), (c214 - m357), rfl, rfl, hs364, (show r64 0 from ⟨by decide, by decide⟩), trivial⟩, rfl, up330, (h.m.pick [1] _ (by decide) rfl)⟩
end Go.Proofs.Ytohgmggdfmjgnaa
