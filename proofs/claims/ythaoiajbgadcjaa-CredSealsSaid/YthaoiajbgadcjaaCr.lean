/- Cr: Go functions as plain functions, and that they are so (written by xt.py). -/
import Derived.Test.YthaoiajbgadcjaaHm
import Derived.Test.YthaoiajbgadcjaaWp
import Derived.Test.YthaoiajbgadcjaaRt
set_option linter.unusedVariables false
set_option linter.unusedSimpArgs false
namespace Go.Proofs.Ythaoiajbgadcjaa
open Go.RowKit
def cred_space (Fu : Nat) (a0 : Int) : Option Bool :=
  some ((decide (0 ≤ a0)) && (decide (a0 ≤ 64)))
set_option maxRecDepth 100000 in
set_option maxHeartbeats 2000000 in
theorem cred_space_ok (Fu : Nat) {S0 : Snap} (a0 : Int) (hra0 : r64 a0) (r : Bool) (hf : cred_space Fu a0 = some r) (w0 : World) (hm : Mem w0 (ownL ([] ++ [.sn S0])) ([] ++ [.sn S0]) w0) :
    Calls Try.prog 22 #[.int .i64 a0] w0 (Ret w0 S0 [] (fun v L1 S1 => v = .bool r ∧ L1 = [] ∧ True)) := by
  unfold cred_space at hf
  refine c_enterM Try.func22 rfl 9 rfl (by simp) _ hm _ rfl (fun a h => ?_)
  refine c_rs ?_
  refine sAV h (fun a h => ?_)
  refine l_end ?_
  refine c_rs ?_
  refine sMV h (fun a h => ?_)
  refine s_x h rfl rfl (by decide) (x_bin h.k rfl rfl rfl ib_geq) (fun a h => ?_)
  refine sMV h (fun a h => ?_)
  refine q_grp h 3 (t := 5) 8 ((decide (0 ≤ a0)) && (decide (a0 ≤ 64))) rfl (fun hB2 => ?_) (fun hB2 => ?_) (fun a w h => ?_)
  · refine g_yes h rfl rfl rfl rfl hB2 ?_
    refine sMV h (fun a h => ?_)
    refine g_yes h rfl rfl rfl rfl hB2 ?_
    refine s_x h rfl rfl (by decide) (x_bin h.k rfl rfl rfl ib_leq) (fun a h => ?_)
    refine s_x h rfl rfl (by decide) (x_pick (u' := undef) h.k rfl rfl (fun _ => rfl) (fun hh => absurd (hB2.symm.trans hh) (by decide))) (fun a h => ?_)
    exact (h.mid 2 rfl).val (by first | rfl | (rw [hB2]; first | rfl | simp))
  · refine g_no h rfl rfl rfl rfl hB2 rfl (by decide) (fun a h => ?_)
    refine g_no h rfl rfl rfl rfl hB2 rfl (by decide) (fun a h => ?_)
    refine s_x h rfl rfl (by decide) (x_pick (u' := undef) h.k rfl rfl (fun hh => absurd (hB2.symm.trans hh) (by decide)) (fun _ => rfl)) (fun a h => ?_)
    exact (h.mid 2 rfl).val (by first | rfl | (rw [hB2]; first | rfl | simp))
  refine sAV h (fun a h => ?_)
  refine l_end ?_
  refine wp_ret ?_
  obtain rfl := Option.some.inj hf
  exact r_ret1 h rfl (rv_tmp h rfl) ⟨_, [], _, rfl, ⟨rfl, rfl, trivial⟩, rfl, (Up.refl _ _ _), h.m⟩
def cred_derived (Fu : Nat) (a0 : List UInt8) (a1 : List UInt8) (a2 : Int) : Option ((List UInt8)) :=
  (kdf_Number Fu a2).bind fun x1 => (kdf_Derive Fu a0 a1 32 ([x1])).bind fun x19 => some x19.1
set_option maxRecDepth 100000 in
set_option maxHeartbeats 2000000 in
theorem cred_derived_ok (Fu : Nat) {S0 : Snap} (Aa0 : Option Addr) (ca0 : Nat) (a0 : List UInt8) (hsa0 : slS ty8 S0 Aa0 ca0 a0) (a1 : List UInt8) (hra1 : a1.length ≤ maxLen) (a2 : Int) (hra2 : r64 a2) (r : (List UInt8)) (hf : cred_derived Fu a0 a1 a2 = some r) (w0 : World) (hm : Mem w0 (ownL ([] ++ [.sn S0])) ([] ++ [.sn S0]) w0) :
    Calls Try.prog 18 #[.slice Aa0 a0.length ca0, .string (sb a1), .int .i64 a2] w0 (Ret w0 S0 [] (fun v L1 S1 => ∃ (A29 : Option Addr), ∃ (c30 : Nat), v = .slice A29 r.length c30 ∧ L1 = [] ∧ slS ty8 S1 A29 c30 r ∧ True)) := by
  unfold cred_derived at hf
  refine c_enterM Try.func18 rfl 19 rfl (by simp) _ hm _ rfl (fun a h => ?_)
  refine c_rs ?_
  refine sAV h (fun a h => ?_)
  refine l_end ?_
  refine c_rs ?_
  refine sMV h (fun a h => ?_)
  refine sMV h (fun a h => ?_)
  refine sMV h (fun a h => ?_)
  obtain ⟨x1, h2, hf⟩ := bsome hf
  have hX := kdf_Number_ok Fu (S0 := snapAll _) a2 hra2 _ h2 _ h.startAll
  refine q_callX hX h rfl rfl rfl (by decide) Try.func30 rfl rfl rfl (fun a w v L1 S1 hR hb1 h => ?_)
  obtain ⟨A4, c5, cs6, rfl, rfl, hq7, _⟩ := hR
  have hq8 := hq7.fl (S' := S0) fl_8
  obtain ⟨S9, le10, up11, hs12, h⟩ := q_freeze (T := ty8) h (Up.refl _ _ _) hq8
  refine q_bslice (T := tyL ty8) (S := S9) h rfl rfl rfl (by decide) Try.underlying45 zi_Suint8 (by decide) (by decide) (by decide) (by decide) [.slice A4 x1.length c5] rfl rfl (C := [[.slice A4 x1.length c5]]) rfl (xs := [x1]) ⟨[.slice A4 x1.length c5], _, rfl, ⟨_, _, rfl, hs12⟩, rfl⟩ (by intro c hc; simp only [List.mem_cons, List.not_mem_nil, or_false] at hc; subst hc; rfl) (fun a w A13 h => ?_)
  have hb14 : reps (tyL ty8) S9 ([[.slice A4 x1.length c5]] : List (List Value)).flatten [x1] := ⟨[.slice A4 x1.length c5], _, rfl, ⟨_, _, rfl, hs12⟩, rfl⟩
  obtain ⟨S15, le16, up17, hs18, h⟩ := q_freeze (T := tyL ty8) h up11 hb14
  obtain ⟨x19, h20, hf⟩ := bsome hf
  have hX := kdf_Derive_ok Fu (S0 := S15) Aa0 ca0 a0 (hsa0.mono (le10.trans le16)) a1 hra1 32 (show r64 32 from ⟨by decide, by decide⟩) A13 1 ([x1]) hs18 _ h20 _ (h.sub (Ls := []))
  refine q_callY (Ls := []) hX h up17 rfl rfl rfl (by decide) Try.func29 rfl rfl rfl (fun a w v L1 S22 hR le24 up23 h => ?_)
  obtain ⟨A25, c26, rfl, rfl, hs27, hr28, _⟩ := hR
  refine sMV h (fun a h => ?_)
  refine s_x h rfl rfl (by decide) (x_ext h.k rfl rfl rfl) (fun a h => ?_)
  refine s_x h rfl rfl (by decide) (x_ext h.k rfl rfl rfl) (fun a h => ?_)
  refine sAV h (fun a h => ?_)
  refine sAV h (fun a h => ?_)
  refine l_end ?_
  refine c_rs ?_
  refine sMV h (fun a h => ?_)
  refine sAV h (fun a h => ?_)
  refine l_end ?_
  refine wp_ret ?_
  obtain rfl := Option.some.inj hf
  exact r_ret1 h rfl (rv_tmp h rfl) ⟨_, [], _, rfl, ⟨A25, c26, rfl, rfl, hs27, trivial⟩, rfl, up23, h.m⟩
def cred_both_clo0_24_0_0 (Fu : Nat) (a1 : List UInt8) (a2 : List UInt8) (a3 : List UInt8) : Option ((List UInt8) × Int) :=
  (wrap_Wrap Fu a1 a3).bind fun x1 => if x1.2 ≠ 0 then (some ([], x1.2)) else ((wrap_Wrap Fu a2 x1.1).bind fun x11 => some x11)
set_option maxRecDepth 100000 in
set_option maxHeartbeats 2000000 in
theorem cred_both_clo0_24_0_0_ok (Fu : Nat) {S0 : Snap} (Aa1 : Option Addr) (ca1 : Nat) (a1 : List UInt8) (hsa1 : slS ty8 S0 Aa1 ca1 a1) (Aa2 : Option Addr) (ca2 : Nat) (a2 : List UInt8) (hsa2 : slS ty8 S0 Aa2 ca2 a2) (Aa3 : Option Addr) (ca3 : Nat) (a3 : List UInt8) (hsa3 : slS ty8 S0 Aa3 ca3 a3) (r : (List UInt8) × Int) (hf : cred_both_clo0_24_0_0 Fu a1 a2 a3 = some r) (w0 : World) (hm : Mem w0 (ownL ([] ++ [.sn S0])) ([] ++ [.sn S0]) w0) :
    Calls Try.prog 23 #[.func (.func 24) [].toArray [].toArray, .slice Aa1 a1.length ca1, .slice Aa2 a2.length ca2, .slice Aa3 a3.length ca3] w0 (Ret w0 S0 [] (fun v L1 S1 => ∃ (A20 : Option Addr), ∃ (c21 : Nat), ∃ (cs22 : List Value), v = .tuple #[.slice A20 r.1.length c21, .int .i64 r.2] ∧ L1 = [.row (.slice A20 r.1.length c21) 5 1 r.1.length cs22] ∧ reps ty8 S1 cs22 r.1 ∧ r64 r.2 ∧ True)) := by
  unfold cred_both_clo0_24_0_0 at hf
  refine c_enterM Try.func23 rfl 28 rfl (by simp) _ hm _ rfl (fun a h => ?_)
  refine c_rs ?_
  refine sAV h (fun a h => ?_)
  refine sAV h (fun a h => ?_)
  refine l_end ?_
  refine c_rs ?_
  refine sMV h (fun a h => ?_)
  refine sMV h (fun a h => ?_)
  refine sMV h (fun a h => ?_)
  obtain ⟨x1, h2, hf⟩ := bsome hf
  have hX := wrap_Wrap_ok Fu (S0 := snapAll _) Aa1 ca1 a1 (hsa1.mono (h.m.leAll (i := 0) rfl)) Aa3 ca3 a3 (hsa3.mono (h.m.leAll (i := 0) rfl)) _ h2 _ h.startAll
  refine q_callXV hX h rfl rfl rfl (by decide) rfl Try.func24 rfl rfl [.slice Aa1 a1.length ca1, .slice Aa3 a3.length ca3] rfl rfl (fun a w v L1 S1 hR hb1 h => ?_)
  obtain ⟨A4, c5, cs6, rfl, rfl, hq7, hr8, _⟩ := hR
  have hq9 := hq7.fl (S' := S0) fl_8
  refine sMV h (fun a h => ?_)
  refine s_x h rfl rfl (by decide) (x_ext h.k rfl rfl rfl) (fun a h => ?_)
  refine s_x h rfl rfl (by decide) (x_ext h.k rfl rfl rfl) (fun a h => ?_)
  refine sAV h (fun a h => ?_)
  refine sAV h (fun a h => ?_)
  refine l_end ?_
  refine wp_seq ?_
  refine c_rs ?_
  refine sMV h (fun a h => ?_)
  refine s_x h rfl rfl (by decide) (x_bin h.k rfl rfl rfl ib_neq) (fun a h => ?_)
  refine l_end ?_
  refine c_cond h rfl (fun hb => ?_) (fun hb => ?_)
  · rw [if_pos (of_decide_eq_true hb)] at hf
    refine c_rs ?_
    refine sMV h (fun a h => ?_)
    refine sAV h (fun a h => ?_)
    refine sAV h (fun a h => ?_)
    refine l_end ?_
    refine wp_ret ?_
    refine e_thenR ?_
    obtain rfl := Option.some.inj hf
    have h := h.mem (h.m.nilrow 5 1)
    exact r_ret2 h rfl (rv_tmp h rfl) (rv_tmp h rfl) ⟨_, [.row (.slice none ([]).length 0) 5 1 ([]).length []], _, rfl, ⟨none, 0, [], rfl, rfl, (show reps ty8 S0 [] [] from rfl), hr8, trivial⟩, rfl, (Up.refl _ _ _), (h.m.pick [0, 2] _ (by decide) rfl)⟩
  · rw [if_neg (of_decide_eq_false hb)] at hf
    refine wp_skip ?_
    refine e_thenN ?_
    refine c_rs ?_
    refine sMV h (fun a h => ?_)
    refine sMV h (fun a h => ?_)
    refine sMV h (fun a h => ?_)
    obtain ⟨x11, h12, hf⟩ := bsome hf
    have hX := wrap_Wrap_ok Fu (S0 := snapAll _) Aa2 ca2 a2 (hsa2.mono (h.m.leAll (i := 1) rfl)) A4 c5 x1.1 (h.m.rowAll (i := 0) rfl (j := 1) rfl hq9) _ h12 _ h.startAll
    refine q_callXV hX h rfl rfl rfl (by decide) rfl Try.func24 rfl rfl [.slice Aa2 a2.length ca2, .slice A4 x1.1.length c5] rfl rfl (fun a w v L1 S1 hR hb1 h => ?_)
    obtain ⟨A14, c15, cs16, rfl, rfl, hq17, hr18, _⟩ := hR
    have hq19 := hq17.fl (S' := S0) fl_8
    refine s_x h rfl rfl (by decide) (x_ext h.k rfl rfl rfl) (fun a h => ?_)
    refine s_x h rfl rfl (by decide) (x_ext h.k rfl rfl rfl) (fun a h => ?_)
    refine sAV h (fun a h => ?_)
    refine sAV h (fun a h => ?_)
    refine l_end ?_
    refine wp_ret ?_
    rw [← Option.some.inj hf]
    exact r_ret2 h rfl (rv_tmp h rfl) (rv_tmp h rfl) ⟨_, [.row (.slice A14 x11.1.length c15) 5 1 x11.1.length cs16], _, rfl, ⟨A14, c15, cs16, rfl, rfl, hq19, hr18, trivial⟩, rfl, (Up.refl _ _ _), (h.m.pick [0, 2] _ (by decide) rfl)⟩
def cred_Seal (Fu : Nat) (a0 : List UInt8) (a1 : List UInt8) (a2 : Int) (a3 : List UInt8) : Option ((List UInt8) × Int) :=
  (cred_Right Fu a0).bind fun x4 => if (!x4) = true then (some ([], 30)) else ((cred_space Fu a2).bind fun x8 => if ((!x8) || (decide ((a3.length : Int) ≠ 32))) = true then (some ([], 2)) else ((cred_derived Fu a0 ([105, 110, 110, 101, 114] : List UInt8) a2).bind fun x14 => (bnd 32 0 (32 : Int)).bind fun y23 => (cred_derived Fu ((a1.take y23.2).drop y23.1) ([111, 117, 116, 101, 114] : List UInt8) a2).bind fun x38 => (cred_both_clo0_24_0_0 Fu x14 x38 a3).bind fun x47 => some x47))
set_option maxRecDepth 100000 in
set_option maxHeartbeats 2000000 in
theorem cred_Seal_ok (Fu : Nat) {S0 : Snap} (Aa0 : Option Addr) (ca0 : Nat) (a0 : List UInt8) (hsa0 : slS ty8 S0 Aa0 ca0 a0) (csa1 : List Value) (a1 : List UInt8) (hsa1 : (tyA 32 ty8).rep S0 csa1 a1) (a2 : Int) (hra2 : r64 a2) (Aa3 : Option Addr) (ca3 : Nat) (a3 : List UInt8) (hsa3 : slS ty8 S0 Aa3 ca3 a3) (r : (List UInt8) × Int) (hf : cred_Seal Fu a0 a1 a2 a3 = some r) (w0 : World) (hm : Mem w0 (ownL ([] ++ [.sn S0])) ([] ++ [.sn S0]) w0) :
    Calls Try.prog 13 #[.slice Aa0 a0.length ca0, .agg csa1.toArray, .int .i64 a2, .slice Aa3 a3.length ca3] w0 (Ret w0 S0 [] (fun v L1 S1 => ∃ (A56 : Option Addr), ∃ (c57 : Nat), ∃ (cs58 : List Value), v = .tuple #[.slice A56 r.1.length c57, .int .i64 r.2] ∧ L1 = [.row (.slice A56 r.1.length c57) 5 1 r.1.length cs58] ∧ reps ty8 S1 cs58 r.1 ∧ r64 r.2 ∧ True)) := by
  unfold cred_Seal at hf
  obtain ⟨hs1, hl2⟩ := hsa1
  refine c_enterM Try.func13 rfl 33 rfl (by simp) _ hm _ rfl (fun a h => ?_)
  refine c_rs ?_
  refine s_box h rfl rfl rfl (by decide) rfl (cs := csa1) (by rfl) (fun a w g3 h => ?_)
  refine sAV h (fun a h => ?_)
  refine sAV h (fun a h => ?_)
  refine l_end ?_
  refine wp_seq ?_
  refine wp_block ?_
  refine c_rs ?_
  refine sMV h (fun a h => ?_)
  obtain ⟨x4, h5, hf⟩ := bsome hf
  have hX := cred_Right_ok Fu (S0 := snapAll _) Aa0 ca0 a0 (hsa0.mono (h.m.leAll (i := 1) rfl)) _ h5 _ h.startAll
  refine q_callX hX h rfl rfl rfl (by decide) Try.func8 rfl rfl rfl (fun a w v L1 S1 hR hb1 h => ?_)
  obtain ⟨rfl, rfl, _⟩ := hR
  refine s_x h rfl rfl (by decide) (x_not h.k rfl rfl) (fun a h => ?_)
  refine sAV h (fun a h => ?_)
  refine l_end ?_
  refine c_cond h rfl (fun hb => ?_) (fun hb => ?_)
  · rw [if_pos hb] at hf
    refine c_rs ?_
    refine sAV h (fun a h => ?_)
    refine sAV h (fun a h => ?_)
    refine l_end ?_
    refine wp_ret ?_
    refine e_blkR ?_
    refine e_thenR ?_
    obtain rfl := Option.some.inj hf
    have h := h.mem (h.m.nilrow 5 1)
    exact r_ret2 h rfl (rv_tmp h rfl) (rv_tmp h rfl) ⟨_, [.row (.slice none ([]).length 0) 5 1 ([]).length []], _, rfl, ⟨none, 0, [], rfl, rfl, (show reps ty8 S0 [] [] from rfl), (show r64 30 from ⟨by decide, by decide⟩), trivial⟩, rfl, (Up.refl _ _ _), (h.m.pick [0, 2] _ (by decide) rfl)⟩
  · rw [if_neg (by rw [hb]; decide)] at hf
    refine c_rs ?_
    refine sMV h (fun a h => ?_)
    obtain ⟨x8, h9, hf⟩ := bsome hf
    have hX := cred_space_ok Fu (S0 := snapAll _) a2 hra2 _ h9 _ h.startAll
    refine q_callX hX h rfl rfl rfl (by decide) Try.func22 rfl rfl rfl (fun a w v L1 S1 hR hb1 h => ?_)
    obtain ⟨rfl, rfl, _⟩ := hR
    refine s_x h rfl rfl (by decide) (x_not h.k rfl rfl) (fun a h => ?_)
    refine sMV h (fun a h => ?_)
    refine q_grp h 4 (t := 18) 22 ((!x8) || (decide ((a3.length : Int) ≠ 32))) rfl (fun hB3 => ?_) (fun hB3 => ?_) (fun a w h => ?_)
    · refine g_no h rfl rfl rfl rfl hB3 rfl (by decide) (fun a h => ?_)
      refine g_no h rfl rfl rfl rfl hB3 rfl (by decide) (fun a h => ?_)
      refine g_no h rfl rfl rfl rfl hB3 rfl (by decide) (fun a h => ?_)
      refine s_x h rfl rfl (by decide) (x_pick (u' := undef) h.k rfl rfl (fun _ => rfl) (fun hh => absurd (hB3.symm.trans hh) (by decide))) (fun a h => ?_)
      exact (h.mid 3 rfl).val (by first | rfl | (rw [hB3]; first | rfl | simp))
    · refine g_yes h rfl rfl rfl rfl hB3 ?_
      refine sMV h (fun a h => ?_)
      refine g_yes h rfl rfl rfl rfl hB3 ?_
      refine s_x h rfl rfl (by decide) (x_len h.k rfl Try.underlying22 rfl) (fun a h => ?_)
      refine g_yes h rfl rfl rfl rfl hB3 ?_
      refine s_x h rfl rfl (by decide) (x_bin h.k rfl rfl rfl ib_neq) (fun a h => ?_)
      refine s_x h rfl rfl (by decide) (x_pick (u' := undef) h.k rfl rfl (fun hh => absurd (hB3.symm.trans hh) (by decide)) (fun _ => rfl)) (fun a h => ?_)
      exact (h.mid 3 rfl).val (by first | rfl | (rw [hB3]; first | rfl | simp))
    refine sAV h (fun a h => ?_)
    refine l_end ?_
    refine c_cond h rfl (fun hb => ?_) (fun hb => ?_)
    · rw [if_pos hb] at hf
      refine c_rs ?_
      refine sAV h (fun a h => ?_)
      refine sAV h (fun a h => ?_)
      refine l_end ?_
      refine wp_ret ?_
      refine e_blkR ?_
      refine e_thenR ?_
      obtain rfl := Option.some.inj hf
      have h := h.mem (h.m.nilrow 5 1)
      exact r_ret2 h rfl (rv_tmp h rfl) (rv_tmp h rfl) ⟨_, [.row (.slice none ([]).length 0) 5 1 ([]).length []], _, rfl, ⟨none, 0, [], rfl, rfl, (show reps ty8 S0 [] [] from rfl), (show r64 2 from ⟨by decide, by decide⟩), trivial⟩, rfl, (Up.refl _ _ _), (h.m.pick [0, 2] _ (by decide) rfl)⟩
    · rw [if_neg (by rw [hb]; decide)] at hf
      refine wp_skip ?_
      refine e_blkN ?_
      refine e_thenN ?_
      refine wp_seq ?_
      -- region 5 draws
      obtain ⟨x14, h15, hf⟩ := bsome hf
      obtain ⟨y23, h24, hf⟩ := bsome hf
      obtain ⟨x38, h39, hf⟩ := bsome hf
      obtain ⟨x47, h48, hf⟩ := bsome hf
      refine d_start h (Mem _ _ _) 12 12 rfl (by kernel_rfl) (fun _ _ _ _ _ h => h) (fun _ h => h.pick [1] [.sn S0] (by decide) rfl) (fun Q a w HE HN h HS => ?_)
      refine d_takeP h (fun _ => HS) HN 0 rfl (by kernel_rfl) (by kernel_rfl) (by kernel_rfl) (by decide) rfl rfl (by decide) (fun w' => x_move h.k _ rfl rfl) (fun a h => ?_)
      refine d_takeP h (fun _ => HS) HN 1 rfl (by kernel_rfl) (by kernel_rfl) (by kernel_rfl) (by decide) rfl rfl (by decide) (fun w' => x_move h.k _ rfl rfl) (fun a h => ?_)
      obtain ⟨hi25, hi26, hm27, hm28⟩ := bnd_some h24
      obtain ⟨n29, hn30⟩ : ∃ n, y23.2 - y23.1 = n := ⟨_, rfl⟩
      refine d_takeP h (fun _ => HS) HN 3 rfl (by kernel_rfl) (by kernel_rfl) (by kernel_rfl) (by decide) rfl rfl (by decide) (fun w' => x_viewB h.k rfl Try.underlying23 sz_uint8 rfl (bd_none (by omega)) (bd_none (by omega)) hm27 hm28 hn30) (fun a h => ?_)
      refine d_takeP h (fun _ => HS) HN 4 rfl (by kernel_rfl) (by kernel_rfl) (by kernel_rfl) (by decide) rfl rfl (by decide) (fun w' => x_move h.k _ rfl rfl) (fun a h => ?_)
      refine d_takeP h (fun _ => HS) HN 6 rfl (by kernel_rfl) (by kernel_rfl) (by kernel_rfl) (by decide) rfl rfl (by decide) (fun w' => x_move h.k _ rfl rfl) (fun a h => ?_)
      refine d_alone 2 rfl (by kernel_rfl) (fun K hK => ?_)
      have h := h.pick [1, 0] (by decide) rfl
      have hX := cred_derived_ok Fu (S0 := S0) Aa0 ca0 a0 hsa0 ([105, 110, 110, 101, 114] : List UInt8) (by decide) a2 hra2 _ h15 _ (h.sub (Ls := []))
      refine q_callY (Ls := []) hX h (Up.refl _ _ _) rfl rfl rfl (by decide) Try.func18 rfl rfl rfl (fun a w v L1 S17 hR le19 up18 h => ?_)
      obtain ⟨A20, c21, rfl, rfl, hs22, _⟩ := hR
      replace HS := (h.m.pick [0] [.sn S17] (by decide) rfl).snLe 0 rfl le19
      refine hK _ _ (fun _ _ => HS) ?_
      clear hK
      refine d_alone 5 rfl (by kernel_rfl) (fun K hK => ?_)
      have h := h.pick [1, 0] (by decide) rfl
      obtain ⟨S32, le33, up34, hc35, h⟩ := q_freezeBox h up18
      obtain rfl : n29 = ((a1.take y23.2).drop y23.1).length := cut_len (by have := hm28; have := hl2; omega) hn30
      have hs36 := slS_vA (T := ty8) hc35 (hs1.mono (le19.trans le33)) rfl hl2 (by decide) hm27 hm28
      have hf37 : 32 - y23.1 ≤ ((a1.take y23.2).drop y23.1).length := by have := hl2; have := hi26; simp only [List.length_drop, List.length_take]; omega
      have hX := cred_derived_ok Fu (S0 := S32) (vA g3 32 y23.1) (32 - y23.1) ((a1.take y23.2).drop y23.1) hs36 ([111, 117, 116, 101, 114] : List UInt8) (by decide) a2 hra2 _ h39 _ (h.sub (Ls := []))
      refine q_callY (Ls := []) hX h up34 rfl rfl rfl (by decide) Try.func18 rfl rfl rfl (fun a w v L1 S41 hR le43 up42 h => ?_)
      obtain ⟨A44, c45, rfl, rfl, hs46, _⟩ := hR
      replace HS := (h.m.pick [0] [.sn S41] (by decide) rfl).snLe 0 rfl ((le19.trans le33).trans le43)
      refine hK _ _ (fun _ _ => HS) ?_
      clear hK
      refine d_alone 7 rfl (by kernel_rfl) (fun K hK => ?_)
      have hX := cred_both_clo0_24_0_0_ok Fu (S0 := snapAll _) A20 c21 x14 ((hs22.mono (le33.trans le43)).mono (h.m.leAll (i := 0) rfl)) A44 c45 x38 (hs46.mono (h.m.leAll (i := 0) rfl)) Aa3 ca3 a3 ((hsa3.mono ((le19.trans le33).trans le43)).mono (h.m.leAll (i := 0) rfl)) _ h48 _ h.startAll
      refine q_callX hX h rfl rfl rfl (by decide) Try.func23 rfl rfl rfl (fun a w v L1 S1 hR hb1 h => ?_)
      obtain ⟨A50, c51, cs52, rfl, rfl, hq53, hr54, _⟩ := hR
      have hq55 := hq53.fl (S' := S41) fl_8
      refine hK _ _ (fun _ _ => HS.ext hb1) ?_
      replace HS := HS.ext hb1
      clear hK
      refine d_takeP h (fun _ => HS) HN 8 rfl (by kernel_rfl) (by kernel_rfl) (by kernel_rfl) (by decide) rfl rfl (by decide) (fun w' => x_ext h.k rfl rfl rfl) (fun a h => ?_)
      refine d_takeP h (fun _ => HS) HN 9 rfl (by kernel_rfl) (by kernel_rfl) (by kernel_rfl) (by decide) rfl rfl (by decide) (fun w' => x_ext h.k rfl rfl rfl) (fun a h => ?_)
      refine d_takeP h (fun _ => HS) HN 10 rfl (by kernel_rfl) (by kernel_rfl) (by kernel_rfl) (by decide) rfl rfl (by decide) (fun w' => x_assign h.k _ rfl rfl) (fun a h => ?_)
      refine d_takeP h (fun _ => HS) HN 11 rfl (by kernel_rfl) (by kernel_rfl) (by kernel_rfl) (by decide) rfl rfl (by decide) (fun w' => x_assign h.k _ rfl rfl) (fun a h => ?_)
      refine d_done (by kernel_rfl) (HE _ _ ?_) _
      refine e_thenN ?_
      refine wp_ret ?_
      rw [← Option.some.inj hf]
      exact r_ret2 h rfl (rv_tmp h rfl) (rv_tmp h rfl) ⟨_, [.row (.slice A50 x47.1.length c51) 5 1 x47.1.length cs52], _, rfl, ⟨A50, c51, cs52, rfl, rfl, hq55, hr54, trivial⟩, rfl, up42, h.m⟩
def cred_both_clo0_27_0_0 (Fu : Nat) (a1 : List UInt8) (a2 : List UInt8) (a3 : List UInt8) : Option ((List UInt8) × Int) :=
  (wrap_Unwrap Fu a1 a3).bind fun x1 => if x1.2 ≠ 0 then (some ([], x1.2)) else ((wrap_Unwrap Fu a2 x1.1).bind fun x11 => some x11)
set_option maxRecDepth 100000 in
set_option maxHeartbeats 2000000 in
theorem cred_both_clo0_27_0_0_ok (Fu : Nat) {S0 : Snap} (Aa1 : Option Addr) (ca1 : Nat) (a1 : List UInt8) (hsa1 : slS ty8 S0 Aa1 ca1 a1) (Aa2 : Option Addr) (ca2 : Nat) (a2 : List UInt8) (hsa2 : slS ty8 S0 Aa2 ca2 a2) (Aa3 : Option Addr) (ca3 : Nat) (a3 : List UInt8) (hsa3 : slS ty8 S0 Aa3 ca3 a3) (r : (List UInt8) × Int) (hf : cred_both_clo0_27_0_0 Fu a1 a2 a3 = some r) (w0 : World) (hm : Mem w0 (ownL ([] ++ [.sn S0])) ([] ++ [.sn S0]) w0) :
    Calls Try.prog 23 #[.func (.func 27) [].toArray [].toArray, .slice Aa1 a1.length ca1, .slice Aa2 a2.length ca2, .slice Aa3 a3.length ca3] w0 (Ret w0 S0 [] (fun v L1 S1 => ∃ (A21 : Option Addr), ∃ (c22 : Nat), v = .tuple #[.slice A21 r.1.length c22, .int .i64 r.2] ∧ L1 = [] ∧ slS ty8 S1 A21 c22 r.1 ∧ r64 r.2 ∧ True)) := by
  unfold cred_both_clo0_27_0_0 at hf
  refine c_enterM Try.func23 rfl 28 rfl (by simp) _ hm _ rfl (fun a h => ?_)
  refine c_rs ?_
  refine sAV h (fun a h => ?_)
  refine sAV h (fun a h => ?_)
  refine l_end ?_
  refine c_rs ?_
  refine sMV h (fun a h => ?_)
  refine sMV h (fun a h => ?_)
  refine sMV h (fun a h => ?_)
  obtain ⟨x1, h2, hf⟩ := bsome hf
  have hX := wrap_Unwrap_ok Fu (S0 := S0) Aa1 ca1 a1 hsa1 Aa3 ca3 a3 hsa3 _ h2 _ (h.sub (Ls := []))
  refine q_callYV (Ls := []) hX h (Up.refl _ _ _) rfl rfl rfl (by decide) rfl Try.func27 rfl rfl [.slice Aa1 a1.length ca1, .slice Aa3 a3.length ca3] rfl rfl (fun a w v L1 S4 hR le6 up5 h => ?_)
  obtain ⟨A7, c8, rfl, rfl, hs9, hr10, _⟩ := hR
  refine sMV h (fun a h => ?_)
  refine s_x h rfl rfl (by decide) (x_ext h.k rfl rfl rfl) (fun a h => ?_)
  refine s_x h rfl rfl (by decide) (x_ext h.k rfl rfl rfl) (fun a h => ?_)
  refine sAV h (fun a h => ?_)
  refine sAV h (fun a h => ?_)
  refine l_end ?_
  refine wp_seq ?_
  refine c_rs ?_
  refine sMV h (fun a h => ?_)
  refine s_x h rfl rfl (by decide) (x_bin h.k rfl rfl rfl ib_neq) (fun a h => ?_)
  refine l_end ?_
  refine c_cond h rfl (fun hb => ?_) (fun hb => ?_)
  · rw [if_pos (of_decide_eq_true hb)] at hf
    refine c_rs ?_
    refine sMV h (fun a h => ?_)
    refine sAV h (fun a h => ?_)
    refine sAV h (fun a h => ?_)
    refine l_end ?_
    refine wp_ret ?_
    refine e_thenR ?_
    obtain rfl := Option.some.inj hf
    exact r_ret2 h rfl (rv_tmp h rfl) (rv_tmp h rfl) ⟨_, [], _, rfl, ⟨none, 0, rfl, rfl, (slS.nil ty8 S4), hr10, trivial⟩, rfl, up5, h.m⟩
  · rw [if_neg (of_decide_eq_false hb)] at hf
    refine wp_skip ?_
    refine e_thenN ?_
    refine c_rs ?_
    refine sMV h (fun a h => ?_)
    refine sMV h (fun a h => ?_)
    refine sMV h (fun a h => ?_)
    obtain ⟨x11, h12, hf⟩ := bsome hf
    have hX := wrap_Unwrap_ok Fu (S0 := S4) Aa2 ca2 a2 (hsa2.mono le6) A7 c8 x1.1 hs9 _ h12 _ (h.sub (Ls := []))
    refine q_callYV (Ls := []) hX h up5 rfl rfl rfl (by decide) rfl Try.func27 rfl rfl [.slice Aa2 a2.length ca2, .slice A7 x1.1.length c8] rfl rfl (fun a w v L1 S14 hR le16 up15 h => ?_)
    obtain ⟨A17, c18, rfl, rfl, hs19, hr20, _⟩ := hR
    refine s_x h rfl rfl (by decide) (x_ext h.k rfl rfl rfl) (fun a h => ?_)
    refine s_x h rfl rfl (by decide) (x_ext h.k rfl rfl rfl) (fun a h => ?_)
    refine sAV h (fun a h => ?_)
    refine sAV h (fun a h => ?_)
    refine l_end ?_
    refine wp_ret ?_
    rw [← Option.some.inj hf]
    exact r_ret2 h rfl (rv_tmp h rfl) (rv_tmp h rfl) ⟨_, [], _, rfl, ⟨A17, c18, rfl, rfl, hs19, hr20, trivial⟩, rfl, up15, h.m⟩
def cred_Open (Fu : Nat) (a0 : List UInt8) (a1 : List UInt8) (a2 : Int) (a3 : List UInt8) : Option ((List UInt8) × Int) :=
  (cred_Right Fu a0).bind fun x4 => if (!x4) = true then (some ([], 30)) else ((cred_space Fu a2).bind fun x7 => if ((!x7) || (decide ((a3.length : Int) ≠ 48))) = true then (some ([], 2)) else ((bnd 32 0 (32 : Int)).bind fun y12 => (cred_derived Fu ((a1.take y12.2).drop y12.1) ([111, 117, 116, 101, 114] : List UInt8) a2).bind fun x27 => (cred_derived Fu a0 ([105, 110, 110, 101, 114] : List UInt8) a2).bind fun x36 => (cred_both_clo0_27_0_0 Fu x27 x36 a3).bind fun x45 => some x45))
set_option maxRecDepth 100000 in
set_option maxHeartbeats 2000000 in
theorem cred_Open_ok (Fu : Nat) {S0 : Snap} (Aa0 : Option Addr) (ca0 : Nat) (a0 : List UInt8) (hsa0 : slS ty8 S0 Aa0 ca0 a0) (csa1 : List Value) (a1 : List UInt8) (hsa1 : (tyA 32 ty8).rep S0 csa1 a1) (a2 : Int) (hra2 : r64 a2) (Aa3 : Option Addr) (ca3 : Nat) (a3 : List UInt8) (hsa3 : slS ty8 S0 Aa3 ca3 a3) (r : (List UInt8) × Int) (hf : cred_Open Fu a0 a1 a2 a3 = some r) (w0 : World) (hm : Mem w0 (ownL ([] ++ [.sn S0])) ([] ++ [.sn S0]) w0) :
    Calls Try.prog 15 #[.slice Aa0 a0.length ca0, .agg csa1.toArray, .int .i64 a2, .slice Aa3 a3.length ca3] w0 (Ret w0 S0 [] (fun v L1 S1 => ∃ (A55 : Option Addr), ∃ (c56 : Nat), v = .tuple #[.slice A55 r.1.length c56, .int .i64 r.2] ∧ L1 = [] ∧ slS ty8 S1 A55 c56 r.1 ∧ r64 r.2 ∧ True)) := by
  unfold cred_Open at hf
  obtain ⟨hs1, hl2⟩ := hsa1
  refine c_enterM Try.func15 rfl 33 rfl (by simp) _ hm _ rfl (fun a h => ?_)
  refine c_rs ?_
  refine s_box h rfl rfl rfl (by decide) rfl (cs := csa1) (by rfl) (fun a w g3 h => ?_)
  refine sAV h (fun a h => ?_)
  refine sAV h (fun a h => ?_)
  refine l_end ?_
  refine wp_seq ?_
  refine wp_block ?_
  refine c_rs ?_
  refine sMV h (fun a h => ?_)
  obtain ⟨x4, h5, hf⟩ := bsome hf
  have hX := cred_Right_ok Fu (S0 := snapAll _) Aa0 ca0 a0 (hsa0.mono (h.m.leAll (i := 1) rfl)) _ h5 _ h.startAll
  refine q_callX hX h rfl rfl rfl (by decide) Try.func8 rfl rfl rfl (fun a w v L1 S1 hR hb1 h => ?_)
  obtain ⟨rfl, rfl, _⟩ := hR
  refine s_x h rfl rfl (by decide) (x_not h.k rfl rfl) (fun a h => ?_)
  refine sAV h (fun a h => ?_)
  refine l_end ?_
  refine c_cond h rfl (fun hb => ?_) (fun hb => ?_)
  · rw [if_pos hb] at hf
    refine c_rs ?_
    refine sAV h (fun a h => ?_)
    refine sAV h (fun a h => ?_)
    refine l_end ?_
    refine wp_ret ?_
    refine e_blkR ?_
    refine e_thenR ?_
    obtain rfl := Option.some.inj hf
    exact r_ret2 h rfl (rv_tmp h rfl) (rv_tmp h rfl) ⟨_, [], _, rfl, ⟨none, 0, rfl, rfl, (slS.nil ty8 S0), (show r64 30 from ⟨by decide, by decide⟩), trivial⟩, rfl, (Up.refl _ _ _), (h.m.pick [1] _ (by decide) rfl)⟩
  · rw [if_neg (by rw [hb]; decide)] at hf
    refine c_rs ?_
    refine sMV h (fun a h => ?_)
    obtain ⟨x7, h8, hf⟩ := bsome hf
    have hX := cred_space_ok Fu (S0 := snapAll _) a2 hra2 _ h8 _ h.startAll
    refine q_callX hX h rfl rfl rfl (by decide) Try.func22 rfl rfl rfl (fun a w v L1 S1 hR hb1 h => ?_)
    obtain ⟨rfl, rfl, _⟩ := hR
    refine s_x h rfl rfl (by decide) (x_not h.k rfl rfl) (fun a h => ?_)
    refine sMV h (fun a h => ?_)
    refine q_grp h 4 (t := 18) 22 ((!x7) || (decide ((a3.length : Int) ≠ 48))) rfl (fun hB3 => ?_) (fun hB3 => ?_) (fun a w h => ?_)
    · refine g_no h rfl rfl rfl rfl hB3 rfl (by decide) (fun a h => ?_)
      refine g_no h rfl rfl rfl rfl hB3 rfl (by decide) (fun a h => ?_)
      refine g_no h rfl rfl rfl rfl hB3 rfl (by decide) (fun a h => ?_)
      refine s_x h rfl rfl (by decide) (x_pick (u' := undef) h.k rfl rfl (fun _ => rfl) (fun hh => absurd (hB3.symm.trans hh) (by decide))) (fun a h => ?_)
      exact (h.mid 3 rfl).val (by first | rfl | (rw [hB3]; first | rfl | simp))
    · refine g_yes h rfl rfl rfl rfl hB3 ?_
      refine sMV h (fun a h => ?_)
      refine g_yes h rfl rfl rfl rfl hB3 ?_
      refine s_x h rfl rfl (by decide) (x_len h.k rfl Try.underlying22 rfl) (fun a h => ?_)
      refine g_yes h rfl rfl rfl rfl hB3 ?_
      refine s_x h rfl rfl (by decide) (x_bin h.k rfl rfl rfl ib_neq) (fun a h => ?_)
      refine s_x h rfl rfl (by decide) (x_pick (u' := undef) h.k rfl rfl (fun hh => absurd (hB3.symm.trans hh) (by decide)) (fun _ => rfl)) (fun a h => ?_)
      exact (h.mid 3 rfl).val (by first | rfl | (rw [hB3]; first | rfl | simp))
    refine sAV h (fun a h => ?_)
    refine l_end ?_
    refine c_cond h rfl (fun hb => ?_) (fun hb => ?_)
    · rw [if_pos hb] at hf
      refine c_rs ?_
      refine sAV h (fun a h => ?_)
      refine sAV h (fun a h => ?_)
      refine l_end ?_
      refine wp_ret ?_
      refine e_blkR ?_
      refine e_thenR ?_
      obtain rfl := Option.some.inj hf
      exact r_ret2 h rfl (rv_tmp h rfl) (rv_tmp h rfl) ⟨_, [], _, rfl, ⟨none, 0, rfl, rfl, (slS.nil ty8 S0), (show r64 2 from ⟨by decide, by decide⟩), trivial⟩, rfl, (Up.refl _ _ _), (h.m.pick [1] _ (by decide) rfl)⟩
    · rw [if_neg (by rw [hb]; decide)] at hf
      refine wp_skip ?_
      refine e_blkN ?_
      refine e_thenN ?_
      refine c_rs ?_
      obtain ⟨y12, h13, hf⟩ := bsome hf
      obtain ⟨hi14, hi15, hm16, hm17⟩ := bnd_some h13
      obtain ⟨n18, hn19⟩ : ∃ n, y12.2 - y12.1 = n := ⟨_, rfl⟩
      refine s_x h rfl rfl (by decide) (x_viewB h.k rfl Try.underlying23 sz_uint8 rfl (bd_none (by omega)) (bd_none (by omega)) hm16 hm17 hn19) (fun a h => ?_)
      refine sMV h (fun a h => ?_)
      obtain ⟨S21, le22, up23, hc24, h⟩ := q_freezeBox h (Up.refl _ _ _)
      obtain rfl : n18 = ((a1.take y12.2).drop y12.1).length := cut_len (by have := hm17; have := hl2; omega) hn19
      have hs25 := slS_vA (T := ty8) hc24 (hs1.mono le22) rfl hl2 (by decide) hm16 hm17
      have hf26 : 32 - y12.1 ≤ ((a1.take y12.2).drop y12.1).length := by have := hl2; have := hi15; simp only [List.length_drop, List.length_take]; omega
      obtain ⟨x27, h28, hf⟩ := bsome hf
      have hX := cred_derived_ok Fu (S0 := S21) (vA g3 32 y12.1) (32 - y12.1) ((a1.take y12.2).drop y12.1) hs25 ([111, 117, 116, 101, 114] : List UInt8) (by decide) a2 hra2 _ h28 _ (h.sub (Ls := []))
      refine q_callY (Ls := []) hX h up23 rfl rfl rfl (by decide) Try.func18 rfl rfl rfl (fun a w v L1 S30 hR le32 up31 h => ?_)
      obtain ⟨A33, c34, rfl, rfl, hs35, _⟩ := hR
      refine sMV h (fun a h => ?_)
      refine sMV h (fun a h => ?_)
      obtain ⟨x36, h37, hf⟩ := bsome hf
      have hX := cred_derived_ok Fu (S0 := S30) Aa0 ca0 a0 (hsa0.mono (le22.trans le32)) ([105, 110, 110, 101, 114] : List UInt8) (by decide) a2 hra2 _ h37 _ (h.sub (Ls := []))
      refine q_callY (Ls := []) hX h up31 rfl rfl rfl (by decide) Try.func18 rfl rfl rfl (fun a w v L1 S39 hR le41 up40 h => ?_)
      obtain ⟨A42, c43, rfl, rfl, hs44, _⟩ := hR
      refine sMV h (fun a h => ?_)
      obtain ⟨x45, h46, hf⟩ := bsome hf
      have hX := cred_both_clo0_27_0_0_ok Fu (S0 := S39) A33 c34 x27 (hs35.mono le41) A42 c43 x36 hs44 Aa3 ca3 a3 (hsa3.mono ((le22.trans le32).trans le41)) _ h46 _ (h.sub (Ls := []))
      refine q_callY (Ls := []) hX h up40 rfl rfl rfl (by decide) Try.func23 rfl rfl rfl (fun a w v L1 S48 hR le50 up49 h => ?_)
      obtain ⟨A51, c52, rfl, rfl, hs53, hr54, _⟩ := hR
      refine s_x h rfl rfl (by decide) (x_ext h.k rfl rfl rfl) (fun a h => ?_)
      refine s_x h rfl rfl (by decide) (x_ext h.k rfl rfl rfl) (fun a h => ?_)
      refine sAV h (fun a h => ?_)
      refine sAV h (fun a h => ?_)
      refine l_end ?_
      refine wp_ret ?_
      rw [← Option.some.inj hf]
      exact r_ret2 h rfl (rv_tmp h rfl) (rv_tmp h rfl) ⟨_, [], _, rfl, ⟨A51, c52, rfl, rfl, hs53, hr54, trivial⟩, rfl, up49, h.m⟩
end Go.Proofs.Ythaoiajbgadcjaa
