/- Cs: Go functions as plain functions, and that they are so (written by xt.py). -/
import Derived.Test.YthaoiajbgadcjaaHn
import Derived.Test.YthaoiajbgadcjaaWr
import Derived.Test.YthaoiajbgadcjaaRt
set_option linter.unusedVariables false
set_option linter.unusedSimpArgs false
namespace Go.Proofs.Ythaoiajbgadcjaa
open Go.RowKit
def chatelaineref22_Derived (Fu : Nat) (a0 : List UInt8) (a1 : List UInt8) (a2 : Int) : Option ((List UInt8)) :=
  (chatelaineref01_Put64 Fu (u64I a2)).bind fun x1 => (chatelaineref08_Derive Fu a0 a1 32 ([x1])).bind fun x19 => some x19.1
set_option maxRecDepth 100000 in
set_option maxHeartbeats 2000000 in
theorem chatelaineref22_Derived_ok (Fu : Nat) {S0 : Snap} (Aa0 : Option Addr) (ca0 : Nat) (a0 : List UInt8) (hsa0 : slS ty8 S0 Aa0 ca0 a0) (a1 : List UInt8) (hra1 : a1.length ≤ maxLen) (a2 : Int) (hra2 : r64 a2) (r : (List UInt8)) (hf : chatelaineref22_Derived Fu a0 a1 a2 = some r) (w0 : World) (hm : Mem w0 (ownL ([] ++ [.sn S0])) ([] ++ [.sn S0]) w0) :
    Calls Try.prog 11 #[.slice Aa0 a0.length ca0, .string (sb a1), .int .i64 a2] w0 (Ret w0 S0 [] (fun v L1 S1 => ∃ (A29 : Option Addr), ∃ (c30 : Nat), v = .slice A29 r.length c30 ∧ L1 = [] ∧ slS ty8 S1 A29 c30 r ∧ True)) := by
  unfold chatelaineref22_Derived at hf
  refine c_enterM Try.func11 rfl 20 rfl (by simp) _ hm _ rfl (fun a h => ?_)
  refine c_rs ?_
  refine sAV h (fun a h => ?_)
  refine l_end ?_
  refine c_rs ?_
  refine sMV h (fun a h => ?_)
  refine sMV h (fun a h => ?_)
  refine sMV h (fun a h => ?_)
  refine s_x h rfl rfl (by decide) (x_convE h.k rfl Try.underlying3 Try.underlying44 rfl (u64I_wrap _)) (fun a h => ?_)
  obtain ⟨x1, h2, hf⟩ := bsome hf
  have hX := chatelaineref01_Put64_ok Fu (S0 := snapAll _) (u64I a2) _ h2 _ h.startAll
  refine q_callX hX h rfl rfl rfl (by decide) Try.func21 rfl rfl rfl (fun a w v L1 S1 hR hb1 h => ?_)
  obtain ⟨A4, c5, cs6, rfl, rfl, hq7, _⟩ := hR
  have hq8 := hq7.fl (S' := S0) fl_8
  obtain ⟨S9, le10, up11, hs12, h⟩ := q_freeze (T := ty8) h (Up.refl _ _ _) hq8
  refine q_bslice (T := tyL ty8) (S := S9) h rfl rfl rfl (by decide) Try.underlying45 zi_Suint8 (by decide) (by decide) (by decide) (by decide) [.slice A4 x1.length c5] rfl rfl (C := [[.slice A4 x1.length c5]]) rfl (xs := [x1]) ⟨[.slice A4 x1.length c5], _, rfl, ⟨_, _, rfl, hs12⟩, rfl⟩ (by intro c hc; simp only [List.mem_cons, List.not_mem_nil, or_false] at hc; subst hc; rfl) (fun a w A13 h => ?_)
  have hb14 : reps (tyL ty8) S9 ([[.slice A4 x1.length c5]] : List (List Value)).flatten [x1] := ⟨[.slice A4 x1.length c5], _, rfl, ⟨_, _, rfl, hs12⟩, rfl⟩
  obtain ⟨S15, le16, up17, hs18, h⟩ := q_freeze (T := tyL ty8) h up11 hb14
  obtain ⟨x19, h20, hf⟩ := bsome hf
  have hX := chatelaineref08_Derive_ok Fu (S0 := S15) Aa0 ca0 a0 (hsa0.mono (le10.trans le16)) a1 hra1 32 (show r64 32 from ⟨by decide, by decide⟩) A13 1 ([x1]) hs18 _ h20 _ (h.sub (Ls := []))
  refine q_callY (Ls := []) hX h up17 rfl rfl rfl (by decide) Try.func20 rfl rfl rfl (fun a w v L1 S22 hR le24 up23 h => ?_)
  obtain ⟨A25, c26, rfl, rfl, hs27, hr28, _⟩ := hR
  refine sMV h (fun a h => ?_)
  refine s_x h rfl rfl (by decide) (x_ext h.k rfl rfl rfl) (fun a h => ?_)
  refine s_x h rfl rfl (by decide) (x_ext h.k rfl rfl rfl) (fun a h => ?_)
  refine sAV h (fun a h => ?_)
  refine sAV h (fun a h => ?_)
  refine l_end ?_
  refine c_rs ?_
  refine sMV h (fun a h => ?_)
  refine sAV h (fun a h => ?_)
  refine l_end ?_
  refine wp_ret ?_
  obtain rfl := Option.some.inj hf
  exact r_ret1 h rfl (rv_tmp h rfl) ⟨_, [], _, rfl, ⟨A25, c26, rfl, rfl, hs27, trivial⟩, rfl, up23, h.m⟩
def chatelaineref22_Seal (Fu : Nat) (a0 : List UInt8) (a1 : List UInt8) (a2 : Int) (a3 : List UInt8) : Option ((List UInt8) × Int) :=
  (chatelaineref22_Right Fu a0).bind fun x4 => if (!x4) = true then (some ([], 30)) else (if (((decide (a2 < 0)) || (decide (64 < a2))) || (decide ((a3.length : Int) ≠ 32))) = true then (some ([], 2)) else ((chatelaineref22_Derived Fu a0 ([105, 110, 110, 101, 114] : List UInt8) a2).bind fun x13 => (chatelaineref09_Wrap Fu x13 a3).bind fun x22 => (chatelaineref06_List Fu a1).bind fun x31 => (chatelaineref22_Derived Fu x31 ([111, 117, 116, 101, 114] : List UInt8) a2).bind fun x43 => (chatelaineref09_Wrap Fu x43 x22.1).bind fun x52 => some x52))
set_option maxRecDepth 100000 in
set_option maxHeartbeats 2000000 in
theorem chatelaineref22_Seal_ok (Fu : Nat) {S0 : Snap} (Aa0 : Option Addr) (ca0 : Nat) (a0 : List UInt8) (hsa0 : slS ty8 S0 Aa0 ca0 a0) (csa1 : List Value) (a1 : List UInt8) (hsa1 : (tyA 32 ty8).rep S0 csa1 a1) (a2 : Int) (hra2 : r64 a2) (Aa3 : Option Addr) (ca3 : Nat) (a3 : List UInt8) (hsa3 : slS ty8 S0 Aa3 ca3 a3) (r : (List UInt8) × Int) (hf : chatelaineref22_Seal Fu a0 a1 a2 a3 = some r) (w0 : World) (hm : Mem w0 (ownL ([] ++ [.sn S0])) ([] ++ [.sn S0]) w0) :
    Calls Try.prog 14 #[.slice Aa0 a0.length ca0, .agg csa1.toArray, .int .i64 a2, .slice Aa3 a3.length ca3] w0 (Ret w0 S0 [] (fun v L1 S1 => ∃ (A61 : Option Addr), ∃ (c62 : Nat), ∃ (cs63 : List Value), v = .tuple #[.slice A61 r.1.length c62, .int .i64 r.2] ∧ L1 = [.row (.slice A61 r.1.length c62) 5 1 r.1.length cs63] ∧ reps ty8 S1 cs63 r.1 ∧ r64 r.2 ∧ True)) := by
  unfold chatelaineref22_Seal at hf
  obtain ⟨hs1, hl2⟩ := hsa1
  refine c_enterM Try.func14 rfl 42 rfl (by simp) _ hm _ rfl (fun a h => ?_)
  refine c_rs ?_
  refine s_box h rfl rfl rfl (by decide) rfl (cs := csa1) (by rfl) (fun a w g3 h => ?_)
  refine sAV h (fun a h => ?_)
  refine sAV h (fun a h => ?_)
  refine l_end ?_
  refine wp_seq ?_
  refine c_rs ?_
  refine sMV h (fun a h => ?_)
  obtain ⟨x4, h5, hf⟩ := bsome hf
  have hX := chatelaineref22_Right_ok Fu (S0 := snapAll _) Aa0 ca0 a0 (hsa0.mono (h.m.leAll (i := 1) rfl)) _ h5 _ h.startAll
  refine q_callX hX h rfl rfl rfl (by decide) Try.func9 rfl rfl rfl (fun a w v L1 S1 hR hb1 h => ?_)
  obtain ⟨rfl, rfl, _⟩ := hR
  refine s_x h rfl rfl (by decide) (x_not h.k rfl rfl) (fun a h => ?_)
  refine l_end ?_
  refine c_cond h rfl (fun hb => ?_) (fun hb => ?_)
  · rw [if_pos hb] at hf
    refine c_rs ?_
    refine sAV h (fun a h => ?_)
    refine sAV h (fun a h => ?_)
    refine l_end ?_
    refine wp_ret ?_
    refine e_thenR ?_
    obtain rfl := Option.some.inj hf
    have h := h.mem (h.m.nilrow 5 1)
    exact r_ret2 h rfl (rv_tmp h rfl) (rv_tmp h rfl) ⟨_, [.row (.slice none ([]).length 0) 5 1 ([]).length []], _, rfl, ⟨none, 0, [], rfl, rfl, (show reps ty8 S0 [] [] from rfl), (show r64 30 from ⟨by decide, by decide⟩), trivial⟩, rfl, (Up.refl _ _ _), (h.m.pick [0, 2] _ (by decide) rfl)⟩
  · rw [if_neg (by rw [hb]; decide)] at hf
    refine wp_skip ?_
    refine e_thenN ?_
    refine wp_seq ?_
    refine c_rs ?_
    refine sMV h (fun a h => ?_)
    refine s_x h rfl rfl (by decide) (x_bin h.k rfl rfl rfl ib_lss) (fun a h => ?_)
    refine sMV h (fun a h => ?_)
    refine q_grp h 3 (t := 17) 20 ((decide (a2 < 0)) || (decide (64 < a2))) rfl (fun hB2 => ?_) (fun hB2 => ?_) (fun a w h => ?_)
    · refine g_no h rfl rfl rfl rfl hB2 rfl (by decide) (fun a h => ?_)
      refine g_no h rfl rfl rfl rfl hB2 rfl (by decide) (fun a h => ?_)
      refine s_x h rfl rfl (by decide) (x_pick (u' := undef) h.k rfl rfl (fun _ => rfl) (fun hh => absurd (hB2.symm.trans hh) (by decide))) (fun a h => ?_)
      exact (h.mid 2 rfl).val (by first | rfl | (rw [hB2]; first | rfl | simp))
    · refine g_yes h rfl rfl rfl rfl hB2 ?_
      refine sMV h (fun a h => ?_)
      refine g_yes h rfl rfl rfl rfl hB2 ?_
      refine s_x h rfl rfl (by decide) (x_bin h.k rfl rfl rfl ib_gtr) (fun a h => ?_)
      refine s_x h rfl rfl (by decide) (x_pick (u' := undef) h.k rfl rfl (fun hh => absurd (hB2.symm.trans hh) (by decide)) (fun _ => rfl)) (fun a h => ?_)
      exact (h.mid 2 rfl).val (by first | rfl | (rw [hB2]; first | rfl | simp))
    refine sMV h (fun a h => ?_)
    refine q_grp h 4 (t := 21) 25 (((decide (a2 < 0)) || (decide (64 < a2))) || (decide ((a3.length : Int) ≠ 32))) rfl (fun hB6 => ?_) (fun hB6 => ?_) (fun a w h => ?_)
    · refine g_no h rfl rfl rfl rfl hB6 rfl (by decide) (fun a h => ?_)
      refine g_no h rfl rfl rfl rfl hB6 rfl (by decide) (fun a h => ?_)
      refine g_no h rfl rfl rfl rfl hB6 rfl (by decide) (fun a h => ?_)
      refine s_x h rfl rfl (by decide) (x_pick (u' := undef) h.k rfl rfl (fun _ => rfl) (fun hh => absurd (hB6.symm.trans hh) (by decide))) (fun a h => ?_)
      exact (h.mid 3 rfl).val (by first | rfl | (rw [hB6]; first | rfl | simp))
    · refine g_yes h rfl rfl rfl rfl hB6 ?_
      refine sMV h (fun a h => ?_)
      refine g_yes h rfl rfl rfl rfl hB6 ?_
      refine s_x h rfl rfl (by decide) (x_len h.k rfl Try.underlying22 rfl) (fun a h => ?_)
      refine g_yes h rfl rfl rfl rfl hB6 ?_
      refine s_x h rfl rfl (by decide) (x_bin h.k rfl rfl rfl ib_neq) (fun a h => ?_)
      refine s_x h rfl rfl (by decide) (x_pick (u' := undef) h.k rfl rfl (fun hh => absurd (hB6.symm.trans hh) (by decide)) (fun _ => rfl)) (fun a h => ?_)
      exact (h.mid 3 rfl).val (by first | rfl | (rw [hB6]; first | rfl | simp))
    refine l_end ?_
    refine c_cond h rfl (fun hb => ?_) (fun hb => ?_)
    · rw [if_pos hb] at hf
      refine c_rs ?_
      refine sAV h (fun a h => ?_)
      refine sAV h (fun a h => ?_)
      refine l_end ?_
      refine wp_ret ?_
      refine e_thenR ?_
      obtain rfl := Option.some.inj hf
      have h := h.mem (h.m.nilrow 5 1)
      exact r_ret2 h rfl (rv_tmp h rfl) (rv_tmp h rfl) ⟨_, [.row (.slice none ([]).length 0) 5 1 ([]).length []], _, rfl, ⟨none, 0, [], rfl, rfl, (show reps ty8 S0 [] [] from rfl), (show r64 2 from ⟨by decide, by decide⟩), trivial⟩, rfl, (Up.refl _ _ _), (h.m.pick [0, 2] _ (by decide) rfl)⟩
    · rw [if_neg (by rw [hb]; decide)] at hf
      refine wp_skip ?_
      refine e_thenN ?_
      refine c_rs ?_
      refine sMV h (fun a h => ?_)
      refine sMV h (fun a h => ?_)
      obtain ⟨x13, h14, hf⟩ := bsome hf
      have h := h.pick [1, 0] (by decide) rfl
      have hX := chatelaineref22_Derived_ok Fu (S0 := S0) Aa0 ca0 a0 hsa0 ([105, 110, 110, 101, 114] : List UInt8) (by decide) a2 hra2 _ h14 _ (h.sub (Ls := []))
      refine q_callY (Ls := []) hX h (Up.refl _ _ _) rfl rfl rfl (by decide) Try.func11 rfl rfl rfl (fun a w v L1 S16 hR le18 up17 h => ?_)
      obtain ⟨A19, c20, rfl, rfl, hs21, _⟩ := hR
      refine sMV h (fun a h => ?_)
      obtain ⟨x22, h23, hf⟩ := bsome hf
      have hX := chatelaineref09_Wrap_ok Fu (S0 := snapAll _) A19 c20 x13 (hs21.mono (h.m.leAll (i := 0) rfl)) Aa3 ca3 a3 ((hsa3.mono le18).mono (h.m.leAll (i := 0) rfl)) _ h23 _ h.startAll
      refine q_callX hX h rfl rfl rfl (by decide) Try.func25 rfl rfl rfl (fun a w v L1 S1 hR hb1 h => ?_)
      obtain ⟨A25, c26, cs27, rfl, rfl, hq28, hr29, _⟩ := hR
      have hq30 := hq28.fl (S' := S16) fl_8
      refine sMV h (fun a h => ?_)
      refine s_x h rfl rfl (by decide) (x_ext h.k rfl rfl rfl) (fun a h => ?_)
      refine s_x h rfl rfl (by decide) (x_ext h.k rfl rfl rfl) (fun a h => ?_)
      refine sAV h (fun a h => ?_)
      refine sAV h (fun a h => ?_)
      refine l_end ?_
      refine c_rs ?_
      refine s_x h rfl rfl (by decide) (x_ldR h.k rfl ag_A32_uint8 rfl csa1 (((hs1.mono le18)).len.trans (by rw [hl2]; rfl)) (h.m.range0 (i := 2) rfl)) (fun a h => ?_)
      obtain ⟨x31, h32, hf⟩ := bsome hf
      have hX := chatelaineref06_List_ok Fu (S0 := snapAll _) csa1 a1 ((tyA 32 ty8).mono (h.m.leAll (i := 1) rfl) (show (tyA 32 ty8).rep S16 csa1 a1 from ⟨(hs1.mono le18), hl2⟩)) _ h32 _ h.startAll
      refine q_callX hX h rfl rfl rfl (by decide) Try.func26 rfl rfl rfl (fun a w v L1 S1 hR hb1 h => ?_)
      obtain ⟨A34, c35, cs36, rfl, rfl, hq37, _⟩ := hR
      have hq38 := hq37.fl (S' := S16) fl_8
      refine sMV h (fun a h => ?_)
      have h := h.pick [0, 2, 1, 3] (by decide) rfl
      obtain ⟨S39, le40, up41, hs42, h⟩ := q_freeze (T := ty8) h up17 hq38
      obtain ⟨x43, h44, hf⟩ := bsome hf
      have hX := chatelaineref22_Derived_ok Fu (S0 := S39) A34 c35 x31 hs42 ([111, 117, 116, 101, 114] : List UInt8) (by decide) a2 hra2 _ h44 _ (h.sub (Ls := []))
      refine q_callY (Ls := []) hX h up41 rfl rfl rfl (by decide) Try.func11 rfl rfl rfl (fun a w v L1 S46 hR le48 up47 h => ?_)
      obtain ⟨A49, c50, rfl, rfl, hs51, _⟩ := hR
      refine sMV h (fun a h => ?_)
      obtain ⟨x52, h53, hf⟩ := bsome hf
      have hX := chatelaineref09_Wrap_ok Fu (S0 := snapAll _) A49 c50 x43 (hs51.mono (h.m.leAll (i := 0) rfl)) A25 c26 x22.1 (h.m.rowAll (i := 1) rfl (j := 0) rfl (hq30.mono (le40.trans le48))) _ h53 _ h.startAll
      refine q_callX hX h rfl rfl rfl (by decide) Try.func25 rfl rfl rfl (fun a w v L1 S1 hR hb1 h => ?_)
      obtain ⟨A55, c56, cs57, rfl, rfl, hq58, hr59, _⟩ := hR
      have hq60 := hq58.fl (S' := S46) fl_8
      refine s_x h rfl rfl (by decide) (x_ext h.k rfl rfl rfl) (fun a h => ?_)
      refine s_x h rfl rfl (by decide) (x_ext h.k rfl rfl rfl) (fun a h => ?_)
      refine sAV h (fun a h => ?_)
      refine sAV h (fun a h => ?_)
      refine l_end ?_
      refine wp_ret ?_
      rw [← Option.some.inj hf]
      exact r_ret2 h rfl (rv_tmp h rfl) (rv_tmp h rfl) ⟨_, [.row (.slice A55 x52.1.length c56) 5 1 x52.1.length cs57], _, rfl, ⟨A55, c56, cs57, rfl, rfl, hq60, hr59, trivial⟩, rfl, up47, (h.m.pick [0, 1] _ (by decide) rfl)⟩
end Go.Proofs.Ythaoiajbgadcjaa
