/- Kf: Go functions as plain functions, and that they are so (written by xt.py). -/
import Derived.Test.YtnjmlihmnkbgdaaKn
set_option linter.unusedVariables false
set_option linter.unusedSimpArgs false
namespace Go.Proofs.Ytnjmlihmnkbgdaa
open Go.RowKit
def know_of_l0 (Fu : Nat) (a0 : List (Int × Int × Int)) (a1 : List Int) : Nat → Int → ((List (Int × Int × Int)) × (List Bool) × (List Int) × Bool) → Option (Sum (Sum Int (((List (Int × Int × Int)) × (List Bool) × (List Int) × Bool) × Int)) (((List (Int × Int × Int)) × (List Bool) × (List Int) × Bool)))
  | 0, _, _ => none
  | k + 1, x12, x14 => if x12 < (a1.length : Int) then ((idx a1 x12).bind fun x44 => if ((decide (x44 < 0)) || (decide ((a0.length : Int) ≤ x44))) = true then (some (.inl (.inl 2))) else ((know_Set_learn Fu x14 x44).bind fun x60 => know_of_l0 Fu a0 a1 k (w64 (x12 + 1)) x60.2)) else (some (.inr x14))
def know_of (Fu : Nat) (a0 : List (Int × Int × Int)) (a1 : List Int) : Option (Sum Int (((List (Int × Int × Int)) × (List Bool) × (List Int) × Bool) × Int)) :=
  (mkN 1 (a0.length : Int)).bind fun n1 => (know_of_l0 Fu a0 a1 Fu 0 (a0, (List.replicate n1 (false : Bool)), [], true)).bind fun o => match o with | .inl r94 => some r94 | .inr x29 => (know_Set_close Fu x29).bind fun x77 => some (.inr (x77, 0))
set_option maxRecDepth 100000 in
set_option maxHeartbeats 2000000 in
theorem know_of_ok (Fu : Nat) {S0 : Snap} (Aa0 : Option Addr) (ca0 : Nat) (a0 : List (Int × Int × Int)) (hsa0 : slS (tyP tyI (tyP tyI tyI)) S0 Aa0 ca0 a0) (Aa1 : Option Addr) (ca1 : Nat) (a1 : List Int) (hsa1 : slS tyI S0 Aa1 ca1 a1) (r : Sum Int (((List (Int × Int × Int)) × (List Bool) × (List Int) × Bool) × Int)) (hf : know_of Fu a0 a1 = some r) (w0 : World) (hm : Mem w0 (ownL ([] ++ [.sn S0])) ([] ++ [.sn S0]) w0) :
    Calls Try.prog 18 #[.slice Aa0 a0.length ca0, .slice Aa1 a1.length ca1] w0 (Ret w0 S0 [] (fun v L1 S1 => (∃ r0, r = .inl r0 ∧ v = .tuple #[.pointer none, .int .i64 r0] ∧ L1 = [] ∧ r64 r0 ∧ True) ∨ (∃ r0, r = .inr r0 ∧ ∃ (g96 : Nat), ∃ (A97 : Option Addr), ∃ (c98 : Nat), ∃ (A100 : Option Addr), ∃ (c101 : Nat), ∃ (cs102 : List Value), ∃ (A104 : Option Addr), ∃ (c105 : Nat), ∃ (cs106 : List Value), v = .tuple #[.pointer (some ⟨g96, 0, none⟩), .int .i64 r0.2] ∧ L1 = [.box g96 54 ([.slice A97 r0.1.1.length c98, .slice A100 r0.1.2.1.length c101, .slice A104 r0.1.2.2.1.length c105, .bool r0.1.2.2.2]), .row (.slice A100 r0.1.2.1.length c101) 4 1 r0.1.2.1.length cs102, .row (.slice A104 r0.1.2.2.1.length c105) 3 1 r0.1.2.2.1.length cs106] ∧ slS (tyP tyI (tyP tyI tyI)) S1 A97 c98 r0.1.1 ∧ reps tyB S1 cs102 r0.1.2.1 ∧ reps tyI S1 cs106 r0.1.2.2.1 ∧ r64 r0.2 ∧ True))) := by
  unfold know_of at hf
  refine c_enterM Try.func18 rfl 36 rfl (by simp) _ hm _ rfl (fun a h => ?_)
  refine c_rs ?_
  refine sAV h (fun a h => ?_)
  refine sAV h (fun a h => ?_)
  refine l_end ?_
  refine c_rs ?_
  refine sMV h (fun a h => ?_)
  refine sMV h (fun a h => ?_)
  refine s_x h rfl rfl (by decide) (x_len h.k rfl Try.underlying22 rfl) (fun a h => ?_)
  obtain ⟨n1, h2, hf⟩ := bsome hf
  refine q_make (T := tyB) (S := S0) h rfl rfl rfl (by decide) Try.underlying33 zb_bool rfl rfl (q := false) rfl rfl rfl h2 (fun a w A3 cs4 hq5 h => ?_)
  refine s_x h rfl rfl (by decide) (x_build h.k rfl [(0, .slice Aa0 a0.length ca0), (1, .slice A3 (List.replicate n1 (false : Bool)).length n1), (3, .bool true)] rfl ([.slice Aa0 a0.length ca0, .slice A3 (List.replicate n1 (false : Bool)).length n1, .slice none 0 0, .bool true]) (by kernel_rfl)) (fun a h => ?_)
  refine s_box h rfl rfl rfl (by decide) rfl (cs := [.slice Aa0 a0.length ca0, .slice A3 (List.replicate n1 (false : Bool)).length n1, .slice none 0 0, .bool true]) (by rfl) (fun a w g6 h => ?_)
  refine sAV h (fun a h => ?_)
  refine l_end ?_
  refine wp_seq ?_
  refine c_rs ?_
  refine sMV h (fun a h => ?_)
  refine s_x h rfl rfl (by decide) (x_len h.k rfl Try.underlying23 rfl) (fun a h => ?_)
  refine sMV h (fun a h => ?_)
  refine l_end ?_
  obtain ⟨o7, hl8, hf⟩ := bsome hf
  refine c_fin (fun a w => ∃ (S26 : Snap), ∃ (x29 : (List (Int × Int × Int)) × (List Bool) × (List Int) × Bool), ∃ (A30 : Option Addr), ∃ (c31 : Nat), ∃ (A33 : Option Addr), ∃ (c34 : Nat), ∃ (cs35 : List Value), ∃ (A37 : Option Addr), ∃ (c38 : Nat), ∃ (cs39 : List Value), (.inr x29) = o7 ∧ Snap.le S0 S26 ∧ Up (ownL ([] ++ [.sn S0])) w0 S0 S26 ∧ slS (tyP tyI (tyP tyI tyI)) S26 A30 c31 x29.1 ∧ reps tyB S26 cs35 x29.2.1 ∧ reps tyI S26 cs39 x29.2.2.1 ∧ St 36 w0 (ownL ([] ++ [.sn S0])) [(6, .pointer (some ⟨g6, 0, none⟩))] [.box g6 54 ([.slice A30 x29.1.length c31, .slice A33 x29.2.1.length c34, .slice A37 x29.2.2.1.length c38, .bool x29.2.2.2]), .row (.slice A33 x29.2.1.length c34) 4 1 x29.2.1.length cs35, .row (.slice A37 x29.2.2.1.length c38) 3 1 x29.2.2.1.length cs39, .sn S26] a w) ?_ ?_
  · refine wp_block ?_
    have h := h.mem (h.m.nilrow 3 1)
    have h := h.pick [1, 2, 0, 3] (by decide) rfl
    refine c_loop (fun m42 a w => ∃ (S9 : Snap), ∃ (x12 : Int), ∃ (x14 : (List (Int × Int × Int)) × (List Bool) × (List Int) × Bool), ∃ (A15 : Option Addr), ∃ (c16 : Nat), ∃ (A18 : Option Addr), ∃ (c19 : Nat), ∃ (cs20 : List Value), ∃ (A22 : Option Addr), ∃ (c23 : Nat), ∃ (cs24 : List Value), know_of_l0 Fu a0 a1 m42 x12 x14 = some o7 ∧ Snap.le S0 S9 ∧ Up (ownL ([] ++ [.sn S0])) w0 S0 S9 ∧ r64 x12 ∧ slS (tyP tyI (tyP tyI tyI)) S9 A15 c16 x14.1 ∧ reps tyB S9 cs20 x14.2.1 ∧ reps tyI S9 cs24 x14.2.2.1 ∧ St 36 w0 (ownL ([] ++ [.sn S0])) [(0, .slice Aa0 a0.length ca0), (6, .pointer (some ⟨g6, 0, none⟩)), (15, .slice Aa1 a1.length ca1), (16, .int .i64 (a1.length : Int)), (17, .int .i64 x12)] [.box g6 54 ([.slice A15 x14.1.length c16, .slice A18 x14.2.1.length c19, .slice A22 x14.2.2.1.length c23, .bool x14.2.2.2]), .row (.slice A18 x14.2.1.length c19) 4 1 x14.2.1.length cs20, .row (.slice A22 x14.2.2.1.length c23) 3 1 x14.2.2.1.length cs24, .sn S9] a w) Fu ⟨S0, 0, (a0, (List.replicate n1 (false : Bool)), [], true), Aa0, ca0, A3, n1, cs4, none, 0, [], hl8, (Snap.le.refl _), (Up.refl _ _ _), (show r64 0 from ⟨by decide, by decide⟩), hsa0, hq5, (show reps tyI S0 [] [] from rfl), h.has (by exact ⟨rfl, rfl, rfl, rfl, rfl, trivial⟩)⟩ (fun m42 a w hI => ?_)
    obtain ⟨S9, x12, x14, A15, c16, A18, c19, cs20, A22, c23, cs24, hl41, le10, up11, hr13, hs17, hq21, hq25, h⟩ := hI
    obtain _ | m42 := m42
    · rw [know_of_l0] at hl41; cases hl41
    rw [know_of_l0] at hl41
    refine c_rs ?_
    refine s_x h rfl rfl (by decide) (x_bin h.k rfl rfl rfl ib_lss) (fun a h => ?_)
    refine l_end ?_
    refine c_cs h rfl (fun hb => ?_) (fun hb => ?_)
    · rw [if_pos (of_decide_eq_true hb)] at hl41
      refine wp_skip ?_
      refine e_thenN ?_
      refine wp_seq ?_
      refine wp_block ?_
      refine c_rs ?_
      obtain ⟨x44, h48, hl41⟩ := bsome hl41
      obtain ⟨m45, hi49, hm50, hx51⟩ := idx_some h48
      obtain ⟨b46, off47, k52, hA53, hu54, hc55⟩ := ((hsa1.mono le10)).at1 rfl hx51 (h.m.snOK (i := 3) rfl)
      obtain ⟨e57, hr56⟩ := hu54
      cases e57
      refine s_x h rfl rfl (by decide) (x_iaddrE h.k rfl Try.underlying23 sz_int hA53 rfl rfl hi49 hm50) (fun a h => ?_)
      refine s_x h rfl rfl (by decide) (x_ld h.k rfl Try.underlying3 rfl rfl (hc55 _ (h.m.snOK (i := 3) rfl))) (fun a h => ?_)
      refine sAV h (fun a h => ?_)
      refine l_end ?_
      refine wp_seq ?_
      refine c_rs ?_
      refine sMV h (fun a h => ?_)
      refine s_x h rfl rfl (by decide) (x_bin h.k rfl rfl rfl ib_lss) (fun a h => ?_)
      refine sMV h (fun a h => ?_)
      refine q_grp h 5 (t := 23) 28 ((decide (x44 < 0)) || (decide ((a0.length : Int) ≤ x44))) rfl (fun hB2 => ?_) (fun hB2 => ?_) (fun a w h => ?_)
      · refine g_no h rfl rfl rfl rfl hB2 rfl (by decide) (fun a h => ?_)
        refine g_no h rfl rfl rfl rfl hB2 rfl (by decide) (fun a h => ?_)
        refine g_no h rfl rfl rfl rfl hB2 rfl (by decide) (fun a h => ?_)
        refine g_no h rfl rfl rfl rfl hB2 rfl (by decide) (fun a h => ?_)
        refine s_x h rfl rfl (by decide) (x_pick (u' := undef) h.k rfl rfl (fun _ => rfl) (fun hh => absurd (hB2.symm.trans hh) (by decide))) (fun a h => ?_)
        exact (h.mid 4 rfl).val (by first | rfl | (rw [hB2]; first | rfl | simp))
      · refine g_yes h rfl rfl rfl rfl hB2 ?_
        refine sMV h (fun a h => ?_)
        refine g_yes h rfl rfl rfl rfl hB2 ?_
        refine sMV h (fun a h => ?_)
        refine g_yes h rfl rfl rfl rfl hB2 ?_
        refine s_x h rfl rfl (by decide) (x_len h.k rfl Try.underlying22 rfl) (fun a h => ?_)
        refine g_yes h rfl rfl rfl rfl hB2 ?_
        refine s_x h rfl rfl (by decide) (x_bin h.k rfl rfl rfl ib_geq) (fun a h => ?_)
        refine s_x h rfl rfl (by decide) (x_pick (u' := undef) h.k rfl rfl (fun hh => absurd (hB2.symm.trans hh) (by decide)) (fun _ => rfl)) (fun a h => ?_)
        exact (h.mid 4 rfl).val (by first | rfl | (rw [hB2]; first | rfl | simp))
      refine l_end ?_
      refine c_cond h rfl (fun hb => ?_) (fun hb => ?_)
      · rw [if_pos hb] at hl41
        refine c_rs ?_
        refine sAV h (fun a h => ?_)
        refine sAV h (fun a h => ?_)
        refine l_end ?_
        refine wp_ret ?_
        refine e_thenR ?_
        refine e_blkR ?_
        refine e_thenR ?_
        refine e_thenR ?_
        refine e_blkR ?_
        refine e_thenR ?_
        cases hl41
        try dsimp only at hf
        refine e_thenR ?_
        rw [← Option.some.inj hf]
        exact r_ret2 h rfl (rv_tmp h rfl) (rv_tmp h rfl) ⟨_, [], _, rfl, (.inl ⟨_, rfl, ⟨rfl, rfl, (show r64 2 from ⟨by decide, by decide⟩), trivial⟩⟩), rfl, up11, (h.m.pick [3] _ (by decide) rfl)⟩
      · rw [if_neg (by rw [hb]; decide)] at hl41
        refine wp_skip ?_
        refine e_thenN ?_
        refine c_r ?_
        refine sMV h (fun a h => ?_)
        refine sMV h (fun a h => ?_)
        obtain ⟨x60, h61, hl41⟩ := bsome hl41
        have hX := know_Set_learn_ok Fu (S0 := S9) x14 g6 A15 c16 A18 c19 cs20 A22 c23 cs24 hs17 hq21 hq25 x44 hr56 _ h61 _ (h.sub (Ls := [.box g6 54 ([.slice A15 x14.1.length c16, .slice A18 x14.2.1.length c19, .slice A22 x14.2.2.1.length c23, .bool x14.2.2.2]), .row (.slice A18 x14.2.1.length c19) 4 1 x14.2.1.length cs20, .row (.slice A22 x14.2.2.1.length c23) 3 1 x14.2.2.1.length cs24]))
        refine q_callY (Ls := [.box g6 54 ([.slice A15 x14.1.length c16, .slice A18 x14.2.1.length c19, .slice A22 x14.2.2.1.length c23, .bool x14.2.2.2]), .row (.slice A18 x14.2.1.length c19) 4 1 x14.2.1.length cs20, .row (.slice A22 x14.2.2.1.length c23) 3 1 x14.2.2.1.length cs24]) hX h up11 rfl rfl rfl (by decide) Try.func27 rfl rfl rfl (fun a w v L1 S63 hR le65 up64 h => ?_)
        obtain ⟨A66, c67, A69, c70, cs71, A73, c74, cs75, rfl, rfl, hs68, hq72, hq76, _⟩ := hR
        refine l_nil ?_
        refine e_blkN ?_
        refine e_thenN ?_
        refine c_r ?_
        refine s_x h rfl rfl (by decide) (x_bin h.k rfl rfl rfl (ib_add rfl)) (fun a h => ?_)
        refine sMV h (fun a h => ?_)
        refine l_nil ?_
        exact e_thenN ⟨m42, Nat.lt_succ_self _, S63, w64 (x12 + 1), x60.2, A66, c67, A69, c70, cs71, A73, c74, cs75, hl41, (le10.trans le65), up64, (w64_r _), hs68, hq72, hq76, h.has (by exact ⟨rfl, rfl, rfl, rfl, rfl, trivial⟩)⟩
    · rw [if_neg (of_decide_eq_false hb)] at hl41
      refine wp_exit ?_
      refine e_thenX ?_
      refine e_thenX ?_
      refine e_blkX ?_
      refine e_thenN ?_
      exact ⟨S9, x14, A15, c16, A18, c19, cs20, A22, c23, cs24, (Option.some.inj hl41), le10, up11, hs17, hq21, hq25, h.has (by exact ⟨rfl, trivial⟩)⟩
  · rintro a w ⟨S26, x29, A30, c31, A33, c34, cs35, A37, c38, cs39, rfl, le27, up28, hs32, hq36, hq40, h⟩
    try dsimp only at hf
    refine e_thenN ?_
    refine c_rs ?_
    refine sMV h (fun a h => ?_)
    obtain ⟨x77, h78, hf⟩ := bsome hf
    have hX := know_Set_close_ok Fu (S0 := S26) x29 g6 A30 c31 A33 c34 cs35 A37 c38 cs39 hs32 hq36 hq40 _ h78 _ (h.sub (Ls := [.box g6 54 ([.slice A30 x29.1.length c31, .slice A33 x29.2.1.length c34, .slice A37 x29.2.2.1.length c38, .bool x29.2.2.2]), .row (.slice A33 x29.2.1.length c34) 4 1 x29.2.1.length cs35, .row (.slice A37 x29.2.2.1.length c38) 3 1 x29.2.2.1.length cs39]))
    refine q_callY (Ls := [.box g6 54 ([.slice A30 x29.1.length c31, .slice A33 x29.2.1.length c34, .slice A37 x29.2.2.1.length c38, .bool x29.2.2.2]), .row (.slice A33 x29.2.1.length c34) 4 1 x29.2.1.length cs35, .row (.slice A37 x29.2.2.1.length c38) 3 1 x29.2.2.1.length cs39]) hX h up28 rfl rfl rfl (by decide) Try.func28 rfl rfl rfl (fun a w v L1 S80 hR le82 up81 h => ?_)
    obtain ⟨A83, c84, A86, c87, cs88, A90, c91, cs92, rfl, rfl, hs85, hq89, hq93, _⟩ := hR
    refine l_end ?_
    refine c_rs ?_
    refine sMV h (fun a h => ?_)
    refine sAV h (fun a h => ?_)
    refine sAV h (fun a h => ?_)
    refine l_end ?_
    refine wp_ret ?_
    obtain rfl := Option.some.inj hf
    exact r_ret2 h rfl (rv_tmp h rfl) (rv_tmp h rfl) ⟨_, [.box g6 54 ([.slice A83 x77.1.length c84, .slice A86 x77.2.1.length c87, .slice A90 x77.2.2.1.length c91, .bool x77.2.2.2]), .row (.slice A86 x77.2.1.length c87) 4 1 x77.2.1.length cs88, .row (.slice A90 x77.2.2.1.length c91) 3 1 x77.2.2.1.length cs92], _, rfl, (.inr ⟨_, rfl, ⟨g6, A83, c84, A86, c87, cs88, A90, c91, cs92, rfl, rfl, hs85, hq89, hq93, (show r64 0 from ⟨by decide, by decide⟩), trivial⟩⟩), rfl, up81, h.m⟩
def know_From (Fu : Nat) (a0 : (List (Int × Int × Int)) × (List ((Int × Int × Int) × Int)) × (List (Int × Int))) (a1 : List Int) : Option (Sum (Int × ((List (Int × Int × Int)) × (List ((Int × Int × Int) × Int)) × (List (Int × Int)))) (((List (Int × Int × Int)) × (List Bool) × (List Int) × Bool) × Int × ((List (Int × Int × Int)) × (List ((Int × Int × Int) × Int)) × (List (Int × Int))))) :=
  (term_Store_Put Fu a0 (0, 0, 0)).bind fun x14 => if x14.2.1 = 1 then (some (.inl x14.2)) else ((know_terms Fu x14.2.2).bind fun x34 => (know_of Fu x34 a1).bind fun x46 => (match x46 with | .inl x52 => (some (.inl (x52, x14.2.2))) | .inr x54 => (some (.inr (x54.1, x54.2, x14.2.2)))))
set_option maxRecDepth 100000 in
set_option maxHeartbeats 2000000 in
theorem know_From_ok (Fu : Nat) {S0 : Snap} (a0 : (List (Int × Int × Int)) × (List ((Int × Int × Int) × Int)) × (List (Int × Int))) (g1 : Nat) (A2 : Option Addr) (c3 : Nat) (cs4 : List Value) (g6 : Nat) (es7 : Array MapEntry) (cl8 : Nat) (g10 : Nat) (es11 : Array MapEntry) (cl12 : Nat) (hq5 : reps (tyP tyI (tyP tyI tyI)) S0 cs4 a0.1) (hm9 : mpS keyT tyI false S0 es7 cl8 a0.2.1) (hm13 : mpS keyI tyI false S0 es11 cl12 a0.2.2) (Aa1 : Option Addr) (ca1 : Nat) (a1 : List Int) (hsa1 : slS tyI S0 Aa1 ca1 a1) (r : Sum (Int × ((List (Int × Int × Int)) × (List ((Int × Int × Int) × Int)) × (List (Int × Int)))) (((List (Int × Int × Int)) × (List Bool) × (List Int) × Bool) × Int × ((List (Int × Int × Int)) × (List ((Int × Int × Int) × Int)) × (List (Int × Int))))) (hf : know_From Fu a0 a1 = some r) (w0 : World) (hm : Mem w0 (ownL ([.box g1 52 ([.slice A2 a0.1.length c3, .map (some g6), .map (some g10)]), .row (.slice A2 a0.1.length c3) 46 3 a0.1.length cs4, .obj g6 (.map es7 cl8), .obj g10 (.map es11 cl12)] ++ [.sn S0])) ([.box g1 52 ([.slice A2 a0.1.length c3, .map (some g6), .map (some g10)]), .row (.slice A2 a0.1.length c3) 46 3 a0.1.length cs4, .obj g6 (.map es7 cl8), .obj g10 (.map es11 cl12)] ++ [.sn S0]) w0) :
    Calls Try.prog 6 #[.pointer (some ⟨g1, 0, none⟩), .slice Aa1 a1.length ca1] w0 (Ret w0 S0 [.box g1 52 ([.slice A2 a0.1.length c3, .map (some g6), .map (some g10)]), .row (.slice A2 a0.1.length c3) 46 3 a0.1.length cs4, .obj g6 (.map es7 cl8), .obj g10 (.map es11 cl12)] (fun v L1 S1 => (∃ r0, r = .inl r0 ∧ ∃ (A69 : Option Addr), ∃ (c70 : Nat), ∃ (cs71 : List Value), ∃ (g73 : Nat), ∃ (es74 : Array MapEntry), ∃ (cl75 : Nat), ∃ (g77 : Nat), ∃ (es78 : Array MapEntry), ∃ (cl79 : Nat), v = .tuple #[.pointer none, .int .i64 r0.1] ∧ L1 = [.box g1 52 ([.slice A69 r0.2.1.length c70, .map (some g73), .map (some g77)]), .row (.slice A69 r0.2.1.length c70) 46 3 r0.2.1.length cs71, .obj g73 (.map es74 cl75), .obj g77 (.map es78 cl79)] ∧ r64 r0.1 ∧ reps (tyP tyI (tyP tyI tyI)) S1 cs71 r0.2.1 ∧ mpS keyT tyI false S1 es74 cl75 r0.2.2.1 ∧ mpS keyI tyI false S1 es78 cl79 r0.2.2.2 ∧ True) ∨ (∃ r0, r = .inr r0 ∧ ∃ (g81 : Nat), ∃ (A82 : Option Addr), ∃ (c83 : Nat), ∃ (A85 : Option Addr), ∃ (c86 : Nat), ∃ (cs87 : List Value), ∃ (A89 : Option Addr), ∃ (c90 : Nat), ∃ (cs91 : List Value), ∃ (A94 : Option Addr), ∃ (c95 : Nat), ∃ (cs96 : List Value), ∃ (g98 : Nat), ∃ (es99 : Array MapEntry), ∃ (cl100 : Nat), ∃ (g102 : Nat), ∃ (es103 : Array MapEntry), ∃ (cl104 : Nat), v = .tuple #[.pointer (some ⟨g81, 0, none⟩), .int .i64 r0.2.1] ∧ L1 = [.box g81 54 ([.slice A82 r0.1.1.length c83, .slice A85 r0.1.2.1.length c86, .slice A89 r0.1.2.2.1.length c90, .bool r0.1.2.2.2]), .row (.slice A85 r0.1.2.1.length c86) 4 1 r0.1.2.1.length cs87, .row (.slice A89 r0.1.2.2.1.length c90) 3 1 r0.1.2.2.1.length cs91, .box g1 52 ([.slice A94 r0.2.2.1.length c95, .map (some g98), .map (some g102)]), .row (.slice A94 r0.2.2.1.length c95) 46 3 r0.2.2.1.length cs96, .obj g98 (.map es99 cl100), .obj g102 (.map es103 cl104)] ∧ slS (tyP tyI (tyP tyI tyI)) S1 A82 c83 r0.1.1 ∧ reps tyB S1 cs87 r0.1.2.1 ∧ reps tyI S1 cs91 r0.1.2.2.1 ∧ r64 r0.2.1 ∧ reps (tyP tyI (tyP tyI tyI)) S1 cs96 r0.2.2.1 ∧ mpS keyT tyI false S1 es99 cl100 r0.2.2.2.1 ∧ mpS keyI tyI false S1 es103 cl104 r0.2.2.2.2 ∧ True))) := by
  unfold know_From at hf
  obtain ⟨B0, hB0⟩ : ∃ B0, B0 = (ownL ([.box g1 52 ([.slice A2 a0.1.length c3, .map (some g6), .map (some g10)]), .row (.slice A2 a0.1.length c3) 46 3 a0.1.length cs4, .obj g6 (.map es7 cl8), .obj g10 (.map es11 cl12)] ++ [.sn S0])) := ⟨_, rfl⟩
  rw [← hB0] at hm
  refine c_enterM Try.func6 rfl 23 rfl (by simp) _ hm _ rfl (fun a h => ?_)
  refine c_rs ?_
  refine sAV h (fun a h => ?_)
  refine sAV h (fun a h => ?_)
  refine l_end ?_
  refine wp_seq ?_
  refine c_rs ?_
  refine sMV h (fun a h => ?_)
  refine s_x h rfl rfl (by decide) (x_build h.k rfl [] rfl ([.int .i64 0, .int .i64 0, .int .i64 0]) (by kernel_rfl)) (fun a h => ?_)
  obtain ⟨x14, h15, hf⟩ := bsome hf
  have hX := term_Store_Put_ok Fu (S0 := S0) a0 g1 A2 c3 cs4 g6 es7 cl8 g10 es11 cl12 hq5 hm9 hm13 ([.int .i64 0, .int .i64 0, .int .i64 0]) (0, 0, 0) (⟨[.int .i64 0], [.int .i64 0, .int .i64 0], rfl, ⟨rfl, (show r64 0 from ⟨by decide, by decide⟩)⟩, ⟨[.int .i64 0], [.int .i64 0], rfl, ⟨rfl, (show r64 0 from ⟨by decide, by decide⟩)⟩, ⟨rfl, (show r64 0 from ⟨by decide, by decide⟩)⟩⟩⟩) _ h15 _ (h.sub (Ls := [.box g1 52 ([.slice A2 a0.1.length c3, .map (some g6), .map (some g10)]), .row (.slice A2 a0.1.length c3) 46 3 a0.1.length cs4, .obj g6 (.map es7 cl8), .obj g10 (.map es11 cl12)]))
  refine q_callY (Ls := [.box g1 52 ([.slice A2 a0.1.length c3, .map (some g6), .map (some g10)]), .row (.slice A2 a0.1.length c3) 46 3 a0.1.length cs4, .obj g6 (.map es7 cl8), .obj g10 (.map es11 cl12)]) hX h (Up.refl _ _ _) rfl rfl rfl (by decide) Try.func17 rfl rfl rfl (fun a w v L1 S17 hR le19 up18 h => ?_)
  obtain ⟨A22, c23, cs24, g26, es27, cl28, g30, es31, cl32, rfl, rfl, hr20, hr21, hq25, hm29, hm33, _⟩ := hR
  refine sMV h (fun a h => ?_)
  refine s_x h rfl rfl (by decide) (x_ext h.k rfl rfl rfl) (fun a h => ?_)
  refine s_x h rfl rfl (by decide) (x_ext h.k rfl rfl rfl) (fun a h => ?_)
  refine sAV h (fun a h => ?_)
  refine sAV h (fun a h => ?_)
  refine l_end ?_
  refine c_rs ?_
  refine sMV h (fun a h => ?_)
  refine s_x h rfl rfl (by decide) (x_bin h.k rfl rfl rfl ib_eql) (fun a h => ?_)
  refine l_end ?_
  refine c_cond h rfl (fun hb => ?_) (fun hb => ?_)
  · rw [if_pos (of_decide_eq_true hb)] at hf
    refine c_rs ?_
    refine sMV h (fun a h => ?_)
    refine sAV h (fun a h => ?_)
    refine sAV h (fun a h => ?_)
    refine l_end ?_
    refine wp_ret ?_
    refine e_thenR ?_
    obtain rfl := Option.some.inj hf
    subst hB0
    exact r_ret2 h rfl (rv_tmp h rfl) (rv_tmp h rfl) ⟨_, [.box g1 52 ([.slice A22 x14.2.2.1.length c23, .map (some g26), .map (some g30)]), .row (.slice A22 x14.2.2.1.length c23) 46 3 x14.2.2.1.length cs24, .obj g26 (.map es27 cl28), .obj g30 (.map es31 cl32)], _, rfl, (.inl ⟨_, rfl, ⟨A22, c23, cs24, g26, es27, cl28, g30, es31, cl32, rfl, rfl, hr21, hq25, hm29, hm33, trivial⟩⟩), rfl, up18, h.m⟩
  · rw [if_neg (of_decide_eq_false hb)] at hf
    refine wp_skip ?_
    refine e_thenN ?_
    refine c_rs ?_
    refine sMV h (fun a h => ?_)
    obtain ⟨x34, h35, hf⟩ := bsome hf
    have hX := know_terms_ok Fu (S0 := snapAll _) g1 x14.2.2 ⟨[.slice A22 x14.2.2.1.length c23, .map (some g26), .map (some g30)], h.m.boxAll (i := 0) rfl, ⟨[.slice A22 x14.2.2.1.length c23], [.map (some g26), .map (some g30)], rfl, ⟨_, _, rfl, h.m.rowAll (i := 1) rfl (j := 4) rfl hq25⟩, ⟨[.map (some g26)], [.map (some g30)], rfl, ⟨_, rfl, h.m.mapAll (i := 2) rfl (j := 4) rfl hm29⟩, ⟨_, rfl, h.m.mapAll (i := 3) rfl (j := 4) rfl hm33⟩⟩⟩⟩ _ h35 _ h.startAll
    refine q_callX hX h rfl rfl rfl (by decide) Try.func19 rfl rfl rfl (fun a w v L1 S1 hR hb1 h => ?_)
    obtain ⟨A37, c38, cs39, rfl, rfl, hq40, _⟩ := hR
    have hq41 := hq40.fl (S' := S17) (fl_P fl_I (fl_P fl_I fl_I))
    refine sMV h (fun a h => ?_)
    have h := h.pick [0, 5, 1, 2, 3, 4] (by decide) rfl
    obtain ⟨S42, le43, up44, hs45, h⟩ := q_freeze (T := tyP tyI (tyP tyI tyI)) h up18 hq41
    obtain ⟨x46, h47, hf⟩ := bsome hf
    have hX := know_of_ok Fu (S0 := S42) A37 c38 x34 hs45 Aa1 ca1 a1 (hsa1.mono (le19.trans le43)) _ h47 _ (h.sub (Ls := []))
    refine q_callY (Ls := []) hX h up44 rfl rfl rfl (by decide) Try.func18 rfl rfl rfl (fun a w v L1 S49 hR le51 up50 h => ?_)
    rcases hR with hR | hR
    · obtain ⟨x52, rfl, hR⟩ := hR
      dsimp only at hf
      obtain ⟨rfl, rfl, hr53, _⟩ := hR
      refine s_x h rfl rfl (by decide) (x_ext h.k rfl rfl rfl) (fun a h => ?_)
      refine s_x h rfl rfl (by decide) (x_ext h.k rfl rfl rfl) (fun a h => ?_)
      refine sAV h (fun a h => ?_)
      refine sAV h (fun a h => ?_)
      refine l_end ?_
      refine wp_ret ?_
      obtain rfl := Option.some.inj hf
      subst hB0
      exact r_ret2 h rfl (rv_tmp h rfl) (rv_tmp h rfl) ⟨_, [.box g1 52 ([.slice A22 x14.2.2.1.length c23, .map (some g26), .map (some g30)]), .row (.slice A22 x14.2.2.1.length c23) 46 3 x14.2.2.1.length cs24, .obj g26 (.map es27 cl28), .obj g30 (.map es31 cl32)], _, rfl, (.inl ⟨_, rfl, ⟨A22, c23, cs24, g26, es27, cl28, g30, es31, cl32, rfl, rfl, hr53, (hq25.mono (le43.trans le51)), (hm29.mono (le43.trans le51)), (hm33.mono (le43.trans le51)), trivial⟩⟩), rfl, up50, (h.m.pick [1, 2, 3, 4, 0] _ (by decide) rfl)⟩
    · obtain ⟨x54, rfl, hR⟩ := hR
      dsimp only at hf
      obtain ⟨g55, A56, c57, A59, c60, cs61, A63, c64, cs65, rfl, rfl, hs58, hq62, hq66, hr67, _⟩ := hR
      refine s_x h rfl rfl (by decide) (x_ext h.k rfl rfl rfl) (fun a h => ?_)
      refine s_x h rfl rfl (by decide) (x_ext h.k rfl rfl rfl) (fun a h => ?_)
      refine sAV h (fun a h => ?_)
      refine sAV h (fun a h => ?_)
      refine l_end ?_
      refine wp_ret ?_
      obtain rfl := Option.some.inj hf
      subst hB0
      exact r_ret2 h rfl (rv_tmp h rfl) (rv_tmp h rfl) ⟨_, [.box g55 54 ([.slice A56 x54.1.1.length c57, .slice A59 x54.1.2.1.length c60, .slice A63 x54.1.2.2.1.length c64, .bool x54.1.2.2.2]), .row (.slice A59 x54.1.2.1.length c60) 4 1 x54.1.2.1.length cs61, .row (.slice A63 x54.1.2.2.1.length c64) 3 1 x54.1.2.2.1.length cs65, .box g1 52 ([.slice A22 x14.2.2.1.length c23, .map (some g26), .map (some g30)]), .row (.slice A22 x14.2.2.1.length c23) 46 3 x14.2.2.1.length cs24, .obj g26 (.map es27 cl28), .obj g30 (.map es31 cl32)], _, rfl, (.inr ⟨_, rfl, ⟨g55, A56, c57, A59, c60, cs61, A63, c64, cs65, A22, c23, cs24, g26, es27, cl28, g30, es31, cl32, rfl, rfl, hs58, hq62, hq66, hr67, (hq25.mono (le43.trans le51)), (hm29.mono (le43.trans le51)), (hm33.mono (le43.trans le51)), trivial⟩⟩), rfl, up50, (h.m.pick [0, 1, 2, 4, 5, 6, 7, 3] _ (by decide) rfl)⟩
def know_Set_Has (Fu : Nat) (a0 : (List (Int × Int × Int)) × (List Bool) × (List Int) × Bool) (a1 : Int) : Option Bool :=
  (know_Set_made Fu a0).bind fun x1 => (if ((x1 && (decide (0 ≤ a1))) && (decide (a1 < (a0.2.1.length : Int)))) = true then (idx a0.2.1 a1).bind fun x45 => some x45 else some false).bind fun z26 => some z26
set_option maxRecDepth 100000 in
set_option maxHeartbeats 2000000 in
theorem know_Set_Has_ok (Fu : Nat) {S0 : Snap} (ga0 : Nat) (a0 : (List (Int × Int × Int)) × (List Bool) × (List Int) × Bool) (hpa0 : ptS (tyP (tyL (tyP tyI (tyP tyI tyI))) (tyP (tyL tyB) (tyP (tyL tyI) tyB))) S0 ga0 a0) (a1 : Int) (hra1 : r64 a1) (r : Bool) (hf : know_Set_Has Fu a0 a1 = some r) (w0 : World) (hm : Mem w0 (ownL ([] ++ [.sn S0])) ([] ++ [.sn S0]) w0) :
    Calls Try.prog 10 #[.pointer (some ⟨ga0, 0, none⟩), .int .i64 a1] w0 (Ret w0 S0 [] (fun v L1 S1 => v = .bool r ∧ L1 = [] ∧ True)) := by
  unfold know_Set_Has at hf
  refine c_enterM Try.func10 rfl 29 rfl (by simp) _ hm _ rfl (fun a h => ?_)
  refine c_rs ?_
  refine sAV h (fun a h => ?_)
  refine l_end ?_
  refine c_rs ?_
  refine sMV h (fun a h => ?_)
  obtain ⟨x1, h2, hf⟩ := bsome hf
  have hX := know_Set_made_ok Fu (S0 := snapAll _) ga0 a0 (hpa0.mono (h.m.leAll (i := 0) rfl)) _ h2 _ h.startAll
  refine q_callX hX h rfl rfl rfl (by decide) Try.func21 rfl rfl rfl (fun a w v L1 S1 hR hb1 h => ?_)
  obtain ⟨rfl, rfl, _⟩ := hR
  refine sMV h (fun a h => ?_)
  refine q_grp h 3 (t := 7) 10 (x1 && (decide (0 ≤ a1))) rfl (fun hB2 => ?_) (fun hB2 => ?_) (fun a w h => ?_)
  · refine g_yes h rfl rfl rfl rfl hB2 ?_
    refine sMV h (fun a h => ?_)
    refine g_yes h rfl rfl rfl rfl hB2 ?_
    refine s_x h rfl rfl (by decide) (x_bin h.k rfl rfl rfl ib_geq) (fun a h => ?_)
    refine s_x h rfl rfl (by decide) (x_pick (u' := undef) h.k rfl rfl (fun _ => rfl) (fun hh => absurd (hB2.symm.trans hh) (by decide))) (fun a h => ?_)
    exact (h.mid 2 rfl).val (by first | rfl | (rw [hB2]; first | rfl | simp))
  · refine g_no h rfl rfl rfl rfl hB2 rfl (by decide) (fun a h => ?_)
    refine g_no h rfl rfl rfl rfl hB2 rfl (by decide) (fun a h => ?_)
    refine s_x h rfl rfl (by decide) (x_pick (u' := undef) h.k rfl rfl (fun hh => absurd (hB2.symm.trans hh) (by decide)) (fun _ => rfl)) (fun a h => ?_)
    exact (h.mid 2 rfl).val (by first | rfl | (rw [hB2]; first | rfl | simp))
  refine sMV h (fun a h => ?_)
  refine q_grp h 8 (t := 11) 19 ((x1 && (decide (0 ≤ a1))) && (decide (a1 < (a0.2.1.length : Int)))) rfl (fun hB6 => ?_) (fun hB6 => ?_) (fun a w h => ?_)
  · refine g_yes h rfl rfl rfl rfl hB6 ?_
    refine sMV h (fun a h => ?_)
    refine g_yes h rfl rfl rfl rfl hB6 ?_
    refine sMV h (fun a h => ?_)
    refine g_yes h rfl rfl rfl rfl hB6 ?_
    obtain ⟨k8, hc9, ⟨k10, k11, rfl, ⟨A12, c13, rfl, hs14⟩, ⟨k15, k16, rfl, ⟨A17, c18, rfl, hs19⟩, ⟨k20, k21, rfl, ⟨A22, c23, rfl, hs24⟩, rfl⟩⟩⟩⟩ := id hpa0
    refine s_x h rfl rfl (by decide) (x_nil h.k rfl rfl) (fun a h => ?_)
    refine g_yes h rfl rfl rfl rfl hB6 ?_
    refine s_x h rfl rfl (by decide) (x_faddr h.k rfl Try.underlying54 rfl sz_Sbool rfl) (fun a h => ?_)
    refine g_yes h rfl rfl rfl rfl hB6 ?_
    refine s_x h rfl rfl (by decide) (x_ld h.k rfl Try.underlying33 rfl rfl (hc9 _ (h.m.snOK (i := 0) rfl) 1 _ rfl)) (fun a h => ?_)
    refine g_yes h rfl rfl rfl rfl hB6 ?_
    refine s_x h rfl rfl (by decide) (x_len h.k rfl Try.underlying33 rfl) (fun a h => ?_)
    refine g_yes h rfl rfl rfl rfl hB6 ?_
    refine s_x h rfl rfl (by decide) (x_bin h.k rfl rfl rfl ib_lss) (fun a h => ?_)
    refine s_x h rfl rfl (by decide) (x_pick (u' := undef) h.k rfl rfl (fun _ => rfl) (fun hh => absurd (hB6.symm.trans hh) (by decide))) (fun a h => ?_)
    exact (h.mid 7 rfl).val (by first | rfl | (rw [hB6]; first | rfl | simp))
  · refine g_no h rfl rfl rfl rfl hB6 rfl (by decide) (fun a h => ?_)
    refine g_no h rfl rfl rfl rfl hB6 rfl (by decide) (fun a h => ?_)
    refine g_no h rfl rfl rfl rfl hB6 rfl (by decide) (fun a h => ?_)
    refine g_no h rfl rfl rfl rfl hB6 rfl (by decide) (fun a h => ?_)
    refine g_no h rfl rfl rfl rfl hB6 rfl (by decide) (fun a h => ?_)
    refine g_no h rfl rfl rfl rfl hB6 rfl (by decide) (fun a h => ?_)
    refine g_no h rfl rfl rfl rfl hB6 rfl (by decide) (fun a h => ?_)
    refine s_x h rfl rfl (by decide) (x_pick (u' := undef) h.k rfl rfl (fun hh => absurd (hB6.symm.trans hh) (by decide)) (fun _ => rfl)) (fun a h => ?_)
    exact (h.mid 7 rfl).val (by first | rfl | (rw [hB6]; first | rfl | simp))
  refine sMV h (fun a h => ?_)
  obtain ⟨z26, hz25, hf⟩ := bsome hf
  refine q_grp h 8 (t := 20) 28 z26 rfl (fun hB15 => ?_) (fun hB15 => ?_) (fun a w h => ?_)
  · rw [if_pos hB15] at hz25
    refine g_yes h rfl rfl rfl rfl hB15 ?_
    refine sMV h (fun a h => ?_)
    refine g_yes h rfl rfl rfl rfl hB15 ?_
    obtain ⟨k28, hc29, ⟨k30, k31, rfl, ⟨A32, c33, rfl, hs34⟩, ⟨k35, k36, rfl, ⟨A37, c38, rfl, hs39⟩, ⟨k40, k41, rfl, ⟨A42, c43, rfl, hs44⟩, rfl⟩⟩⟩⟩ := id hpa0
    refine s_x h rfl rfl (by decide) (x_nil h.k rfl rfl) (fun a h => ?_)
    refine g_yes h rfl rfl rfl rfl hB15 ?_
    refine s_x h rfl rfl (by decide) (x_faddr h.k rfl Try.underlying54 rfl sz_Sbool rfl) (fun a h => ?_)
    refine g_yes h rfl rfl rfl rfl hB15 ?_
    refine s_x h rfl rfl (by decide) (x_ld h.k rfl Try.underlying33 rfl rfl (hc29 _ (h.m.snOK (i := 0) rfl) 1 _ rfl)) (fun a h => ?_)
    refine g_yes h rfl rfl rfl rfl hB15 ?_
    refine sMV h (fun a h => ?_)
    refine g_yes h rfl rfl rfl rfl hB15 ?_
    obtain ⟨x45, h49, hz25⟩ := bsome hz25
    obtain ⟨m46, hi50, hm51, hx52⟩ := idx_some h49
    obtain ⟨b47, off48, k53, hA54, hu55, hc56⟩ := (hs39).at1 rfl hx52 (h.m.snOK (i := 0) rfl)
    cases hu55
    refine s_x h rfl rfl (by decide) (x_iaddrE h.k rfl Try.underlying33 sz_bool hA54 rfl rfl hi50 hm51) (fun a h => ?_)
    refine g_yes h rfl rfl rfl rfl hB15 ?_
    refine s_x h rfl rfl (by decide) (x_ld h.k rfl Try.underlying4 rfl rfl (hc56 _ (h.m.snOK (i := 0) rfl))) (fun a h => ?_)
    refine s_x h rfl rfl (by decide) (x_pick (u' := undef) h.k rfl rfl (fun _ => rfl) (fun hh => absurd (hB15.symm.trans hh) (by decide))) (fun a h => ?_)
    exact (h.mid 7 rfl).val (by rw [Option.some.inj hz25])
  · refine g_no h rfl rfl rfl rfl hB15 rfl (by decide) (fun a h => ?_)
    refine g_no h rfl rfl rfl rfl hB15 rfl (by decide) (fun a h => ?_)
    refine g_no h rfl rfl rfl rfl hB15 rfl (by decide) (fun a h => ?_)
    refine g_no h rfl rfl rfl rfl hB15 rfl (by decide) (fun a h => ?_)
    refine g_no h rfl rfl rfl rfl hB15 rfl (by decide) (fun a h => ?_)
    refine g_no h rfl rfl rfl rfl hB15 rfl (by decide) (fun a h => ?_)
    refine g_no h rfl rfl rfl rfl hB15 rfl (by decide) (fun a h => ?_)
    rw [if_neg (by rw [hB15]; decide)] at hz25
    refine s_x h rfl rfl (by decide) (x_pick (u' := undef) h.k rfl rfl (fun hh => absurd (hB15.symm.trans hh) (by decide)) (fun _ => rfl)) (fun a h => ?_)
    exact (h.mid 7 rfl).val (by rw [Option.some.inj hz25])
  refine sAV h (fun a h => ?_)
  refine l_end ?_
  refine wp_ret ?_
  rw [← Option.some.inj hf]
  exact r_ret1 h rfl (rv_tmp h rfl) ⟨_, [], _, rfl, ⟨rfl, rfl, trivial⟩, rfl, (Up.refl _ _ _), h.m⟩
def know_Set_made_nil0 (Fu : Nat) : Option Bool :=
  some false
set_option maxRecDepth 100000 in
set_option maxHeartbeats 2000000 in
theorem know_Set_made_nil0_ok (Fu : Nat) {S0 : Snap}  (r : Bool) (hf : know_Set_made_nil0 Fu = some r) (w0 : World) (hm : Mem w0 (ownL ([] ++ [.sn S0])) ([] ++ [.sn S0]) w0) :
    Calls Try.prog 21 #[.pointer none] w0 (Ret w0 S0 [] (fun v L1 S1 => v = .bool r ∧ L1 = [] ∧ True)) := by
  unfold know_Set_made_nil0 at hf
  refine c_enterM Try.func21 rfl 11 rfl (by simp) _ hm _ rfl (fun a h => ?_)
  refine c_rs ?_
  refine sAV h (fun a h => ?_)
  refine l_end ?_
  refine c_rs ?_
  refine sMV h (fun a h => ?_)
  refine s_x h rfl rfl (by decide) (x_neq_nn h.k rfl Try.underlying25 rfl rfl) (fun a h => ?_)
  refine sMV h (fun a h => ?_)
  refine q_grp h 5 (t := 5) 10 false rfl (fun hB2 => ?_) (fun hB2 => ?_) (fun a w h => ?_)
  · exact absurd hB2 (by decide)
  · refine g_no h rfl rfl rfl rfl hB2 rfl (by decide) (fun a h => ?_)
    refine g_no h rfl rfl rfl rfl hB2 rfl (by decide) (fun a h => ?_)
    refine g_no h rfl rfl rfl rfl hB2 rfl (by decide) (fun a h => ?_)
    refine g_no h rfl rfl rfl rfl hB2 rfl (by decide) (fun a h => ?_)
    refine s_x h rfl rfl (by decide) (x_pick (u' := undef) h.k rfl rfl (fun hh => absurd (hB2.symm.trans hh) (by decide)) (fun _ => rfl)) (fun a h => ?_)
    exact (h.mid 4 rfl).val (by first | rfl | (rw [hB2]; first | rfl | simp))
  refine sAV h (fun a h => ?_)
  refine l_end ?_
  refine wp_ret ?_
  rw [← Option.some.inj hf]
  exact r_ret1 h rfl (rv_tmp h rfl) ⟨_, [], _, rfl, ⟨rfl, rfl, trivial⟩, rfl, (Up.refl _ _ _), h.m⟩
def know_Set_Has_nil0 (Fu : Nat) (a1 : Int) : Option Bool :=
  (know_Set_made_nil0 Fu).bind fun x1 => some false
set_option maxRecDepth 100000 in
set_option maxHeartbeats 2000000 in
theorem know_Set_Has_nil0_ok (Fu : Nat) {S0 : Snap} (a1 : Int) (hra1 : r64 a1) (r : Bool) (hf : know_Set_Has_nil0 Fu a1 = some r) (w0 : World) (hm : Mem w0 (ownL ([] ++ [.sn S0])) ([] ++ [.sn S0]) w0) :
    Calls Try.prog 10 #[.pointer none, .int .i64 a1] w0 (Ret w0 S0 [] (fun v L1 S1 => v = .bool r ∧ L1 = [] ∧ True)) := by
  unfold know_Set_Has_nil0 at hf
  refine c_enterM Try.func10 rfl 29 rfl (by simp) _ hm _ rfl (fun a h => ?_)
  refine c_rs ?_
  refine sAV h (fun a h => ?_)
  refine l_end ?_
  refine c_rs ?_
  refine sMV h (fun a h => ?_)
  obtain ⟨x1, h2, hf⟩ := bsome hf
  have hX := know_Set_made_nil0_ok Fu (S0 := snapAll _)  _ h2 _ h.startAll
  refine q_callX hX h rfl rfl rfl (by decide) Try.func21 rfl rfl rfl (fun a w v L1 S1 hR hb1 h => ?_)
  obtain ⟨rfl, rfl, _⟩ := hR
  obtain rfl : x1 = false := by unfold know_Set_made_nil0 at h2; exact (Option.some.inj h2).symm
  refine sMV h (fun a h => ?_)
  refine q_grp h 3 (t := 7) 10 false rfl (fun hB2 => ?_) (fun hB2 => ?_) (fun a w h => ?_)
  · exact absurd hB2 (by decide)
  · refine g_no h rfl rfl rfl rfl hB2 rfl (by decide) (fun a h => ?_)
    refine g_no h rfl rfl rfl rfl hB2 rfl (by decide) (fun a h => ?_)
    refine s_x h rfl rfl (by decide) (x_pick (u' := undef) h.k rfl rfl (fun hh => absurd (hB2.symm.trans hh) (by decide)) (fun _ => rfl)) (fun a h => ?_)
    exact (h.mid 2 rfl).val (by first | rfl | (rw [hB2]; first | rfl | simp))
  refine sMV h (fun a h => ?_)
  refine q_grp h 8 (t := 11) 19 false rfl (fun hB6 => ?_) (fun hB6 => ?_) (fun a w h => ?_)
  · exact absurd hB6 (by decide)
  · refine g_no h rfl rfl rfl rfl hB6 rfl (by decide) (fun a h => ?_)
    refine g_no h rfl rfl rfl rfl hB6 rfl (by decide) (fun a h => ?_)
    refine g_no h rfl rfl rfl rfl hB6 rfl (by decide) (fun a h => ?_)
    refine g_no h rfl rfl rfl rfl hB6 rfl (by decide) (fun a h => ?_)
    refine g_no h rfl rfl rfl rfl hB6 rfl (by decide) (fun a h => ?_)
    refine g_no h rfl rfl rfl rfl hB6 rfl (by decide) (fun a h => ?_)
    refine g_no h rfl rfl rfl rfl hB6 rfl (by decide) (fun a h => ?_)
    refine s_x h rfl rfl (by decide) (x_pick (u' := undef) h.k rfl rfl (fun hh => absurd (hB6.symm.trans hh) (by decide)) (fun _ => rfl)) (fun a h => ?_)
    exact (h.mid 7 rfl).val (by first | rfl | (rw [hB6]; first | rfl | simp))
  refine sMV h (fun a h => ?_)
  refine q_grp h 8 (t := 20) 28 false rfl (fun hB15 => ?_) (fun hB15 => ?_) (fun a w h => ?_)
  · exact absurd hB15 (by decide)
  · refine g_no h rfl rfl rfl rfl hB15 rfl (by decide) (fun a h => ?_)
    refine g_no h rfl rfl rfl rfl hB15 rfl (by decide) (fun a h => ?_)
    refine g_no h rfl rfl rfl rfl hB15 rfl (by decide) (fun a h => ?_)
    refine g_no h rfl rfl rfl rfl hB15 rfl (by decide) (fun a h => ?_)
    refine g_no h rfl rfl rfl rfl hB15 rfl (by decide) (fun a h => ?_)
    refine g_no h rfl rfl rfl rfl hB15 rfl (by decide) (fun a h => ?_)
    refine g_no h rfl rfl rfl rfl hB15 rfl (by decide) (fun a h => ?_)
    refine s_x h rfl rfl (by decide) (x_pick (u' := undef) h.k rfl rfl (fun hh => absurd (hB15.symm.trans hh) (by decide)) (fun _ => rfl)) (fun a h => ?_)
    exact (h.mid 7 rfl).val (by first | rfl | (rw [hB15]; first | rfl | simp))
  refine sAV h (fun a h => ?_)
  refine l_end ?_
  refine wp_ret ?_
  rw [← Option.some.inj hf]
  exact r_ret1 h rfl (rv_tmp h rfl) ⟨_, [], _, rfl, ⟨rfl, rfl, trivial⟩, rfl, (Up.refl _ _ _), h.m⟩
def know_Set_Len (Fu : Nat) (a0 : (List (Int × Int × Int)) × (List Bool) × (List Int) × Bool) : Option Int :=
  (know_Set_made Fu a0).bind fun x1 => if (!x1) = true then (some 0) else (some (a0.2.2.1.length : Int))
set_option maxRecDepth 100000 in
set_option maxHeartbeats 2000000 in
theorem know_Set_Len_ok (Fu : Nat) {S0 : Snap} (ga0 : Nat) (a0 : (List (Int × Int × Int)) × (List Bool) × (List Int) × Bool) (hpa0 : ptS (tyP (tyL (tyP tyI (tyP tyI tyI))) (tyP (tyL tyB) (tyP (tyL tyI) tyB))) S0 ga0 a0) (r : Int) (hf : know_Set_Len Fu a0 = some r) (w0 : World) (hm : Mem w0 (ownL ([] ++ [.sn S0])) ([] ++ [.sn S0]) w0) :
    Calls Try.prog 13 #[.pointer (some ⟨ga0, 0, none⟩)] w0 (Ret w0 S0 [] (fun v L1 S1 => v = .int .i64 r ∧ L1 = [] ∧ r64 r ∧ True)) := by
  unfold know_Set_Len at hf
  refine c_enterM Try.func13 rfl 11 rfl (by simp) _ hm _ rfl (fun a h => ?_)
  refine c_rs ?_
  refine sAV h (fun a h => ?_)
  refine l_end ?_
  refine wp_seq ?_
  refine c_rs ?_
  refine sMV h (fun a h => ?_)
  obtain ⟨x1, h2, hf⟩ := bsome hf
  have hX := know_Set_made_ok Fu (S0 := snapAll _) ga0 a0 (hpa0.mono (h.m.leAll (i := 0) rfl)) _ h2 _ h.startAll
  refine q_callX hX h rfl rfl rfl (by decide) Try.func21 rfl rfl rfl (fun a w v L1 S1 hR hb1 h => ?_)
  obtain ⟨rfl, rfl, _⟩ := hR
  refine s_x h rfl rfl (by decide) (x_not h.k rfl rfl) (fun a h => ?_)
  refine l_end ?_
  refine c_cond h rfl (fun hb => ?_) (fun hb => ?_)
  · rw [if_pos hb] at hf
    refine c_rs ?_
    refine sAV h (fun a h => ?_)
    refine l_end ?_
    refine wp_ret ?_
    refine e_thenR ?_
    rw [← Option.some.inj hf]
    exact r_ret1 h rfl (rv_tmp h rfl) ⟨_, [], _, rfl, ⟨rfl, rfl, (show r64 0 from ⟨by decide, by decide⟩), trivial⟩, rfl, (Up.refl _ _ _), h.m⟩
  · rw [if_neg (by rw [hb]; decide)] at hf
    refine wp_skip ?_
    refine e_thenN ?_
    refine c_rs ?_
    refine sMV h (fun a h => ?_)
    obtain ⟨k4, hc5, ⟨k6, k7, rfl, ⟨A8, c9, rfl, hs10⟩, ⟨k11, k12, rfl, ⟨A13, c14, rfl, hs15⟩, ⟨k16, k17, rfl, ⟨A18, c19, rfl, hs20⟩, rfl⟩⟩⟩⟩ := id hpa0
    refine s_x h rfl rfl (by decide) (x_nil h.k rfl rfl) (fun a h => ?_)
    refine s_x h rfl rfl (by decide) (x_faddr h.k rfl Try.underlying54 rfl sz_Sint rfl) (fun a h => ?_)
    refine s_x h rfl rfl (by decide) (x_ld h.k rfl Try.underlying23 rfl rfl (hc5 _ (h.m.snOK (i := 0) rfl) 2 _ rfl)) (fun a h => ?_)
    refine s_x h rfl rfl (by decide) (x_len h.k rfl Try.underlying23 rfl) (fun a h => ?_)
    refine sAV h (fun a h => ?_)
    refine l_end ?_
    refine wp_ret ?_
    obtain rfl := Option.some.inj hf
    exact r_ret1 h rfl (rv_tmp h rfl) ⟨_, [], _, rfl, ⟨rfl, rfl, (len_r (hs20).len), trivial⟩, rfl, (Up.refl _ _ _), h.m⟩
def know_Set_Len_nil0 (Fu : Nat) : Option Int :=
  (know_Set_made_nil0 Fu).bind fun x1 => some 0
set_option maxRecDepth 100000 in
set_option maxHeartbeats 2000000 in
theorem know_Set_Len_nil0_ok (Fu : Nat) {S0 : Snap}  (r : Int) (hf : know_Set_Len_nil0 Fu = some r) (w0 : World) (hm : Mem w0 (ownL ([] ++ [.sn S0])) ([] ++ [.sn S0]) w0) :
    Calls Try.prog 13 #[.pointer none] w0 (Ret w0 S0 [] (fun v L1 S1 => v = .int .i64 r ∧ L1 = [] ∧ r64 r ∧ True)) := by
  unfold know_Set_Len_nil0 at hf
  refine c_enterM Try.func13 rfl 11 rfl (by simp) _ hm _ rfl (fun a h => ?_)
  refine c_rs ?_
  refine sAV h (fun a h => ?_)
  refine l_end ?_
  refine wp_seq ?_
  refine c_rs ?_
  refine sMV h (fun a h => ?_)
  obtain ⟨x1, h2, hf⟩ := bsome hf
  have hX := know_Set_made_nil0_ok Fu (S0 := snapAll _)  _ h2 _ h.startAll
  refine q_callX hX h rfl rfl rfl (by decide) Try.func21 rfl rfl rfl (fun a w v L1 S1 hR hb1 h => ?_)
  obtain ⟨rfl, rfl, _⟩ := hR
  obtain rfl : x1 = false := by unfold know_Set_made_nil0 at h2; exact (Option.some.inj h2).symm
  refine s_x h rfl rfl (by decide) (x_not h.k rfl rfl) (fun a h => ?_)
  refine l_end ?_
  refine c_cond h rfl (fun hb => ?_) (fun hb => ?_)
  · refine c_rs ?_
    refine sAV h (fun a h => ?_)
    refine l_end ?_
    refine wp_ret ?_
    refine e_thenR ?_
    rw [← Option.some.inj hf]
    exact r_ret1 h rfl (rv_tmp h rfl) ⟨_, [], _, rfl, ⟨rfl, rfl, (show r64 0 from ⟨by decide, by decide⟩), trivial⟩, rfl, (Up.refl _ _ _), h.m⟩
  · exact absurd hb (by decide)
end Go.Proofs.Ytnjmlihmnkbgdaa
