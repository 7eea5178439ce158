/- Kn: Go functions as plain functions, and that they are so (written by xt.py). -/
import Derived.Test.YtnjmlihmnkbgdaaEt
import Derived.Test.YtnjmlihmnkbgdaaPj
set_option linter.unusedVariables false
set_option linter.unusedSimpArgs false
namespace Go.Proofs.Ytnjmlihmnkbgdaa
open Go.RowKit
def know_terms_l0 (Fu : Nat) (a0 : (List (Int × Int × Int)) × (List ((Int × Int × Int) × Int)) × (List (Int × Int))) (x1 : Int) : Nat → (List (Int × Int × Int)) → Int → Option ((List (Int × Int × Int)))
  | 0, _, _ => none
  | k + 1, x7, x12 => if x12 < x1 then ((term_Store_Get Fu a0 x12).bind fun x22 => (app 24 x7 ([x22.1])).bind fun x37 => know_terms_l0 Fu a0 x1 k x37 (w64 (x12 + 1))) else (some x7)
def know_terms (Fu : Nat) (a0 : (List (Int × Int × Int)) × (List ((Int × Int × Int) × Int)) × (List (Int × Int))) : Option ((List (Int × Int × Int))) :=
  (term_Store_Len Fu a0).bind fun x1 => (know_terms_l0 Fu a0 x1 Fu ([]) 0).bind fun x14 => some x14
set_option maxRecDepth 100000 in
set_option maxHeartbeats 2000000 in
theorem know_terms_ok (Fu : Nat) {S0 : Snap} (ga0 : Nat) (a0 : (List (Int × Int × Int)) × (List ((Int × Int × Int) × Int)) × (List (Int × Int))) (hpa0 : ptS (tyP (tyL (tyP tyI (tyP tyI tyI))) (tyP (tyM keyT tyI false) (tyM keyI tyI false))) S0 ga0 a0) (r : (List (Int × Int × Int))) (hf : know_terms Fu a0 = some r) (w0 : World) (hm : Mem w0 (ownL ([] ++ [.sn S0])) ([] ++ [.sn S0]) w0) :
    Calls Try.prog 19 #[.pointer (some ⟨ga0, 0, none⟩)] w0 (Ret w0 S0 [] (fun v L1 S1 => ∃ (A44 : Option Addr), ∃ (c45 : Nat), ∃ (cs46 : List Value), v = .slice A44 r.length c45 ∧ L1 = [.row (.slice A44 r.length c45) 46 3 r.length cs46] ∧ reps (tyP tyI (tyP tyI tyI)) S1 cs46 r ∧ True)) := by
  unfold know_terms at hf
  refine c_enterM Try.func19 rfl 24 rfl (by simp) _ hm _ rfl (fun a h => ?_)
  refine c_rs ?_
  refine sAV h (fun a h => ?_)
  refine l_end ?_
  refine c_rs ?_
  refine sAV h (fun a h => ?_)
  refine l_end ?_
  refine wp_seq ?_
  refine c_rs ?_
  refine sMV h (fun a h => ?_)
  obtain ⟨x1, h2, hf⟩ := bsome hf
  have hX := term_Store_Len_ok Fu (S0 := snapAll _) ga0 a0 (hpa0.mono (h.m.leAll (i := 0) rfl)) _ h2 _ h.startAll
  refine q_callX hX h rfl rfl rfl (by decide) Try.func8 rfl rfl rfl (fun a w v L1 S1 hR hb1 h => ?_)
  obtain ⟨rfl, rfl, hr4, _⟩ := hR
  refine sMV h (fun a h => ?_)
  refine l_end ?_
  obtain ⟨o5, hl6, hf⟩ := bsome hf
  refine c_fin (fun a w => ∃ (x14 : List (Int × Int × Int)), ∃ (A15 : Option Addr), ∃ (c16 : Nat), ∃ (cs17 : List Value), x14 = o5 ∧ reps (tyP tyI (tyP tyI tyI)) S0 cs17 x14 ∧ St 24 w0 (ownL ([] ++ [.sn S0])) [(3, .slice A15 x14.length c16)] [.row (.slice A15 x14.length c16) 46 3 x14.length cs17, .sn S0] a w) ?_ ?_
  · refine wp_block ?_
    have h := h.mem (h.m.nilrow 46 3)
    refine c_loop (fun m20 a w => ∃ (x7 : List (Int × Int × Int)), ∃ (A8 : Option Addr), ∃ (c9 : Nat), ∃ (cs10 : List Value), ∃ (x12 : Int), know_terms_l0 Fu a0 x1 m20 x7 x12 = some o5 ∧ reps (tyP tyI (tyP tyI tyI)) S0 cs10 x7 ∧ r64 x12 ∧ St 24 w0 (ownL ([] ++ [.sn S0])) [(0, .pointer (some ⟨ga0, 0, none⟩)), (3, .slice A8 x7.length c9), (8, .int .i64 x1), (9, .int .i64 x12)] [.row (.slice A8 x7.length c9) 46 3 x7.length cs10, .sn S0] a w) Fu ⟨[], none, 0, [], 0, hl6, (show reps (tyP tyI (tyP tyI tyI)) S0 [] [] from rfl), (show r64 0 from ⟨by decide, by decide⟩), h.has (by exact ⟨rfl, rfl, rfl, rfl, trivial⟩)⟩ (fun m20 a w hI => ?_)
    obtain ⟨x7, A8, c9, cs10, x12, hl19, hq11, hr13, h⟩ := hI
    obtain _ | m20 := m20
    · rw [know_terms_l0] at hl19; cases hl19
    rw [know_terms_l0] at hl19
    refine c_rs ?_
    refine s_x h rfl rfl (by decide) (x_bin h.k rfl rfl rfl ib_lss) (fun a h => ?_)
    refine l_end ?_
    refine c_cs h rfl (fun hb => ?_) (fun hb => ?_)
    · rw [if_pos (of_decide_eq_true hb)] at hl19
      refine wp_skip ?_
      refine e_thenN ?_
      refine wp_seq ?_
      refine wp_block ?_
      refine c_rs ?_
      refine sMV h (fun a h => ?_)
      refine sAV h (fun a h => ?_)
      refine l_end ?_
      refine c_rs ?_
      refine sMV h (fun a h => ?_)
      refine sMV h (fun a h => ?_)
      obtain ⟨x22, h23, hl19⟩ := bsome hl19
      have hX := term_Store_Get_ok Fu (S0 := snapAll _) ga0 a0 (hpa0.mono (h.m.leAll (i := 1) rfl)) x12 hr13 _ h23 _ h.startAll
      refine q_callX hX h rfl rfl rfl (by decide) Try.func29 rfl rfl rfl (fun a w v L1 S1 hR hb1 h => ?_)
      obtain ⟨k25, rfl, rfl, hv26, _⟩ := hR
      obtain ⟨k27, k28, rfl, ⟨rfl, hr29⟩, ⟨k30, k31, rfl, ⟨rfl, hr32⟩, ⟨rfl, hr33⟩⟩⟩ := hv26
      refine sMV h (fun a h => ?_)
      refine s_x h rfl rfl (by decide) (x_ext h.k rfl rfl rfl) (fun a h => ?_)
      refine s_x h rfl rfl (by decide) (x_ext h.k rfl rfl rfl) (fun a h => ?_)
      refine s_alloc h rfl rfl rfl (by decide) zi_api_Term rfl (fun a w g34 h => ?_)
      refine s_stW h rfl rfl rfl ag_api_Term rfl (es := [.int .i64 x22.1.1, .int .i64 x22.1.2.1, .int .i64 x22.1.2.2]) rfl rfl (by simp [Value.oneCell']) 0 rfl rfl (fun a w h => ?_)
      refine sAV h (fun a h => ?_)
      refine l_end ?_
      refine c_r ?_
      refine sMV h (fun a h => ?_)
      refine s_x h rfl rfl (by decide) (x_ldR h.k rfl ag_api_Term rfl ([.int .i64 x22.1.1, .int .i64 x22.1.2.1, .int .i64 x22.1.2.2]) rfl (h.m.range0 (i := 0) rfl)) (fun a h => ?_)
      refine q_bslice (T := tyP tyI (tyP tyI tyI)) (S := S0) h rfl rfl rfl (by decide) Try.underlying22 zi_api_Term (by decide) (by decide) (by decide) (by decide) [.agg ([.int .i64 x22.1.1, .int .i64 x22.1.2.1, .int .i64 x22.1.2.2]).toArray] rfl rfl (C := [[.int .i64 x22.1.1, .int .i64 x22.1.2.1, .int .i64 x22.1.2.2]]) rfl (xs := [x22.1]) ⟨[.int .i64 x22.1.1, .int .i64 x22.1.2.1, .int .i64 x22.1.2.2], _, rfl, ⟨[.int .i64 x22.1.1], [.int .i64 x22.1.2.1, .int .i64 x22.1.2.2], rfl, ⟨rfl, hr29⟩, ⟨[.int .i64 x22.1.2.1], [.int .i64 x22.1.2.2], rfl, ⟨rfl, hr32⟩, ⟨rfl, hr33⟩⟩⟩, rfl⟩ (by intro c hc; simp only [List.mem_cons, List.not_mem_nil, or_false] at hc; subst hc; rfl) (fun a w A35 h => ?_)
      have hb36 : reps (tyP tyI (tyP tyI tyI)) S0 ([[.int .i64 x22.1.1, .int .i64 x22.1.2.1, .int .i64 x22.1.2.2]] : List (List Value)).flatten [x22.1] := ⟨[.int .i64 x22.1.1, .int .i64 x22.1.2.1, .int .i64 x22.1.2.2], _, rfl, ⟨[.int .i64 x22.1.1], [.int .i64 x22.1.2.1, .int .i64 x22.1.2.2], rfl, ⟨rfl, hr29⟩, ⟨[.int .i64 x22.1.2.1], [.int .i64 x22.1.2.2], rfl, ⟨rfl, hr32⟩, ⟨rfl, hr33⟩⟩⟩, rfl⟩
      obtain ⟨x37, h38, hl19⟩ := bsome hl19
      refine q_append (T := tyP tyI (tyP tyI tyI)) (S := S0) h rfl rfl rfl (by decide) Try.underlying22 zb_api_Term rfl (by decide) rfl 2 rfl hq11 rfl hb36 (h.m.rdRowA (i := 0) rfl) h38 (fun a w A39 c40 cs41 hq42 h => ?_)
      refine sAV h (fun a h => ?_)
      refine l_nil ?_
      refine e_blkN ?_
      refine e_thenN ?_
      refine c_r ?_
      refine s_x h rfl rfl (by decide) (x_bin h.k rfl rfl rfl (ib_add rfl)) (fun a h => ?_)
      refine sMV h (fun a h => ?_)
      refine l_nil ?_
      have h := h.pick [2, 3] (by decide) rfl
      exact e_thenN ⟨m20, Nat.lt_succ_self _, x37, A39, c40, cs41, w64 (x12 + 1), hl19, hq42, (w64_r _), h.has (by exact ⟨rfl, rfl, rfl, rfl, trivial⟩)⟩
    · rw [if_neg (of_decide_eq_false hb)] at hl19
      refine wp_exit ?_
      refine e_thenX ?_
      refine e_thenX ?_
      refine e_blkX ?_
      refine e_thenN ?_
      exact ⟨x7, A8, c9, cs10, (Option.some.inj hl19), hq11, h.has (by exact ⟨rfl, trivial⟩)⟩
  · rintro a w ⟨x14, A15, c16, cs17, rfl, hq18, h⟩
    refine e_thenN ?_
    refine c_rs ?_
    refine sMV h (fun a h => ?_)
    refine sAV h (fun a h => ?_)
    refine l_end ?_
    refine wp_ret ?_
    rw [← Option.some.inj hf]
    exact r_ret1 h rfl (rv_tmp h rfl) ⟨_, [.row (.slice A15 x14.length c16) 46 3 x14.length cs17], _, rfl, ⟨A15, c16, cs17, rfl, rfl, hq18, trivial⟩, rfl, (Up.refl _ _ _), h.m⟩
def know_Set_made (Fu : Nat) (a0 : (List (Int × Int × Int)) × (List Bool) × (List Int) × Bool) : Option Bool :=
  some a0.2.2.2
set_option maxRecDepth 100000 in
set_option maxHeartbeats 2000000 in
theorem know_Set_made_ok (Fu : Nat) {S0 : Snap} (ga0 : Nat) (a0 : (List (Int × Int × Int)) × (List Bool) × (List Int) × Bool) (hpa0 : ptS (tyP (tyL (tyP tyI (tyP tyI tyI))) (tyP (tyL tyB) (tyP (tyL tyI) tyB))) S0 ga0 a0) (r : Bool) (hf : know_Set_made Fu a0 = some r) (w0 : World) (hm : Mem w0 (ownL ([] ++ [.sn S0])) ([] ++ [.sn S0]) w0) :
    Calls Try.prog 21 #[.pointer (some ⟨ga0, 0, none⟩)] w0 (Ret w0 S0 [] (fun v L1 S1 => v = .bool r ∧ L1 = [] ∧ True)) := by
  unfold know_Set_made at hf
  refine c_enterM Try.func21 rfl 11 rfl (by simp) _ hm _ rfl (fun a h => ?_)
  refine c_rs ?_
  refine sAV h (fun a h => ?_)
  refine l_end ?_
  refine c_rs ?_
  refine sMV h (fun a h => ?_)
  refine s_x h rfl rfl (by decide) (x_neq_pn h.k rfl Try.underlying25 rfl rfl) (fun a h => ?_)
  refine sMV h (fun a h => ?_)
  refine q_grp h 5 (t := 5) 10 a0.2.2.2 rfl (fun hB2 => ?_) (fun hB2 => ?_) (fun a w h => ?_)
  · refine g_yes h rfl rfl rfl rfl hB2 ?_
    refine sMV h (fun a h => ?_)
    refine g_yes h rfl rfl rfl rfl hB2 ?_
    obtain ⟨k3, hc4, ⟨k5, k6, rfl, ⟨A7, c8, rfl, hs9⟩, ⟨k10, k11, rfl, ⟨A12, c13, rfl, hs14⟩, ⟨k15, k16, rfl, ⟨A17, c18, rfl, hs19⟩, rfl⟩⟩⟩⟩ := id hpa0
    refine s_x h rfl rfl (by decide) (x_nil h.k rfl rfl) (fun a h => ?_)
    refine g_yes h rfl rfl rfl rfl hB2 ?_
    refine s_x h rfl rfl (by decide) (x_faddr h.k rfl Try.underlying54 rfl sz_bool rfl) (fun a h => ?_)
    refine g_yes h rfl rfl rfl rfl hB2 ?_
    refine s_x h rfl rfl (by decide) (x_ld h.k rfl Try.underlying4 rfl rfl (hc4 _ (h.m.snOK (i := 0) rfl) 3 _ rfl)) (fun a h => ?_)
    refine s_x h rfl rfl (by decide) (x_pick (u' := undef) h.k rfl rfl (fun _ => rfl) (fun hh => absurd (hB2.symm.trans hh) (by decide))) (fun a h => ?_)
    exact (h.mid 4 rfl).val (by first | rfl | (rw [hB2]; first | rfl | simp))
  · exact absurd hB2 (by decide)
  refine sAV h (fun a h => ?_)
  refine l_end ?_
  refine wp_ret ?_
  obtain rfl := Option.some.inj hf
  exact r_ret1 h rfl (rv_tmp h rfl) ⟨_, [], _, rfl, ⟨rfl, rfl, trivial⟩, rfl, (Up.refl _ _ _), h.m⟩
def know_Set_learn (Fu : Nat) (a0 : (List (Int × Int × Int)) × (List Bool) × (List Int) × Bool) (a1 : Int) : Option (Bool × ((List (Int × Int × Int)) × (List Bool) × (List Int) × Bool)) :=
  (ix a0.2.1.length a1).bind fun m13 => (a0.2.1[m13]?).bind fun x19 => if x19 = true then (some (false, a0)) else ((ix a0.2.1.length a1).bind fun m24 => (app 8 a0.2.2.1 ([a1])).bind fun x35 => some (true, (a0.1, (a0.2.1.set m24 true), x35, a0.2.2.2)))
set_option maxRecDepth 100000 in
set_option maxHeartbeats 2000000 in
theorem know_Set_learn_ok (Fu : Nat) {S0 : Snap} (a0 : (List (Int × Int × Int)) × (List Bool) × (List Int) × Bool) (g1 : Nat) (A2 : Option Addr) (c3 : Nat) (A5 : Option Addr) (c6 : Nat) (cs7 : List Value) (A9 : Option Addr) (c10 : Nat) (cs11 : List Value) (hs4 : slS (tyP tyI (tyP tyI tyI)) S0 A2 c3 a0.1) (hq8 : reps tyB S0 cs7 a0.2.1) (hq12 : reps tyI S0 cs11 a0.2.2.1) (a1 : Int) (hra1 : r64 a1) (r : Bool × ((List (Int × Int × Int)) × (List Bool) × (List Int) × Bool)) (hf : know_Set_learn Fu a0 a1 = some r) (w0 : World) (hm : Mem w0 (ownL ([.box g1 54 ([.slice A2 a0.1.length c3, .slice A5 a0.2.1.length c6, .slice A9 a0.2.2.1.length c10, .bool a0.2.2.2]), .row (.slice A5 a0.2.1.length c6) 4 1 a0.2.1.length cs7, .row (.slice A9 a0.2.2.1.length c10) 3 1 a0.2.2.1.length cs11] ++ [.sn S0])) ([.box g1 54 ([.slice A2 a0.1.length c3, .slice A5 a0.2.1.length c6, .slice A9 a0.2.2.1.length c10, .bool a0.2.2.2]), .row (.slice A5 a0.2.1.length c6) 4 1 a0.2.1.length cs7, .row (.slice A9 a0.2.2.1.length c10) 3 1 a0.2.2.1.length cs11] ++ [.sn S0]) w0) :
    Calls Try.prog 27 #[.pointer (some ⟨g1, 0, none⟩), .int .i64 a1] w0 (Ret w0 S0 [.box g1 54 ([.slice A2 a0.1.length c3, .slice A5 a0.2.1.length c6, .slice A9 a0.2.2.1.length c10, .bool a0.2.2.2]), .row (.slice A5 a0.2.1.length c6) 4 1 a0.2.1.length cs7, .row (.slice A9 a0.2.2.1.length c10) 3 1 a0.2.2.1.length cs11] (fun v L1 S1 => ∃ (A41 : Option Addr), ∃ (c42 : Nat), ∃ (A44 : Option Addr), ∃ (c45 : Nat), ∃ (cs46 : List Value), ∃ (A48 : Option Addr), ∃ (c49 : Nat), ∃ (cs50 : List Value), v = .bool r.1 ∧ L1 = [.box g1 54 ([.slice A41 r.2.1.length c42, .slice A44 r.2.2.1.length c45, .slice A48 r.2.2.2.1.length c49, .bool r.2.2.2.2]), .row (.slice A44 r.2.2.1.length c45) 4 1 r.2.2.1.length cs46, .row (.slice A48 r.2.2.2.1.length c49) 3 1 r.2.2.2.1.length cs50] ∧ slS (tyP tyI (tyP tyI tyI)) S1 A41 c42 r.2.1 ∧ reps tyB S1 cs46 r.2.2.1 ∧ reps tyI S1 cs50 r.2.2.2.1 ∧ True)) := by
  unfold know_Set_learn at hf
  obtain ⟨B0, hB0⟩ : ∃ B0, B0 = (ownL ([.box g1 54 ([.slice A2 a0.1.length c3, .slice A5 a0.2.1.length c6, .slice A9 a0.2.2.1.length c10, .bool a0.2.2.2]), .row (.slice A5 a0.2.1.length c6) 4 1 a0.2.1.length cs7, .row (.slice A9 a0.2.2.1.length c10) 3 1 a0.2.2.1.length cs11] ++ [.sn S0])) := ⟨_, rfl⟩
  rw [← hB0] at hm
  refine c_enterM Try.func27 rfl 28 rfl (by simp) _ hm _ rfl (fun a h => ?_)
  refine c_rs ?_
  refine sAV h (fun a h => ?_)
  refine l_end ?_
  refine wp_seq ?_
  refine c_rs ?_
  refine sMV h (fun a h => ?_)
  refine s_x h rfl rfl (by decide) (x_nil h.k rfl rfl) (fun a h => ?_)
  refine s_x h rfl rfl (by decide) (x_faddr h.k rfl Try.underlying54 rfl sz_Sbool rfl) (fun a h => ?_)
  refine s_x h rfl rfl (by decide) (x_ld h.k rfl Try.underlying33 rfl rfl ((h.m.cell (i := 0) rfl 1).trans rfl)) (fun a h => ?_)
  refine sMV h (fun a h => ?_)
  obtain ⟨m13, h14, hf⟩ := bsome hf
  obtain ⟨hi15, hm16⟩ := ix_some h14
  obtain ⟨g18, hA17⟩ := h.m.rowHead (i := 1) rfl (Nat.lt_of_le_of_lt (Nat.zero_le _) hm16)
  refine s_x h rfl rfl (by decide) (x_iaddrE h.k rfl Try.underlying33 sz_bool hA17 rfl rfl hi15 hm16) (fun a h => ?_)
  obtain ⟨x19, h20, hf⟩ := bsome hf
  obtain ⟨u21, hv22, hu23⟩ := (hq8).cell rfl h20
  cases hu23
  refine s_x h rfl rfl (by decide) (x_ld h.k rfl Try.underlying4 rfl rfl (h.m.cellRowE (i := 1) rfl hA17 _ (by rw [Nat.mul_one]; exact hv22))) (fun a h => ?_)
  refine l_end ?_
  refine c_cond h rfl (fun hb => ?_) (fun hb => ?_)
  · rw [if_pos hb] at hf
    refine c_rs ?_
    refine sAV h (fun a h => ?_)
    refine l_end ?_
    refine wp_ret ?_
    refine e_thenR ?_
    obtain rfl := Option.some.inj hf
    subst hB0
    exact r_ret1 h rfl (rv_tmp h rfl) ⟨_, [.box g1 54 ([.slice A2 a0.1.length c3, .slice A5 a0.2.1.length c6, .slice A9 a0.2.2.1.length c10, .bool a0.2.2.2]), .row (.slice A5 a0.2.1.length c6) 4 1 a0.2.1.length cs7, .row (.slice A9 a0.2.2.1.length c10) 3 1 a0.2.2.1.length cs11], _, rfl, ⟨A2, c3, A5, c6, cs7, A9, c10, cs11, rfl, rfl, hs4, hq8, hq12, trivial⟩, rfl, (Up.refl _ _ _), h.m⟩
  · rw [if_neg (by rw [hb]; decide)] at hf
    refine wp_skip ?_
    refine e_thenN ?_
    refine c_rs ?_
    refine sMV h (fun a h => ?_)
    refine s_x h rfl rfl (by decide) (x_nil h.k rfl rfl) (fun a h => ?_)
    refine s_x h rfl rfl (by decide) (x_faddr h.k rfl Try.underlying54 rfl sz_Sbool rfl) (fun a h => ?_)
    refine s_x h rfl rfl (by decide) (x_ld h.k rfl Try.underlying33 rfl rfl ((h.m.cell (i := 0) rfl 1).trans rfl)) (fun a h => ?_)
    refine sMV h (fun a h => ?_)
    obtain ⟨m24, h25, hf⟩ := bsome hf
    obtain ⟨hi26, hm27⟩ := ix_some h25
    obtain ⟨g29, hA28⟩ := h.m.rowHead (i := 1) rfl (Nat.lt_of_le_of_lt (Nat.zero_le _) hm27)
    refine s_x h rfl rfl (by decide) (x_iaddrE h.k rfl Try.underlying33 sz_bool hA28 rfl rfl hi26 hm27) (fun a h => ?_)
    refine q_setRow (T := tyB) (q := true) h rfl rfl rfl sz_bool hA28 rfl rfl 1 rfl rfl hq8 rfl (by first | exact hm27 | simpa using hm27) (fun a w cs30 hq31 h => ?_)
    have hl32 : a0.2.1.length = (a0.2.1.set m24 true).length := by simp only [List.length_set]
    rw [hl32] at h
    refine l_end ?_
    refine c_rs ?_
    refine sMV h (fun a h => ?_)
    refine sMV h (fun a h => ?_)
    refine s_x h rfl rfl (by decide) (x_nil h.k rfl rfl) (fun a h => ?_)
    refine s_x h rfl rfl (by decide) (x_faddr h.k rfl Try.underlying54 rfl sz_Sint rfl) (fun a h => ?_)
    refine s_x h rfl rfl (by decide) (x_ld h.k rfl Try.underlying23 rfl rfl ((h.m.cell (i := 0) rfl 2).trans rfl)) (fun a h => ?_)
    refine sMV h (fun a h => ?_)
    refine q_bslice (T := tyI) (S := S0) h rfl rfl rfl (by decide) Try.underlying23 zi_int (by decide) (by decide) (by decide) (by decide) [.int .i64 a1] rfl rfl (C := [[.int .i64 a1]]) rfl (xs := [a1]) ⟨[.int .i64 a1], _, rfl, ⟨rfl, hra1⟩, rfl⟩ (by intro c hc; simp only [List.mem_cons, List.not_mem_nil, or_false] at hc; subst hc; rfl) (fun a w A33 h => ?_)
    have hb34 : reps tyI S0 ([[.int .i64 a1]] : List (List Value)).flatten [a1] := ⟨[.int .i64 a1], _, rfl, ⟨rfl, hra1⟩, rfl⟩
    obtain ⟨x35, h36, hf⟩ := bsome hf
    refine q_append (T := tyI) (S := S0) h rfl rfl rfl (by decide) Try.underlying23 zb_int rfl (by decide) rfl 3 rfl hq12 rfl hb34 (h.m.rdRowA (i := 0) rfl) h36 (fun a w A37 c38 cs39 hq40 h => ?_)
    refine s_x h rfl rfl (by decide) (x_nil h.k rfl rfl) (fun a h => ?_)
    refine s_x h rfl rfl (by decide) (x_faddr h.k rfl Try.underlying54 rfl sz_Sint rfl) (fun a h => ?_)
    refine s_stb h rfl rfl rfl sz_Sint rfl rfl rfl 1 rfl (by first | decide | simp) (fun a w h => ?_)
    refine l_end ?_
    refine c_rs ?_
    refine sAV h (fun a h => ?_)
    refine l_end ?_
    refine wp_ret ?_
    obtain rfl := Option.some.inj hf
    subst hB0
    exact r_ret1 h rfl (rv_tmp h rfl) ⟨_, [.box g1 54 ([.slice A2 a0.1.length c3, .slice A5 (a0.2.1.set m24 true).length c6, .slice A37 x35.length c38, .bool a0.2.2.2]), .row (.slice A5 (a0.2.1.set m24 true).length c6) 4 1 (a0.2.1.set m24 true).length cs30, .row (.slice A37 x35.length c38) 3 1 x35.length cs39], _, rfl, ⟨A2, c3, A5, c6, cs30, A37, c38, cs39, rfl, rfl, hs4, hq31, hq40, trivial⟩, rfl, (Up.refl _ _ _), (h.m.pick [1, 2, 3, 4] _ (by decide) rfl)⟩
def know_Set_step (Fu : Nat) (a0 : (List (Int × Int × Int)) × (List Bool) × (List Int) × Bool) (a1 : Int) : Option (Bool × ((List (Int × Int × Int)) × (List Bool) × (List Int) × Bool)) :=
  (idx a0.1 a1).bind fun x13 => (if x13.1 = 2 then (ix a0.2.1.length x13.2.1).bind fun m35 => (a0.2.1[m35]?).bind fun x41 => some x41 else some false).bind fun z33 => if z33 = true then ((know_Set_learn Fu a0 a1).bind fun x46 => some x46) else ((if x13.1 = 3 then (ix a0.2.1.length a1).bind fun m65 => (a0.2.1[m65]?).bind fun x71 => some x71 else some false).bind fun z63 => (if z63 = true then (ix a0.2.1.length x13.2.1).bind fun m78 => (a0.2.1[m78]?).bind fun x84 => some x84 else some false).bind fun z76 => if z76 = true then ((know_Set_learn Fu a0 x13.2.2).bind fun x89 => some x89) else (some (false, a0)))
set_option maxRecDepth 100000 in
set_option maxHeartbeats 2000000 in
theorem know_Set_step_ok (Fu : Nat) {S0 : Snap} (a0 : (List (Int × Int × Int)) × (List Bool) × (List Int) × Bool) (g1 : Nat) (A2 : Option Addr) (c3 : Nat) (A5 : Option Addr) (c6 : Nat) (cs7 : List Value) (A9 : Option Addr) (c10 : Nat) (cs11 : List Value) (hs4 : slS (tyP tyI (tyP tyI tyI)) S0 A2 c3 a0.1) (hq8 : reps tyB S0 cs7 a0.2.1) (hq12 : reps tyI S0 cs11 a0.2.2.1) (a1 : Int) (hra1 : r64 a1) (r : Bool × ((List (Int × Int × Int)) × (List Bool) × (List Int) × Bool)) (hf : know_Set_step Fu a0 a1 = some r) (w0 : World) (hm : Mem w0 (ownL ([.box g1 54 ([.slice A2 a0.1.length c3, .slice A5 a0.2.1.length c6, .slice A9 a0.2.2.1.length c10, .bool a0.2.2.2]), .row (.slice A5 a0.2.1.length c6) 4 1 a0.2.1.length cs7, .row (.slice A9 a0.2.2.1.length c10) 3 1 a0.2.2.1.length cs11] ++ [.sn S0])) ([.box g1 54 ([.slice A2 a0.1.length c3, .slice A5 a0.2.1.length c6, .slice A9 a0.2.2.1.length c10, .bool a0.2.2.2]), .row (.slice A5 a0.2.1.length c6) 4 1 a0.2.1.length cs7, .row (.slice A9 a0.2.2.1.length c10) 3 1 a0.2.2.1.length cs11] ++ [.sn S0]) w0) :
    Calls Try.prog 35 #[.pointer (some ⟨g1, 0, none⟩), .int .i64 a1] w0 (Ret w0 S0 [.box g1 54 ([.slice A2 a0.1.length c3, .slice A5 a0.2.1.length c6, .slice A9 a0.2.2.1.length c10, .bool a0.2.2.2]), .row (.slice A5 a0.2.1.length c6) 4 1 a0.2.1.length cs7, .row (.slice A9 a0.2.2.1.length c10) 3 1 a0.2.2.1.length cs11] (fun v L1 S1 => ∃ (A106 : Option Addr), ∃ (c107 : Nat), ∃ (A109 : Option Addr), ∃ (c110 : Nat), ∃ (cs111 : List Value), ∃ (A113 : Option Addr), ∃ (c114 : Nat), ∃ (cs115 : List Value), v = .bool r.1 ∧ L1 = [.box g1 54 ([.slice A106 r.2.1.length c107, .slice A109 r.2.2.1.length c110, .slice A113 r.2.2.2.1.length c114, .bool r.2.2.2.2]), .row (.slice A109 r.2.2.1.length c110) 4 1 r.2.2.1.length cs111, .row (.slice A113 r.2.2.2.1.length c114) 3 1 r.2.2.2.1.length cs115] ∧ slS (tyP tyI (tyP tyI tyI)) S1 A106 c107 r.2.1 ∧ reps tyB S1 cs111 r.2.2.1 ∧ reps tyI S1 cs115 r.2.2.2.1 ∧ True)) := by
  unfold know_Set_step at hf
  obtain ⟨B0, hB0⟩ : ∃ B0, B0 = (ownL ([.box g1 54 ([.slice A2 a0.1.length c3, .slice A5 a0.2.1.length c6, .slice A9 a0.2.2.1.length c10, .bool a0.2.2.2]), .row (.slice A5 a0.2.1.length c6) 4 1 a0.2.1.length cs7, .row (.slice A9 a0.2.2.1.length c10) 3 1 a0.2.2.1.length cs11] ++ [.sn S0])) := ⟨_, rfl⟩
  rw [← hB0] at hm
  refine c_enterM Try.func35 rfl 57 rfl (by simp) _ hm _ rfl (fun a h => ?_)
  refine c_rs ?_
  refine sAV h (fun a h => ?_)
  refine l_end ?_
  refine c_rs ?_
  refine sMV h (fun a h => ?_)
  refine s_x h rfl rfl (by decide) (x_nil h.k rfl rfl) (fun a h => ?_)
  refine s_x h rfl rfl (by decide) (x_faddr h.k rfl Try.underlying54 rfl sz_Sapi_Term rfl) (fun a h => ?_)
  refine s_x h rfl rfl (by decide) (x_ld h.k rfl Try.underlying22 rfl rfl ((h.m.cell (i := 0) rfl 0).trans rfl)) (fun a h => ?_)
  refine sMV h (fun a h => ?_)
  obtain ⟨x13, h17, hf⟩ := bsome hf
  obtain ⟨m14, hi18, hm19, hx20⟩ := idx_some h17
  obtain ⟨b15, off16, k21, hA22, hu23, hc24⟩ := (hs4).at (by decide) hx20 (h.m.snOK (i := 3) rfl)
  obtain ⟨k25, k26, rfl, ⟨rfl, hr27⟩, ⟨k28, k29, rfl, ⟨rfl, hr30⟩, ⟨rfl, hr31⟩⟩⟩ := hu23
  refine s_x h rfl rfl (by decide) (x_iaddrE h.k rfl Try.underlying22 sz_api_Term hA22 rfl rfl hi18 hm19) (fun a h => ?_)
  refine s_x h rfl rfl (by decide) (x_ldR h.k rfl ag_api_Term rfl ([.int .i64 x13.1, .int .i64 x13.2.1, .int .i64 x13.2.2]) rfl (hc24 _ (h.m.snOK (i := 3) rfl))) (fun a h => ?_)
  refine s_alloc h rfl rfl rfl (by decide) zi_api_Term rfl (fun a w g32 h => ?_)
  refine s_stW h rfl rfl rfl ag_api_Term rfl (es := [.int .i64 x13.1, .int .i64 x13.2.1, .int .i64 x13.2.2]) rfl rfl (by simp [Value.oneCell']) 0 rfl rfl (fun a w h => ?_)
  refine l_end ?_
  refine wp_seq ?_
  refine wp_block ?_
  refine wp_seq ?_
  -- region 2 draws
  obtain ⟨z33, hz34, hf⟩ := bsome hf
  refine c_fin (fun a w => St 57 w0 B0 [(0, .pointer (some ⟨g1, 0, none⟩)), (1, .int .i64 a1), (5, .pointer (some ⟨g32, 0, none⟩)), (13, .bool z33)] [.box g1 54 ([.slice A2 a0.1.length c3, .slice A5 a0.2.1.length c6, .slice A9 a0.2.2.1.length c10, .bool a0.2.2.2]), .row (.slice A5 a0.2.1.length c6) 4 1 a0.2.1.length cs7, .row (.slice A9 a0.2.2.1.length c10) 3 1 a0.2.2.1.length cs11, .box g32 46 ([.int .i64 x13.1, .int .i64 x13.2.1, .int .i64 x13.2.2]), .sn S0] a w) ?_ (fun a w h => ?_)
  · refine d_start h (Mem _ _ _) 14 14 rfl (by kernel_rfl) (fun _ _ _ _ _ h => h) (fun _ h => h) (fun Q a w HE HN h HS => ?_)
    refine d_takeP h (fun _ => HS) HN 0 rfl (by kernel_rfl) (by kernel_rfl) (by kernel_rfl) (by decide) rfl rfl (by decide) (fun w' => x_faddr h.k rfl Try.underlying46 rfl sz_int rfl) (fun a h => ?_)
    refine d_take h HS HN 1 rfl (by kernel_rfl) (by kernel_rfl) (by kernel_rfl) (by kernel_rfl) (by kernel_rfl) rfl rfl (by decide) (fun w' hw => x_ld h.k rfl Try.underlying3 rfl rfl ((hw.cell (i := 0) rfl 0).trans rfl)) (fun a h => ?_)
    refine d_takeP h (fun _ => HS) HN 2 rfl (by kernel_rfl) (by kernel_rfl) (by kernel_rfl) (by decide) rfl rfl (by decide) (fun w' => x_bin h.k rfl rfl rfl ib_eql) (fun a h => ?_)
    refine d_takeP h (fun _ => HS) HN 3 rfl (by kernel_rfl) (by kernel_rfl) (by kernel_rfl) (by decide) rfl rfl (by decide) (fun w' => x_move h.k _ rfl rfl) (fun a h => ?_)
    refine d_split (t := 17) h rfl (fun hB3 => ?_) (fun hB3 => ?_)
    · rw [if_pos (of_decide_eq_true hB3)] at hz34
      obtain ⟨m35, h36, hz34⟩ := bsome hz34
      obtain ⟨x41, h42, hz34⟩ := bsome hz34
      refine d_takeP h (fun _ => HS) HN 4 rfl (by kernel_rfl) (by kernel_rfl) (by kernel_rfl) (by decide) (by rw [g_want h rfl rfl rfl rfl hB3]; rfl) rfl (by decide) (fun w' => x_move h.k _ rfl rfl) (fun a h => ?_)
      refine d_takeP h (fun _ => HS) HN 5 rfl (by kernel_rfl) (by kernel_rfl) (by kernel_rfl) (by decide) (by rw [g_want h rfl rfl rfl rfl hB3]; rfl) rfl (by decide) (fun w' => x_nil h.k rfl rfl) (fun a h => ?_)
      refine d_takeP h (fun _ => HS) HN 6 rfl (by kernel_rfl) (by kernel_rfl) (by kernel_rfl) (by decide) (by rw [g_want h rfl rfl rfl rfl hB3]; rfl) rfl (by decide) (fun w' => x_faddr h.k rfl Try.underlying54 rfl sz_Sbool rfl) (fun a h => ?_)
      refine d_takeY h HS HN 7 rfl (by kernel_rfl) (by kernel_rfl) (by kernel_rfl) (by kernel_rfl) (by kernel_rfl) (by rw [g_want h rfl rfl rfl rfl hB3]; rfl) rfl (by decide) (fun w' hw => x_ld h.k rfl Try.underlying33 rfl rfl ((hw.cell (i := 1) rfl 1).trans rfl)) (fun a h => ?_)
      refine d_takeP h (fun _ => HS) HN 8 rfl (by kernel_rfl) (by kernel_rfl) (by kernel_rfl) (by decide) (by rw [g_want h rfl rfl rfl rfl hB3]; rfl) rfl (by decide) (fun w' => x_faddr h.k rfl Try.underlying46 rfl sz_int rfl) (fun a h => ?_)
      refine d_takeY h HS HN 9 rfl (by kernel_rfl) (by kernel_rfl) (by kernel_rfl) (by kernel_rfl) (by kernel_rfl) (by rw [g_want h rfl rfl rfl rfl hB3]; rfl) rfl (by decide) (fun w' hw => x_ld h.k rfl Try.underlying3 rfl rfl ((hw.cell (i := 0) rfl 1).trans rfl)) (fun a h => ?_)
      obtain ⟨hi37, hm38⟩ := ix_some h36
      obtain ⟨g40, hA39⟩ := h.m.rowHead (i := 2) rfl (Nat.lt_of_le_of_lt (Nat.zero_le _) hm38)
      refine d_takeP h (fun _ => HS) HN 10 rfl (by kernel_rfl) (by kernel_rfl) (by kernel_rfl) (by decide) (by rw [g_want h rfl rfl rfl rfl hB3]; rfl) rfl (by decide) (fun w' => x_iaddrE h.k rfl Try.underlying33 sz_bool hA39 rfl rfl hi37 hm38) (fun a h => ?_)
      obtain ⟨u43, hv44, hu45⟩ := (hq8).cell rfl h42
      cases hu45
      refine d_takeY h HS HN 11 rfl (by kernel_rfl) (by kernel_rfl) (by kernel_rfl) (by kernel_rfl) (by kernel_rfl) (by rw [g_want h rfl rfl rfl rfl hB3]; rfl) rfl (by decide) (fun w' hw => x_ld h.k rfl Try.underlying4 rfl rfl (hw.cellRowE (i := 2) rfl hA39 _ (by rw [Nat.mul_one]; exact hv44))) (fun a h => ?_)
      refine d_takeP h (fun _ => HS) HN 12 rfl (by kernel_rfl) (by kernel_rfl) (by kernel_rfl) (by decide) rfl rfl (by decide) (fun w' => x_pick (v := .bool z33) (u' := undef) h.k rfl rfl (fun _ => by rw [← Option.some.inj hz34]; rfl) (fun hh => absurd (hB3.symm.trans hh) (by decide))) (fun a h => ?_)
      refine d_takeP h (fun _ => HS) HN 13 rfl (by kernel_rfl) (by kernel_rfl) (by kernel_rfl) (by decide) rfl rfl (by decide) (fun w' => x_assign h.k _ rfl rfl) (fun a h => ?_)
      refine d_done (by kernel_rfl) (HE _ _ ?_) _
      refine e_thenN ?_
      have h := h.pick [1, 2, 3, 0, 4] (by decide) rfl
      exact h.has (by exact ⟨rfl, rfl, rfl, rfl, trivial⟩)
    · rw [if_neg (of_decide_eq_false hB3)] at hz34
      refine d_takeNP h (fun _ => HS) HN 4 rfl (by kernel_rfl) (by kernel_rfl) (by kernel_rfl) (by decide) (by rw [g_want h rfl rfl rfl rfl hB3]; rfl) rfl (by decide) (fun a h => ?_)
      refine d_takeNP h (fun _ => HS) HN 5 rfl (by kernel_rfl) (by kernel_rfl) (by kernel_rfl) (by decide) (by rw [g_want h rfl rfl rfl rfl hB3]; rfl) rfl (by decide) (fun a h => ?_)
      refine d_takeNP h (fun _ => HS) HN 6 rfl (by kernel_rfl) (by kernel_rfl) (by kernel_rfl) (by decide) (by rw [g_want h rfl rfl rfl rfl hB3]; rfl) rfl (by decide) (fun a h => ?_)
      refine d_takeNP h (fun _ => HS) HN 7 rfl (by kernel_rfl) (by kernel_rfl) (by kernel_rfl) (by decide) (by rw [g_want h rfl rfl rfl rfl hB3]; rfl) rfl (by decide) (fun a h => ?_)
      refine d_takeNP h (fun _ => HS) HN 8 rfl (by kernel_rfl) (by kernel_rfl) (by kernel_rfl) (by decide) (by rw [g_want h rfl rfl rfl rfl hB3]; rfl) rfl (by decide) (fun a h => ?_)
      refine d_takeNP h (fun _ => HS) HN 9 rfl (by kernel_rfl) (by kernel_rfl) (by kernel_rfl) (by decide) (by rw [g_want h rfl rfl rfl rfl hB3]; rfl) rfl (by decide) (fun a h => ?_)
      refine d_takeNP h (fun _ => HS) HN 10 rfl (by kernel_rfl) (by kernel_rfl) (by kernel_rfl) (by decide) (by rw [g_want h rfl rfl rfl rfl hB3]; rfl) rfl (by decide) (fun a h => ?_)
      refine d_takeNP h (fun _ => HS) HN 11 rfl (by kernel_rfl) (by kernel_rfl) (by kernel_rfl) (by decide) (by rw [g_want h rfl rfl rfl rfl hB3]; rfl) rfl (by decide) (fun a h => ?_)
      refine d_takeP h (fun _ => HS) HN 12 rfl (by kernel_rfl) (by kernel_rfl) (by kernel_rfl) (by decide) rfl rfl (by decide) (fun w' => x_pick (v := .bool z33) (u' := undef) h.k rfl rfl (fun hh => absurd (hB3.symm.trans hh) (by decide)) (fun _ => by rw [← Option.some.inj hz34]; rfl)) (fun a h => ?_)
      refine d_takeP h (fun _ => HS) HN 13 rfl (by kernel_rfl) (by kernel_rfl) (by kernel_rfl) (by decide) rfl rfl (by decide) (fun w' => x_assign h.k _ rfl rfl) (fun a h => ?_)
      refine d_done (by kernel_rfl) (HE _ _ ?_) _
      refine e_thenN ?_
      have h := h.pick [1, 2, 3, 0, 4] (by decide) rfl
      exact h.has (by exact ⟨rfl, rfl, rfl, rfl, trivial⟩)
  refine e_thenN ?_
  refine c_cond h rfl (fun hb => ?_) (fun hb => ?_)
  · rw [if_pos hb] at hf
    refine c_rs ?_
    refine sMV h (fun a h => ?_)
    refine sMV h (fun a h => ?_)
    obtain ⟨x46, h47, hf⟩ := bsome hf
    have h := h.pick [0, 1, 2, 4, 3] (by decide) rfl
    have hX := know_Set_learn_ok Fu (S0 := S0) a0 g1 A2 c3 A5 c6 cs7 A9 c10 cs11 hs4 hq8 hq12 a1 hra1 _ h47 _ (h.sub (Ls := [.box g1 54 ([.slice A2 a0.1.length c3, .slice A5 a0.2.1.length c6, .slice A9 a0.2.2.1.length c10, .bool a0.2.2.2]), .row (.slice A5 a0.2.1.length c6) 4 1 a0.2.1.length cs7, .row (.slice A9 a0.2.2.1.length c10) 3 1 a0.2.2.1.length cs11]))
    refine q_callY (Ls := [.box g1 54 ([.slice A2 a0.1.length c3, .slice A5 a0.2.1.length c6, .slice A9 a0.2.2.1.length c10, .bool a0.2.2.2]), .row (.slice A5 a0.2.1.length c6) 4 1 a0.2.1.length cs7, .row (.slice A9 a0.2.2.1.length c10) 3 1 a0.2.2.1.length cs11]) hX h (Up.refl _ _ _) rfl rfl rfl (by decide) Try.func27 rfl rfl rfl (fun a w v L1 S49 hR le51 up50 h => ?_)
    obtain ⟨A52, c53, A55, c56, cs57, A59, c60, cs61, rfl, rfl, hs54, hq58, hq62, _⟩ := hR
    refine sAV h (fun a h => ?_)
    refine l_end ?_
    refine wp_ret ?_
    refine e_blkR ?_
    refine e_thenR ?_
    rw [← Option.some.inj hf]
    subst hB0
    exact r_ret1 h rfl (rv_tmp h rfl) ⟨_, [.box g1 54 ([.slice A52 x46.2.1.length c53, .slice A55 x46.2.2.1.length c56, .slice A59 x46.2.2.2.1.length c60, .bool x46.2.2.2.2]), .row (.slice A55 x46.2.2.1.length c56) 4 1 x46.2.2.1.length cs57, .row (.slice A59 x46.2.2.2.1.length c60) 3 1 x46.2.2.2.1.length cs61], _, rfl, ⟨A52, c53, A55, c56, cs57, A59, c60, cs61, rfl, rfl, hs54, hq58, hq62, trivial⟩, rfl, up50, (h.m.pick [0, 1, 2, 3] _ (by decide) rfl)⟩
  · rw [if_neg (by rw [hb]; decide)] at hf
    refine wp_seq ?_
    -- region 4 draws
    obtain ⟨z63, hz64, hf⟩ := bsome hf
    obtain ⟨z76, hz77, hf⟩ := bsome hf
    refine c_fin (fun a w => St 57 w0 B0 [(0, .pointer (some ⟨g1, 0, none⟩)), (5, .pointer (some ⟨g32, 0, none⟩)), (30, .bool z76)] [.box g1 54 ([.slice A2 a0.1.length c3, .slice A5 a0.2.1.length c6, .slice A9 a0.2.2.1.length c10, .bool a0.2.2.2]), .row (.slice A5 a0.2.1.length c6) 4 1 a0.2.1.length cs7, .row (.slice A9 a0.2.2.1.length c10) 3 1 a0.2.2.1.length cs11, .box g32 46 ([.int .i64 x13.1, .int .i64 x13.2.1, .int .i64 x13.2.2]), .sn S0] a w) ?_ (fun a w h => ?_)
    · refine d_start h (Mem _ _ _) 23 23 rfl (by kernel_rfl) (fun _ _ _ _ _ h => h) (fun _ h => h) (fun Q a w HE HN h HS => ?_)
      refine d_takeP h (fun _ => HS) HN 0 rfl (by kernel_rfl) (by kernel_rfl) (by kernel_rfl) (by decide) rfl rfl (by decide) (fun w' => x_faddr h.k rfl Try.underlying46 rfl sz_int rfl) (fun a h => ?_)
      refine d_take h HS HN 1 rfl (by kernel_rfl) (by kernel_rfl) (by kernel_rfl) (by kernel_rfl) (by kernel_rfl) rfl rfl (by decide) (fun w' hw => x_ld h.k rfl Try.underlying3 rfl rfl ((hw.cell (i := 3) rfl 0).trans rfl)) (fun a h => ?_)
      refine d_takeP h (fun _ => HS) HN 2 rfl (by kernel_rfl) (by kernel_rfl) (by kernel_rfl) (by decide) rfl rfl (by decide) (fun w' => x_bin h.k rfl rfl rfl ib_eql) (fun a h => ?_)
      refine d_takeP h (fun _ => HS) HN 3 rfl (by kernel_rfl) (by kernel_rfl) (by kernel_rfl) (by decide) rfl rfl (by decide) (fun w' => x_move h.k _ rfl rfl) (fun a h => ?_)
      refine d_split (t := 34) h rfl (fun hB3 => ?_) (fun hB3 => ?_)
      · rw [if_pos (of_decide_eq_true hB3)] at hz64
        obtain ⟨m65, h66, hz64⟩ := bsome hz64
        obtain ⟨x71, h72, hz64⟩ := bsome hz64
        refine d_takeP h (fun _ => HS) HN 4 rfl (by kernel_rfl) (by kernel_rfl) (by kernel_rfl) (by decide) (by rw [g_want h rfl rfl rfl rfl hB3]; rfl) rfl (by decide) (fun w' => x_move h.k _ rfl rfl) (fun a h => ?_)
        refine d_takeP h (fun _ => HS) HN 5 rfl (by kernel_rfl) (by kernel_rfl) (by kernel_rfl) (by decide) (by rw [g_want h rfl rfl rfl rfl hB3]; rfl) rfl (by decide) (fun w' => x_nil h.k rfl rfl) (fun a h => ?_)
        refine d_takeP h (fun _ => HS) HN 6 rfl (by kernel_rfl) (by kernel_rfl) (by kernel_rfl) (by decide) (by rw [g_want h rfl rfl rfl rfl hB3]; rfl) rfl (by decide) (fun w' => x_faddr h.k rfl Try.underlying54 rfl sz_Sbool rfl) (fun a h => ?_)
        refine d_takeY h HS HN 7 rfl (by kernel_rfl) (by kernel_rfl) (by kernel_rfl) (by kernel_rfl) (by kernel_rfl) (by rw [g_want h rfl rfl rfl rfl hB3]; rfl) rfl (by decide) (fun w' hw => x_ld h.k rfl Try.underlying33 rfl rfl ((hw.cell (i := 0) rfl 1).trans rfl)) (fun a h => ?_)
        refine d_takeP h (fun _ => HS) HN 8 rfl (by kernel_rfl) (by kernel_rfl) (by kernel_rfl) (by decide) (by rw [g_want h rfl rfl rfl rfl hB3]; rfl) rfl (by decide) (fun w' => x_move h.k _ rfl rfl) (fun a h => ?_)
        obtain ⟨hi67, hm68⟩ := ix_some h66
        obtain ⟨g70, hA69⟩ := h.m.rowHead (i := 1) rfl (Nat.lt_of_le_of_lt (Nat.zero_le _) hm68)
        refine d_takeP h (fun _ => HS) HN 9 rfl (by kernel_rfl) (by kernel_rfl) (by kernel_rfl) (by decide) (by rw [g_want h rfl rfl rfl rfl hB3]; rfl) rfl (by decide) (fun w' => x_iaddrE h.k rfl Try.underlying33 sz_bool hA69 rfl rfl hi67 hm68) (fun a h => ?_)
        obtain ⟨u73, hv74, hu75⟩ := (hq8).cell rfl h72
        cases hu75
        refine d_takeY h HS HN 10 rfl (by kernel_rfl) (by kernel_rfl) (by kernel_rfl) (by kernel_rfl) (by kernel_rfl) (by rw [g_want h rfl rfl rfl rfl hB3]; rfl) rfl (by decide) (fun w' hw => x_ld h.k rfl Try.underlying4 rfl rfl (hw.cellRowE (i := 1) rfl hA69 _ (by rw [Nat.mul_one]; exact hv74))) (fun a h => ?_)
        refine d_takeP h (fun _ => HS) HN 11 rfl (by kernel_rfl) (by kernel_rfl) (by kernel_rfl) (by decide) rfl rfl (by decide) (fun w' => x_pick (v := .bool z63) (u' := undef) h.k rfl rfl (fun _ => by rw [← Option.some.inj hz64]; rfl) (fun hh => absurd (hB3.symm.trans hh) (by decide))) (fun a h => ?_)
        refine d_takeP h (fun _ => HS) HN 12 rfl (by kernel_rfl) (by kernel_rfl) (by kernel_rfl) (by decide) rfl rfl (by decide) (fun w' => x_move h.k _ rfl rfl) (fun a h => ?_)
        refine d_split (t := 43) h rfl (fun hB12 => ?_) (fun hB12 => ?_)
        · rw [if_pos hB12] at hz77
          obtain ⟨m78, h79, hz77⟩ := bsome hz77
          obtain ⟨x84, h85, hz77⟩ := bsome hz77
          refine d_takeP h (fun _ => HS) HN 13 rfl (by kernel_rfl) (by kernel_rfl) (by kernel_rfl) (by decide) (by rw [g_want h rfl rfl rfl rfl hB12]; rfl) rfl (by decide) (fun w' => x_move h.k _ rfl rfl) (fun a h => ?_)
          refine d_takeP h (fun _ => HS) HN 14 rfl (by kernel_rfl) (by kernel_rfl) (by kernel_rfl) (by decide) (by rw [g_want h rfl rfl rfl rfl hB12]; rfl) rfl (by decide) (fun w' => x_nil h.k rfl rfl) (fun a h => ?_)
          refine d_takeP h (fun _ => HS) HN 15 rfl (by kernel_rfl) (by kernel_rfl) (by kernel_rfl) (by decide) (by rw [g_want h rfl rfl rfl rfl hB12]; rfl) rfl (by decide) (fun w' => x_faddr h.k rfl Try.underlying54 rfl sz_Sbool rfl) (fun a h => ?_)
          refine d_takeY h HS HN 16 rfl (by kernel_rfl) (by kernel_rfl) (by kernel_rfl) (by kernel_rfl) (by kernel_rfl) (by rw [g_want h rfl rfl rfl rfl hB12]; rfl) rfl (by decide) (fun w' hw => x_ld h.k rfl Try.underlying33 rfl rfl ((hw.cell (i := 0) rfl 1).trans rfl)) (fun a h => ?_)
          refine d_takeP h (fun _ => HS) HN 17 rfl (by kernel_rfl) (by kernel_rfl) (by kernel_rfl) (by decide) (by rw [g_want h rfl rfl rfl rfl hB12]; rfl) rfl (by decide) (fun w' => x_faddr h.k rfl Try.underlying46 rfl sz_int rfl) (fun a h => ?_)
          refine d_takeY h HS HN 18 rfl (by kernel_rfl) (by kernel_rfl) (by kernel_rfl) (by kernel_rfl) (by kernel_rfl) (by rw [g_want h rfl rfl rfl rfl hB12]; rfl) rfl (by decide) (fun w' hw => x_ld h.k rfl Try.underlying3 rfl rfl ((hw.cell (i := 3) rfl 1).trans rfl)) (fun a h => ?_)
          obtain ⟨hi80, hm81⟩ := ix_some h79
          obtain ⟨g83, hA82⟩ := h.m.rowHead (i := 1) rfl (Nat.lt_of_le_of_lt (Nat.zero_le _) hm81)
          refine d_takeP h (fun _ => HS) HN 19 rfl (by kernel_rfl) (by kernel_rfl) (by kernel_rfl) (by decide) (by rw [g_want h rfl rfl rfl rfl hB12]; rfl) rfl (by decide) (fun w' => x_iaddrE h.k rfl Try.underlying33 sz_bool hA82 rfl rfl hi80 hm81) (fun a h => ?_)
          obtain ⟨u86, hv87, hu88⟩ := (hq8).cell rfl h85
          cases hu88
          refine d_takeY h HS HN 20 rfl (by kernel_rfl) (by kernel_rfl) (by kernel_rfl) (by kernel_rfl) (by kernel_rfl) (by rw [g_want h rfl rfl rfl rfl hB12]; rfl) rfl (by decide) (fun w' hw => x_ld h.k rfl Try.underlying4 rfl rfl (hw.cellRowE (i := 1) rfl hA82 _ (by rw [Nat.mul_one]; exact hv87))) (fun a h => ?_)
          refine d_takeP h (fun _ => HS) HN 21 rfl (by kernel_rfl) (by kernel_rfl) (by kernel_rfl) (by decide) rfl rfl (by decide) (fun w' => x_pick (v := .bool z76) (u' := undef) h.k rfl rfl (fun _ => by rw [← Option.some.inj hz77]; rfl) (fun hh => absurd (hB12.symm.trans hh) (by decide))) (fun a h => ?_)
          refine d_takeP h (fun _ => HS) HN 22 rfl (by kernel_rfl) (by kernel_rfl) (by kernel_rfl) (by decide) rfl rfl (by decide) (fun w' => x_assign h.k _ rfl rfl) (fun a h => ?_)
          refine d_done (by kernel_rfl) (HE _ _ ?_) _
          refine e_thenN ?_
          exact h.has (by exact ⟨rfl, rfl, rfl, trivial⟩)
        · rw [if_neg (by rw [hB12]; decide)] at hz77
          refine d_takeNP h (fun _ => HS) HN 13 rfl (by kernel_rfl) (by kernel_rfl) (by kernel_rfl) (by decide) (by rw [g_want h rfl rfl rfl rfl hB12]; rfl) rfl (by decide) (fun a h => ?_)
          refine d_takeNP h (fun _ => HS) HN 14 rfl (by kernel_rfl) (by kernel_rfl) (by kernel_rfl) (by decide) (by rw [g_want h rfl rfl rfl rfl hB12]; rfl) rfl (by decide) (fun a h => ?_)
          refine d_takeNP h (fun _ => HS) HN 15 rfl (by kernel_rfl) (by kernel_rfl) (by kernel_rfl) (by decide) (by rw [g_want h rfl rfl rfl rfl hB12]; rfl) rfl (by decide) (fun a h => ?_)
          refine d_takeNP h (fun _ => HS) HN 16 rfl (by kernel_rfl) (by kernel_rfl) (by kernel_rfl) (by decide) (by rw [g_want h rfl rfl rfl rfl hB12]; rfl) rfl (by decide) (fun a h => ?_)
          refine d_takeNP h (fun _ => HS) HN 17 rfl (by kernel_rfl) (by kernel_rfl) (by kernel_rfl) (by decide) (by rw [g_want h rfl rfl rfl rfl hB12]; rfl) rfl (by decide) (fun a h => ?_)
          refine d_takeNP h (fun _ => HS) HN 18 rfl (by kernel_rfl) (by kernel_rfl) (by kernel_rfl) (by decide) (by rw [g_want h rfl rfl rfl rfl hB12]; rfl) rfl (by decide) (fun a h => ?_)
          refine d_takeNP h (fun _ => HS) HN 19 rfl (by kernel_rfl) (by kernel_rfl) (by kernel_rfl) (by decide) (by rw [g_want h rfl rfl rfl rfl hB12]; rfl) rfl (by decide) (fun a h => ?_)
          refine d_takeNP h (fun _ => HS) HN 20 rfl (by kernel_rfl) (by kernel_rfl) (by kernel_rfl) (by decide) (by rw [g_want h rfl rfl rfl rfl hB12]; rfl) rfl (by decide) (fun a h => ?_)
          refine d_takeP h (fun _ => HS) HN 21 rfl (by kernel_rfl) (by kernel_rfl) (by kernel_rfl) (by decide) rfl rfl (by decide) (fun w' => x_pick (v := .bool z76) (u' := undef) h.k rfl rfl (fun hh => absurd (hB12.symm.trans hh) (by decide)) (fun _ => by rw [← Option.some.inj hz77]; rfl)) (fun a h => ?_)
          refine d_takeP h (fun _ => HS) HN 22 rfl (by kernel_rfl) (by kernel_rfl) (by kernel_rfl) (by decide) rfl rfl (by decide) (fun w' => x_assign h.k _ rfl rfl) (fun a h => ?_)
          refine d_done (by kernel_rfl) (HE _ _ ?_) _
          refine e_thenN ?_
          exact h.has (by exact ⟨rfl, rfl, rfl, trivial⟩)
      · rw [if_neg (of_decide_eq_false hB3)] at hz64
        refine d_takeNP h (fun _ => HS) HN 4 rfl (by kernel_rfl) (by kernel_rfl) (by kernel_rfl) (by decide) (by rw [g_want h rfl rfl rfl rfl hB3]; rfl) rfl (by decide) (fun a h => ?_)
        refine d_takeNP h (fun _ => HS) HN 5 rfl (by kernel_rfl) (by kernel_rfl) (by kernel_rfl) (by decide) (by rw [g_want h rfl rfl rfl rfl hB3]; rfl) rfl (by decide) (fun a h => ?_)
        refine d_takeNP h (fun _ => HS) HN 6 rfl (by kernel_rfl) (by kernel_rfl) (by kernel_rfl) (by decide) (by rw [g_want h rfl rfl rfl rfl hB3]; rfl) rfl (by decide) (fun a h => ?_)
        refine d_takeNP h (fun _ => HS) HN 7 rfl (by kernel_rfl) (by kernel_rfl) (by kernel_rfl) (by decide) (by rw [g_want h rfl rfl rfl rfl hB3]; rfl) rfl (by decide) (fun a h => ?_)
        refine d_takeNP h (fun _ => HS) HN 8 rfl (by kernel_rfl) (by kernel_rfl) (by kernel_rfl) (by decide) (by rw [g_want h rfl rfl rfl rfl hB3]; rfl) rfl (by decide) (fun a h => ?_)
        refine d_takeNP h (fun _ => HS) HN 9 rfl (by kernel_rfl) (by kernel_rfl) (by kernel_rfl) (by decide) (by rw [g_want h rfl rfl rfl rfl hB3]; rfl) rfl (by decide) (fun a h => ?_)
        refine d_takeNP h (fun _ => HS) HN 10 rfl (by kernel_rfl) (by kernel_rfl) (by kernel_rfl) (by decide) (by rw [g_want h rfl rfl rfl rfl hB3]; rfl) rfl (by decide) (fun a h => ?_)
        refine d_takeP h (fun _ => HS) HN 11 rfl (by kernel_rfl) (by kernel_rfl) (by kernel_rfl) (by decide) rfl rfl (by decide) (fun w' => x_pick (v := .bool z63) (u' := undef) h.k rfl rfl (fun hh => absurd (hB3.symm.trans hh) (by decide)) (fun _ => by rw [← Option.some.inj hz64]; rfl)) (fun a h => ?_)
        refine d_takeP h (fun _ => HS) HN 12 rfl (by kernel_rfl) (by kernel_rfl) (by kernel_rfl) (by decide) rfl rfl (by decide) (fun w' => x_move h.k _ rfl rfl) (fun a h => ?_)
        have hB12 : z63 = false := (Option.some.inj hz64).symm
        rw [if_neg (by rw [hB12]; decide)] at hz77
        refine d_takeNP h (fun _ => HS) HN 13 rfl (by kernel_rfl) (by kernel_rfl) (by kernel_rfl) (by decide) (by rw [g_want h rfl rfl rfl rfl hB12]; rfl) rfl (by decide) (fun a h => ?_)
        refine d_takeNP h (fun _ => HS) HN 14 rfl (by kernel_rfl) (by kernel_rfl) (by kernel_rfl) (by decide) (by rw [g_want h rfl rfl rfl rfl hB12]; rfl) rfl (by decide) (fun a h => ?_)
        refine d_takeNP h (fun _ => HS) HN 15 rfl (by kernel_rfl) (by kernel_rfl) (by kernel_rfl) (by decide) (by rw [g_want h rfl rfl rfl rfl hB12]; rfl) rfl (by decide) (fun a h => ?_)
        refine d_takeNP h (fun _ => HS) HN 16 rfl (by kernel_rfl) (by kernel_rfl) (by kernel_rfl) (by decide) (by rw [g_want h rfl rfl rfl rfl hB12]; rfl) rfl (by decide) (fun a h => ?_)
        refine d_takeNP h (fun _ => HS) HN 17 rfl (by kernel_rfl) (by kernel_rfl) (by kernel_rfl) (by decide) (by rw [g_want h rfl rfl rfl rfl hB12]; rfl) rfl (by decide) (fun a h => ?_)
        refine d_takeNP h (fun _ => HS) HN 18 rfl (by kernel_rfl) (by kernel_rfl) (by kernel_rfl) (by decide) (by rw [g_want h rfl rfl rfl rfl hB12]; rfl) rfl (by decide) (fun a h => ?_)
        refine d_takeNP h (fun _ => HS) HN 19 rfl (by kernel_rfl) (by kernel_rfl) (by kernel_rfl) (by decide) (by rw [g_want h rfl rfl rfl rfl hB12]; rfl) rfl (by decide) (fun a h => ?_)
        refine d_takeNP h (fun _ => HS) HN 20 rfl (by kernel_rfl) (by kernel_rfl) (by kernel_rfl) (by decide) (by rw [g_want h rfl rfl rfl rfl hB12]; rfl) rfl (by decide) (fun a h => ?_)
        refine d_takeP h (fun _ => HS) HN 21 rfl (by kernel_rfl) (by kernel_rfl) (by kernel_rfl) (by decide) rfl rfl (by decide) (fun w' => x_pick (v := .bool z76) (u' := undef) h.k rfl rfl (fun hh => absurd (hB12.symm.trans hh) (by decide)) (fun _ => by rw [← Option.some.inj hz77]; rfl)) (fun a h => ?_)
        refine d_takeP h (fun _ => HS) HN 22 rfl (by kernel_rfl) (by kernel_rfl) (by kernel_rfl) (by decide) rfl rfl (by decide) (fun w' => x_assign h.k _ rfl rfl) (fun a h => ?_)
        refine d_done (by kernel_rfl) (HE _ _ ?_) _
        refine e_thenN ?_
        exact h.has (by exact ⟨rfl, rfl, rfl, trivial⟩)
    refine e_thenN ?_
    refine c_cond h rfl (fun hb => ?_) (fun hb => ?_)
    · rw [if_pos hb] at hf
      refine c_rs ?_
      refine sMV h (fun a h => ?_)
      refine s_x h rfl rfl (by decide) (x_faddr h.k rfl Try.underlying46 rfl sz_int rfl) (fun a h => ?_)
      refine s_x h rfl rfl (by decide) (x_ld h.k rfl Try.underlying3 rfl rfl ((h.m.cell (i := 3) rfl 2).trans rfl)) (fun a h => ?_)
      obtain ⟨x89, h90, hf⟩ := bsome hf
      have h := h.pick [0, 1, 2, 4, 3] (by decide) rfl
      have hX := know_Set_learn_ok Fu (S0 := S0) a0 g1 A2 c3 A5 c6 cs7 A9 c10 cs11 hs4 hq8 hq12 x13.2.2 hr31 _ h90 _ (h.sub (Ls := [.box g1 54 ([.slice A2 a0.1.length c3, .slice A5 a0.2.1.length c6, .slice A9 a0.2.2.1.length c10, .bool a0.2.2.2]), .row (.slice A5 a0.2.1.length c6) 4 1 a0.2.1.length cs7, .row (.slice A9 a0.2.2.1.length c10) 3 1 a0.2.2.1.length cs11]))
      refine q_callY (Ls := [.box g1 54 ([.slice A2 a0.1.length c3, .slice A5 a0.2.1.length c6, .slice A9 a0.2.2.1.length c10, .bool a0.2.2.2]), .row (.slice A5 a0.2.1.length c6) 4 1 a0.2.1.length cs7, .row (.slice A9 a0.2.2.1.length c10) 3 1 a0.2.2.1.length cs11]) hX h (Up.refl _ _ _) rfl rfl rfl (by decide) Try.func27 rfl rfl rfl (fun a w v L1 S92 hR le94 up93 h => ?_)
      obtain ⟨A95, c96, A98, c99, cs100, A102, c103, cs104, rfl, rfl, hs97, hq101, hq105, _⟩ := hR
      refine sAV h (fun a h => ?_)
      refine l_end ?_
      refine wp_ret ?_
      refine e_blkR ?_
      refine e_thenR ?_
      rw [← Option.some.inj hf]
      subst hB0
      exact r_ret1 h rfl (rv_tmp h rfl) ⟨_, [.box g1 54 ([.slice A95 x89.2.1.length c96, .slice A98 x89.2.2.1.length c99, .slice A102 x89.2.2.2.1.length c103, .bool x89.2.2.2.2]), .row (.slice A98 x89.2.2.1.length c99) 4 1 x89.2.2.1.length cs100, .row (.slice A102 x89.2.2.2.1.length c103) 3 1 x89.2.2.2.1.length cs104], _, rfl, ⟨A95, c96, A98, c99, cs100, A102, c103, cs104, rfl, rfl, hs97, hq101, hq105, trivial⟩, rfl, up93, (h.m.pick [0, 1, 2, 3] _ (by decide) rfl)⟩
    · rw [if_neg (by rw [hb]; decide)] at hf
      refine wp_skip ?_
      refine e_blkN ?_
      refine e_thenN ?_
      refine c_rs ?_
      refine sAV h (fun a h => ?_)
      refine l_end ?_
      refine wp_ret ?_
      obtain rfl := Option.some.inj hf
      subst hB0
      exact r_ret1 h rfl (rv_tmp h rfl) ⟨_, [.box g1 54 ([.slice A2 a0.1.length c3, .slice A5 a0.2.1.length c6, .slice A9 a0.2.2.1.length c10, .bool a0.2.2.2]), .row (.slice A5 a0.2.1.length c6) 4 1 a0.2.1.length cs7, .row (.slice A9 a0.2.2.1.length c10) 3 1 a0.2.2.1.length cs11], _, rfl, ⟨A2, c3, A5, c6, cs7, A9, c10, cs11, rfl, rfl, hs4, hq8, hq12, trivial⟩, rfl, (Up.refl _ _ _), (h.m.pick [0, 1, 2, 4] _ (by decide) rfl)⟩
def know_Set_close_l1 (Fu : Nat) (x19 : (List (Int × Int × Int)) × (List Bool) × (List Int) × Bool) : Nat → Bool → Int → ((List (Int × Int × Int)) × (List Bool) × (List Int) × Bool) → Option (Sum (((List (Int × Int × Int)) × (List Bool) × (List Int) × Bool)) (Bool × ((List (Int × Int × Int)) × (List Bool) × (List Int) × Bool)))
  | 0, _, _, _ => none
  | k + 1, x53, x54, x56 => if x54 < (x19.1.length : Int) then (if (x56.2.2.1.length : Int) = (x56.1.length : Int) then (some (.inl x56)) else ((know_Set_step Fu x56 x54).bind fun x102 => know_Set_close_l1 Fu x19 k (x102.1 || x53) (w64 (x54 + 1)) x102.2)) else (some (.inr (x53, x56)))
def know_Set_close_l0 (Fu : Nat) : Nat → Bool → ((List (Int × Int × Int)) × (List Bool) × (List Int) × Bool) → Option (((List (Int × Int × Int)) × (List Bool) × (List Int) × Bool))
  | 0, _, _ => none
  | k + 1, x18, x19 => if x18 = true then ((know_Set_close_l1 Fu x19 Fu false 0 x19).bind fun o => match o with | .inl x87 => (some x87) | .inr (x71, x72) => know_Set_close_l0 Fu k x71 x72) else (some x19)
def know_Set_close (Fu : Nat) (a0 : (List (Int × Int × Int)) × (List Bool) × (List Int) × Bool) : Option (((List (Int × Int × Int)) × (List Bool) × (List Int) × Bool)) :=
  (know_Set_close_l0 Fu Fu true a0).bind fun x34 => some x34
set_option maxRecDepth 100000 in
set_option maxHeartbeats 2000000 in
theorem know_Set_close_ok (Fu : Nat) {S0 : Snap} (a0 : (List (Int × Int × Int)) × (List Bool) × (List Int) × Bool) (g1 : Nat) (A2 : Option Addr) (c3 : Nat) (A5 : Option Addr) (c6 : Nat) (cs7 : List Value) (A9 : Option Addr) (c10 : Nat) (cs11 : List Value) (hs4 : slS (tyP tyI (tyP tyI tyI)) S0 A2 c3 a0.1) (hq8 : reps tyB S0 cs7 a0.2.1) (hq12 : reps tyI S0 cs11 a0.2.2.1) (r : ((List (Int × Int × Int)) × (List Bool) × (List Int) × Bool)) (hf : know_Set_close Fu a0 = some r) (w0 : World) (hm : Mem w0 (ownL ([.box g1 54 ([.slice A2 a0.1.length c3, .slice A5 a0.2.1.length c6, .slice A9 a0.2.2.1.length c10, .bool a0.2.2.2]), .row (.slice A5 a0.2.1.length c6) 4 1 a0.2.1.length cs7, .row (.slice A9 a0.2.2.1.length c10) 3 1 a0.2.2.1.length cs11] ++ [.sn S0])) ([.box g1 54 ([.slice A2 a0.1.length c3, .slice A5 a0.2.1.length c6, .slice A9 a0.2.2.1.length c10, .bool a0.2.2.2]), .row (.slice A5 a0.2.1.length c6) 4 1 a0.2.1.length cs7, .row (.slice A9 a0.2.2.1.length c10) 3 1 a0.2.2.1.length cs11] ++ [.sn S0]) w0) :
    Calls Try.prog 28 #[.pointer (some ⟨g1, 0, none⟩)] w0 (Ret w0 S0 [.box g1 54 ([.slice A2 a0.1.length c3, .slice A5 a0.2.1.length c6, .slice A9 a0.2.2.1.length c10, .bool a0.2.2.2]), .row (.slice A5 a0.2.1.length c6) 4 1 a0.2.1.length cs7, .row (.slice A9 a0.2.2.1.length c10) 3 1 a0.2.2.1.length cs11] (fun v L1 S1 => ∃ (A123 : Option Addr), ∃ (c124 : Nat), ∃ (A126 : Option Addr), ∃ (c127 : Nat), ∃ (cs128 : List Value), ∃ (A130 : Option Addr), ∃ (c131 : Nat), ∃ (cs132 : List Value), v = .tuple #[] ∧ L1 = [.box g1 54 ([.slice A123 r.1.length c124, .slice A126 r.2.1.length c127, .slice A130 r.2.2.1.length c131, .bool r.2.2.2]), .row (.slice A126 r.2.1.length c127) 4 1 r.2.1.length cs128, .row (.slice A130 r.2.2.1.length c131) 3 1 r.2.2.1.length cs132] ∧ slS (tyP tyI (tyP tyI tyI)) S1 A123 c124 r.1 ∧ reps tyB S1 cs128 r.2.1 ∧ reps tyI S1 cs132 r.2.2.1 ∧ True)) := by
  unfold know_Set_close at hf
  obtain ⟨B0, hB0⟩ : ∃ B0, B0 = (ownL ([.box g1 54 ([.slice A2 a0.1.length c3, .slice A5 a0.2.1.length c6, .slice A9 a0.2.2.1.length c10, .bool a0.2.2.2]), .row (.slice A5 a0.2.1.length c6) 4 1 a0.2.1.length cs7, .row (.slice A9 a0.2.2.1.length c10) 3 1 a0.2.2.1.length cs11] ++ [.sn S0])) := ⟨_, rfl⟩
  rw [← hB0] at hm
  refine c_enterM Try.func28 rfl 31 rfl (by simp) _ hm _ rfl (fun a h => ?_)
  refine wp_scope_straight ?_
  refine c_rs ?_
  refine sAV h (fun a h => ?_)
  refine l_end ?_
  refine wp_seq ?_
  refine wp_label ?_
  refine e_thenN ?_
  obtain ⟨o13, hl14, hf⟩ := bsome hf
  refine c_fin (fun a w => ∃ (S31 : Snap), ∃ (x34 : (List (Int × Int × Int)) × (List Bool) × (List Int) × Bool), ∃ (A35 : Option Addr), ∃ (c36 : Nat), ∃ (A38 : Option Addr), ∃ (c39 : Nat), ∃ (cs40 : List Value), ∃ (A42 : Option Addr), ∃ (c43 : Nat), ∃ (cs44 : List Value), x34 = o13 ∧ Snap.le S0 S31 ∧ Up B0 w0 S0 S31 ∧ slS (tyP tyI (tyP tyI tyI)) S31 A35 c36 x34.1 ∧ reps tyB S31 cs40 x34.2.1 ∧ reps tyI S31 cs44 x34.2.2.1 ∧ St 31 w0 B0 [] [.box g1 54 ([.slice A35 x34.1.length c36, .slice A38 x34.2.1.length c39, .slice A42 x34.2.2.1.length c43, .bool x34.2.2.2]), .row (.slice A38 x34.2.1.length c39) 4 1 x34.2.1.length cs40, .row (.slice A42 x34.2.2.1.length c43) 3 1 x34.2.2.1.length cs44, .sn S31] a w) ?_ ?_
  · refine wp_block ?_
    refine c_loop (fun m47 a w => ∃ (S15 : Snap), ∃ (x18 : Bool), ∃ (x19 : (List (Int × Int × Int)) × (List Bool) × (List Int) × Bool), ∃ (A20 : Option Addr), ∃ (c21 : Nat), ∃ (A23 : Option Addr), ∃ (c24 : Nat), ∃ (cs25 : List Value), ∃ (A27 : Option Addr), ∃ (c28 : Nat), ∃ (cs29 : List Value), know_Set_close_l0 Fu m47 x18 x19 = some o13 ∧ Snap.le S0 S15 ∧ Up B0 w0 S0 S15 ∧ slS (tyP tyI (tyP tyI tyI)) S15 A20 c21 x19.1 ∧ reps tyB S15 cs25 x19.2.1 ∧ reps tyI S15 cs29 x19.2.2.1 ∧ St 31 w0 B0 [(0, .pointer (some ⟨g1, 0, none⟩)), (2, .bool x18)] [.box g1 54 ([.slice A20 x19.1.length c21, .slice A23 x19.2.1.length c24, .slice A27 x19.2.2.1.length c28, .bool x19.2.2.2]), .row (.slice A23 x19.2.1.length c24) 4 1 x19.2.1.length cs25, .row (.slice A27 x19.2.2.1.length c28) 3 1 x19.2.2.1.length cs29, .sn S15] a w) Fu ⟨S0, true, a0, A2, c3, A5, c6, cs7, A9, c10, cs11, hl14, (Snap.le.refl _), (Up.refl _ _ _), hs4, hq8, hq12, h.has (by exact ⟨rfl, rfl, trivial⟩)⟩ (fun m47 a w hI => ?_)
    obtain ⟨S15, x18, x19, A20, c21, A23, c24, cs25, A27, c28, cs29, hl46, le16, up17, hs22, hq26, hq30, h⟩ := hI
    obtain _ | m47 := m47
    · rw [know_Set_close_l0] at hl46; cases hl46
    rw [know_Set_close_l0] at hl46
    refine wp_seq ?_
    refine c_rs ?_
    refine sMV h (fun a h => ?_)
    refine l_end ?_
    refine c_cond h rfl (fun hb => ?_) (fun hb => ?_)
    · rw [if_pos hb] at hl46
      refine wp_skip ?_
      refine e_thenN ?_
      refine wp_block ?_
      refine c_rs ?_
      refine sAV h (fun a h => ?_)
      refine l_end ?_
      refine c_rs ?_
      refine sMV h (fun a h => ?_)
      refine s_x h rfl rfl (by decide) (x_nil h.k rfl rfl) (fun a h => ?_)
      refine s_x h rfl rfl (by decide) (x_faddr h.k rfl Try.underlying54 rfl sz_Sapi_Term rfl) (fun a h => ?_)
      refine s_x h rfl rfl (by decide) (x_ld h.k rfl Try.underlying22 rfl rfl ((h.m.cell (i := 0) rfl 0).trans rfl)) (fun a h => ?_)
      refine s_x h rfl rfl (by decide) (x_len h.k rfl Try.underlying22 rfl) (fun a h => ?_)
      refine sMV h (fun a h => ?_)
      refine l_end ?_
      obtain ⟨o48, hl49, hl46⟩ := bsome hl46
      refine c_finX (fun a w => ∃ (S68 : Snap), ∃ (x71 : Bool), ∃ (x72 : (List (Int × Int × Int)) × (List Bool) × (List Int) × Bool), ∃ (A73 : Option Addr), ∃ (c74 : Nat), ∃ (A76 : Option Addr), ∃ (c77 : Nat), ∃ (cs78 : List Value), ∃ (A80 : Option Addr), ∃ (c81 : Nat), ∃ (cs82 : List Value), (.inr (x71, x72)) = o48 ∧ Snap.le S15 S68 ∧ Up B0 w0 S0 S68 ∧ slS (tyP tyI (tyP tyI tyI)) S68 A73 c74 x72.1 ∧ reps tyB S68 cs78 x72.2.1 ∧ reps tyI S68 cs82 x72.2.2.1 ∧ St 31 w0 B0 [(0, .pointer (some ⟨g1, 0, none⟩)), (2, .bool x71)] [.box g1 54 ([.slice A73 x72.1.length c74, .slice A76 x72.2.1.length c77, .slice A80 x72.2.2.1.length c81, .bool x72.2.2.2]), .row (.slice A76 x72.2.1.length c77) 4 1 x72.2.1.length cs78, .row (.slice A80 x72.2.2.1.length c81) 3 1 x72.2.2.1.length cs82, .sn S68] a w) 0 (fun a w => ∃ (S84 : Snap), ∃ (x87 : (List (Int × Int × Int)) × (List Bool) × (List Int) × Bool), ∃ (A88 : Option Addr), ∃ (c89 : Nat), ∃ (A91 : Option Addr), ∃ (c92 : Nat), ∃ (cs93 : List Value), ∃ (A95 : Option Addr), ∃ (c96 : Nat), ∃ (cs97 : List Value), (.inl x87) = o48 ∧ Snap.le S15 S84 ∧ Up B0 w0 S0 S84 ∧ slS (tyP tyI (tyP tyI tyI)) S84 A88 c89 x87.1 ∧ reps tyB S84 cs93 x87.2.1 ∧ reps tyI S84 cs97 x87.2.2.1 ∧ St 31 w0 B0 [] [.box g1 54 ([.slice A88 x87.1.length c89, .slice A91 x87.2.1.length c92, .slice A95 x87.2.2.1.length c96, .bool x87.2.2.2]), .row (.slice A91 x87.2.1.length c92) 4 1 x87.2.1.length cs93, .row (.slice A95 x87.2.2.1.length c96) 3 1 x87.2.2.1.length cs97, .sn S84] a w) ?_ ?_ ?_
      · refine wp_block ?_
        refine c_loop (fun m100 a w => ∃ (S50 : Snap), ∃ (x53 : Bool), ∃ (x54 : Int), ∃ (x56 : (List (Int × Int × Int)) × (List Bool) × (List Int) × Bool), ∃ (A57 : Option Addr), ∃ (c58 : Nat), ∃ (A60 : Option Addr), ∃ (c61 : Nat), ∃ (cs62 : List Value), ∃ (A64 : Option Addr), ∃ (c65 : Nat), ∃ (cs66 : List Value), know_Set_close_l1 Fu x19 m100 x53 x54 x56 = some o48 ∧ Snap.le S15 S50 ∧ Up B0 w0 S0 S50 ∧ r64 x54 ∧ slS (tyP tyI (tyP tyI tyI)) S50 A57 c58 x56.1 ∧ reps tyB S50 cs62 x56.2.1 ∧ reps tyI S50 cs66 x56.2.2.1 ∧ St 31 w0 B0 [(0, .pointer (some ⟨g1, 0, none⟩)), (2, .bool x53), (9, .int .i64 (x19.1.length : Int)), (10, .int .i64 x54)] [.box g1 54 ([.slice A57 x56.1.length c58, .slice A60 x56.2.1.length c61, .slice A64 x56.2.2.1.length c65, .bool x56.2.2.2]), .row (.slice A60 x56.2.1.length c61) 4 1 x56.2.1.length cs62, .row (.slice A64 x56.2.2.1.length c65) 3 1 x56.2.2.1.length cs66, .sn S50] a w) Fu ⟨S15, false, 0, x19, A20, c21, A23, c24, cs25, A27, c28, cs29, hl49, (Snap.le.refl _), up17, (show r64 0 from ⟨by decide, by decide⟩), hs22, hq26, hq30, h.has (by exact ⟨rfl, rfl, rfl, rfl, trivial⟩)⟩ (fun m100 a w hI => ?_)
        obtain ⟨S50, x53, x54, x56, A57, c58, A60, c61, cs62, A64, c65, cs66, hl99, le51, up52, hr55, hs59, hq63, hq67, h⟩ := hI
        obtain _ | m100 := m100
        · rw [know_Set_close_l1] at hl99; cases hl99
        rw [know_Set_close_l1] at hl99
        refine c_rs ?_
        refine s_x h rfl rfl (by decide) (x_bin h.k rfl rfl rfl ib_lss) (fun a h => ?_)
        refine l_end ?_
        refine c_cs h rfl (fun hb => ?_) (fun hb => ?_)
        · rw [if_pos (of_decide_eq_true hb)] at hl99
          refine wp_skip ?_
          refine e_thenN ?_
          refine wp_seq ?_
          refine wp_block ?_
          refine c_rs ?_
          refine sMV h (fun a h => ?_)
          refine sAV h (fun a h => ?_)
          refine l_end ?_
          refine wp_seq ?_
          refine wp_seq ?_
          -- region 6 draws
          refine d_start h (Mem _ _ _) 11 11 rfl (by kernel_rfl) (fun _ _ _ _ _ h => h) (fun _ h => h) (fun Q a w HE HN h HS => ?_)
          refine d_takeP h (fun _ => HS) HN 0 rfl (by kernel_rfl) (by kernel_rfl) (by kernel_rfl) (by decide) rfl rfl (by decide) (fun w' => x_move h.k _ rfl rfl) (fun a h => ?_)
          refine d_takeP h (fun _ => HS) HN 1 rfl (by kernel_rfl) (by kernel_rfl) (by kernel_rfl) (by decide) rfl rfl (by decide) (fun w' => x_nil h.k rfl rfl) (fun a h => ?_)
          refine d_takeP h (fun _ => HS) HN 2 rfl (by kernel_rfl) (by kernel_rfl) (by kernel_rfl) (by decide) rfl rfl (by decide) (fun w' => x_faddr h.k rfl Try.underlying54 rfl sz_Sint rfl) (fun a h => ?_)
          refine d_take h HS HN 3 rfl (by kernel_rfl) (by kernel_rfl) (by kernel_rfl) (by kernel_rfl) (by kernel_rfl) rfl rfl (by decide) (fun w' hw => x_ld h.k rfl Try.underlying23 rfl rfl ((hw.cell (i := 0) rfl 2).trans rfl)) (fun a h => ?_)
          have hr101 : r64 (x56.2.2.1.length : Int) := len_r (h.m.rowLen (i := 2) rfl)
          refine d_takeP h (fun _ => HS) HN 4 rfl (by kernel_rfl) (by kernel_rfl) (by kernel_rfl) (by decide) rfl rfl (by decide) (fun w' => x_len h.k rfl Try.underlying23 rfl) (fun a h => ?_)
          refine d_takeP h (fun _ => HS) HN 5 rfl (by kernel_rfl) (by kernel_rfl) (by kernel_rfl) (by decide) rfl rfl (by decide) (fun w' => x_move h.k _ rfl rfl) (fun a h => ?_)
          refine d_takeP h (fun _ => HS) HN 6 rfl (by kernel_rfl) (by kernel_rfl) (by kernel_rfl) (by decide) rfl rfl (by decide) (fun w' => x_nil h.k rfl rfl) (fun a h => ?_)
          refine d_takeP h (fun _ => HS) HN 7 rfl (by kernel_rfl) (by kernel_rfl) (by kernel_rfl) (by decide) rfl rfl (by decide) (fun w' => x_faddr h.k rfl Try.underlying54 rfl sz_Sapi_Term rfl) (fun a h => ?_)
          refine d_take h HS HN 8 rfl (by kernel_rfl) (by kernel_rfl) (by kernel_rfl) (by kernel_rfl) (by kernel_rfl) rfl rfl (by decide) (fun w' hw => x_ld h.k rfl Try.underlying22 rfl rfl ((hw.cell (i := 0) rfl 0).trans rfl)) (fun a h => ?_)
          refine d_takeP h (fun _ => HS) HN 9 rfl (by kernel_rfl) (by kernel_rfl) (by kernel_rfl) (by decide) rfl rfl (by decide) (fun w' => x_len h.k rfl Try.underlying22 rfl) (fun a h => ?_)
          refine d_takeP h (fun _ => HS) HN 10 rfl (by kernel_rfl) (by kernel_rfl) (by kernel_rfl) (by decide) rfl rfl (by decide) (fun w' => x_bin h.k rfl rfl rfl ib_eql) (fun a h => ?_)
          refine d_done (by kernel_rfl) (HE _ _ ?_) _
          refine e_thenN ?_
          refine c_cond h rfl (fun hb => ?_) (fun hb => ?_)
          · rw [if_pos (of_decide_eq_true hb)] at hl99
            refine wp_exit ?_
            refine e_thenX ?_
            refine e_blkY (by decide) ?_
            refine e_thenX ?_
            refine e_thenX ?_
            refine e_blkY (by decide) ?_
            refine e_xX ?_
            exact ⟨S50, x56, A57, c58, A60, c61, cs62, A64, c65, cs66, (Option.some.inj hl99), le51, up52, hs59, hq63, hq67, h.has trivial⟩
          · rw [if_neg (of_decide_eq_false hb)] at hl99
            refine wp_skip ?_
            refine e_thenN ?_
            refine c_r ?_
            refine sMV h (fun a h => ?_)
            refine sMV h (fun a h => ?_)
            obtain ⟨x102, h103, hl99⟩ := bsome hl99
            have hX := know_Set_step_ok Fu (S0 := S50) x56 g1 A57 c58 A60 c61 cs62 A64 c65 cs66 hs59 hq63 hq67 x54 hr55 _ h103 _ (h.sub (Ls := [.box g1 54 ([.slice A57 x56.1.length c58, .slice A60 x56.2.1.length c61, .slice A64 x56.2.2.1.length c65, .bool x56.2.2.2]), .row (.slice A60 x56.2.1.length c61) 4 1 x56.2.1.length cs62, .row (.slice A64 x56.2.2.1.length c65) 3 1 x56.2.2.1.length cs66]))
            refine q_callY (Ls := [.box g1 54 ([.slice A57 x56.1.length c58, .slice A60 x56.2.1.length c61, .slice A64 x56.2.2.1.length c65, .bool x56.2.2.2]), .row (.slice A60 x56.2.1.length c61) 4 1 x56.2.1.length cs62, .row (.slice A64 x56.2.2.1.length c65) 3 1 x56.2.2.1.length cs66]) hX h up52 rfl rfl rfl (by decide) Try.func35 rfl rfl rfl (fun a w v L1 S105 hR le107 up106 h => ?_)
            obtain ⟨A108, c109, A111, c112, cs113, A115, c116, cs117, rfl, rfl, hs110, hq114, hq118, _⟩ := hR
            refine sMV h (fun a h => ?_)
            refine q_grp h 2 (t := 27) 29 (x102.1 || x53) rfl (fun hB3 => ?_) (fun hB3 => ?_) (fun a w h => ?_)
            · refine g_no h rfl rfl rfl rfl hB3 rfl (by decide) (fun a h => ?_)
              refine s_x h rfl rfl (by decide) (x_pick (u' := undef) h.k rfl rfl (fun _ => rfl) (fun hh => absurd (hB3.symm.trans hh) (by decide))) (fun a h => ?_)
              exact (h.mid 1 rfl).val (by first | rfl | (rw [hB3]; first | rfl | simp))
            · refine g_yes h rfl rfl rfl rfl hB3 ?_
              refine sMV h (fun a h => ?_)
              refine s_x h rfl rfl (by decide) (x_pick (u' := undef) h.k rfl rfl (fun hh => absurd (hB3.symm.trans hh) (by decide)) (fun _ => rfl)) (fun a h => ?_)
              exact (h.mid 1 rfl).val (by first | rfl | (rw [hB3]; first | rfl | simp))
            refine sAV h (fun a h => ?_)
            refine l_nil ?_
            refine e_blkN ?_
            refine e_thenN ?_
            refine c_r ?_
            refine s_x h rfl rfl (by decide) (x_bin h.k rfl rfl rfl (ib_add rfl)) (fun a h => ?_)
            refine sMV h (fun a h => ?_)
            refine l_nil ?_
            exact e_thenN ⟨m100, Nat.lt_succ_self _, S105, (x102.1 || x53), w64 (x54 + 1), x102.2, A108, c109, A111, c112, cs113, A115, c116, cs117, hl99, (le51.trans le107), up106, (w64_r _), hs110, hq114, hq118, h.has (by exact ⟨rfl, rfl, rfl, rfl, trivial⟩)⟩
        · rw [if_neg (of_decide_eq_false hb)] at hl99
          refine wp_exit ?_
          refine e_thenX ?_
          refine e_thenX ?_
          refine e_blkX ?_
          refine e_xN ?_
          exact ⟨S50, x53, x56, A57, c58, A60, c61, cs62, A64, c65, cs66, (Option.some.inj hl99), le51, up52, hs59, hq63, hq67, h.has (by exact ⟨rfl, rfl, trivial⟩)⟩
      · rintro a w ⟨S68, x71, x72, A73, c74, A76, c77, cs78, A80, c81, cs82, rfl, le69, up70, hs75, hq79, hq83, h⟩
        try dsimp only at hl46
        refine e_blkN ?_
        exact e_thenN ⟨m47, Nat.lt_succ_self _, S68, x71, x72, A73, c74, A76, c77, cs78, A80, c81, cs82, hl46, (le16.trans le69), up70, hs75, hq79, hq83, h.has (by exact ⟨rfl, rfl, trivial⟩)⟩
      · rintro a w ⟨S84, x87, A88, c89, A91, c92, cs93, A95, c96, cs97, rfl, le85, up86, hs90, hq94, hq98, h⟩
        try dsimp only at hl46
        refine e_blkY (by decide) ?_
        refine e_thenX ?_
        refine e_blkX ?_
        refine e_thenN ?_
        exact ⟨S84, x87, A88, c89, A91, c92, cs93, A95, c96, cs97, (Option.some.inj hl46), (le16.trans le85), up86, hs90, hq94, hq98, h.has trivial⟩
    · rw [if_neg (by rw [hb]; decide)] at hl46
      refine wp_exit ?_
      refine e_thenX ?_
      refine e_thenX ?_
      refine e_blkX ?_
      refine e_thenN ?_
      exact ⟨S15, x19, A20, c21, A23, c24, cs25, A27, c28, cs29, (Option.some.inj hl46), le16, up17, hs22, hq26, hq30, h.has trivial⟩
  · rintro a w ⟨S31, x34, A35, c36, A38, c39, cs40, A42, c43, cs44, rfl, le32, up33, hs37, hq41, hq45, h⟩
    refine e_scN ?_
    rw [← Option.some.inj hf]
    subst hB0
    exact r_ret0 h rfl  ⟨_, [.box g1 54 ([.slice A35 x34.1.length c36, .slice A38 x34.2.1.length c39, .slice A42 x34.2.2.1.length c43, .bool x34.2.2.2]), .row (.slice A38 x34.2.1.length c39) 4 1 x34.2.1.length cs40, .row (.slice A42 x34.2.2.1.length c43) 3 1 x34.2.2.1.length cs44], _, rfl, ⟨A35, c36, A38, c39, cs40, A42, c43, cs44, rfl, rfl, hs37, hq41, hq45, trivial⟩, rfl, up33, h.m⟩
end Go.Proofs.Ytnjmlihmnkbgdaa
