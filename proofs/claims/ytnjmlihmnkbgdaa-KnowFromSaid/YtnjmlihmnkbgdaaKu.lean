/- Texts put together. -/
import Derived.Test.YtnjmlihmnkbgdaaKl
import Derived.Test.YtnjmlihmnkbgdaaKq
set_option linter.unusedVariables false
set_option linter.unusedSimpArgs false
namespace Go.Proofs.Ytnjmlihmnkbgdaa
open Go.RowKit
section

end
section
def know_terms_nil0_l0 (Fu : Nat) (x1 : Int) : Nat → (List (Int × Int × Int)) → Int → Option ((List (Int × Int × Int)))
  | 0, _, _ => none
  | k + 1, x7, x12 => if x12 < x1 then ((term_Store_Get_nil0 Fu x12).bind fun x22 => (app 24 x7 ([x22.1])).bind fun x37 => know_terms_nil0_l0 Fu x1 k x37 (w64 (x12 + 1))) else (some x7)
def know_terms_nil0 (Fu : Nat) : Option ((List (Int × Int × Int))) :=
  (term_Store_Len_nil0 Fu).bind fun x1 => (know_terms_nil0_l0 Fu x1 Fu ([]) 0).bind fun x14 => some x14
set_option maxRecDepth 100000 in
set_option maxHeartbeats 2000000 in
theorem know_terms_nil0_ok (Fu : Nat) {S0 : Snap}  (r : (List (Int × Int × Int))) (hf : know_terms_nil0 Fu = some r) (w0 : World) (hm : Mem w0 (ownL ([] ++ [.sn S0])) ([] ++ [.sn S0]) w0) :
    Calls Try.prog 19 #[.pointer none] w0 (Ret w0 S0 [] (fun v L1 S1 => ∃ (A44 : Option Addr), ∃ (c45 : Nat), ∃ (cs46 : List Value), v = .slice A44 r.length c45 ∧ L1 = [.row (.slice A44 r.length c45) 46 3 r.length cs46] ∧ reps (tyP tyI (tyP tyI tyI)) S1 cs46 r ∧ True)) := by
  unfold know_terms_nil0 at hf
  refine c_enterM Try.func19 rfl 24 rfl (by simp) _ hm _ rfl (fun a h => ?_)
  refine c_rs ?_ -- region 0
  refine s_assign h rfl _ rfl rfl (by decide) rfl (fun a h => ?_)
  refine l_end ?_
  refine c_rs ?_ -- region 1
  refine s_assign h rfl _ rfl rfl (by decide) rfl (fun a h => ?_)
  refine l_end ?_
  refine wp_seq ?_
  refine c_rs ?_ -- region 2
  refine s_move h rfl _ rfl rfl (by decide) rfl (fun a h => ?_)
  obtain ⟨x1, h2, hf⟩ := bsome hf
  have hX := term_Store_Len_nil0_ok Fu (S0 := snapAll _)  _ h2 _ h.startAll
  refine q_callX hX h rfl rfl rfl (by decide) Try.func8 rfl rfl rfl (fun a w v L1 S1 hR hb1 h => ?_)
  obtain ⟨rfl, rfl, hr4, _⟩ := hR
  refine s_move h rfl _ rfl rfl (by decide) rfl (fun a h => ?_)
  refine l_end ?_
  obtain ⟨o5, hl6, hf⟩ := bsome hf
  refine c_fin (fun a w => ∃ (x14 : List (Int × Int × Int)), ∃ (A15 : Option Addr), ∃ (c16 : Nat), ∃ (cs17 : List Value), x14 = o5 ∧ reps (tyP tyI (tyP tyI tyI)) S0 cs17 x14 ∧ St 24 w0 (ownL ([] ++ [.sn S0])) [(3, .slice A15 x14.length c16)] [.row (.slice A15 x14.length c16) 46 3 x14.length cs17, .sn S0] a w) ?_ ?_
  · refine wp_block ?_
    have h := h.mem (h.m.nilrow 46 3)
    refine c_loop (fun m20 a w => ∃ (x7 : List (Int × Int × Int)), ∃ (A8 : Option Addr), ∃ (c9 : Nat), ∃ (cs10 : List Value), ∃ (x12 : Int), know_terms_nil0_l0 Fu x1 m20 x7 x12 = some o5 ∧ reps (tyP tyI (tyP tyI tyI)) S0 cs10 x7 ∧ r64 x12 ∧ St 24 w0 (ownL ([] ++ [.sn S0])) [(0, .pointer none), (3, .slice A8 x7.length c9), (8, .int .i64 x1), (9, .int .i64 x12)] [.row (.slice A8 x7.length c9) 46 3 x7.length cs10, .sn S0] a w) Fu ⟨[], none, 0, [], 0, hl6, (show reps (tyP tyI (tyP tyI tyI)) S0 [] [] from rfl), (show r64 0 from ⟨by decide, by decide⟩), h.has (by exact ⟨rfl, rfl, rfl, rfl, trivial⟩)⟩ (fun m20 a w hI => ?_)
    obtain ⟨x7, A8, c9, cs10, x12, hl19, hq11, hr13, h⟩ := hI
    obtain _ | m20 := m20
    · rw [know_terms_nil0_l0] at hl19; cases hl19
    rw [know_terms_nil0_l0] at hl19
    refine c_rs ?_ -- region 3
    refine s_x h rfl rfl (by decide) (x_bin h.k rfl rfl rfl ib_lss) (fun a h => ?_)
    refine l_end ?_
    refine c_cs h rfl (fun hb => ?_) (fun hb => ?_)
    · rw [if_pos (of_decide_eq_true hb)] at hl19
      refine wp_skip ?_
      refine e_thenN ?_
      refine wp_seq ?_
      refine wp_block ?_
      refine c_rs ?_ -- region 4
      refine s_move h rfl _ rfl rfl (by decide) rfl (fun a h => ?_)
      refine s_assign h rfl _ rfl rfl (by decide) rfl (fun a h => ?_)
      refine l_end ?_
      refine c_rs ?_ -- region 5
      refine s_move h rfl _ rfl rfl (by decide) rfl (fun a h => ?_)
      refine s_move h rfl _ rfl rfl (by decide) rfl (fun a h => ?_)
      obtain ⟨x22, h23, hl19⟩ := bsome hl19
      have hX := term_Store_Get_nil0_ok Fu (S0 := snapAll _) x12 hr13 _ h23 _ h.startAll
      refine q_callX hX h rfl rfl rfl (by decide) Try.func29 rfl rfl rfl (fun a w v L1 S1 hR hb1 h => ?_)
      obtain ⟨k25, rfl, rfl, hv26, _⟩ := hR
      obtain ⟨k27, k28, rfl, ⟨rfl, hr29⟩, ⟨k30, k31, rfl, ⟨rfl, hr32⟩, ⟨rfl, hr33⟩⟩⟩ := hv26
      refine s_move h rfl _ rfl rfl (by decide) rfl (fun a h => ?_)
      refine s_x h rfl rfl (by decide) (x_ext h.k rfl rfl rfl) (fun a h => ?_)
      refine s_x h rfl rfl (by decide) (x_ext h.k rfl rfl rfl) (fun a h => ?_)
      refine s_alloc h rfl rfl rfl (by decide) zi_api_Term rfl (fun a w g34 h => ?_)
      refine s_stW h rfl rfl rfl ag_api_Term rfl (es := [.int .i64 x22.1.1, .int .i64 x22.1.2.1, .int .i64 x22.1.2.2]) rfl rfl (by simp [Value.oneCell']) 0 rfl rfl (fun a w h => ?_)
      refine s_assign h rfl _ rfl rfl (by decide) rfl (fun a h => ?_)
      refine l_end ?_
      refine c_r ?_ -- region 6
      refine s_move h rfl _ rfl rfl (by decide) rfl (fun a h => ?_)
      refine s_x h rfl rfl (by decide) (x_ldR h.k rfl ag_api_Term rfl ([.int .i64 x22.1.1, .int .i64 x22.1.2.1, .int .i64 x22.1.2.2]) rfl (h.m.range0 (i := 0) rfl)) (fun a h => ?_)
      refine q_bslice (T := tyP tyI (tyP tyI tyI)) (S := S0) h rfl rfl rfl (by decide) Try.underlying22 zi_api_Term (by decide) (by decide) (by decide) (by decide) [.agg ([.int .i64 x22.1.1, .int .i64 x22.1.2.1, .int .i64 x22.1.2.2]).toArray] rfl rfl (C := [[.int .i64 x22.1.1, .int .i64 x22.1.2.1, .int .i64 x22.1.2.2]]) rfl (xs := [x22.1]) ⟨[.int .i64 x22.1.1, .int .i64 x22.1.2.1, .int .i64 x22.1.2.2], _, rfl, ⟨[.int .i64 x22.1.1], [.int .i64 x22.1.2.1, .int .i64 x22.1.2.2], rfl, ⟨rfl, hr29⟩, ⟨[.int .i64 x22.1.2.1], [.int .i64 x22.1.2.2], rfl, ⟨rfl, hr32⟩, ⟨rfl, hr33⟩⟩⟩, rfl⟩ (by intro c hc; simp only [List.mem_cons, List.not_mem_nil, or_false] at hc; subst hc; rfl) (fun a w A35 h => ?_)
      have hb36 : reps (tyP tyI (tyP tyI tyI)) S0 ([[.int .i64 x22.1.1, .int .i64 x22.1.2.1, .int .i64 x22.1.2.2]] : List (List Value)).flatten [x22.1] := ⟨[.int .i64 x22.1.1, .int .i64 x22.1.2.1, .int .i64 x22.1.2.2], _, rfl, ⟨[.int .i64 x22.1.1], [.int .i64 x22.1.2.1, .int .i64 x22.1.2.2], rfl, ⟨rfl, hr29⟩, ⟨[.int .i64 x22.1.2.1], [.int .i64 x22.1.2.2], rfl, ⟨rfl, hr32⟩, ⟨rfl, hr33⟩⟩⟩, rfl⟩
      obtain ⟨x37, h38, hl19⟩ := bsome hl19
      refine q_append (T := tyP tyI (tyP tyI tyI)) (S := S0) h rfl rfl rfl (by decide) Try.underlying22 zb_api_Term rfl (by decide) rfl 2 rfl hq11 rfl hb36 (h.m.rdRowA (i := 0) rfl) h38 (fun a w A39 c40 cs41 hq42 h => ?_)
      refine s_assign h rfl _ rfl rfl (by decide) rfl (fun a h => ?_)
      refine l_nil ?_
      refine e_blkN ?_
      refine e_thenN ?_
      refine c_r ?_ -- region 7
      refine s_x h rfl rfl (by decide) (x_bin h.k rfl rfl rfl (ib_add rfl)) (fun a h => ?_)
      refine s_move h rfl _ rfl rfl (by decide) rfl (fun a h => ?_)
      refine l_nil ?_
      have h := h.pick [2, 3] (by decide) rfl
      exact e_thenN ⟨m20, Nat.lt_succ_self _, x37, A39, c40, cs41, w64 (x12 + 1), hl19, hq42, (w64_r _), h.has (by exact ⟨rfl, rfl, rfl, rfl, trivial⟩)⟩
    · rw [if_neg (of_decide_eq_false hb)] at hl19
      refine wp_exit ?_
      refine e_thenX ?_
      refine e_thenX ?_
      refine e_blkX ?_
      refine e_thenN ?_
      exact ⟨x7, A8, c9, cs10, (Option.some.inj hl19), hq11, h.has (by exact ⟨rfl, trivial⟩)⟩
  · rintro a w ⟨x14, A15, c16, cs17, rfl, hq18, h⟩
    refine e_thenN ?_
    refine c_rs ?_ -- region 8
    refine s_move h rfl _ rfl rfl (by decide) rfl (fun a h => ?_)
    refine s_assign h rfl _ rfl rfl (by decide) rfl (fun a h => ?_)
    refine l_end ?_
    refine wp_ret ?_
    rw [← Option.some.inj hf]
    exact r_ret1 h rfl (rv_tmp h rfl) ⟨_, [.row (.slice A15 x14.length c16) 46 3 x14.length cs17], _, rfl, ⟨A15, c16, cs17, rfl, rfl, hq18, trivial⟩, rfl, (Up.refl _ _ _), h.m⟩
def know_From_nil0 (Fu : Nat) (a1 : List Int) : Option (Sum Int (((List (Int × Int × Int)) × (List Bool) × (List Int) × Bool) × Int)) :=
  (term_Store_Put_nil0 Fu (0, 0, 0)).bind fun x1 => if x1.2 = 1 then (some (.inl x1.2)) else ((know_terms_nil0 Fu).bind fun x6 => (know_of Fu x6 a1).bind fun x18 => (match x18 with | .inl x24 => (some (.inl x24)) | .inr x26 => (some (.inr x26))))
set_option maxRecDepth 100000 in
set_option maxHeartbeats 2000000 in
theorem know_From_nil0_ok (Fu : Nat) {S0 : Snap} (Aa1 : Option Addr) (ca1 : Nat) (a1 : List Int) (hsa1 : slS tyI S0 Aa1 ca1 a1) (r : Sum Int (((List (Int × Int × Int)) × (List Bool) × (List Int) × Bool) × Int)) (hf : know_From_nil0 Fu a1 = some r) (w0 : World) (hm : Mem w0 (ownL ([] ++ [.sn S0])) ([] ++ [.sn S0]) w0) :
    Calls Try.prog 6 #[.pointer none, .slice Aa1 a1.length ca1] w0 (Ret w0 S0 [] (fun v L1 S1 => (∃ r0, r = .inl r0 ∧ v = .tuple #[.pointer none, .int .i64 r0] ∧ L1 = [] ∧ r64 r0 ∧ True) ∨ (∃ r0, r = .inr r0 ∧ ∃ (g41 : Nat), ∃ (A42 : Option Addr), ∃ (c43 : Nat), ∃ (A45 : Option Addr), ∃ (c46 : Nat), ∃ (cs47 : List Value), ∃ (A49 : Option Addr), ∃ (c50 : Nat), ∃ (cs51 : List Value), v = .tuple #[.pointer (some ⟨g41, 0, none⟩), .int .i64 r0.2] ∧ L1 = [.box g41 54 ([.slice A42 r0.1.1.length c43, .slice A45 r0.1.2.1.length c46, .slice A49 r0.1.2.2.1.length c50, .bool r0.1.2.2.2]), .row (.slice A45 r0.1.2.1.length c46) 4 1 r0.1.2.1.length cs47, .row (.slice A49 r0.1.2.2.1.length c50) 3 1 r0.1.2.2.1.length cs51] ∧ slS (tyP tyI (tyP tyI tyI)) S1 A42 c43 r0.1.1 ∧ reps tyB S1 cs47 r0.1.2.1 ∧ reps tyI S1 cs51 r0.1.2.2.1 ∧ r64 r0.2 ∧ True))) := by
  unfold know_From_nil0 at hf
  refine c_enterM Try.func6 rfl 23 rfl (by simp) _ hm _ rfl (fun a h => ?_)
  refine c_rs ?_ -- region 0
  refine s_assign h rfl _ rfl rfl (by decide) rfl (fun a h => ?_)
  refine s_assign h rfl _ rfl rfl (by decide) rfl (fun a h => ?_)
  refine l_end ?_
  refine wp_seq ?_
  refine c_rs ?_ -- region 1
  refine s_move h rfl _ rfl rfl (by decide) rfl (fun a h => ?_)
  refine s_x h rfl rfl (by decide) (x_build h.k rfl [] rfl ([.int .i64 0, .int .i64 0, .int .i64 0]) (by kernel_rfl)) (fun a h => ?_)
  obtain ⟨x1, h2, hf⟩ := bsome hf
  have hX := term_Store_Put_nil0_ok Fu (S0 := snapAll _) ([.int .i64 0, .int .i64 0, .int .i64 0]) (0, 0, 0) ((tyP tyI (tyP tyI tyI)).mono (h.m.leAll (i := 0) rfl) (show (tyP tyI (tyP tyI tyI)).rep S0 ([.int .i64 0, .int .i64 0, .int .i64 0]) (0, 0, 0) from ⟨[.int .i64 0], [.int .i64 0, .int .i64 0], rfl, ⟨rfl, (show r64 0 from ⟨by decide, by decide⟩)⟩, ⟨[.int .i64 0], [.int .i64 0], rfl, ⟨rfl, (show r64 0 from ⟨by decide, by decide⟩)⟩, ⟨rfl, (show r64 0 from ⟨by decide, by decide⟩)⟩⟩⟩)) _ h2 _ h.startAll
  refine q_callX hX h rfl rfl rfl (by decide) Try.func17 rfl rfl rfl (fun a w v L1 S1 hR hb1 h => ?_)
  obtain ⟨rfl, rfl, hr4, hr5, _⟩ := hR
  refine s_move h rfl _ rfl rfl (by decide) rfl (fun a h => ?_)
  refine s_x h rfl rfl (by decide) (x_ext h.k rfl rfl rfl) (fun a h => ?_)
  refine s_x h rfl rfl (by decide) (x_ext h.k rfl rfl rfl) (fun a h => ?_)
  refine s_assign h rfl _ rfl rfl (by decide) rfl (fun a h => ?_)
  refine s_assign h rfl _ rfl rfl (by decide) rfl (fun a h => ?_)
  refine l_end ?_
  refine c_rs ?_ -- region 2
  refine s_move h rfl _ rfl rfl (by decide) rfl (fun a h => ?_)
  refine s_x h rfl rfl (by decide) (x_bin h.k rfl rfl rfl ib_eql) (fun a h => ?_)
  refine l_end ?_
  refine c_cond h rfl (fun hb => ?_) (fun hb => ?_)
  · rw [if_pos (of_decide_eq_true hb)] at hf
    refine c_rs ?_ -- region 3
    refine s_move h rfl _ rfl rfl (by decide) rfl (fun a h => ?_)
    refine s_assign h rfl _ rfl rfl (by decide) rfl (fun a h => ?_)
    refine s_assign h rfl _ rfl rfl (by decide) rfl (fun a h => ?_)
    refine l_end ?_
    refine wp_ret ?_
    refine e_thenR ?_
    obtain rfl := Option.some.inj hf
    exact r_ret2 h rfl (rv_tmp h rfl) (rv_tmp h rfl) ⟨_, [], _, rfl, (.inl ⟨_, rfl, ⟨rfl, rfl, hr5, trivial⟩⟩), rfl, (Up.refl _ _ _), h.m⟩
  · rw [if_neg (of_decide_eq_false hb)] at hf
    refine wp_skip ?_
    refine e_thenN ?_
    refine c_rs ?_ -- region 4
    refine s_move h rfl _ rfl rfl (by decide) rfl (fun a h => ?_)
    obtain ⟨x6, h7, hf⟩ := bsome hf
    have hX := know_terms_nil0_ok Fu (S0 := snapAll _)  _ h7 _ h.startAll
    refine q_callX hX h rfl rfl rfl (by decide) Try.func19 rfl rfl rfl (fun a w v L1 S1 hR hb1 h => ?_)
    obtain ⟨A9, c10, cs11, rfl, rfl, hq12, _⟩ := hR
    have hq13 := hq12.fl (S' := S0) (fl_P fl_I (fl_P fl_I fl_I))
    refine s_move h rfl _ rfl rfl (by decide) rfl (fun a h => ?_)
    obtain ⟨S14, le15, up16, hs17, h⟩ := q_freeze (T := tyP tyI (tyP tyI tyI)) h (Up.refl _ _ _) hq13
    obtain ⟨x18, h19, hf⟩ := bsome hf
    have hX := know_of_ok Fu (S0 := S14) A9 c10 x6 hs17 Aa1 ca1 a1 (hsa1.mono le15) _ h19 _ (h.sub (Ls := []))
    refine q_callY (Ls := []) hX h up16 rfl rfl rfl (by decide) Try.func18 rfl rfl rfl (fun a w v L1 S21 hR le23 up22 h => ?_)
    rcases hR with hR | hR
    · obtain ⟨x24, rfl, hR⟩ := hR
      dsimp only at hf
      obtain ⟨rfl, rfl, hr25, _⟩ := hR
      refine s_x h rfl rfl (by decide) (x_ext h.k rfl rfl rfl) (fun a h => ?_)
      refine s_x h rfl rfl (by decide) (x_ext h.k rfl rfl rfl) (fun a h => ?_)
      refine s_assign h rfl _ rfl rfl (by decide) rfl (fun a h => ?_)
      refine s_assign h rfl _ rfl rfl (by decide) rfl (fun a h => ?_)
      refine l_end ?_
      refine wp_ret ?_
      rw [← Option.some.inj hf]
      exact r_ret2 h rfl (rv_tmp h rfl) (rv_tmp h rfl) ⟨_, [], _, rfl, (.inl ⟨_, rfl, ⟨rfl, rfl, hr25, trivial⟩⟩), rfl, up22, h.m⟩
    · obtain ⟨x26, rfl, hR⟩ := hR
      dsimp only at hf
      obtain ⟨g27, A28, c29, A31, c32, cs33, A35, c36, cs37, rfl, rfl, hs30, hq34, hq38, hr39, _⟩ := hR
      refine s_x h rfl rfl (by decide) (x_ext h.k rfl rfl rfl) (fun a h => ?_)
      refine s_x h rfl rfl (by decide) (x_ext h.k rfl rfl rfl) (fun a h => ?_)
      refine s_assign h rfl _ rfl rfl (by decide) rfl (fun a h => ?_)
      refine s_assign h rfl _ rfl rfl (by decide) rfl (fun a h => ?_)
      refine l_end ?_
      refine wp_ret ?_
      rw [← Option.some.inj hf]
      exact r_ret2 h rfl (rv_tmp h rfl) (rv_tmp h rfl) ⟨_, [.box g27 54 ([.slice A28 x26.1.1.length c29, .slice A31 x26.1.2.1.length c32, .slice A35 x26.1.2.2.1.length c36, .bool x26.1.2.2.2]), .row (.slice A31 x26.1.2.1.length c32) 4 1 x26.1.2.1.length cs33, .row (.slice A35 x26.1.2.2.1.length c36) 3 1 x26.1.2.2.1.length cs37], _, rfl, (.inr ⟨_, rfl, ⟨g27, A28, c29, A31, c32, cs33, A35, c36, cs37, rfl, rfl, hs30, hq34, hq38, hr39, trivial⟩⟩), rfl, up22, h.m⟩
def chatelainelaw37_KnowFrom_l0 (Fu : Nat) (a1 : List Int) (x14 : ((List (Int × Int × Int)) × (List ((Int × Int × Int) × Int)) × (List (Int × Int))) × (List (Int × Int × Int))) (x43 : Int × ((List (Int × Int × Int)) × (List ((Int × Int × Int) × Int)) × (List (Int × Int)))) : Nat → Int → Option (Sum Bool Unit)
  | 0, _ => none
  | k + 1, x64 => if x64 < (a1.length : Int) then ((idx a1 x64).bind fun x68 => if ((decide (x68 < 0)) || (decide ((x14.2.length : Int) ≤ x68))) = true then (some (.inl ((decide (x43.1 = 2)) && true))) else (chatelainelaw37_KnowFrom_l0 Fu a1 x14 x43 k (w64 (x64 + 1)))) else (some (.inr ()))
def chatelainelaw37_KnowFrom_l1 (Fu : Nat) (x87 : (List Bool)) : Nat → (List Int) → Int → Option (Sum Bool ((List Int)))
  | 0, _, _ => none
  | k + 1, x98, x103 => if x103 < (x87.length : Int) then (((ix x87.length x103).bind fun m120 => (x87[m120]?).bind fun x126 => (know_Set_Has_nil0 Fu x103).bind fun x131 => if (!(x131 == x126)) = true then (some (.inl false)) else (if x126 = true then ((app 8 x98 ([x103])).bind fun x136 => some (.inr x136)) else (some (.inr x98))) : Option (Sum Bool ((List Int)))).bind fun o => match o with | .inl r142 => some (.inl r142) | .inr x115 => chatelainelaw37_KnowFrom_l1 Fu x87 k x115 (w64 (x103 + 1))) else (some (.inr x98))
def chatelainelaw37_KnowFrom_l2 (Fu : Nat) (a1 : List Int) (x14 : ((List (Int × Int × Int)) × (List ((Int × Int × Int) × Int)) × (List (Int × Int))) × (List (Int × Int × Int))) : Nat → Int → Option (Sum Bool Unit)
  | 0, _ => none
  | k + 1, x213 => if x213 < (a1.length : Int) then ((idx a1 x213).bind fun x217 => if ((decide (x217 < 0)) || (decide ((x14.2.length : Int) ≤ x217))) = true then (some (.inl false)) else (chatelainelaw37_KnowFrom_l2 Fu a1 x14 k (w64 (x213 + 1)))) else (some (.inr ()))
def chatelainelaw37_KnowFrom_l3 (Fu : Nat) (x180 : ((List (Int × Int × Int)) × (List Bool) × (List Int) × Bool) × Int × ((List (Int × Int × Int)) × (List ((Int × Int × Int) × Int)) × (List (Int × Int)))) (x236 : (List Bool)) : Nat → (List Int) → Int → Option (Sum Bool ((List Int)))
  | 0, _, _ => none
  | k + 1, x247, x252 => if x252 < (x236.length : Int) then (((ix x236.length x252).bind fun m269 => (x236[m269]?).bind fun x275 => (know_Set_Has Fu x180.1 x252).bind fun x280 => if (!(x280 == x275)) = true then (some (.inl false)) else (if x275 = true then ((app 8 x247 ([x252])).bind fun x285 => some (.inr x285)) else (some (.inr x247))) : Option (Sum Bool ((List Int)))).bind fun o => match o with | .inl r291 => some (.inl r291) | .inr x264 => chatelainelaw37_KnowFrom_l3 Fu x180 x236 k x264 (w64 (x252 + 1))) else (some (.inr x247))
def chatelainelaw37_KnowFrom_l4 (Fu : Nat) (a1 : List Int) (x345 : ((List (Int × Int × Int)) × (List ((Int × Int × Int) × Int)) × (List (Int × Int))) × (List (Int × Int × Int))) (x374 : Int × ((List (Int × Int × Int)) × (List ((Int × Int × Int) × Int)) × (List (Int × Int)))) : Nat → Int → Option (Sum Bool Unit)
  | 0, _ => none
  | k + 1, x395 => if x395 < (a1.length : Int) then ((idx a1 x395).bind fun x399 => if ((decide (x399 < 0)) || (decide ((x345.2.length : Int) ≤ x399))) = true then (some (.inl ((decide (x374.1 = 2)) && true))) else (chatelainelaw37_KnowFrom_l4 Fu a1 x345 x374 k (w64 (x395 + 1)))) else (some (.inr ()))
def chatelainelaw37_KnowFrom_l5 (Fu : Nat) (x418 : (List Bool)) : Nat → (List Int) → Int → Option (Sum Bool ((List Int)))
  | 0, _, _ => none
  | k + 1, x429, x434 => if x434 < (x418.length : Int) then (((ix x418.length x434).bind fun m451 => (x418[m451]?).bind fun x457 => (know_Set_Has_nil0 Fu x434).bind fun x462 => if (!(x462 == x457)) = true then (some (.inl false)) else (if x457 = true then ((app 8 x429 ([x434])).bind fun x467 => some (.inr x467)) else (some (.inr x429))) : Option (Sum Bool ((List Int)))).bind fun o => match o with | .inl r473 => some (.inl r473) | .inr x446 => chatelainelaw37_KnowFrom_l5 Fu x418 k x446 (w64 (x434 + 1))) else (some (.inr x429))
def chatelainelaw37_KnowFrom_l6 (Fu : Nat) (a1 : List Int) (x345 : ((List (Int × Int × Int)) × (List ((Int × Int × Int) × Int)) × (List (Int × Int))) × (List (Int × Int × Int))) : Nat → Int → Option (Sum Bool Unit)
  | 0, _ => none
  | k + 1, x544 => if x544 < (a1.length : Int) then ((idx a1 x544).bind fun x548 => if ((decide (x548 < 0)) || (decide ((x345.2.length : Int) ≤ x548))) = true then (some (.inl false)) else (chatelainelaw37_KnowFrom_l6 Fu a1 x345 k (w64 (x544 + 1)))) else (some (.inr ()))
def chatelainelaw37_KnowFrom_l7 (Fu : Nat) (x511 : ((List (Int × Int × Int)) × (List Bool) × (List Int) × Bool) × Int × ((List (Int × Int × Int)) × (List ((Int × Int × Int) × Int)) × (List (Int × Int)))) (x567 : (List Bool)) : Nat → (List Int) → Int → Option (Sum Bool ((List Int)))
  | 0, _, _ => none
  | k + 1, x578, x583 => if x583 < (x567.length : Int) then (((ix x567.length x583).bind fun m600 => (x567[m600]?).bind fun x606 => (know_Set_Has Fu x511.1 x583).bind fun x611 => if (!(x611 == x606)) = true then (some (.inl false)) else (if x606 = true then ((app 8 x578 ([x583])).bind fun x616 => some (.inr x616)) else (some (.inr x578))) : Option (Sum Bool ((List Int)))).bind fun o => match o with | .inl r622 => some (.inl r622) | .inr x595 => chatelainelaw37_KnowFrom_l7 Fu x511 x567 k x595 (w64 (x583 + 1))) else (some (.inr x578))
def chatelainelaw37_KnowFrom (Fu : Nat) (a0 : List (Int × Int × Int)) (a1 : List Int) : Option Bool :=
  (chatelainelaw37_awake Fu).bind fun x1 => if (!x1) = true then (some false) else ((know_From_nil0 Fu ([])).bind fun x4 => (match x4 with | .inl x10 => (if x10 ≠ 1 then (some false) else (if ((decide (40 < (a0.length : Int))) || (decide (40 < (a1.length : Int)))) = true then (some true) else ((chatelainelaw37_made Fu a0).bind fun x14 => (know_From Fu x14.1 a1).bind fun x37 => (match x37 with | .inl x43 => ((term_Store_Len Fu x43.2).bind fun x57 => if x57 ≠ (x14.2.length : Int) then (some false) else ((chatelainelaw37_KnowFrom_l0 Fu a1 x14 x43 Fu 0).bind fun o => match o with | .inl r179 => some r179 | .inr _ => (chatelaineref37_Known Fu x14.2 a1).bind fun x87 => (chatelainelaw37_KnowFrom_l1 Fu x87 Fu ([]) 0).bind fun o => match o with | .inl r178 => some r178 | .inr x105 => (if x43.1 = 0 then (know_Set_List_nil0 Fu).bind fun x146 => (chatelaineref01_Ints Fu x146 x105).bind fun x154 => some x154 else some false).bind fun z144 => (if z144 = true then (know_Set_Len_nil0 Fu).bind fun x160 => some (decide (x160 = (x105.length : Int))) else some false).bind fun z158 => (if z158 = true then (know_Set_Has_nil0 Fu (-1)).bind fun x168 => some (!x168) else some false).bind fun z166 => (if z166 = true then (know_Set_Has_nil0 Fu (x87.length : Int)).bind fun x175 => some (!x175) else some false).bind fun z172 => some z172)) | .inr x180 => ((term_Store_Len Fu x180.2.2).bind fun x206 => if x206 ≠ (x14.2.length : Int) then (some false) else ((chatelainelaw37_KnowFrom_l2 Fu a1 x14 Fu 0).bind fun o => match o with | .inl r328 => some r328 | .inr _ => (chatelaineref37_Known Fu x14.2 a1).bind fun x236 => (chatelainelaw37_KnowFrom_l3 Fu x180 x236 Fu ([]) 0).bind fun o => match o with | .inl r327 => some r327 | .inr x254 => (if x180.2.1 = 0 then (know_Set_List Fu x180.1).bind fun x295 => (chatelaineref01_Ints Fu x295 x254).bind fun x303 => some x303 else some false).bind fun z293 => (if z293 = true then (know_Set_Len Fu x180.1).bind fun x309 => some (decide (x309 = (x254.length : Int))) else some false).bind fun z307 => (if z307 = true then (know_Set_Has Fu x180.1 (-1)).bind fun x317 => some (!x317) else some false).bind fun z315 => (if z315 = true then (know_Set_Has Fu x180.1 (x236.length : Int)).bind fun x324 => some (!x324) else some false).bind fun z321 => some z321)))))) | .inr x329 => (if x329.2 ≠ 1 then (some false) else (if ((decide (40 < (a0.length : Int))) || (decide (40 < (a1.length : Int)))) = true then (some true) else ((chatelainelaw37_made Fu a0).bind fun x345 => (know_From Fu x345.1 a1).bind fun x368 => (match x368 with | .inl x374 => ((term_Store_Len Fu x374.2).bind fun x388 => if x388 ≠ (x345.2.length : Int) then (some false) else ((chatelainelaw37_KnowFrom_l4 Fu a1 x345 x374 Fu 0).bind fun o => match o with | .inl r510 => some r510 | .inr _ => (chatelaineref37_Known Fu x345.2 a1).bind fun x418 => (chatelainelaw37_KnowFrom_l5 Fu x418 Fu ([]) 0).bind fun o => match o with | .inl r509 => some r509 | .inr x436 => (if x374.1 = 0 then (know_Set_List_nil0 Fu).bind fun x477 => (chatelaineref01_Ints Fu x477 x436).bind fun x485 => some x485 else some false).bind fun z475 => (if z475 = true then (know_Set_Len_nil0 Fu).bind fun x491 => some (decide (x491 = (x436.length : Int))) else some false).bind fun z489 => (if z489 = true then (know_Set_Has_nil0 Fu (-1)).bind fun x499 => some (!x499) else some false).bind fun z497 => (if z497 = true then (know_Set_Has_nil0 Fu (x418.length : Int)).bind fun x506 => some (!x506) else some false).bind fun z503 => some z503)) | .inr x511 => ((term_Store_Len Fu x511.2.2).bind fun x537 => if x537 ≠ (x345.2.length : Int) then (some false) else ((chatelainelaw37_KnowFrom_l6 Fu a1 x345 Fu 0).bind fun o => match o with | .inl r659 => some r659 | .inr _ => (chatelaineref37_Known Fu x345.2 a1).bind fun x567 => (chatelainelaw37_KnowFrom_l7 Fu x511 x567 Fu ([]) 0).bind fun o => match o with | .inl r658 => some r658 | .inr x585 => (if x511.2.1 = 0 then (know_Set_List Fu x511.1).bind fun x626 => (chatelaineref01_Ints Fu x626 x585).bind fun x634 => some x634 else some false).bind fun z624 => (if z624 = true then (know_Set_Len Fu x511.1).bind fun x640 => some (decide (x640 = (x585.length : Int))) else some false).bind fun z638 => (if z638 = true then (know_Set_Has Fu x511.1 (-1)).bind fun x648 => some (!x648) else some false).bind fun z646 => (if z646 = true then (know_Set_Has Fu x511.1 (x567.length : Int)).bind fun x655 => some (!x655) else some false).bind fun z652 => some z652))))))))
set_option maxRecDepth 100000 in
set_option maxHeartbeats 2000000 in
theorem chatelainelaw37_KnowFrom_ok (Fu : Nat) {S0 : Snap} (Aa0 : Option Addr) (ca0 : Nat) (a0 : List (Int × Int × Int)) (hsa0 : slS (tyP tyI (tyP tyI tyI)) S0 Aa0 ca0 a0) (Aa1 : Option Addr) (ca1 : Nat) (a1 : List Int) (hsa1 : slS tyI S0 Aa1 ca1 a1) (r : Bool) (hf : chatelainelaw37_KnowFrom Fu a0 a1 = some r) (w0 : World) (hm : Mem w0 (ownL ([] ++ [.sn S0])) ([] ++ [.sn S0]) w0) :
    Calls Try.prog 3 #[.slice Aa0 a0.length ca0, .slice Aa1 a1.length ca1] w0 (Ret w0 S0 [] (fun v L1 S1 => v = .bool r ∧ L1 = [] ∧ True)) := by
  unfold chatelainelaw37_KnowFrom at hf
  refine c_enterM Try.func3 rfl 118 rfl (by simp) _ hm _ rfl (fun a h => ?_)
  refine c_rs ?_ -- region 0
  refine s_assign h rfl _ rfl rfl (by decide) rfl (fun a h => ?_)
  refine l_end ?_
  refine wp_seq ?_
  refine c_rs ?_ -- region 1
  obtain ⟨x1, h2, hf⟩ := bsome hf
  have hX := chatelainelaw37_awake_ok Fu (S0 := snapAll _)  _ h2 _ h.startAll
  refine q_callX hX h rfl rfl rfl (by decide) Try.func5 rfl rfl rfl (fun a w v L1 S1 hR hb1 h => ?_)
  obtain ⟨rfl, rfl, _⟩ := hR
  refine s_x h rfl rfl (by decide) (x_not h.k rfl rfl) (fun a h => ?_)
  refine l_end ?_
  refine c_cond h rfl (fun hb => ?_) (fun hb => ?_)
  · rw [if_pos hb] at hf
    refine c_rs ?_ -- region 2
    refine s_assign h rfl _ rfl rfl (by decide) rfl (fun a h => ?_)
    refine l_end ?_
    refine wp_ret ?_
    refine e_thenR ?_
    rw [← Option.some.inj hf]
    exact r_ret1 h rfl (rv_tmp h rfl) ⟨_, [], _, rfl, ⟨rfl, rfl, trivial⟩, rfl, (Up.refl _ _ _), h.m⟩
  · rw [if_neg (by rw [hb]; decide)] at hf
    refine wp_skip ?_
    refine e_thenN ?_
    refine wp_seq ?_
    refine c_rs ?_ -- region 3
    obtain ⟨x4, h5, hf⟩ := bsome hf
    have hX := know_From_nil0_ok Fu (S0 := S0) none 0 [] (slS.nil _ _) _ h5 _ (h.sub (Ls := []))
    refine q_callY (Ls := []) hX h (Up.refl _ _ _) rfl rfl rfl (by decide) Try.func6 rfl rfl rfl (fun a w v L1 S7 hR le9 up8 h => ?_)
    rcases hR with hR | hR
    · obtain ⟨x10, rfl, hR⟩ := hR
      dsimp only at hf
      obtain ⟨rfl, rfl, hr11, _⟩ := hR
      refine s_move h rfl _ rfl rfl (by decide) rfl (fun a h => ?_)
      refine s_x h rfl rfl (by decide) (x_ext h.k rfl rfl rfl) (fun a h => ?_)
      refine s_x h rfl rfl (by decide) (x_ext h.k rfl rfl rfl) (fun a h => ?_)
      refine s_assign h rfl _ rfl rfl (by decide) rfl (fun a h => ?_)
      refine s_assign h rfl _ rfl rfl (by decide) rfl (fun a h => ?_)
      refine l_end ?_
      refine c_rs ?_ -- region 4
      refine s_move h rfl _ rfl rfl (by decide) rfl (fun a h => ?_)
      refine s_x h rfl rfl (by decide) (x_bin h.k rfl rfl rfl ib_neq) (fun a h => ?_)
      refine l_end ?_
      refine c_cond h rfl (fun hb => ?_) (fun hb => ?_)
      · rw [if_pos (of_decide_eq_true hb)] at hf
        refine c_rs ?_ -- region 5
        refine s_assign h rfl _ rfl rfl (by decide) rfl (fun a h => ?_)
        refine l_end ?_
        refine wp_ret ?_
        refine e_thenR ?_
        rw [← Option.some.inj hf]
        exact r_ret1 h rfl (rv_tmp h rfl) ⟨_, [], _, rfl, ⟨rfl, rfl, trivial⟩, rfl, up8, h.m⟩
      · rw [if_neg (of_decide_eq_false hb)] at hf
        refine wp_skip ?_
        refine e_thenN ?_
        refine wp_seq ?_
        refine c_rs ?_ -- region 6
        refine s_move h rfl _ rfl rfl (by decide) rfl (fun a h => ?_)
        refine s_x h rfl rfl (by decide) (x_len h.k rfl Try.underlying22 rfl) (fun a h => ?_)
        refine s_x h rfl rfl (by decide) (x_bin h.k rfl rfl rfl ib_gtr) (fun a h => ?_)
        refine s_move h rfl _ rfl rfl (by decide) rfl (fun a h => ?_)
        refine q_grp h 4 (t := 28) 32 ((decide (40 < (a0.length : Int))) || (decide (40 < (a1.length : Int)))) rfl (fun hB3 => ?_) (fun hB3 => ?_) (fun a w h => ?_)
        · refine g_no h rfl rfl rfl rfl hB3 rfl (by decide) (fun a h => ?_)
          refine g_no h rfl rfl rfl rfl hB3 rfl (by decide) (fun a h => ?_)
          refine g_no h rfl rfl rfl rfl hB3 rfl (by decide) (fun a h => ?_)
          refine s_x h rfl rfl (by decide) (x_pick (u' := undef) h.k rfl rfl (fun _ => rfl) (fun hh => absurd (hB3.symm.trans hh) (by decide))) (fun a h => ?_)
          exact (h.mid 3 rfl).val (by first | rfl | (rw [hB3]; first | rfl | simp))
        · refine g_yes h rfl rfl rfl rfl hB3 ?_
          refine s_move h rfl _ rfl rfl (by decide) rfl (fun a h => ?_)
          refine g_yes h rfl rfl rfl rfl hB3 ?_
          refine s_x h rfl rfl (by decide) (x_len h.k rfl Try.underlying23 rfl) (fun a h => ?_)
          refine g_yes h rfl rfl rfl rfl hB3 ?_
          refine s_x h rfl rfl (by decide) (x_bin h.k rfl rfl rfl ib_gtr) (fun a h => ?_)
          refine s_x h rfl rfl (by decide) (x_pick (u' := undef) h.k rfl rfl (fun hh => absurd (hB3.symm.trans hh) (by decide)) (fun _ => rfl)) (fun a h => ?_)
          exact (h.mid 3 rfl).val (by first | rfl | (rw [hB3]; first | rfl | simp))
        refine l_end ?_
        refine c_cond h rfl (fun hb => ?_) (fun hb => ?_)
        · rw [if_pos hb] at hf
          refine c_rs ?_ -- region 7
          refine s_assign h rfl _ rfl rfl (by decide) rfl (fun a h => ?_)
          refine l_end ?_
          refine wp_ret ?_
          refine e_thenR ?_
          rw [← Option.some.inj hf]
          exact r_ret1 h rfl (rv_tmp h rfl) ⟨_, [], _, rfl, ⟨rfl, rfl, trivial⟩, rfl, up8, h.m⟩
        · rw [if_neg (by rw [hb]; decide)] at hf
          refine wp_skip ?_
          refine e_thenN ?_
          refine c_rs ?_ -- region 8
          refine s_move h rfl _ rfl rfl (by decide) rfl (fun a h => ?_)
          obtain ⟨x14, h15, hf⟩ := bsome hf
          have hX := chatelainelaw37_made_ok Fu (S0 := S7) Aa0 ca0 a0 (hsa0.mono le9) _ h15 _ (h.sub (Ls := []))
          refine q_callY (Ls := []) hX h up8 rfl rfl rfl (by decide) Try.func7 rfl rfl rfl (fun a w v L1 S17 hR le19 up18 h => ?_)
          obtain ⟨g20, A21, c22, cs23, g25, es26, cl27, g29, es30, cl31, A33, c34, cs35, rfl, rfl, hq24, hm28, hm32, hq36, _⟩ := hR
          refine s_move h rfl _ rfl rfl (by decide) rfl (fun a h => ?_)
          refine s_x h rfl rfl (by decide) (x_ext h.k rfl rfl rfl) (fun a h => ?_)
          refine s_x h rfl rfl (by decide) (x_ext h.k rfl rfl rfl) (fun a h => ?_)
          refine s_assign h rfl _ rfl rfl (by decide) rfl (fun a h => ?_)
          refine s_assign h rfl _ rfl rfl (by decide) rfl (fun a h => ?_)
          refine l_end ?_
          refine c_rs ?_ -- region 9
          refine s_move h rfl _ rfl rfl (by decide) rfl (fun a h => ?_)
          refine s_move h rfl _ rfl rfl (by decide) rfl (fun a h => ?_)
          obtain ⟨x37, h38, hf⟩ := bsome hf
          have h := h.pick [0, 1, 2, 3, 5, 4] (by decide) rfl
          have hX := know_From_ok Fu (S0 := S17) x14.1 g20 A21 c22 cs23 g25 es26 cl27 g29 es30 cl31 hq24 hm28 hm32 Aa1 ca1 a1 (hsa1.mono (le9.trans le19)) _ h38 _ (h.sub (Ls := [.box g20 52 ([.slice A21 x14.1.1.length c22, .map (some g25), .map (some g29)]), .row (.slice A21 x14.1.1.length c22) 46 3 x14.1.1.length cs23, .obj g25 (.map es26 cl27), .obj g29 (.map es30 cl31)]))
          refine q_callY (Ls := [.box g20 52 ([.slice A21 x14.1.1.length c22, .map (some g25), .map (some g29)]), .row (.slice A21 x14.1.1.length c22) 46 3 x14.1.1.length cs23, .obj g25 (.map es26 cl27), .obj g29 (.map es30 cl31)]) hX h up18 rfl rfl rfl (by decide) Try.func6 rfl rfl rfl (fun a w v L1 S40 hR le42 up41 h => ?_)
          rcases hR with hR | hR
          · obtain ⟨x43, rfl, hR⟩ := hR
            dsimp only at hf
            obtain ⟨A45, c46, cs47, g49, es50, cl51, g53, es54, cl55, rfl, rfl, hr44, hq48, hm52, hm56, _⟩ := hR
            refine s_move h rfl _ rfl rfl (by decide) rfl (fun a h => ?_)
            refine s_x h rfl rfl (by decide) (x_ext h.k rfl rfl rfl) (fun a h => ?_)
            refine s_x h rfl rfl (by decide) (x_ext h.k rfl rfl rfl) (fun a h => ?_)
            refine s_assign h rfl _ rfl rfl (by decide) rfl (fun a h => ?_)
            refine s_assign h rfl _ rfl rfl (by decide) rfl (fun a h => ?_)
            refine l_end ?_
            refine wp_seq ?_
            refine c_rs ?_ -- region 10
            refine s_move h rfl _ rfl rfl (by decide) rfl (fun a h => ?_)
            obtain ⟨x57, h58, hf⟩ := bsome hf
            have hX := term_Store_Len_ok Fu (S0 := snapAll _) g20 x43.2 ⟨[.slice A45 x43.2.1.length c46, .map (some g49), .map (some g53)], h.m.boxAll (i := 0) rfl, ⟨[.slice A45 x43.2.1.length c46], [.map (some g49), .map (some g53)], rfl, ⟨_, _, rfl, h.m.rowAll (i := 1) rfl (j := 4) rfl hq48⟩, ⟨[.map (some g49)], [.map (some g53)], rfl, ⟨_, rfl, h.m.mapAll (i := 2) rfl (j := 4) rfl hm52⟩, ⟨_, rfl, h.m.mapAll (i := 3) rfl (j := 4) rfl hm56⟩⟩⟩⟩ _ h58 _ h.startAll
            refine q_callX hX h rfl rfl rfl (by decide) Try.func8 rfl rfl rfl (fun a w v L1 S1 hR hb1 h => ?_)
            obtain ⟨rfl, rfl, hr60, _⟩ := hR
            refine s_move h rfl _ rfl rfl (by decide) rfl (fun a h => ?_)
            have hr61 : r64 (x14.2.length : Int) := len_r (h.m.rowLen (i := 5) rfl)
            refine s_x h rfl rfl (by decide) (x_len h.k rfl Try.underlying22 rfl) (fun a h => ?_)
            refine s_x h rfl rfl (by decide) (x_bin h.k rfl rfl rfl ib_neq) (fun a h => ?_)
            refine l_end ?_
            refine c_cond h rfl (fun hb => ?_) (fun hb => ?_)
            · rw [if_pos (of_decide_eq_true hb)] at hf
              refine c_rs ?_ -- region 11
              refine s_assign h rfl _ rfl rfl (by decide) rfl (fun a h => ?_)
              refine l_end ?_
              refine wp_ret ?_
              refine e_thenR ?_
              rw [← Option.some.inj hf]
              exact r_ret1 h rfl (rv_tmp h rfl) ⟨_, [], _, rfl, ⟨rfl, rfl, trivial⟩, rfl, up41, (h.m.pick [4] _ (by decide) rfl)⟩
            · rw [if_neg (of_decide_eq_false hb)] at hf
              refine wp_skip ?_
              refine e_thenN ?_
              refine wp_seq ?_
              refine c_rs ?_ -- region 12
              refine s_move h rfl _ rfl rfl (by decide) rfl (fun a h => ?_)
              refine s_x h rfl rfl (by decide) (x_len h.k rfl Try.underlying23 rfl) (fun a h => ?_)
              refine s_move h rfl _ rfl rfl (by decide) rfl (fun a h => ?_)
              refine l_end ?_
              obtain ⟨o62, hl63, hf⟩ := bsome hf
              refine c_fin (fun a w => (.inr ()) = o62 ∧ St 118 w0 (ownL ([] ++ [.sn S0])) [(1, .slice Aa1 a1.length ca1), (8, .slice A33 x14.2.length c34), (9, .pointer none), (10, .int .i64 x43.1)] [.row (.slice A33 x14.2.length c34) 46 3 x14.2.length cs35, .sn S40] a w) ?_ ?_
              · refine wp_block ?_
                have h := h.pick [5, 4] (by decide) rfl
                refine c_loop (fun m67 a w => ∃ (x64 : Int), chatelainelaw37_KnowFrom_l0 Fu a1 x14 x43 m67 x64 = some o62 ∧ r64 x64 ∧ St 118 w0 (ownL ([] ++ [.sn S0])) [(1, .slice Aa1 a1.length ca1), (8, .slice A33 x14.2.length c34), (9, .pointer none), (10, .int .i64 x43.1), (49, .slice Aa1 a1.length ca1), (50, .int .i64 (a1.length : Int)), (51, .int .i64 x64)] [.row (.slice A33 x14.2.length c34) 46 3 x14.2.length cs35, .sn S40] a w) Fu ⟨0, hl63, (show r64 0 from ⟨by decide, by decide⟩), h.has (by exact ⟨rfl, rfl, rfl, rfl, rfl, rfl, rfl, trivial⟩)⟩ (fun m67 a w hI => ?_)
                obtain ⟨x64, hl66, hr65, h⟩ := hI
                obtain _ | m67 := m67
                · rw [chatelainelaw37_KnowFrom_l0] at hl66; cases hl66
                rw [chatelainelaw37_KnowFrom_l0] at hl66
                refine c_rs ?_ -- region 13
                refine s_x h rfl rfl (by decide) (x_bin h.k rfl rfl rfl ib_lss) (fun a h => ?_)
                refine l_end ?_
                refine c_cs h rfl (fun hb => ?_) (fun hb => ?_)
                · rw [if_pos (of_decide_eq_true hb)] at hl66
                  refine wp_skip ?_
                  refine e_thenN ?_
                  refine wp_seq ?_
                  refine wp_block ?_
                  refine c_rs ?_ -- region 14
                  obtain ⟨x68, h72, hl66⟩ := bsome hl66
                  obtain ⟨m69, hi73, hm74, hx75⟩ := idx_some h72
                  obtain ⟨b70, off71, k76, hA77, hu78, hc79⟩ := ((hsa1.mono ((le9.trans le19).trans le42))).at1 rfl hx75 (h.m.snOK (i := 1) rfl)
                  obtain ⟨e81, hr80⟩ := hu78
                  cases e81
                  refine s_x h rfl rfl (by decide) (x_iaddrE h.k rfl Try.underlying23 sz_int hA77 rfl rfl hi73 hm74) (fun a h => ?_)
                  refine s_x h rfl rfl (by decide) (x_ld h.k rfl Try.underlying3 rfl rfl (hc79 _ (h.m.snOK (i := 1) rfl))) (fun a h => ?_)
                  refine s_assign h rfl _ rfl rfl (by decide) rfl (fun a h => ?_)
                  refine l_end ?_
                  refine c_rs ?_ -- region 15
                  refine s_move h rfl _ rfl rfl (by decide) rfl (fun a h => ?_)
                  refine s_x h rfl rfl (by decide) (x_bin h.k rfl rfl rfl ib_lss) (fun a h => ?_)
                  refine s_move h rfl _ rfl rfl (by decide) rfl (fun a h => ?_)
                  refine q_grp h 5 (t := 57) 62 ((decide (x68 < 0)) || (decide ((x14.2.length : Int) ≤ x68))) rfl (fun hB2 => ?_) (fun hB2 => ?_) (fun a w h => ?_)
                  · refine g_no h rfl rfl rfl rfl hB2 rfl (by decide) (fun a h => ?_)
                    refine g_no h rfl rfl rfl rfl hB2 rfl (by decide) (fun a h => ?_)
                    refine g_no h rfl rfl rfl rfl hB2 rfl (by decide) (fun a h => ?_)
                    refine g_no h rfl rfl rfl rfl hB2 rfl (by decide) (fun a h => ?_)
                    refine s_x h rfl rfl (by decide) (x_pick (u' := undef) h.k rfl rfl (fun _ => rfl) (fun hh => absurd (hB2.symm.trans hh) (by decide))) (fun a h => ?_)
                    exact (h.mid 4 rfl).val (by first | rfl | (rw [hB2]; first | rfl | simp))
                  · refine g_yes h rfl rfl rfl rfl hB2 ?_
                    refine s_move h rfl _ rfl rfl (by decide) rfl (fun a h => ?_)
                    refine g_yes h rfl rfl rfl rfl hB2 ?_
                    refine s_move h rfl _ rfl rfl (by decide) rfl (fun a h => ?_)
                    refine g_yes h rfl rfl rfl rfl hB2 ?_
                    have hr84 : r64 (x14.2.length : Int) := len_r (h.m.rowLen (i := 0) rfl)
                    refine s_x h rfl rfl (by decide) (x_len h.k rfl Try.underlying22 rfl) (fun a h => ?_)
                    refine g_yes h rfl rfl rfl rfl hB2 ?_
                    refine s_x h rfl rfl (by decide) (x_bin h.k rfl rfl rfl ib_geq) (fun a h => ?_)
                    refine s_x h rfl rfl (by decide) (x_pick (u' := undef) h.k rfl rfl (fun hh => absurd (hB2.symm.trans hh) (by decide)) (fun _ => rfl)) (fun a h => ?_)
                    exact (h.mid 4 rfl).val (by first | rfl | (rw [hB2]; first | rfl | simp))
                  refine l_end ?_
                  refine c_cond h rfl (fun hb => ?_) (fun hb => ?_)
                  · rw [if_pos hb] at hl66
                    refine c_rs ?_ -- region 16
                    refine s_move h rfl _ rfl rfl (by decide) rfl (fun a h => ?_)
                    refine s_x h rfl rfl (by decide) (x_bin h.k rfl rfl rfl ib_eql) (fun a h => ?_)
                    refine s_move h rfl _ rfl rfl (by decide) rfl (fun a h => ?_)
                    refine q_grp h 3 (t := 65) 68 ((decide (x43.1 = 2)) && true) rfl (fun hB2 => ?_) (fun hB2 => ?_) (fun a w h => ?_)
                    · refine g_yes h rfl rfl rfl rfl hB2 ?_
                      refine s_move h rfl _ rfl rfl (by decide) rfl (fun a h => ?_)
                      refine g_yes h rfl rfl rfl rfl hB2 ?_
                      refine s_x h rfl rfl (by decide) (x_eql_nn h.k rfl Try.underlying25 rfl rfl) (fun a h => ?_)
                      refine s_x h rfl rfl (by decide) (x_pick (u' := undef) h.k rfl rfl (fun _ => rfl) (fun hh => absurd (hB2.symm.trans hh) (by decide))) (fun a h => ?_)
                      exact (h.mid 2 rfl).val (by first | rfl | (rw [hB2]; first | rfl | simp))
                    · refine g_no h rfl rfl rfl rfl hB2 rfl (by decide) (fun a h => ?_)
                      refine g_no h rfl rfl rfl rfl hB2 rfl (by decide) (fun a h => ?_)
                      refine s_x h rfl rfl (by decide) (x_pick (u' := undef) h.k rfl rfl (fun hh => absurd (hB2.symm.trans hh) (by decide)) (fun _ => rfl)) (fun a h => ?_)
                      exact (h.mid 2 rfl).val (by first | rfl | (rw [hB2]; first | rfl | simp))
                    refine s_assign h rfl _ rfl rfl (by decide) rfl (fun a h => ?_)
                    refine l_end ?_
                    refine wp_ret ?_
                    refine e_blkR ?_
                    refine e_thenR ?_
                    refine e_thenR ?_
                    refine e_blkR ?_
                    refine e_thenR ?_
                    cases hl66
                    try dsimp only at hf
                    refine e_thenR ?_
                    obtain rfl := Option.some.inj hf
                    exact r_ret1 h rfl (rv_tmp h rfl) ⟨_, [], _, rfl, ⟨rfl, rfl, trivial⟩, rfl, up41, (h.m.pick [1] _ (by decide) rfl)⟩
                  · rw [if_neg (by rw [hb]; decide)] at hl66
                    refine wp_skip ?_
                    refine e_blkN ?_
                    refine e_thenN ?_
                    refine c_r ?_ -- region 17
                    refine s_x h rfl rfl (by decide) (x_bin h.k rfl rfl rfl (ib_add rfl)) (fun a h => ?_)
                    refine s_move h rfl _ rfl rfl (by decide) rfl (fun a h => ?_)
                    refine l_nil ?_
                    exact e_thenN ⟨m67, Nat.lt_succ_self _, w64 (x64 + 1), hl66, (w64_r _), h.has (by exact ⟨rfl, rfl, rfl, rfl, rfl, rfl, rfl, trivial⟩)⟩
                · rw [if_neg (of_decide_eq_false hb)] at hl66
                  refine wp_exit ?_
                  refine e_thenX ?_
                  refine e_thenX ?_
                  refine e_blkX ?_
                  refine e_thenN ?_
                  exact ⟨(Option.some.inj hl66), h.has (by exact ⟨rfl, rfl, rfl, rfl, trivial⟩)⟩
              · rintro a w ⟨rfl, h⟩
                try dsimp only at hf
                refine e_thenN ?_
                refine c_rs ?_ -- region 18
                refine s_move h rfl _ rfl rfl (by decide) rfl (fun a h => ?_)
                refine s_move h rfl _ rfl rfl (by decide) rfl (fun a h => ?_)
                obtain ⟨x87, h88, hf⟩ := bsome hf
                have hX := chatelaineref37_Known_ok Fu (S0 := snapAll _) A33 c34 x14.2 (h.m.rowAll (i := 0) rfl (j := 1) rfl (hq36.mono le42)) Aa1 ca1 a1 ((hsa1.mono ((le9.trans le19).trans le42)).mono (h.m.leAll (i := 1) rfl)) _ h88 _ h.startAll
                refine q_callX hX h rfl rfl rfl (by decide) Try.func9 rfl rfl rfl (fun a w v L1 S1 hR hb1 h => ?_)
                obtain ⟨A90, c91, cs92, rfl, rfl, hq93, _⟩ := hR
                have hq94 := hq93.fl (S' := S40) fl_B
                refine s_assign h rfl _ rfl rfl (by decide) rfl (fun a h => ?_)
                refine l_end ?_
                refine c_rs ?_ -- region 19
                refine s_assign h rfl _ rfl rfl (by decide) rfl (fun a h => ?_)
                refine l_end ?_
                refine wp_seq ?_
                refine c_rs ?_ -- region 20
                refine s_move h rfl _ rfl rfl (by decide) rfl (fun a h => ?_)
                have hr95 : r64 (x87.length : Int) := len_r (h.m.rowLen (i := 0) rfl)
                refine s_x h rfl rfl (by decide) (x_len h.k rfl Try.underlying33 rfl) (fun a h => ?_)
                refine s_move h rfl _ rfl rfl (by decide) rfl (fun a h => ?_)
                refine l_end ?_
                obtain ⟨o96, hl97, hf⟩ := bsome hf
                refine c_fin (fun a w => ∃ (x105 : List Int), ∃ (A106 : Option Addr), ∃ (c107 : Nat), ∃ (cs108 : List Value), (.inr x105) = o96 ∧ reps tyI S40 cs108 x105 ∧ St 118 w0 (ownL ([] ++ [.sn S0])) [(9, .pointer none), (10, .int .i64 x43.1), (13, .slice A90 x87.length c91), (14, .slice A106 x105.length c107)] [.row (.slice A90 x87.length c91) 4 1 x87.length cs92, .row (.slice A106 x105.length c107) 3 1 x105.length cs108, .sn S40] a w) ?_ ?_
                · refine wp_block ?_
                  have h := h.mem (h.m.nilrow 3 1)
                  have h := h.pick [1, 0, 3] (by decide) rfl
                  refine c_loop (fun m111 a w => ∃ (x98 : List Int), ∃ (A99 : Option Addr), ∃ (c100 : Nat), ∃ (cs101 : List Value), ∃ (x103 : Int), chatelainelaw37_KnowFrom_l1 Fu x87 m111 x98 x103 = some o96 ∧ reps tyI S40 cs101 x98 ∧ r64 x103 ∧ St 118 w0 (ownL ([] ++ [.sn S0])) [(9, .pointer none), (10, .int .i64 x43.1), (13, .slice A90 x87.length c91), (14, .slice A99 x98.length c100), (73, .slice A90 x87.length c91), (74, .int .i64 (x87.length : Int)), (75, .int .i64 x103)] [.row (.slice A90 x87.length c91) 4 1 x87.length cs92, .row (.slice A99 x98.length c100) 3 1 x98.length cs101, .sn S40] a w) Fu ⟨[], none, 0, [], 0, hl97, (show reps tyI S40 [] [] from rfl), (show r64 0 from ⟨by decide, by decide⟩), h.has (by exact ⟨rfl, rfl, rfl, rfl, rfl, rfl, rfl, trivial⟩)⟩ (fun m111 a w hI => ?_)
                  obtain ⟨x98, A99, c100, cs101, x103, hl110, hq102, hr104, h⟩ := hI
                  obtain _ | m111 := m111
                  · rw [chatelainelaw37_KnowFrom_l1] at hl110; cases hl110
                  rw [chatelainelaw37_KnowFrom_l1] at hl110
                  refine c_rs ?_ -- region 21
                  refine s_x h rfl rfl (by decide) (x_bin h.k rfl rfl rfl ib_lss) (fun a h => ?_)
                  refine l_end ?_
                  refine c_cs h rfl (fun hb => ?_) (fun hb => ?_)
                  · rw [if_pos (of_decide_eq_true hb)] at hl110
                    refine wp_skip ?_
                    refine e_thenN ?_
                    obtain ⟨o113, hc114, hl110⟩ := bsome hl110
                    refine c_cut (fun a w => ∃ (x115 : List Int), ∃ (A116 : Option Addr), ∃ (c117 : Nat), ∃ (cs118 : List Value), (.inr x115) = o113 ∧ reps tyI S40 cs118 x115 ∧ St 118 w0 (ownL ([] ++ [.sn S0])) [(9, .pointer none), (10, .int .i64 x43.1), (13, .slice A90 x87.length c91), (14, .slice A116 x115.length c117), (73, .slice A90 x87.length c91), (74, .int .i64 (x87.length : Int)), (75, .int .i64 x103)] [.row (.slice A90 x87.length c91) 4 1 x87.length cs92, .row (.slice A116 x115.length c117) 3 1 x115.length cs118, .sn S40] a w) ?_ ?_
                    · refine wp_block ?_
                      refine c_rs ?_ -- region 22
                      refine s_move h rfl _ rfl rfl (by decide) rfl (fun a h => ?_)
                      obtain ⟨m120, h121, hc114⟩ := bsome hc114
                      obtain ⟨hi122, hm123⟩ := ix_some h121
                      obtain ⟨g125, hA124⟩ := h.m.rowHead (i := 0) rfl (Nat.lt_of_le_of_lt (Nat.zero_le _) hm123)
                      refine s_x h rfl rfl (by decide) (x_iaddrE h.k rfl Try.underlying33 sz_bool hA124 rfl rfl hi122 hm123) (fun a h => ?_)
                      obtain ⟨x126, h127, hc114⟩ := bsome hc114
                      obtain ⟨u128, hv129, hu130⟩ := (hq94).cell rfl h127
                      cases hu130
                      refine s_x h rfl rfl (by decide) (x_ld h.k rfl Try.underlying4 rfl rfl (h.m.cellRowE (i := 0) rfl hA124 _ (by rw [Nat.mul_one]; exact hv129))) (fun a h => ?_)
                      refine s_assign h rfl _ rfl rfl (by decide) rfl (fun a h => ?_)
                      refine s_assign h rfl _ rfl rfl (by decide) rfl (fun a h => ?_)
                      refine l_end ?_
                      refine wp_seq ?_
                      refine c_rs ?_ -- region 23
                      refine s_move h rfl _ rfl rfl (by decide) rfl (fun a h => ?_)
                      refine s_move h rfl _ rfl rfl (by decide) rfl (fun a h => ?_)
                      obtain ⟨x131, h132, hc114⟩ := bsome hc114
                      have hX := know_Set_Has_nil0_ok Fu (S0 := snapAll _) x103 hr104 _ h132 _ h.startAll
                      refine q_callX hX h rfl rfl rfl (by decide) Try.func10 rfl rfl rfl (fun a w v L1 S1 hR hb1 h => ?_)
                      obtain ⟨rfl, rfl, _⟩ := hR
                      refine s_move h rfl _ rfl rfl (by decide) rfl (fun a h => ?_)
                      refine s_x h rfl rfl (by decide) (x_neqB h.k rfl Try.underlying4 rfl rfl) (fun a h => ?_)
                      refine l_end ?_
                      refine c_cond h rfl (fun hb => ?_) (fun hb => ?_)
                      · rw [if_pos hb] at hc114
                        refine c_rs ?_ -- region 24
                        refine s_assign h rfl _ rfl rfl (by decide) rfl (fun a h => ?_)
                        refine l_end ?_
                        refine wp_ret ?_
                        refine e_thenR ?_
                        refine e_blkR ?_
                        refine e_thenR ?_
                        cases hc114
                        try dsimp only at hl110
                        refine e_thenR ?_
                        refine e_blkR ?_
                        refine e_thenR ?_
                        cases hl110
                        try dsimp only at hf
                        refine e_thenR ?_
                        rw [← Option.some.inj hf]
                        exact r_ret1 h rfl (rv_tmp h rfl) ⟨_, [], _, rfl, ⟨rfl, rfl, trivial⟩, rfl, up41, (h.m.pick [2] _ (by decide) rfl)⟩
                      · rw [if_neg (by rw [hb]; decide)] at hc114
                        refine wp_skip ?_
                        refine e_thenN ?_
                        refine c_rs ?_ -- region 25
                        refine s_move h rfl _ rfl rfl (by decide) rfl (fun a h => ?_)
                        refine l_end ?_
                        refine c_cond h rfl (fun hb => ?_) (fun hb => ?_)
                        · rw [if_pos hb] at hc114
                          refine c_r ?_ -- region 26
                          refine s_move h rfl _ rfl rfl (by decide) rfl (fun a h => ?_)
                          refine s_move h rfl _ rfl rfl (by decide) rfl (fun a h => ?_)
                          refine q_bslice (T := tyI) (S := S40) h rfl rfl rfl (by decide) Try.underlying23 zi_int (by decide) (by decide) (by decide) (by decide) [.int .i64 x103] rfl rfl (C := [[.int .i64 x103]]) rfl (xs := [x103]) ⟨[.int .i64 x103], _, rfl, ⟨rfl, hr104⟩, rfl⟩ (by intro c hc; simp only [List.mem_cons, List.not_mem_nil, or_false] at hc; subst hc; rfl) (fun a w A134 h => ?_)
                          have hb135 : reps tyI S40 ([[.int .i64 x103]] : List (List Value)).flatten [x103] := ⟨[.int .i64 x103], _, rfl, ⟨rfl, hr104⟩, rfl⟩
                          obtain ⟨x136, h137, hc114⟩ := bsome hc114
                          refine q_append (T := tyI) (S := S40) h rfl rfl rfl (by decide) Try.underlying23 zb_int rfl (by decide) rfl 2 rfl hq102 rfl hb135 (h.m.rdRowA (i := 0) rfl) h137 (fun a w A138 c139 cs140 hq141 h => ?_)
                          refine s_assign h rfl _ rfl rfl (by decide) rfl (fun a h => ?_)
                          refine l_nil ?_
                          refine e_blkN ?_
                          refine e_thenN ?_
                          have h := h.pick [1, 2, 3] (by decide) rfl
                          exact ⟨x136, A138, c139, cs140, (Option.some.inj hc114), hq141, h.has (by exact ⟨rfl, rfl, rfl, rfl, rfl, rfl, rfl, trivial⟩)⟩
                        · rw [if_neg (by rw [hb]; decide)] at hc114
                          refine wp_skip ?_
                          refine e_blkN ?_
                          refine e_thenN ?_
                          exact ⟨x98, A99, c100, cs101, (Option.some.inj hc114), hq102, h.has (by exact ⟨rfl, rfl, rfl, rfl, rfl, rfl, rfl, trivial⟩)⟩
                    · rintro a w ⟨x115, A116, c117, cs118, rfl, hq119, h⟩
                      try dsimp only at hl110
                      refine c_r ?_ -- region 27
                      refine s_x h rfl rfl (by decide) (x_bin h.k rfl rfl rfl (ib_add rfl)) (fun a h => ?_)
                      refine s_move h rfl _ rfl rfl (by decide) rfl (fun a h => ?_)
                      refine l_nil ?_
                      exact e_thenN ⟨m111, Nat.lt_succ_self _, x115, A116, c117, cs118, w64 (x103 + 1), hl110, hq119, (w64_r _), h.has (by exact ⟨rfl, rfl, rfl, rfl, rfl, rfl, rfl, trivial⟩)⟩
                  · rw [if_neg (of_decide_eq_false hb)] at hl110
                    refine wp_exit ?_
                    refine e_thenX ?_
                    refine e_thenX ?_
                    refine e_blkX ?_
                    refine e_thenN ?_
                    exact ⟨x98, A99, c100, cs101, (Option.some.inj hl110), hq102, h.has (by exact ⟨rfl, rfl, rfl, rfl, trivial⟩)⟩
                · rintro a w ⟨x105, A106, c107, cs108, rfl, hq109, h⟩
                  try dsimp only at hf
                  refine e_thenN ?_
                  refine c_rs ?_ -- region 28
                  refine s_move h rfl _ rfl rfl (by decide) rfl (fun a h => ?_)
                  refine s_x h rfl rfl (by decide) (x_bin h.k rfl rfl rfl ib_eql) (fun a h => ?_)
                  refine s_move h rfl _ rfl rfl (by decide) rfl (fun a h => ?_)
                  obtain ⟨z144, hz143, hf⟩ := bsome hf
                  refine q_grp h 5 (t := 93) 98 z144 rfl (fun hB2 => ?_) (fun hB2 => ?_) (fun a w h => ?_)
                  · rw [if_pos (of_decide_eq_true hB2)] at hz143
                    refine g_yes h rfl rfl rfl rfl hB2 ?_
                    refine s_move h rfl _ rfl rfl (by decide) rfl (fun a h => ?_)
                    refine g_yes h rfl rfl rfl rfl hB2 ?_
                    obtain ⟨x146, h147, hz143⟩ := bsome hz143
                    have hX := know_Set_List_nil0_ok Fu (S0 := snapAll _)  _ h147 _ h.startAll
                    refine q_callX hX h rfl rfl rfl (by decide) Try.func12 rfl rfl rfl (fun a w v L1 S1 hR hb1 h => ?_)
                    obtain ⟨A149, c150, cs151, rfl, rfl, hq152, _⟩ := hR
                    have hq153 := hq152.fl (S' := S40) fl_I
                    refine g_yes h rfl rfl rfl rfl hB2 ?_
                    refine s_move h rfl _ rfl rfl (by decide) rfl (fun a h => ?_)
                    refine g_yes h rfl rfl rfl rfl hB2 ?_
                    obtain ⟨x154, h155, hz143⟩ := bsome hz143
                    have hX := chatelaineref01_Ints_ok Fu (S0 := snapAll _) A149 c150 x146 (h.m.rowAll (i := 0) rfl (j := 3) rfl hq153) A106 c107 x105 (h.m.rowAll (i := 2) rfl (j := 3) rfl hq109) _ h155 _ h.startAll
                    refine q_callX hX h rfl rfl rfl (by decide) Try.func11 rfl rfl rfl (fun a w v L1 S1 hR hb1 h => ?_)
                    obtain ⟨rfl, rfl, _⟩ := hR
                    refine s_x h rfl rfl (by decide) (x_pick (u' := undef) h.k rfl rfl (fun _ => rfl) (fun hh => absurd (hB2.symm.trans hh) (by decide))) (fun a h => ?_)
                    have h := h.pick [1, 2, 3] (by decide) rfl
                    exact (h.mid 4 rfl).val (by rw [Option.some.inj hz143])
                  · refine g_no h rfl rfl rfl rfl hB2 rfl (by decide) (fun a h => ?_)
                    refine g_no h rfl rfl rfl rfl hB2 rfl (by decide) (fun a h => ?_)
                    refine g_no h rfl rfl rfl rfl hB2 rfl (by decide) (fun a h => ?_)
                    refine g_no h rfl rfl rfl rfl hB2 rfl (by decide) (fun a h => ?_)
                    rw [if_neg (of_decide_eq_false hB2)] at hz143
                    refine s_x h rfl rfl (by decide) (x_pick (u' := undef) h.k rfl rfl (fun hh => absurd (hB2.symm.trans hh) (by decide)) (fun _ => rfl)) (fun a h => ?_)
                    exact (h.mid 4 rfl).val (by rw [Option.some.inj hz143])
                  refine s_move h rfl _ rfl rfl (by decide) rfl (fun a h => ?_)
                  obtain ⟨z158, hz157, hf⟩ := bsome hf
                  refine q_grp h 6 (t := 99) 105 z158 rfl (fun hB8 => ?_) (fun hB8 => ?_) (fun a w h => ?_)
                  · rw [if_pos hB8] at hz157
                    refine g_yes h rfl rfl rfl rfl hB8 ?_
                    refine s_move h rfl _ rfl rfl (by decide) rfl (fun a h => ?_)
                    refine g_yes h rfl rfl rfl rfl hB8 ?_
                    obtain ⟨x160, h161, hz157⟩ := bsome hz157
                    have hX := know_Set_Len_nil0_ok Fu (S0 := snapAll _)  _ h161 _ h.startAll
                    refine q_callX hX h rfl rfl rfl (by decide) Try.func13 rfl rfl rfl (fun a w v L1 S1 hR hb1 h => ?_)
                    obtain ⟨rfl, rfl, hr163, _⟩ := hR
                    refine g_yes h rfl rfl rfl rfl hB8 ?_
                    refine s_move h rfl _ rfl rfl (by decide) rfl (fun a h => ?_)
                    refine g_yes h rfl rfl rfl rfl hB8 ?_
                    have hr164 : r64 (x105.length : Int) := len_r (h.m.rowLen (i := 1) rfl)
                    refine s_x h rfl rfl (by decide) (x_len h.k rfl Try.underlying23 rfl) (fun a h => ?_)
                    refine g_yes h rfl rfl rfl rfl hB8 ?_
                    refine s_x h rfl rfl (by decide) (x_bin h.k rfl rfl rfl ib_eql) (fun a h => ?_)
                    refine s_x h rfl rfl (by decide) (x_pick (u' := undef) h.k rfl rfl (fun _ => rfl) (fun hh => absurd (hB8.symm.trans hh) (by decide))) (fun a h => ?_)
                    exact (h.mid 5 rfl).val (by rw [Option.some.inj hz157])
                  · refine g_no h rfl rfl rfl rfl hB8 rfl (by decide) (fun a h => ?_)
                    refine g_no h rfl rfl rfl rfl hB8 rfl (by decide) (fun a h => ?_)
                    refine g_no h rfl rfl rfl rfl hB8 rfl (by decide) (fun a h => ?_)
                    refine g_no h rfl rfl rfl rfl hB8 rfl (by decide) (fun a h => ?_)
                    refine g_no h rfl rfl rfl rfl hB8 rfl (by decide) (fun a h => ?_)
                    rw [if_neg (by rw [hB8]; decide)] at hz157
                    refine s_x h rfl rfl (by decide) (x_pick (u' := undef) h.k rfl rfl (fun hh => absurd (hB8.symm.trans hh) (by decide)) (fun _ => rfl)) (fun a h => ?_)
                    exact (h.mid 5 rfl).val (by rw [Option.some.inj hz157])
                  refine s_move h rfl _ rfl rfl (by decide) rfl (fun a h => ?_)
                  obtain ⟨z166, hz165, hf⟩ := bsome hf
                  refine q_grp h 4 (t := 106) 110 z166 rfl (fun hB15 => ?_) (fun hB15 => ?_) (fun a w h => ?_)
                  · rw [if_pos hB15] at hz165
                    refine g_yes h rfl rfl rfl rfl hB15 ?_
                    refine s_move h rfl _ rfl rfl (by decide) rfl (fun a h => ?_)
                    refine g_yes h rfl rfl rfl rfl hB15 ?_
                    obtain ⟨x168, h169, hz165⟩ := bsome hz165
                    have hX := know_Set_Has_nil0_ok Fu (S0 := snapAll _) (-1) (show r64 (-1) from ⟨by decide, by decide⟩) _ h169 _ h.startAll
                    refine q_callX hX h rfl rfl rfl (by decide) Try.func10 rfl rfl rfl (fun a w v L1 S1 hR hb1 h => ?_)
                    obtain ⟨rfl, rfl, _⟩ := hR
                    refine g_yes h rfl rfl rfl rfl hB15 ?_
                    refine s_x h rfl rfl (by decide) (x_not h.k rfl rfl) (fun a h => ?_)
                    refine s_x h rfl rfl (by decide) (x_pick (u' := undef) h.k rfl rfl (fun _ => rfl) (fun hh => absurd (hB15.symm.trans hh) (by decide))) (fun a h => ?_)
                    exact (h.mid 3 rfl).val (by rw [Option.some.inj hz165])
                  · refine g_no h rfl rfl rfl rfl hB15 rfl (by decide) (fun a h => ?_)
                    refine g_no h rfl rfl rfl rfl hB15 rfl (by decide) (fun a h => ?_)
                    refine g_no h rfl rfl rfl rfl hB15 rfl (by decide) (fun a h => ?_)
                    rw [if_neg (by rw [hB15]; decide)] at hz165
                    refine s_x h rfl rfl (by decide) (x_pick (u' := undef) h.k rfl rfl (fun hh => absurd (hB15.symm.trans hh) (by decide)) (fun _ => rfl)) (fun a h => ?_)
                    exact (h.mid 3 rfl).val (by rw [Option.some.inj hz165])
                  refine s_move h rfl _ rfl rfl (by decide) rfl (fun a h => ?_)
                  obtain ⟨z172, hz171, hf⟩ := bsome hf
                  refine q_grp h 6 (t := 111) 117 z172 rfl (fun hB20 => ?_) (fun hB20 => ?_) (fun a w h => ?_)
                  · rw [if_pos hB20] at hz171
                    refine g_yes h rfl rfl rfl rfl hB20 ?_
                    refine s_move h rfl _ rfl rfl (by decide) rfl (fun a h => ?_)
                    refine g_yes h rfl rfl rfl rfl hB20 ?_
                    refine s_move h rfl _ rfl rfl (by decide) rfl (fun a h => ?_)
                    refine g_yes h rfl rfl rfl rfl hB20 ?_
                    have hr174 : r64 (x87.length : Int) := len_r (h.m.rowLen (i := 0) rfl)
                    refine s_x h rfl rfl (by decide) (x_len h.k rfl Try.underlying33 rfl) (fun a h => ?_)
                    refine g_yes h rfl rfl rfl rfl hB20 ?_
                    obtain ⟨x175, h176, hz171⟩ := bsome hz171
                    have hX := know_Set_Has_nil0_ok Fu (S0 := snapAll _) (x87.length : Int) hr174 _ h176 _ h.startAll
                    refine q_callX hX h rfl rfl rfl (by decide) Try.func10 rfl rfl rfl (fun a w v L1 S1 hR hb1 h => ?_)
                    obtain ⟨rfl, rfl, _⟩ := hR
                    refine g_yes h rfl rfl rfl rfl hB20 ?_
                    refine s_x h rfl rfl (by decide) (x_not h.k rfl rfl) (fun a h => ?_)
                    refine s_x h rfl rfl (by decide) (x_pick (u' := undef) h.k rfl rfl (fun _ => rfl) (fun hh => absurd (hB20.symm.trans hh) (by decide))) (fun a h => ?_)
                    exact (h.mid 5 rfl).val (by rw [Option.some.inj hz171])
                  · refine g_no h rfl rfl rfl rfl hB20 rfl (by decide) (fun a h => ?_)
                    refine g_no h rfl rfl rfl rfl hB20 rfl (by decide) (fun a h => ?_)
                    refine g_no h rfl rfl rfl rfl hB20 rfl (by decide) (fun a h => ?_)
                    refine g_no h rfl rfl rfl rfl hB20 rfl (by decide) (fun a h => ?_)
                    refine g_no h rfl rfl rfl rfl hB20 rfl (by decide) (fun a h => ?_)
                    rw [if_neg (by rw [hB20]; decide)] at hz171
                    refine s_x h rfl rfl (by decide) (x_pick (u' := undef) h.k rfl rfl (fun hh => absurd (hB20.symm.trans hh) (by decide)) (fun _ => rfl)) (fun a h => ?_)
                    exact (h.mid 5 rfl).val (by rw [Option.some.inj hz171])
                  refine s_assign h rfl _ rfl rfl (by decide) rfl (fun a h => ?_)
                  refine l_end ?_
                  refine wp_ret ?_
                  rw [← Option.some.inj hf]
                  exact r_ret1 h rfl (rv_tmp h rfl) ⟨_, [], _, rfl, ⟨rfl, rfl, trivial⟩, rfl, up41, (h.m.pick [2] _ (by decide) rfl)⟩
          · obtain ⟨x180, rfl, hR⟩ := hR
            dsimp only at hf
            obtain ⟨g181, A182, c183, A185, c186, cs187, A189, c190, cs191, A194, c195, cs196, g198, es199, cl200, g202, es203, cl204, rfl, rfl, hs184, hq188, hq192, hr193, hq197, hm201, hm205, _⟩ := hR
            refine s_move h rfl _ rfl rfl (by decide) rfl (fun a h => ?_)
            refine s_x h rfl rfl (by decide) (x_ext h.k rfl rfl rfl) (fun a h => ?_)
            refine s_x h rfl rfl (by decide) (x_ext h.k rfl rfl rfl) (fun a h => ?_)
            refine s_assign h rfl _ rfl rfl (by decide) rfl (fun a h => ?_)
            refine s_assign h rfl _ rfl rfl (by decide) rfl (fun a h => ?_)
            refine l_end ?_
            refine wp_seq ?_
            refine c_rs ?_ -- region 10
            refine s_move h rfl _ rfl rfl (by decide) rfl (fun a h => ?_)
            obtain ⟨x206, h207, hf⟩ := bsome hf
            have hX := term_Store_Len_ok Fu (S0 := snapAll _) g20 x180.2.2 ⟨[.slice A194 x180.2.2.1.length c195, .map (some g198), .map (some g202)], h.m.boxAll (i := 3) rfl, ⟨[.slice A194 x180.2.2.1.length c195], [.map (some g198), .map (some g202)], rfl, ⟨_, _, rfl, h.m.rowAll (i := 4) rfl (j := 7) rfl hq197⟩, ⟨[.map (some g198)], [.map (some g202)], rfl, ⟨_, rfl, h.m.mapAll (i := 5) rfl (j := 7) rfl hm201⟩, ⟨_, rfl, h.m.mapAll (i := 6) rfl (j := 7) rfl hm205⟩⟩⟩⟩ _ h207 _ h.startAll
            refine q_callX hX h rfl rfl rfl (by decide) Try.func8 rfl rfl rfl (fun a w v L1 S1 hR hb1 h => ?_)
            obtain ⟨rfl, rfl, hr209, _⟩ := hR
            refine s_move h rfl _ rfl rfl (by decide) rfl (fun a h => ?_)
            have hr210 : r64 (x14.2.length : Int) := len_r (h.m.rowLen (i := 8) rfl)
            refine s_x h rfl rfl (by decide) (x_len h.k rfl Try.underlying22 rfl) (fun a h => ?_)
            refine s_x h rfl rfl (by decide) (x_bin h.k rfl rfl rfl ib_neq) (fun a h => ?_)
            refine l_end ?_
            refine c_cond h rfl (fun hb => ?_) (fun hb => ?_)
            · rw [if_pos (of_decide_eq_true hb)] at hf
              refine c_rs ?_ -- region 11
              refine s_assign h rfl _ rfl rfl (by decide) rfl (fun a h => ?_)
              refine l_end ?_
              refine wp_ret ?_
              refine e_thenR ?_
              rw [← Option.some.inj hf]
              exact r_ret1 h rfl (rv_tmp h rfl) ⟨_, [], _, rfl, ⟨rfl, rfl, trivial⟩, rfl, up41, (h.m.pick [7] _ (by decide) rfl)⟩
            · rw [if_neg (of_decide_eq_false hb)] at hf
              refine wp_skip ?_
              refine e_thenN ?_
              refine wp_seq ?_
              refine c_rs ?_ -- region 12
              refine s_move h rfl _ rfl rfl (by decide) rfl (fun a h => ?_)
              refine s_x h rfl rfl (by decide) (x_len h.k rfl Try.underlying23 rfl) (fun a h => ?_)
              refine s_move h rfl _ rfl rfl (by decide) rfl (fun a h => ?_)
              refine l_end ?_
              obtain ⟨o211, hl212, hf⟩ := bsome hf
              refine c_fin (fun a w => (.inr ()) = o211 ∧ St 118 w0 (ownL ([] ++ [.sn S0])) [(1, .slice Aa1 a1.length ca1), (8, .slice A33 x14.2.length c34), (9, .pointer (some ⟨g181, 0, none⟩)), (10, .int .i64 x180.2.1)] [.row (.slice A33 x14.2.length c34) 46 3 x14.2.length cs35, .box g181 54 ([.slice A182 x180.1.1.length c183, .slice A185 x180.1.2.1.length c186, .slice A189 x180.1.2.2.1.length c190, .bool x180.1.2.2.2]), .row (.slice A185 x180.1.2.1.length c186) 4 1 x180.1.2.1.length cs187, .row (.slice A189 x180.1.2.2.1.length c190) 3 1 x180.1.2.2.1.length cs191, .sn S40] a w) ?_ ?_
              · refine wp_block ?_
                have h := h.pick [8, 0, 1, 2, 7] (by decide) rfl
                refine c_loop (fun m216 a w => ∃ (x213 : Int), chatelainelaw37_KnowFrom_l2 Fu a1 x14 m216 x213 = some o211 ∧ r64 x213 ∧ St 118 w0 (ownL ([] ++ [.sn S0])) [(1, .slice Aa1 a1.length ca1), (8, .slice A33 x14.2.length c34), (9, .pointer (some ⟨g181, 0, none⟩)), (10, .int .i64 x180.2.1), (49, .slice Aa1 a1.length ca1), (50, .int .i64 (a1.length : Int)), (51, .int .i64 x213)] [.row (.slice A33 x14.2.length c34) 46 3 x14.2.length cs35, .box g181 54 ([.slice A182 x180.1.1.length c183, .slice A185 x180.1.2.1.length c186, .slice A189 x180.1.2.2.1.length c190, .bool x180.1.2.2.2]), .row (.slice A185 x180.1.2.1.length c186) 4 1 x180.1.2.1.length cs187, .row (.slice A189 x180.1.2.2.1.length c190) 3 1 x180.1.2.2.1.length cs191, .sn S40] a w) Fu ⟨0, hl212, (show r64 0 from ⟨by decide, by decide⟩), h.has (by exact ⟨rfl, rfl, rfl, rfl, rfl, rfl, rfl, trivial⟩)⟩ (fun m216 a w hI => ?_)
                obtain ⟨x213, hl215, hr214, h⟩ := hI
                obtain _ | m216 := m216
                · rw [chatelainelaw37_KnowFrom_l2] at hl215; cases hl215
                rw [chatelainelaw37_KnowFrom_l2] at hl215
                refine c_rs ?_ -- region 13
                refine s_x h rfl rfl (by decide) (x_bin h.k rfl rfl rfl ib_lss) (fun a h => ?_)
                refine l_end ?_
                refine c_cs h rfl (fun hb => ?_) (fun hb => ?_)
                · rw [if_pos (of_decide_eq_true hb)] at hl215
                  refine wp_skip ?_
                  refine e_thenN ?_
                  refine wp_seq ?_
                  refine wp_block ?_
                  refine c_rs ?_ -- region 14
                  obtain ⟨x217, h221, hl215⟩ := bsome hl215
                  obtain ⟨m218, hi222, hm223, hx224⟩ := idx_some h221
                  obtain ⟨b219, off220, k225, hA226, hu227, hc228⟩ := ((hsa1.mono ((le9.trans le19).trans le42))).at1 rfl hx224 (h.m.snOK (i := 4) rfl)
                  obtain ⟨e230, hr229⟩ := hu227
                  cases e230
                  refine s_x h rfl rfl (by decide) (x_iaddrE h.k rfl Try.underlying23 sz_int hA226 rfl rfl hi222 hm223) (fun a h => ?_)
                  refine s_x h rfl rfl (by decide) (x_ld h.k rfl Try.underlying3 rfl rfl (hc228 _ (h.m.snOK (i := 4) rfl))) (fun a h => ?_)
                  refine s_assign h rfl _ rfl rfl (by decide) rfl (fun a h => ?_)
                  refine l_end ?_
                  refine c_rs ?_ -- region 15
                  refine s_move h rfl _ rfl rfl (by decide) rfl (fun a h => ?_)
                  refine s_x h rfl rfl (by decide) (x_bin h.k rfl rfl rfl ib_lss) (fun a h => ?_)
                  refine s_move h rfl _ rfl rfl (by decide) rfl (fun a h => ?_)
                  refine q_grp h 5 (t := 57) 62 ((decide (x217 < 0)) || (decide ((x14.2.length : Int) ≤ x217))) rfl (fun hB2 => ?_) (fun hB2 => ?_) (fun a w h => ?_)
                  · refine g_no h rfl rfl rfl rfl hB2 rfl (by decide) (fun a h => ?_)
                    refine g_no h rfl rfl rfl rfl hB2 rfl (by decide) (fun a h => ?_)
                    refine g_no h rfl rfl rfl rfl hB2 rfl (by decide) (fun a h => ?_)
                    refine g_no h rfl rfl rfl rfl hB2 rfl (by decide) (fun a h => ?_)
                    refine s_x h rfl rfl (by decide) (x_pick (u' := undef) h.k rfl rfl (fun _ => rfl) (fun hh => absurd (hB2.symm.trans hh) (by decide))) (fun a h => ?_)
                    exact (h.mid 4 rfl).val (by first | rfl | (rw [hB2]; first | rfl | simp))
                  · refine g_yes h rfl rfl rfl rfl hB2 ?_
                    refine s_move h rfl _ rfl rfl (by decide) rfl (fun a h => ?_)
                    refine g_yes h rfl rfl rfl rfl hB2 ?_
                    refine s_move h rfl _ rfl rfl (by decide) rfl (fun a h => ?_)
                    refine g_yes h rfl rfl rfl rfl hB2 ?_
                    have hr233 : r64 (x14.2.length : Int) := len_r (h.m.rowLen (i := 0) rfl)
                    refine s_x h rfl rfl (by decide) (x_len h.k rfl Try.underlying22 rfl) (fun a h => ?_)
                    refine g_yes h rfl rfl rfl rfl hB2 ?_
                    refine s_x h rfl rfl (by decide) (x_bin h.k rfl rfl rfl ib_geq) (fun a h => ?_)
                    refine s_x h rfl rfl (by decide) (x_pick (u' := undef) h.k rfl rfl (fun hh => absurd (hB2.symm.trans hh) (by decide)) (fun _ => rfl)) (fun a h => ?_)
                    exact (h.mid 4 rfl).val (by first | rfl | (rw [hB2]; first | rfl | simp))
                  refine l_end ?_
                  refine c_cond h rfl (fun hb => ?_) (fun hb => ?_)
                  · rw [if_pos hb] at hl215
                    refine c_rs ?_ -- region 16
                    refine s_move h rfl _ rfl rfl (by decide) rfl (fun a h => ?_)
                    refine s_x h rfl rfl (by decide) (x_bin h.k rfl rfl rfl ib_eql) (fun a h => ?_)
                    refine s_move h rfl _ rfl rfl (by decide) rfl (fun a h => ?_)
                    refine q_grp h 3 (t := 65) 68 false rfl (fun hB2 => ?_) (fun hB2 => ?_) (fun a w h => ?_)
                    · refine g_yes h rfl rfl rfl rfl hB2 ?_
                      refine s_move h rfl _ rfl rfl (by decide) rfl (fun a h => ?_)
                      refine g_yes h rfl rfl rfl rfl hB2 ?_
                      refine s_x h rfl rfl (by decide) (x_eql_pn h.k rfl Try.underlying25 rfl rfl) (fun a h => ?_)
                      refine s_x h rfl rfl (by decide) (x_pick (u' := undef) h.k rfl rfl (fun _ => rfl) (fun hh => absurd (hB2.symm.trans hh) (by decide))) (fun a h => ?_)
                      exact (h.mid 2 rfl).val (by first | rfl | (rw [hB2]; first | rfl | simp))
                    · refine g_no h rfl rfl rfl rfl hB2 rfl (by decide) (fun a h => ?_)
                      refine g_no h rfl rfl rfl rfl hB2 rfl (by decide) (fun a h => ?_)
                      refine s_x h rfl rfl (by decide) (x_pick (u' := undef) h.k rfl rfl (fun hh => absurd (hB2.symm.trans hh) (by decide)) (fun _ => rfl)) (fun a h => ?_)
                      exact (h.mid 2 rfl).val (by first | rfl | (rw [hB2]; first | rfl | simp))
                    refine s_assign h rfl _ rfl rfl (by decide) rfl (fun a h => ?_)
                    refine l_end ?_
                    refine wp_ret ?_
                    refine e_blkR ?_
                    refine e_thenR ?_
                    refine e_thenR ?_
                    refine e_blkR ?_
                    refine e_thenR ?_
                    cases hl215
                    try dsimp only at hf
                    refine e_thenR ?_
                    rw [← Option.some.inj hf]
                    exact r_ret1 h rfl (rv_tmp h rfl) ⟨_, [], _, rfl, ⟨rfl, rfl, trivial⟩, rfl, up41, (h.m.pick [4] _ (by decide) rfl)⟩
                  · rw [if_neg (by rw [hb]; decide)] at hl215
                    refine wp_skip ?_
                    refine e_blkN ?_
                    refine e_thenN ?_
                    refine c_r ?_ -- region 17
                    refine s_x h rfl rfl (by decide) (x_bin h.k rfl rfl rfl (ib_add rfl)) (fun a h => ?_)
                    refine s_move h rfl _ rfl rfl (by decide) rfl (fun a h => ?_)
                    refine l_nil ?_
                    exact e_thenN ⟨m216, Nat.lt_succ_self _, w64 (x213 + 1), hl215, (w64_r _), h.has (by exact ⟨rfl, rfl, rfl, rfl, rfl, rfl, rfl, trivial⟩)⟩
                · rw [if_neg (of_decide_eq_false hb)] at hl215
                  refine wp_exit ?_
                  refine e_thenX ?_
                  refine e_thenX ?_
                  refine e_blkX ?_
                  refine e_thenN ?_
                  exact ⟨(Option.some.inj hl215), h.has (by exact ⟨rfl, rfl, rfl, rfl, trivial⟩)⟩
              · rintro a w ⟨rfl, h⟩
                try dsimp only at hf
                refine e_thenN ?_
                refine c_rs ?_ -- region 18
                refine s_move h rfl _ rfl rfl (by decide) rfl (fun a h => ?_)
                refine s_move h rfl _ rfl rfl (by decide) rfl (fun a h => ?_)
                obtain ⟨x236, h237, hf⟩ := bsome hf
                have hX := chatelaineref37_Known_ok Fu (S0 := snapAll _) A33 c34 x14.2 (h.m.rowAll (i := 0) rfl (j := 4) rfl (hq36.mono le42)) Aa1 ca1 a1 ((hsa1.mono ((le9.trans le19).trans le42)).mono (h.m.leAll (i := 4) rfl)) _ h237 _ h.startAll
                refine q_callX hX h rfl rfl rfl (by decide) Try.func9 rfl rfl rfl (fun a w v L1 S1 hR hb1 h => ?_)
                obtain ⟨A239, c240, cs241, rfl, rfl, hq242, _⟩ := hR
                have hq243 := hq242.fl (S' := S40) fl_B
                refine s_assign h rfl _ rfl rfl (by decide) rfl (fun a h => ?_)
                refine l_end ?_
                refine c_rs ?_ -- region 19
                refine s_assign h rfl _ rfl rfl (by decide) rfl (fun a h => ?_)
                refine l_end ?_
                refine wp_seq ?_
                refine c_rs ?_ -- region 20
                refine s_move h rfl _ rfl rfl (by decide) rfl (fun a h => ?_)
                have hr244 : r64 (x236.length : Int) := len_r (h.m.rowLen (i := 0) rfl)
                refine s_x h rfl rfl (by decide) (x_len h.k rfl Try.underlying33 rfl) (fun a h => ?_)
                refine s_move h rfl _ rfl rfl (by decide) rfl (fun a h => ?_)
                refine l_end ?_
                obtain ⟨o245, hl246, hf⟩ := bsome hf
                refine c_fin (fun a w => ∃ (x254 : List Int), ∃ (A255 : Option Addr), ∃ (c256 : Nat), ∃ (cs257 : List Value), (.inr x254) = o245 ∧ reps tyI S40 cs257 x254 ∧ St 118 w0 (ownL ([] ++ [.sn S0])) [(9, .pointer (some ⟨g181, 0, none⟩)), (10, .int .i64 x180.2.1), (13, .slice A239 x236.length c240), (14, .slice A255 x254.length c256)] [.box g181 54 ([.slice A182 x180.1.1.length c183, .slice A185 x180.1.2.1.length c186, .slice A189 x180.1.2.2.1.length c190, .bool x180.1.2.2.2]), .row (.slice A185 x180.1.2.1.length c186) 4 1 x180.1.2.1.length cs187, .row (.slice A189 x180.1.2.2.1.length c190) 3 1 x180.1.2.2.1.length cs191, .row (.slice A239 x236.length c240) 4 1 x236.length cs241, .row (.slice A255 x254.length c256) 3 1 x254.length cs257, .sn S40] a w) ?_ ?_
                · refine wp_block ?_
                  have h := h.mem (h.m.nilrow 3 1)
                  have h := h.pick [3, 4, 5, 1, 0, 6] (by decide) rfl
                  refine c_loop (fun m260 a w => ∃ (x247 : List Int), ∃ (A248 : Option Addr), ∃ (c249 : Nat), ∃ (cs250 : List Value), ∃ (x252 : Int), chatelainelaw37_KnowFrom_l3 Fu x180 x236 m260 x247 x252 = some o245 ∧ reps tyI S40 cs250 x247 ∧ r64 x252 ∧ St 118 w0 (ownL ([] ++ [.sn S0])) [(9, .pointer (some ⟨g181, 0, none⟩)), (10, .int .i64 x180.2.1), (13, .slice A239 x236.length c240), (14, .slice A248 x247.length c249), (73, .slice A239 x236.length c240), (74, .int .i64 (x236.length : Int)), (75, .int .i64 x252)] [.box g181 54 ([.slice A182 x180.1.1.length c183, .slice A185 x180.1.2.1.length c186, .slice A189 x180.1.2.2.1.length c190, .bool x180.1.2.2.2]), .row (.slice A185 x180.1.2.1.length c186) 4 1 x180.1.2.1.length cs187, .row (.slice A189 x180.1.2.2.1.length c190) 3 1 x180.1.2.2.1.length cs191, .row (.slice A239 x236.length c240) 4 1 x236.length cs241, .row (.slice A248 x247.length c249) 3 1 x247.length cs250, .sn S40] a w) Fu ⟨[], none, 0, [], 0, hl246, (show reps tyI S40 [] [] from rfl), (show r64 0 from ⟨by decide, by decide⟩), h.has (by exact ⟨rfl, rfl, rfl, rfl, rfl, rfl, rfl, trivial⟩)⟩ (fun m260 a w hI => ?_)
                  obtain ⟨x247, A248, c249, cs250, x252, hl259, hq251, hr253, h⟩ := hI
                  obtain _ | m260 := m260
                  · rw [chatelainelaw37_KnowFrom_l3] at hl259; cases hl259
                  rw [chatelainelaw37_KnowFrom_l3] at hl259
                  refine c_rs ?_ -- region 21
                  refine s_x h rfl rfl (by decide) (x_bin h.k rfl rfl rfl ib_lss) (fun a h => ?_)
                  refine l_end ?_
                  refine c_cs h rfl (fun hb => ?_) (fun hb => ?_)
                  · rw [if_pos (of_decide_eq_true hb)] at hl259
                    refine wp_skip ?_
                    refine e_thenN ?_
                    obtain ⟨o262, hc263, hl259⟩ := bsome hl259
                    refine c_cut (fun a w => ∃ (x264 : List Int), ∃ (A265 : Option Addr), ∃ (c266 : Nat), ∃ (cs267 : List Value), (.inr x264) = o262 ∧ reps tyI S40 cs267 x264 ∧ St 118 w0 (ownL ([] ++ [.sn S0])) [(9, .pointer (some ⟨g181, 0, none⟩)), (10, .int .i64 x180.2.1), (13, .slice A239 x236.length c240), (14, .slice A265 x264.length c266), (73, .slice A239 x236.length c240), (74, .int .i64 (x236.length : Int)), (75, .int .i64 x252)] [.box g181 54 ([.slice A182 x180.1.1.length c183, .slice A185 x180.1.2.1.length c186, .slice A189 x180.1.2.2.1.length c190, .bool x180.1.2.2.2]), .row (.slice A185 x180.1.2.1.length c186) 4 1 x180.1.2.1.length cs187, .row (.slice A189 x180.1.2.2.1.length c190) 3 1 x180.1.2.2.1.length cs191, .row (.slice A239 x236.length c240) 4 1 x236.length cs241, .row (.slice A265 x264.length c266) 3 1 x264.length cs267, .sn S40] a w) ?_ ?_
                    · refine wp_block ?_
                      refine c_rs ?_ -- region 22
                      refine s_move h rfl _ rfl rfl (by decide) rfl (fun a h => ?_)
                      obtain ⟨m269, h270, hc263⟩ := bsome hc263
                      obtain ⟨hi271, hm272⟩ := ix_some h270
                      obtain ⟨g274, hA273⟩ := h.m.rowHead (i := 3) rfl (Nat.lt_of_le_of_lt (Nat.zero_le _) hm272)
                      refine s_x h rfl rfl (by decide) (x_iaddrE h.k rfl Try.underlying33 sz_bool hA273 rfl rfl hi271 hm272) (fun a h => ?_)
                      obtain ⟨x275, h276, hc263⟩ := bsome hc263
                      obtain ⟨u277, hv278, hu279⟩ := (hq243).cell rfl h276
                      cases hu279
                      refine s_x h rfl rfl (by decide) (x_ld h.k rfl Try.underlying4 rfl rfl (h.m.cellRowE (i := 3) rfl hA273 _ (by rw [Nat.mul_one]; exact hv278))) (fun a h => ?_)
                      refine s_assign h rfl _ rfl rfl (by decide) rfl (fun a h => ?_)
                      refine s_assign h rfl _ rfl rfl (by decide) rfl (fun a h => ?_)
                      refine l_end ?_
                      refine wp_seq ?_
                      refine c_rs ?_ -- region 23
                      refine s_move h rfl _ rfl rfl (by decide) rfl (fun a h => ?_)
                      refine s_move h rfl _ rfl rfl (by decide) rfl (fun a h => ?_)
                      obtain ⟨x280, h281, hc263⟩ := bsome hc263
                      have hX := know_Set_Has_ok Fu (S0 := snapAll _) g181 x180.1 ⟨[.slice A182 x180.1.1.length c183, .slice A185 x180.1.2.1.length c186, .slice A189 x180.1.2.2.1.length c190, .bool x180.1.2.2.2], h.m.boxAll (i := 0) rfl, ⟨[.slice A182 x180.1.1.length c183], [.slice A185 x180.1.2.1.length c186, .slice A189 x180.1.2.2.1.length c190, .bool x180.1.2.2.2], rfl, ⟨_, _, rfl, (hs184).mono (h.m.leAll (i := 5) rfl)⟩, ⟨[.slice A185 x180.1.2.1.length c186], [.slice A189 x180.1.2.2.1.length c190, .bool x180.1.2.2.2], rfl, ⟨_, _, rfl, h.m.rowAll (i := 1) rfl (j := 5) rfl hq188⟩, ⟨[.slice A189 x180.1.2.2.1.length c190], [.bool x180.1.2.2.2], rfl, ⟨_, _, rfl, h.m.rowAll (i := 2) rfl (j := 5) rfl hq192⟩, rfl⟩⟩⟩⟩ x252 hr253 _ h281 _ h.startAll
                      refine q_callX hX h rfl rfl rfl (by decide) Try.func10 rfl rfl rfl (fun a w v L1 S1 hR hb1 h => ?_)
                      obtain ⟨rfl, rfl, _⟩ := hR
                      refine s_move h rfl _ rfl rfl (by decide) rfl (fun a h => ?_)
                      refine s_x h rfl rfl (by decide) (x_neqB h.k rfl Try.underlying4 rfl rfl) (fun a h => ?_)
                      refine l_end ?_
                      refine c_cond h rfl (fun hb => ?_) (fun hb => ?_)
                      · rw [if_pos hb] at hc263
                        refine c_rs ?_ -- region 24
                        refine s_assign h rfl _ rfl rfl (by decide) rfl (fun a h => ?_)
                        refine l_end ?_
                        refine wp_ret ?_
                        refine e_thenR ?_
                        refine e_blkR ?_
                        refine e_thenR ?_
                        cases hc263
                        try dsimp only at hl259
                        refine e_thenR ?_
                        refine e_blkR ?_
                        refine e_thenR ?_
                        cases hl259
                        try dsimp only at hf
                        refine e_thenR ?_
                        rw [← Option.some.inj hf]
                        exact r_ret1 h rfl (rv_tmp h rfl) ⟨_, [], _, rfl, ⟨rfl, rfl, trivial⟩, rfl, up41, (h.m.pick [5] _ (by decide) rfl)⟩
                      · rw [if_neg (by rw [hb]; decide)] at hc263
                        refine wp_skip ?_
                        refine e_thenN ?_
                        refine c_rs ?_ -- region 25
                        refine s_move h rfl _ rfl rfl (by decide) rfl (fun a h => ?_)
                        refine l_end ?_
                        refine c_cond h rfl (fun hb => ?_) (fun hb => ?_)
                        · rw [if_pos hb] at hc263
                          refine c_r ?_ -- region 26
                          refine s_move h rfl _ rfl rfl (by decide) rfl (fun a h => ?_)
                          refine s_move h rfl _ rfl rfl (by decide) rfl (fun a h => ?_)
                          refine q_bslice (T := tyI) (S := S40) h rfl rfl rfl (by decide) Try.underlying23 zi_int (by decide) (by decide) (by decide) (by decide) [.int .i64 x252] rfl rfl (C := [[.int .i64 x252]]) rfl (xs := [x252]) ⟨[.int .i64 x252], _, rfl, ⟨rfl, hr253⟩, rfl⟩ (by intro c hc; simp only [List.mem_cons, List.not_mem_nil, or_false] at hc; subst hc; rfl) (fun a w A283 h => ?_)
                          have hb284 : reps tyI S40 ([[.int .i64 x252]] : List (List Value)).flatten [x252] := ⟨[.int .i64 x252], _, rfl, ⟨rfl, hr253⟩, rfl⟩
                          obtain ⟨x285, h286, hc263⟩ := bsome hc263
                          refine q_append (T := tyI) (S := S40) h rfl rfl rfl (by decide) Try.underlying23 zb_int rfl (by decide) rfl 5 rfl hq251 rfl hb284 (h.m.rdRowA (i := 0) rfl) h286 (fun a w A287 c288 cs289 hq290 h => ?_)
                          refine s_assign h rfl _ rfl rfl (by decide) rfl (fun a h => ?_)
                          refine l_nil ?_
                          refine e_blkN ?_
                          refine e_thenN ?_
                          have h := h.pick [1, 2, 3, 4, 5, 6] (by decide) rfl
                          exact ⟨x285, A287, c288, cs289, (Option.some.inj hc263), hq290, h.has (by exact ⟨rfl, rfl, rfl, rfl, rfl, rfl, rfl, trivial⟩)⟩
                        · rw [if_neg (by rw [hb]; decide)] at hc263
                          refine wp_skip ?_
                          refine e_blkN ?_
                          refine e_thenN ?_
                          exact ⟨x247, A248, c249, cs250, (Option.some.inj hc263), hq251, h.has (by exact ⟨rfl, rfl, rfl, rfl, rfl, rfl, rfl, trivial⟩)⟩
                    · rintro a w ⟨x264, A265, c266, cs267, rfl, hq268, h⟩
                      try dsimp only at hl259
                      refine c_r ?_ -- region 27
                      refine s_x h rfl rfl (by decide) (x_bin h.k rfl rfl rfl (ib_add rfl)) (fun a h => ?_)
                      refine s_move h rfl _ rfl rfl (by decide) rfl (fun a h => ?_)
                      refine l_nil ?_
                      exact e_thenN ⟨m260, Nat.lt_succ_self _, x264, A265, c266, cs267, w64 (x252 + 1), hl259, hq268, (w64_r _), h.has (by exact ⟨rfl, rfl, rfl, rfl, rfl, rfl, rfl, trivial⟩)⟩
                  · rw [if_neg (of_decide_eq_false hb)] at hl259
                    refine wp_exit ?_
                    refine e_thenX ?_
                    refine e_thenX ?_
                    refine e_blkX ?_
                    refine e_thenN ?_
                    exact ⟨x247, A248, c249, cs250, (Option.some.inj hl259), hq251, h.has (by exact ⟨rfl, rfl, rfl, rfl, trivial⟩)⟩
                · rintro a w ⟨x254, A255, c256, cs257, rfl, hq258, h⟩
                  try dsimp only at hf
                  refine e_thenN ?_
                  refine c_rs ?_ -- region 28
                  refine s_move h rfl _ rfl rfl (by decide) rfl (fun a h => ?_)
                  refine s_x h rfl rfl (by decide) (x_bin h.k rfl rfl rfl ib_eql) (fun a h => ?_)
                  refine s_move h rfl _ rfl rfl (by decide) rfl (fun a h => ?_)
                  obtain ⟨z293, hz292, hf⟩ := bsome hf
                  refine q_grp h 5 (t := 93) 98 z293 rfl (fun hB2 => ?_) (fun hB2 => ?_) (fun a w h => ?_)
                  · rw [if_pos (of_decide_eq_true hB2)] at hz292
                    refine g_yes h rfl rfl rfl rfl hB2 ?_
                    refine s_move h rfl _ rfl rfl (by decide) rfl (fun a h => ?_)
                    refine g_yes h rfl rfl rfl rfl hB2 ?_
                    obtain ⟨x295, h296, hz292⟩ := bsome hz292
                    have hX := know_Set_List_ok Fu (S0 := snapAll _) g181 x180.1 ⟨[.slice A182 x180.1.1.length c183, .slice A185 x180.1.2.1.length c186, .slice A189 x180.1.2.2.1.length c190, .bool x180.1.2.2.2], h.m.boxAll (i := 0) rfl, ⟨[.slice A182 x180.1.1.length c183], [.slice A185 x180.1.2.1.length c186, .slice A189 x180.1.2.2.1.length c190, .bool x180.1.2.2.2], rfl, ⟨_, _, rfl, (hs184).mono (h.m.leAll (i := 5) rfl)⟩, ⟨[.slice A185 x180.1.2.1.length c186], [.slice A189 x180.1.2.2.1.length c190, .bool x180.1.2.2.2], rfl, ⟨_, _, rfl, h.m.rowAll (i := 1) rfl (j := 5) rfl hq188⟩, ⟨[.slice A189 x180.1.2.2.1.length c190], [.bool x180.1.2.2.2], rfl, ⟨_, _, rfl, h.m.rowAll (i := 2) rfl (j := 5) rfl hq192⟩, rfl⟩⟩⟩⟩ _ h296 _ h.startAll
                    refine q_callX hX h rfl rfl rfl (by decide) Try.func12 rfl rfl rfl (fun a w v L1 S1 hR hb1 h => ?_)
                    obtain ⟨A298, c299, cs300, rfl, rfl, hq301, _⟩ := hR
                    have hq302 := hq301.fl (S' := S40) fl_I
                    refine g_yes h rfl rfl rfl rfl hB2 ?_
                    refine s_move h rfl _ rfl rfl (by decide) rfl (fun a h => ?_)
                    refine g_yes h rfl rfl rfl rfl hB2 ?_
                    obtain ⟨x303, h304, hz292⟩ := bsome hz292
                    have hX := chatelaineref01_Ints_ok Fu (S0 := snapAll _) A298 c299 x295 (h.m.rowAll (i := 0) rfl (j := 6) rfl hq302) A255 c256 x254 (h.m.rowAll (i := 5) rfl (j := 6) rfl hq258) _ h304 _ h.startAll
                    refine q_callX hX h rfl rfl rfl (by decide) Try.func11 rfl rfl rfl (fun a w v L1 S1 hR hb1 h => ?_)
                    obtain ⟨rfl, rfl, _⟩ := hR
                    refine s_x h rfl rfl (by decide) (x_pick (u' := undef) h.k rfl rfl (fun _ => rfl) (fun hh => absurd (hB2.symm.trans hh) (by decide))) (fun a h => ?_)
                    have h := h.pick [1, 2, 3, 4, 5, 6] (by decide) rfl
                    exact (h.mid 4 rfl).val (by rw [Option.some.inj hz292])
                  · refine g_no h rfl rfl rfl rfl hB2 rfl (by decide) (fun a h => ?_)
                    refine g_no h rfl rfl rfl rfl hB2 rfl (by decide) (fun a h => ?_)
                    refine g_no h rfl rfl rfl rfl hB2 rfl (by decide) (fun a h => ?_)
                    refine g_no h rfl rfl rfl rfl hB2 rfl (by decide) (fun a h => ?_)
                    rw [if_neg (of_decide_eq_false hB2)] at hz292
                    refine s_x h rfl rfl (by decide) (x_pick (u' := undef) h.k rfl rfl (fun hh => absurd (hB2.symm.trans hh) (by decide)) (fun _ => rfl)) (fun a h => ?_)
                    exact (h.mid 4 rfl).val (by rw [Option.some.inj hz292])
                  refine s_move h rfl _ rfl rfl (by decide) rfl (fun a h => ?_)
                  obtain ⟨z307, hz306, hf⟩ := bsome hf
                  refine q_grp h 6 (t := 99) 105 z307 rfl (fun hB8 => ?_) (fun hB8 => ?_) (fun a w h => ?_)
                  · rw [if_pos hB8] at hz306
                    refine g_yes h rfl rfl rfl rfl hB8 ?_
                    refine s_move h rfl _ rfl rfl (by decide) rfl (fun a h => ?_)
                    refine g_yes h rfl rfl rfl rfl hB8 ?_
                    obtain ⟨x309, h310, hz306⟩ := bsome hz306
                    have hX := know_Set_Len_ok Fu (S0 := snapAll _) g181 x180.1 ⟨[.slice A182 x180.1.1.length c183, .slice A185 x180.1.2.1.length c186, .slice A189 x180.1.2.2.1.length c190, .bool x180.1.2.2.2], h.m.boxAll (i := 0) rfl, ⟨[.slice A182 x180.1.1.length c183], [.slice A185 x180.1.2.1.length c186, .slice A189 x180.1.2.2.1.length c190, .bool x180.1.2.2.2], rfl, ⟨_, _, rfl, (hs184).mono (h.m.leAll (i := 5) rfl)⟩, ⟨[.slice A185 x180.1.2.1.length c186], [.slice A189 x180.1.2.2.1.length c190, .bool x180.1.2.2.2], rfl, ⟨_, _, rfl, h.m.rowAll (i := 1) rfl (j := 5) rfl hq188⟩, ⟨[.slice A189 x180.1.2.2.1.length c190], [.bool x180.1.2.2.2], rfl, ⟨_, _, rfl, h.m.rowAll (i := 2) rfl (j := 5) rfl hq192⟩, rfl⟩⟩⟩⟩ _ h310 _ h.startAll
                    refine q_callX hX h rfl rfl rfl (by decide) Try.func13 rfl rfl rfl (fun a w v L1 S1 hR hb1 h => ?_)
                    obtain ⟨rfl, rfl, hr312, _⟩ := hR
                    refine g_yes h rfl rfl rfl rfl hB8 ?_
                    refine s_move h rfl _ rfl rfl (by decide) rfl (fun a h => ?_)
                    refine g_yes h rfl rfl rfl rfl hB8 ?_
                    have hr313 : r64 (x254.length : Int) := len_r (h.m.rowLen (i := 4) rfl)
                    refine s_x h rfl rfl (by decide) (x_len h.k rfl Try.underlying23 rfl) (fun a h => ?_)
                    refine g_yes h rfl rfl rfl rfl hB8 ?_
                    refine s_x h rfl rfl (by decide) (x_bin h.k rfl rfl rfl ib_eql) (fun a h => ?_)
                    refine s_x h rfl rfl (by decide) (x_pick (u' := undef) h.k rfl rfl (fun _ => rfl) (fun hh => absurd (hB8.symm.trans hh) (by decide))) (fun a h => ?_)
                    exact (h.mid 5 rfl).val (by rw [Option.some.inj hz306])
                  · refine g_no h rfl rfl rfl rfl hB8 rfl (by decide) (fun a h => ?_)
                    refine g_no h rfl rfl rfl rfl hB8 rfl (by decide) (fun a h => ?_)
                    refine g_no h rfl rfl rfl rfl hB8 rfl (by decide) (fun a h => ?_)
                    refine g_no h rfl rfl rfl rfl hB8 rfl (by decide) (fun a h => ?_)
                    refine g_no h rfl rfl rfl rfl hB8 rfl (by decide) (fun a h => ?_)
                    rw [if_neg (by rw [hB8]; decide)] at hz306
                    refine s_x h rfl rfl (by decide) (x_pick (u' := undef) h.k rfl rfl (fun hh => absurd (hB8.symm.trans hh) (by decide)) (fun _ => rfl)) (fun a h => ?_)
                    exact (h.mid 5 rfl).val (by rw [Option.some.inj hz306])
                  refine s_move h rfl _ rfl rfl (by decide) rfl (fun a h => ?_)
                  obtain ⟨z315, hz314, hf⟩ := bsome hf
                  refine q_grp h 4 (t := 106) 110 z315 rfl (fun hB15 => ?_) (fun hB15 => ?_) (fun a w h => ?_)
                  · rw [if_pos hB15] at hz314
                    refine g_yes h rfl rfl rfl rfl hB15 ?_
                    refine s_move h rfl _ rfl rfl (by decide) rfl (fun a h => ?_)
                    refine g_yes h rfl rfl rfl rfl hB15 ?_
                    obtain ⟨x317, h318, hz314⟩ := bsome hz314
                    have hX := know_Set_Has_ok Fu (S0 := snapAll _) g181 x180.1 ⟨[.slice A182 x180.1.1.length c183, .slice A185 x180.1.2.1.length c186, .slice A189 x180.1.2.2.1.length c190, .bool x180.1.2.2.2], h.m.boxAll (i := 0) rfl, ⟨[.slice A182 x180.1.1.length c183], [.slice A185 x180.1.2.1.length c186, .slice A189 x180.1.2.2.1.length c190, .bool x180.1.2.2.2], rfl, ⟨_, _, rfl, (hs184).mono (h.m.leAll (i := 5) rfl)⟩, ⟨[.slice A185 x180.1.2.1.length c186], [.slice A189 x180.1.2.2.1.length c190, .bool x180.1.2.2.2], rfl, ⟨_, _, rfl, h.m.rowAll (i := 1) rfl (j := 5) rfl hq188⟩, ⟨[.slice A189 x180.1.2.2.1.length c190], [.bool x180.1.2.2.2], rfl, ⟨_, _, rfl, h.m.rowAll (i := 2) rfl (j := 5) rfl hq192⟩, rfl⟩⟩⟩⟩ (-1) (show r64 (-1) from ⟨by decide, by decide⟩) _ h318 _ h.startAll
                    refine q_callX hX h rfl rfl rfl (by decide) Try.func10 rfl rfl rfl (fun a w v L1 S1 hR hb1 h => ?_)
                    obtain ⟨rfl, rfl, _⟩ := hR
                    refine g_yes h rfl rfl rfl rfl hB15 ?_
                    refine s_x h rfl rfl (by decide) (x_not h.k rfl rfl) (fun a h => ?_)
                    refine s_x h rfl rfl (by decide) (x_pick (u' := undef) h.k rfl rfl (fun _ => rfl) (fun hh => absurd (hB15.symm.trans hh) (by decide))) (fun a h => ?_)
                    exact (h.mid 3 rfl).val (by rw [Option.some.inj hz314])
                  · refine g_no h rfl rfl rfl rfl hB15 rfl (by decide) (fun a h => ?_)
                    refine g_no h rfl rfl rfl rfl hB15 rfl (by decide) (fun a h => ?_)
                    refine g_no h rfl rfl rfl rfl hB15 rfl (by decide) (fun a h => ?_)
                    rw [if_neg (by rw [hB15]; decide)] at hz314
                    refine s_x h rfl rfl (by decide) (x_pick (u' := undef) h.k rfl rfl (fun hh => absurd (hB15.symm.trans hh) (by decide)) (fun _ => rfl)) (fun a h => ?_)
                    exact (h.mid 3 rfl).val (by rw [Option.some.inj hz314])
                  refine s_move h rfl _ rfl rfl (by decide) rfl (fun a h => ?_)
                  obtain ⟨z321, hz320, hf⟩ := bsome hf
                  refine q_grp h 6 (t := 111) 117 z321 rfl (fun hB20 => ?_) (fun hB20 => ?_) (fun a w h => ?_)
                  · rw [if_pos hB20] at hz320
                    refine g_yes h rfl rfl rfl rfl hB20 ?_
                    refine s_move h rfl _ rfl rfl (by decide) rfl (fun a h => ?_)
                    refine g_yes h rfl rfl rfl rfl hB20 ?_
                    refine s_move h rfl _ rfl rfl (by decide) rfl (fun a h => ?_)
                    refine g_yes h rfl rfl rfl rfl hB20 ?_
                    have hr323 : r64 (x236.length : Int) := len_r (h.m.rowLen (i := 3) rfl)
                    refine s_x h rfl rfl (by decide) (x_len h.k rfl Try.underlying33 rfl) (fun a h => ?_)
                    refine g_yes h rfl rfl rfl rfl hB20 ?_
                    obtain ⟨x324, h325, hz320⟩ := bsome hz320
                    have hX := know_Set_Has_ok Fu (S0 := snapAll _) g181 x180.1 ⟨[.slice A182 x180.1.1.length c183, .slice A185 x180.1.2.1.length c186, .slice A189 x180.1.2.2.1.length c190, .bool x180.1.2.2.2], h.m.boxAll (i := 0) rfl, ⟨[.slice A182 x180.1.1.length c183], [.slice A185 x180.1.2.1.length c186, .slice A189 x180.1.2.2.1.length c190, .bool x180.1.2.2.2], rfl, ⟨_, _, rfl, (hs184).mono (h.m.leAll (i := 5) rfl)⟩, ⟨[.slice A185 x180.1.2.1.length c186], [.slice A189 x180.1.2.2.1.length c190, .bool x180.1.2.2.2], rfl, ⟨_, _, rfl, h.m.rowAll (i := 1) rfl (j := 5) rfl hq188⟩, ⟨[.slice A189 x180.1.2.2.1.length c190], [.bool x180.1.2.2.2], rfl, ⟨_, _, rfl, h.m.rowAll (i := 2) rfl (j := 5) rfl hq192⟩, rfl⟩⟩⟩⟩ (x236.length : Int) hr323 _ h325 _ h.startAll
                    refine q_callX hX h rfl rfl rfl (by decide) Try.func10 rfl rfl rfl (fun a w v L1 S1 hR hb1 h => ?_)
                    obtain ⟨rfl, rfl, _⟩ := hR
                    refine g_yes h rfl rfl rfl rfl hB20 ?_
                    refine s_x h rfl rfl (by decide) (x_not h.k rfl rfl) (fun a h => ?_)
                    refine s_x h rfl rfl (by decide) (x_pick (u' := undef) h.k rfl rfl (fun _ => rfl) (fun hh => absurd (hB20.symm.trans hh) (by decide))) (fun a h => ?_)
                    exact (h.mid 5 rfl).val (by rw [Option.some.inj hz320])
                  · refine g_no h rfl rfl rfl rfl hB20 rfl (by decide) (fun a h => ?_)
                    refine g_no h rfl rfl rfl rfl hB20 rfl (by decide) (fun a h => ?_)
                    refine g_no h rfl rfl rfl rfl hB20 rfl (by decide) (fun a h => ?_)
                    refine g_no h rfl rfl rfl rfl hB20 rfl (by decide) (fun a h => ?_)
                    refine g_no h rfl rfl rfl rfl hB20 rfl (by decide) (fun a h => ?_)
                    rw [if_neg (by rw [hB20]; decide)] at hz320
                    refine s_x h rfl rfl (by decide) (x_pick (u' := undef) h.k rfl rfl (fun hh => absurd (hB20.symm.trans hh) (by decide)) (fun _ => rfl)) (fun a h => ?_)
                    exact (h.mid 5 rfl).val (by rw [Option.some.inj hz320])
                  refine s_assign h rfl _ rfl rfl (by decide) rfl (fun a h => ?_)
                  refine l_end ?_
                  refine wp_ret ?_
                  rw [← Option.some.inj hf]
                  exact r_ret1 h rfl (rv_tmp h rfl) ⟨_, [], _, rfl, ⟨rfl, rfl, trivial⟩, rfl, up41, (h.m.pick [5] _ (by decide) rfl)⟩
    · obtain ⟨x329, rfl, hR⟩ := hR
      dsimp only at hf
      obtain ⟨g330, A331, c332, A334, c335, cs336, A338, c339, cs340, rfl, rfl, hs333, hq337, hq341, hr342, _⟩ := hR
      refine s_move h rfl _ rfl rfl (by decide) rfl (fun a h => ?_)
      refine s_x h rfl rfl (by decide) (x_ext h.k rfl rfl rfl) (fun a h => ?_)
      refine s_x h rfl rfl (by decide) (x_ext h.k rfl rfl rfl) (fun a h => ?_)
      refine s_assign h rfl _ rfl rfl (by decide) rfl (fun a h => ?_)
      refine s_assign h rfl _ rfl rfl (by decide) rfl (fun a h => ?_)
      refine l_end ?_
      refine c_rs ?_ -- region 4
      refine s_move h rfl _ rfl rfl (by decide) rfl (fun a h => ?_)
      refine s_x h rfl rfl (by decide) (x_bin h.k rfl rfl rfl ib_neq) (fun a h => ?_)
      refine l_end ?_
      refine c_cond h rfl (fun hb => ?_) (fun hb => ?_)
      · rw [if_pos (of_decide_eq_true hb)] at hf
        refine c_rs ?_ -- region 5
        refine s_assign h rfl _ rfl rfl (by decide) rfl (fun a h => ?_)
        refine l_end ?_
        refine wp_ret ?_
        refine e_thenR ?_
        rw [← Option.some.inj hf]
        exact r_ret1 h rfl (rv_tmp h rfl) ⟨_, [], _, rfl, ⟨rfl, rfl, trivial⟩, rfl, up8, (h.m.pick [3] _ (by decide) rfl)⟩
      · rw [if_neg (of_decide_eq_false hb)] at hf
        refine wp_skip ?_
        refine e_thenN ?_
        refine wp_seq ?_
        refine c_rs ?_ -- region 6
        refine s_move h rfl _ rfl rfl (by decide) rfl (fun a h => ?_)
        refine s_x h rfl rfl (by decide) (x_len h.k rfl Try.underlying22 rfl) (fun a h => ?_)
        refine s_x h rfl rfl (by decide) (x_bin h.k rfl rfl rfl ib_gtr) (fun a h => ?_)
        refine s_move h rfl _ rfl rfl (by decide) rfl (fun a h => ?_)
        refine q_grp h 4 (t := 28) 32 ((decide (40 < (a0.length : Int))) || (decide (40 < (a1.length : Int)))) rfl (fun hB3 => ?_) (fun hB3 => ?_) (fun a w h => ?_)
        · refine g_no h rfl rfl rfl rfl hB3 rfl (by decide) (fun a h => ?_)
          refine g_no h rfl rfl rfl rfl hB3 rfl (by decide) (fun a h => ?_)
          refine g_no h rfl rfl rfl rfl hB3 rfl (by decide) (fun a h => ?_)
          refine s_x h rfl rfl (by decide) (x_pick (u' := undef) h.k rfl rfl (fun _ => rfl) (fun hh => absurd (hB3.symm.trans hh) (by decide))) (fun a h => ?_)
          exact (h.mid 3 rfl).val (by first | rfl | (rw [hB3]; first | rfl | simp))
        · refine g_yes h rfl rfl rfl rfl hB3 ?_
          refine s_move h rfl _ rfl rfl (by decide) rfl (fun a h => ?_)
          refine g_yes h rfl rfl rfl rfl hB3 ?_
          refine s_x h rfl rfl (by decide) (x_len h.k rfl Try.underlying23 rfl) (fun a h => ?_)
          refine g_yes h rfl rfl rfl rfl hB3 ?_
          refine s_x h rfl rfl (by decide) (x_bin h.k rfl rfl rfl ib_gtr) (fun a h => ?_)
          refine s_x h rfl rfl (by decide) (x_pick (u' := undef) h.k rfl rfl (fun hh => absurd (hB3.symm.trans hh) (by decide)) (fun _ => rfl)) (fun a h => ?_)
          exact (h.mid 3 rfl).val (by first | rfl | (rw [hB3]; first | rfl | simp))
        refine l_end ?_
        refine c_cond h rfl (fun hb => ?_) (fun hb => ?_)
        · rw [if_pos hb] at hf
          refine c_rs ?_ -- region 7
          refine s_assign h rfl _ rfl rfl (by decide) rfl (fun a h => ?_)
          refine l_end ?_
          refine wp_ret ?_
          refine e_thenR ?_
          rw [← Option.some.inj hf]
          exact r_ret1 h rfl (rv_tmp h rfl) ⟨_, [], _, rfl, ⟨rfl, rfl, trivial⟩, rfl, up8, (h.m.pick [3] _ (by decide) rfl)⟩
        · rw [if_neg (by rw [hb]; decide)] at hf
          refine wp_skip ?_
          refine e_thenN ?_
          refine c_rs ?_ -- region 8
          refine s_move h rfl _ rfl rfl (by decide) rfl (fun a h => ?_)
          obtain ⟨x345, h346, hf⟩ := bsome hf
          have h := h.pick [3, 0, 1, 2] (by decide) rfl
          have hX := chatelainelaw37_made_ok Fu (S0 := S7) Aa0 ca0 a0 (hsa0.mono le9) _ h346 _ (h.sub (Ls := []))
          refine q_callY (Ls := []) hX h up8 rfl rfl rfl (by decide) Try.func7 rfl rfl rfl (fun a w v L1 S348 hR le350 up349 h => ?_)
          obtain ⟨g351, A352, c353, cs354, g356, es357, cl358, g360, es361, cl362, A364, c365, cs366, rfl, rfl, hq355, hm359, hm363, hq367, _⟩ := hR
          refine s_move h rfl _ rfl rfl (by decide) rfl (fun a h => ?_)
          refine s_x h rfl rfl (by decide) (x_ext h.k rfl rfl rfl) (fun a h => ?_)
          refine s_x h rfl rfl (by decide) (x_ext h.k rfl rfl rfl) (fun a h => ?_)
          refine s_assign h rfl _ rfl rfl (by decide) rfl (fun a h => ?_)
          refine s_assign h rfl _ rfl rfl (by decide) rfl (fun a h => ?_)
          refine l_end ?_
          refine c_rs ?_ -- region 9
          refine s_move h rfl _ rfl rfl (by decide) rfl (fun a h => ?_)
          refine s_move h rfl _ rfl rfl (by decide) rfl (fun a h => ?_)
          obtain ⟨x368, h369, hf⟩ := bsome hf
          have h := h.pick [0, 1, 2, 3, 5, 4, 6, 7, 8] (by decide) rfl
          have hX := know_From_ok Fu (S0 := S348) x345.1 g351 A352 c353 cs354 g356 es357 cl358 g360 es361 cl362 hq355 hm359 hm363 Aa1 ca1 a1 (hsa1.mono (le9.trans le350)) _ h369 _ (h.sub (Ls := [.box g351 52 ([.slice A352 x345.1.1.length c353, .map (some g356), .map (some g360)]), .row (.slice A352 x345.1.1.length c353) 46 3 x345.1.1.length cs354, .obj g356 (.map es357 cl358), .obj g360 (.map es361 cl362)]))
          refine q_callY (Ls := [.box g351 52 ([.slice A352 x345.1.1.length c353, .map (some g356), .map (some g360)]), .row (.slice A352 x345.1.1.length c353) 46 3 x345.1.1.length cs354, .obj g356 (.map es357 cl358), .obj g360 (.map es361 cl362)]) hX h up349 rfl rfl rfl (by decide) Try.func6 rfl rfl rfl (fun a w v L1 S371 hR le373 up372 h => ?_)
          rcases hR with hR | hR
          · obtain ⟨x374, rfl, hR⟩ := hR
            dsimp only at hf
            obtain ⟨A376, c377, cs378, g380, es381, cl382, g384, es385, cl386, rfl, rfl, hr375, hq379, hm383, hm387, _⟩ := hR
            refine s_move h rfl _ rfl rfl (by decide) rfl (fun a h => ?_)
            refine s_x h rfl rfl (by decide) (x_ext h.k rfl rfl rfl) (fun a h => ?_)
            refine s_x h rfl rfl (by decide) (x_ext h.k rfl rfl rfl) (fun a h => ?_)
            refine s_assign h rfl _ rfl rfl (by decide) rfl (fun a h => ?_)
            refine s_assign h rfl _ rfl rfl (by decide) rfl (fun a h => ?_)
            refine l_end ?_
            refine wp_seq ?_
            refine c_rs ?_ -- region 10
            refine s_move h rfl _ rfl rfl (by decide) rfl (fun a h => ?_)
            obtain ⟨x388, h389, hf⟩ := bsome hf
            have hX := term_Store_Len_ok Fu (S0 := snapAll _) g351 x374.2 ⟨[.slice A376 x374.2.1.length c377, .map (some g380), .map (some g384)], h.m.boxAll (i := 0) rfl, ⟨[.slice A376 x374.2.1.length c377], [.map (some g380), .map (some g384)], rfl, ⟨_, _, rfl, h.m.rowAll (i := 1) rfl (j := 4) rfl hq379⟩, ⟨[.map (some g380)], [.map (some g384)], rfl, ⟨_, rfl, h.m.mapAll (i := 2) rfl (j := 4) rfl hm383⟩, ⟨_, rfl, h.m.mapAll (i := 3) rfl (j := 4) rfl hm387⟩⟩⟩⟩ _ h389 _ h.startAll
            refine q_callX hX h rfl rfl rfl (by decide) Try.func8 rfl rfl rfl (fun a w v L1 S1 hR hb1 h => ?_)
            obtain ⟨rfl, rfl, hr391, _⟩ := hR
            refine s_move h rfl _ rfl rfl (by decide) rfl (fun a h => ?_)
            have hr392 : r64 (x345.2.length : Int) := len_r (h.m.rowLen (i := 5) rfl)
            refine s_x h rfl rfl (by decide) (x_len h.k rfl Try.underlying22 rfl) (fun a h => ?_)
            refine s_x h rfl rfl (by decide) (x_bin h.k rfl rfl rfl ib_neq) (fun a h => ?_)
            refine l_end ?_
            refine c_cond h rfl (fun hb => ?_) (fun hb => ?_)
            · rw [if_pos (of_decide_eq_true hb)] at hf
              refine c_rs ?_ -- region 11
              refine s_assign h rfl _ rfl rfl (by decide) rfl (fun a h => ?_)
              refine l_end ?_
              refine wp_ret ?_
              refine e_thenR ?_
              rw [← Option.some.inj hf]
              exact r_ret1 h rfl (rv_tmp h rfl) ⟨_, [], _, rfl, ⟨rfl, rfl, trivial⟩, rfl, up372, (h.m.pick [4] _ (by decide) rfl)⟩
            · rw [if_neg (of_decide_eq_false hb)] at hf
              refine wp_skip ?_
              refine e_thenN ?_
              refine wp_seq ?_
              refine c_rs ?_ -- region 12
              refine s_move h rfl _ rfl rfl (by decide) rfl (fun a h => ?_)
              refine s_x h rfl rfl (by decide) (x_len h.k rfl Try.underlying23 rfl) (fun a h => ?_)
              refine s_move h rfl _ rfl rfl (by decide) rfl (fun a h => ?_)
              refine l_end ?_
              obtain ⟨o393, hl394, hf⟩ := bsome hf
              refine c_fin (fun a w => (.inr ()) = o393 ∧ St 118 w0 (ownL ([] ++ [.sn S0])) [(1, .slice Aa1 a1.length ca1), (8, .slice A364 x345.2.length c365), (9, .pointer none), (10, .int .i64 x374.1)] [.row (.slice A364 x345.2.length c365) 46 3 x345.2.length cs366, .sn S371] a w) ?_ ?_
              · refine wp_block ?_
                have h := h.pick [5, 4] (by decide) rfl
                refine c_loop (fun m398 a w => ∃ (x395 : Int), chatelainelaw37_KnowFrom_l4 Fu a1 x345 x374 m398 x395 = some o393 ∧ r64 x395 ∧ St 118 w0 (ownL ([] ++ [.sn S0])) [(1, .slice Aa1 a1.length ca1), (8, .slice A364 x345.2.length c365), (9, .pointer none), (10, .int .i64 x374.1), (49, .slice Aa1 a1.length ca1), (50, .int .i64 (a1.length : Int)), (51, .int .i64 x395)] [.row (.slice A364 x345.2.length c365) 46 3 x345.2.length cs366, .sn S371] a w) Fu ⟨0, hl394, (show r64 0 from ⟨by decide, by decide⟩), h.has (by exact ⟨rfl, rfl, rfl, rfl, rfl, rfl, rfl, trivial⟩)⟩ (fun m398 a w hI => ?_)
                obtain ⟨x395, hl397, hr396, h⟩ := hI
                obtain _ | m398 := m398
                · rw [chatelainelaw37_KnowFrom_l4] at hl397; cases hl397
                rw [chatelainelaw37_KnowFrom_l4] at hl397
                refine c_rs ?_ -- region 13
                refine s_x h rfl rfl (by decide) (x_bin h.k rfl rfl rfl ib_lss) (fun a h => ?_)
                refine l_end ?_
                refine c_cs h rfl (fun hb => ?_) (fun hb => ?_)
                · rw [if_pos (of_decide_eq_true hb)] at hl397
                  refine wp_skip ?_
                  refine e_thenN ?_
                  refine wp_seq ?_
                  refine wp_block ?_
                  refine c_rs ?_ -- region 14
                  obtain ⟨x399, h403, hl397⟩ := bsome hl397
                  obtain ⟨m400, hi404, hm405, hx406⟩ := idx_some h403
                  obtain ⟨b401, off402, k407, hA408, hu409, hc410⟩ := ((hsa1.mono ((le9.trans le350).trans le373))).at1 rfl hx406 (h.m.snOK (i := 1) rfl)
                  obtain ⟨e412, hr411⟩ := hu409
                  cases e412
                  refine s_x h rfl rfl (by decide) (x_iaddrE h.k rfl Try.underlying23 sz_int hA408 rfl rfl hi404 hm405) (fun a h => ?_)
                  refine s_x h rfl rfl (by decide) (x_ld h.k rfl Try.underlying3 rfl rfl (hc410 _ (h.m.snOK (i := 1) rfl))) (fun a h => ?_)
                  refine s_assign h rfl _ rfl rfl (by decide) rfl (fun a h => ?_)
                  refine l_end ?_
                  refine c_rs ?_ -- region 15
                  refine s_move h rfl _ rfl rfl (by decide) rfl (fun a h => ?_)
                  refine s_x h rfl rfl (by decide) (x_bin h.k rfl rfl rfl ib_lss) (fun a h => ?_)
                  refine s_move h rfl _ rfl rfl (by decide) rfl (fun a h => ?_)
                  refine q_grp h 5 (t := 57) 62 ((decide (x399 < 0)) || (decide ((x345.2.length : Int) ≤ x399))) rfl (fun hB2 => ?_) (fun hB2 => ?_) (fun a w h => ?_)
                  · refine g_no h rfl rfl rfl rfl hB2 rfl (by decide) (fun a h => ?_)
                    refine g_no h rfl rfl rfl rfl hB2 rfl (by decide) (fun a h => ?_)
                    refine g_no h rfl rfl rfl rfl hB2 rfl (by decide) (fun a h => ?_)
                    refine g_no h rfl rfl rfl rfl hB2 rfl (by decide) (fun a h => ?_)
                    refine s_x h rfl rfl (by decide) (x_pick (u' := undef) h.k rfl rfl (fun _ => rfl) (fun hh => absurd (hB2.symm.trans hh) (by decide))) (fun a h => ?_)
                    exact (h.mid 4 rfl).val (by first | rfl | (rw [hB2]; first | rfl | simp))
                  · refine g_yes h rfl rfl rfl rfl hB2 ?_
                    refine s_move h rfl _ rfl rfl (by decide) rfl (fun a h => ?_)
                    refine g_yes h rfl rfl rfl rfl hB2 ?_
                    refine s_move h rfl _ rfl rfl (by decide) rfl (fun a h => ?_)
                    refine g_yes h rfl rfl rfl rfl hB2 ?_
                    have hr415 : r64 (x345.2.length : Int) := len_r (h.m.rowLen (i := 0) rfl)
                    refine s_x h rfl rfl (by decide) (x_len h.k rfl Try.underlying22 rfl) (fun a h => ?_)
                    refine g_yes h rfl rfl rfl rfl hB2 ?_
                    refine s_x h rfl rfl (by decide) (x_bin h.k rfl rfl rfl ib_geq) (fun a h => ?_)
                    refine s_x h rfl rfl (by decide) (x_pick (u' := undef) h.k rfl rfl (fun hh => absurd (hB2.symm.trans hh) (by decide)) (fun _ => rfl)) (fun a h => ?_)
                    exact (h.mid 4 rfl).val (by first | rfl | (rw [hB2]; first | rfl | simp))
                  refine l_end ?_
                  refine c_cond h rfl (fun hb => ?_) (fun hb => ?_)
                  · rw [if_pos hb] at hl397
                    refine c_rs ?_ -- region 16
                    refine s_move h rfl _ rfl rfl (by decide) rfl (fun a h => ?_)
                    refine s_x h rfl rfl (by decide) (x_bin h.k rfl rfl rfl ib_eql) (fun a h => ?_)
                    refine s_move h rfl _ rfl rfl (by decide) rfl (fun a h => ?_)
                    refine q_grp h 3 (t := 65) 68 ((decide (x374.1 = 2)) && true) rfl (fun hB2 => ?_) (fun hB2 => ?_) (fun a w h => ?_)
                    · refine g_yes h rfl rfl rfl rfl hB2 ?_
                      refine s_move h rfl _ rfl rfl (by decide) rfl (fun a h => ?_)
                      refine g_yes h rfl rfl rfl rfl hB2 ?_
                      refine s_x h rfl rfl (by decide) (x_eql_nn h.k rfl Try.underlying25 rfl rfl) (fun a h => ?_)
                      refine s_x h rfl rfl (by decide) (x_pick (u' := undef) h.k rfl rfl (fun _ => rfl) (fun hh => absurd (hB2.symm.trans hh) (by decide))) (fun a h => ?_)
                      exact (h.mid 2 rfl).val (by first | rfl | (rw [hB2]; first | rfl | simp))
                    · refine g_no h rfl rfl rfl rfl hB2 rfl (by decide) (fun a h => ?_)
                      refine g_no h rfl rfl rfl rfl hB2 rfl (by decide) (fun a h => ?_)
                      refine s_x h rfl rfl (by decide) (x_pick (u' := undef) h.k rfl rfl (fun hh => absurd (hB2.symm.trans hh) (by decide)) (fun _ => rfl)) (fun a h => ?_)
                      exact (h.mid 2 rfl).val (by first | rfl | (rw [hB2]; first | rfl | simp))
                    refine s_assign h rfl _ rfl rfl (by decide) rfl (fun a h => ?_)
                    refine l_end ?_
                    refine wp_ret ?_
                    refine e_blkR ?_
                    refine e_thenR ?_
                    refine e_thenR ?_
                    refine e_blkR ?_
                    refine e_thenR ?_
                    cases hl397
                    try dsimp only at hf
                    refine e_thenR ?_
                    obtain rfl := Option.some.inj hf
                    exact r_ret1 h rfl (rv_tmp h rfl) ⟨_, [], _, rfl, ⟨rfl, rfl, trivial⟩, rfl, up372, (h.m.pick [1] _ (by decide) rfl)⟩
                  · rw [if_neg (by rw [hb]; decide)] at hl397
                    refine wp_skip ?_
                    refine e_blkN ?_
                    refine e_thenN ?_
                    refine c_r ?_ -- region 17
                    refine s_x h rfl rfl (by decide) (x_bin h.k rfl rfl rfl (ib_add rfl)) (fun a h => ?_)
                    refine s_move h rfl _ rfl rfl (by decide) rfl (fun a h => ?_)
                    refine l_nil ?_
                    exact e_thenN ⟨m398, Nat.lt_succ_self _, w64 (x395 + 1), hl397, (w64_r _), h.has (by exact ⟨rfl, rfl, rfl, rfl, rfl, rfl, rfl, trivial⟩)⟩
                · rw [if_neg (of_decide_eq_false hb)] at hl397
                  refine wp_exit ?_
                  refine e_thenX ?_
                  refine e_thenX ?_
                  refine e_blkX ?_
                  refine e_thenN ?_
                  exact ⟨(Option.some.inj hl397), h.has (by exact ⟨rfl, rfl, rfl, rfl, trivial⟩)⟩
              · rintro a w ⟨rfl, h⟩
                try dsimp only at hf
                refine e_thenN ?_
                refine c_rs ?_ -- region 18
                refine s_move h rfl _ rfl rfl (by decide) rfl (fun a h => ?_)
                refine s_move h rfl _ rfl rfl (by decide) rfl (fun a h => ?_)
                obtain ⟨x418, h419, hf⟩ := bsome hf
                have hX := chatelaineref37_Known_ok Fu (S0 := snapAll _) A364 c365 x345.2 (h.m.rowAll (i := 0) rfl (j := 1) rfl (hq367.mono le373)) Aa1 ca1 a1 ((hsa1.mono ((le9.trans le350).trans le373)).mono (h.m.leAll (i := 1) rfl)) _ h419 _ h.startAll
                refine q_callX hX h rfl rfl rfl (by decide) Try.func9 rfl rfl rfl (fun a w v L1 S1 hR hb1 h => ?_)
                obtain ⟨A421, c422, cs423, rfl, rfl, hq424, _⟩ := hR
                have hq425 := hq424.fl (S' := S371) fl_B
                refine s_assign h rfl _ rfl rfl (by decide) rfl (fun a h => ?_)
                refine l_end ?_
                refine c_rs ?_ -- region 19
                refine s_assign h rfl _ rfl rfl (by decide) rfl (fun a h => ?_)
                refine l_end ?_
                refine wp_seq ?_
                refine c_rs ?_ -- region 20
                refine s_move h rfl _ rfl rfl (by decide) rfl (fun a h => ?_)
                have hr426 : r64 (x418.length : Int) := len_r (h.m.rowLen (i := 0) rfl)
                refine s_x h rfl rfl (by decide) (x_len h.k rfl Try.underlying33 rfl) (fun a h => ?_)
                refine s_move h rfl _ rfl rfl (by decide) rfl (fun a h => ?_)
                refine l_end ?_
                obtain ⟨o427, hl428, hf⟩ := bsome hf
                refine c_fin (fun a w => ∃ (x436 : List Int), ∃ (A437 : Option Addr), ∃ (c438 : Nat), ∃ (cs439 : List Value), (.inr x436) = o427 ∧ reps tyI S371 cs439 x436 ∧ St 118 w0 (ownL ([] ++ [.sn S0])) [(9, .pointer none), (10, .int .i64 x374.1), (13, .slice A421 x418.length c422), (14, .slice A437 x436.length c438)] [.row (.slice A421 x418.length c422) 4 1 x418.length cs423, .row (.slice A437 x436.length c438) 3 1 x436.length cs439, .sn S371] a w) ?_ ?_
                · refine wp_block ?_
                  have h := h.mem (h.m.nilrow 3 1)
                  have h := h.pick [1, 0, 3] (by decide) rfl
                  refine c_loop (fun m442 a w => ∃ (x429 : List Int), ∃ (A430 : Option Addr), ∃ (c431 : Nat), ∃ (cs432 : List Value), ∃ (x434 : Int), chatelainelaw37_KnowFrom_l5 Fu x418 m442 x429 x434 = some o427 ∧ reps tyI S371 cs432 x429 ∧ r64 x434 ∧ St 118 w0 (ownL ([] ++ [.sn S0])) [(9, .pointer none), (10, .int .i64 x374.1), (13, .slice A421 x418.length c422), (14, .slice A430 x429.length c431), (73, .slice A421 x418.length c422), (74, .int .i64 (x418.length : Int)), (75, .int .i64 x434)] [.row (.slice A421 x418.length c422) 4 1 x418.length cs423, .row (.slice A430 x429.length c431) 3 1 x429.length cs432, .sn S371] a w) Fu ⟨[], none, 0, [], 0, hl428, (show reps tyI S371 [] [] from rfl), (show r64 0 from ⟨by decide, by decide⟩), h.has (by exact ⟨rfl, rfl, rfl, rfl, rfl, rfl, rfl, trivial⟩)⟩ (fun m442 a w hI => ?_)
                  obtain ⟨x429, A430, c431, cs432, x434, hl441, hq433, hr435, h⟩ := hI
                  obtain _ | m442 := m442
                  · rw [chatelainelaw37_KnowFrom_l5] at hl441; cases hl441
                  rw [chatelainelaw37_KnowFrom_l5] at hl441
                  refine c_rs ?_ -- region 21
                  refine s_x h rfl rfl (by decide) (x_bin h.k rfl rfl rfl ib_lss) (fun a h => ?_)
                  refine l_end ?_
                  refine c_cs h rfl (fun hb => ?_) (fun hb => ?_)
                  · rw [if_pos (of_decide_eq_true hb)] at hl441
                    refine wp_skip ?_
                    refine e_thenN ?_
                    obtain ⟨o444, hc445, hl441⟩ := bsome hl441
                    refine c_cut (fun a w => ∃ (x446 : List Int), ∃ (A447 : Option Addr), ∃ (c448 : Nat), ∃ (cs449 : List Value), (.inr x446) = o444 ∧ reps tyI S371 cs449 x446 ∧ St 118 w0 (ownL ([] ++ [.sn S0])) [(9, .pointer none), (10, .int .i64 x374.1), (13, .slice A421 x418.length c422), (14, .slice A447 x446.length c448), (73, .slice A421 x418.length c422), (74, .int .i64 (x418.length : Int)), (75, .int .i64 x434)] [.row (.slice A421 x418.length c422) 4 1 x418.length cs423, .row (.slice A447 x446.length c448) 3 1 x446.length cs449, .sn S371] a w) ?_ ?_
                    · refine wp_block ?_
                      refine c_rs ?_ -- region 22
                      refine s_move h rfl _ rfl rfl (by decide) rfl (fun a h => ?_)
                      obtain ⟨m451, h452, hc445⟩ := bsome hc445
                      obtain ⟨hi453, hm454⟩ := ix_some h452
                      obtain ⟨g456, hA455⟩ := h.m.rowHead (i := 0) rfl (Nat.lt_of_le_of_lt (Nat.zero_le _) hm454)
                      refine s_x h rfl rfl (by decide) (x_iaddrE h.k rfl Try.underlying33 sz_bool hA455 rfl rfl hi453 hm454) (fun a h => ?_)
                      obtain ⟨x457, h458, hc445⟩ := bsome hc445
                      obtain ⟨u459, hv460, hu461⟩ := (hq425).cell rfl h458
                      cases hu461
                      refine s_x h rfl rfl (by decide) (x_ld h.k rfl Try.underlying4 rfl rfl (h.m.cellRowE (i := 0) rfl hA455 _ (by rw [Nat.mul_one]; exact hv460))) (fun a h => ?_)
                      refine s_assign h rfl _ rfl rfl (by decide) rfl (fun a h => ?_)
                      refine s_assign h rfl _ rfl rfl (by decide) rfl (fun a h => ?_)
                      refine l_end ?_
                      refine wp_seq ?_
                      refine c_rs ?_ -- region 23
                      refine s_move h rfl _ rfl rfl (by decide) rfl (fun a h => ?_)
                      refine s_move h rfl _ rfl rfl (by decide) rfl (fun a h => ?_)
                      obtain ⟨x462, h463, hc445⟩ := bsome hc445
                      have hX := know_Set_Has_nil0_ok Fu (S0 := snapAll _) x434 hr435 _ h463 _ h.startAll
                      refine q_callX hX h rfl rfl rfl (by decide) Try.func10 rfl rfl rfl (fun a w v L1 S1 hR hb1 h => ?_)
                      obtain ⟨rfl, rfl, _⟩ := hR
                      refine s_move h rfl _ rfl rfl (by decide) rfl (fun a h => ?_)
                      refine s_x h rfl rfl (by decide) (x_neqB h.k rfl Try.underlying4 rfl rfl) (fun a h => ?_)
                      refine l_end ?_
                      refine c_cond h rfl (fun hb => ?_) (fun hb => ?_)
                      · rw [if_pos hb] at hc445
                        refine c_rs ?_ -- region 24
                        refine s_assign h rfl _ rfl rfl (by decide) rfl (fun a h => ?_)
                        refine l_end ?_
                        refine wp_ret ?_
                        refine e_thenR ?_
                        refine e_blkR ?_
                        refine e_thenR ?_
                        cases hc445
                        try dsimp only at hl441
                        refine e_thenR ?_
                        refine e_blkR ?_
                        refine e_thenR ?_
                        cases hl441
                        try dsimp only at hf
                        refine e_thenR ?_
                        rw [← Option.some.inj hf]
                        exact r_ret1 h rfl (rv_tmp h rfl) ⟨_, [], _, rfl, ⟨rfl, rfl, trivial⟩, rfl, up372, (h.m.pick [2] _ (by decide) rfl)⟩
                      · rw [if_neg (by rw [hb]; decide)] at hc445
                        refine wp_skip ?_
                        refine e_thenN ?_
                        refine c_rs ?_ -- region 25
                        refine s_move h rfl _ rfl rfl (by decide) rfl (fun a h => ?_)
                        refine l_end ?_
                        refine c_cond h rfl (fun hb => ?_) (fun hb => ?_)
                        · rw [if_pos hb] at hc445
                          refine c_r ?_ -- region 26
                          refine s_move h rfl _ rfl rfl (by decide) rfl (fun a h => ?_)
                          refine s_move h rfl _ rfl rfl (by decide) rfl (fun a h => ?_)
                          refine q_bslice (T := tyI) (S := S371) h rfl rfl rfl (by decide) Try.underlying23 zi_int (by decide) (by decide) (by decide) (by decide) [.int .i64 x434] rfl rfl (C := [[.int .i64 x434]]) rfl (xs := [x434]) ⟨[.int .i64 x434], _, rfl, ⟨rfl, hr435⟩, rfl⟩ (by intro c hc; simp only [List.mem_cons, List.not_mem_nil, or_false] at hc; subst hc; rfl) (fun a w A465 h => ?_)
                          have hb466 : reps tyI S371 ([[.int .i64 x434]] : List (List Value)).flatten [x434] := ⟨[.int .i64 x434], _, rfl, ⟨rfl, hr435⟩, rfl⟩
                          obtain ⟨x467, h468, hc445⟩ := bsome hc445
                          refine q_append (T := tyI) (S := S371) h rfl rfl rfl (by decide) Try.underlying23 zb_int rfl (by decide) rfl 2 rfl hq433 rfl hb466 (h.m.rdRowA (i := 0) rfl) h468 (fun a w A469 c470 cs471 hq472 h => ?_)
                          refine s_assign h rfl _ rfl rfl (by decide) rfl (fun a h => ?_)
                          refine l_nil ?_
                          refine e_blkN ?_
                          refine e_thenN ?_
                          have h := h.pick [1, 2, 3] (by decide) rfl
                          exact ⟨x467, A469, c470, cs471, (Option.some.inj hc445), hq472, h.has (by exact ⟨rfl, rfl, rfl, rfl, rfl, rfl, rfl, trivial⟩)⟩
                        · rw [if_neg (by rw [hb]; decide)] at hc445
                          refine wp_skip ?_
                          refine e_blkN ?_
                          refine e_thenN ?_
                          exact ⟨x429, A430, c431, cs432, (Option.some.inj hc445), hq433, h.has (by exact ⟨rfl, rfl, rfl, rfl, rfl, rfl, rfl, trivial⟩)⟩
                    · rintro a w ⟨x446, A447, c448, cs449, rfl, hq450, h⟩
                      try dsimp only at hl441
                      refine c_r ?_ -- region 27
                      refine s_x h rfl rfl (by decide) (x_bin h.k rfl rfl rfl (ib_add rfl)) (fun a h => ?_)
                      refine s_move h rfl _ rfl rfl (by decide) rfl (fun a h => ?_)
                      refine l_nil ?_
                      exact e_thenN ⟨m442, Nat.lt_succ_self _, x446, A447, c448, cs449, w64 (x434 + 1), hl441, hq450, (w64_r _), h.has (by exact ⟨rfl, rfl, rfl, rfl, rfl, rfl, rfl, trivial⟩)⟩
                  · rw [if_neg (of_decide_eq_false hb)] at hl441
                    refine wp_exit ?_
                    refine e_thenX ?_
                    refine e_thenX ?_
                    refine e_blkX ?_
                    refine e_thenN ?_
                    exact ⟨x429, A430, c431, cs432, (Option.some.inj hl441), hq433, h.has (by exact ⟨rfl, rfl, rfl, rfl, trivial⟩)⟩
                · rintro a w ⟨x436, A437, c438, cs439, rfl, hq440, h⟩
                  try dsimp only at hf
                  refine e_thenN ?_
                  refine c_rs ?_ -- region 28
                  refine s_move h rfl _ rfl rfl (by decide) rfl (fun a h => ?_)
                  refine s_x h rfl rfl (by decide) (x_bin h.k rfl rfl rfl ib_eql) (fun a h => ?_)
                  refine s_move h rfl _ rfl rfl (by decide) rfl (fun a h => ?_)
                  obtain ⟨z475, hz474, hf⟩ := bsome hf
                  refine q_grp h 5 (t := 93) 98 z475 rfl (fun hB2 => ?_) (fun hB2 => ?_) (fun a w h => ?_)
                  · rw [if_pos (of_decide_eq_true hB2)] at hz474
                    refine g_yes h rfl rfl rfl rfl hB2 ?_
                    refine s_move h rfl _ rfl rfl (by decide) rfl (fun a h => ?_)
                    refine g_yes h rfl rfl rfl rfl hB2 ?_
                    obtain ⟨x477, h478, hz474⟩ := bsome hz474
                    have hX := know_Set_List_nil0_ok Fu (S0 := snapAll _)  _ h478 _ h.startAll
                    refine q_callX hX h rfl rfl rfl (by decide) Try.func12 rfl rfl rfl (fun a w v L1 S1 hR hb1 h => ?_)
                    obtain ⟨A480, c481, cs482, rfl, rfl, hq483, _⟩ := hR
                    have hq484 := hq483.fl (S' := S371) fl_I
                    refine g_yes h rfl rfl rfl rfl hB2 ?_
                    refine s_move h rfl _ rfl rfl (by decide) rfl (fun a h => ?_)
                    refine g_yes h rfl rfl rfl rfl hB2 ?_
                    obtain ⟨x485, h486, hz474⟩ := bsome hz474
                    have hX := chatelaineref01_Ints_ok Fu (S0 := snapAll _) A480 c481 x477 (h.m.rowAll (i := 0) rfl (j := 3) rfl hq484) A437 c438 x436 (h.m.rowAll (i := 2) rfl (j := 3) rfl hq440) _ h486 _ h.startAll
                    refine q_callX hX h rfl rfl rfl (by decide) Try.func11 rfl rfl rfl (fun a w v L1 S1 hR hb1 h => ?_)
                    obtain ⟨rfl, rfl, _⟩ := hR
                    refine s_x h rfl rfl (by decide) (x_pick (u' := undef) h.k rfl rfl (fun _ => rfl) (fun hh => absurd (hB2.symm.trans hh) (by decide))) (fun a h => ?_)
                    have h := h.pick [1, 2, 3] (by decide) rfl
                    exact (h.mid 4 rfl).val (by rw [Option.some.inj hz474])
                  · refine g_no h rfl rfl rfl rfl hB2 rfl (by decide) (fun a h => ?_)
                    refine g_no h rfl rfl rfl rfl hB2 rfl (by decide) (fun a h => ?_)
                    refine g_no h rfl rfl rfl rfl hB2 rfl (by decide) (fun a h => ?_)
                    refine g_no h rfl rfl rfl rfl hB2 rfl (by decide) (fun a h => ?_)
                    rw [if_neg (of_decide_eq_false hB2)] at hz474
                    refine s_x h rfl rfl (by decide) (x_pick (u' := undef) h.k rfl rfl (fun hh => absurd (hB2.symm.trans hh) (by decide)) (fun _ => rfl)) (fun a h => ?_)
                    exact (h.mid 4 rfl).val (by rw [Option.some.inj hz474])
                  refine s_move h rfl _ rfl rfl (by decide) rfl (fun a h => ?_)
                  obtain ⟨z489, hz488, hf⟩ := bsome hf
                  refine q_grp h 6 (t := 99) 105 z489 rfl (fun hB8 => ?_) (fun hB8 => ?_) (fun a w h => ?_)
                  · rw [if_pos hB8] at hz488
                    refine g_yes h rfl rfl rfl rfl hB8 ?_
                    refine s_move h rfl _ rfl rfl (by decide) rfl (fun a h => ?_)
                    refine g_yes h rfl rfl rfl rfl hB8 ?_
                    obtain ⟨x491, h492, hz488⟩ := bsome hz488
                    have hX := know_Set_Len_nil0_ok Fu (S0 := snapAll _)  _ h492 _ h.startAll
                    refine q_callX hX h rfl rfl rfl (by decide) Try.func13 rfl rfl rfl (fun a w v L1 S1 hR hb1 h => ?_)
                    obtain ⟨rfl, rfl, hr494, _⟩ := hR
                    refine g_yes h rfl rfl rfl rfl hB8 ?_
                    refine s_move h rfl _ rfl rfl (by decide) rfl (fun a h => ?_)
                    refine g_yes h rfl rfl rfl rfl hB8 ?_
                    have hr495 : r64 (x436.length : Int) := len_r (h.m.rowLen (i := 1) rfl)
                    refine s_x h rfl rfl (by decide) (x_len h.k rfl Try.underlying23 rfl) (fun a h => ?_)
                    refine g_yes h rfl rfl rfl rfl hB8 ?_
                    refine s_x h rfl rfl (by decide) (x_bin h.k rfl rfl rfl ib_eql) (fun a h => ?_)
                    refine s_x h rfl rfl (by decide) (x_pick (u' := undef) h.k rfl rfl (fun _ => rfl) (fun hh => absurd (hB8.symm.trans hh) (by decide))) (fun a h => ?_)
                    exact (h.mid 5 rfl).val (by rw [Option.some.inj hz488])
                  · refine g_no h rfl rfl rfl rfl hB8 rfl (by decide) (fun a h => ?_)
                    refine g_no h rfl rfl rfl rfl hB8 rfl (by decide) (fun a h => ?_)
                    refine g_no h rfl rfl rfl rfl hB8 rfl (by decide) (fun a h => ?_)
                    refine g_no h rfl rfl rfl rfl hB8 rfl (by decide) (fun a h => ?_)
                    refine g_no h rfl rfl rfl rfl hB8 rfl (by decide) (fun a h => ?_)
                    rw [if_neg (by rw [hB8]; decide)] at hz488
                    refine s_x h rfl rfl (by decide) (x_pick (u' := undef) h.k rfl rfl (fun hh => absurd (hB8.symm.trans hh) (by decide)) (fun _ => rfl)) (fun a h => ?_)
                    exact (h.mid 5 rfl).val (by rw [Option.some.inj hz488])
                  refine s_move h rfl _ rfl rfl (by decide) rfl (fun a h => ?_)
                  obtain ⟨z497, hz496, hf⟩ := bsome hf
                  refine q_grp h 4 (t := 106) 110 z497 rfl (fun hB15 => ?_) (fun hB15 => ?_) (fun a w h => ?_)
                  · rw [if_pos hB15] at hz496
                    refine g_yes h rfl rfl rfl rfl hB15 ?_
                    refine s_move h rfl _ rfl rfl (by decide) rfl (fun a h => ?_)
                    refine g_yes h rfl rfl rfl rfl hB15 ?_
                    obtain ⟨x499, h500, hz496⟩ := bsome hz496
                    have hX := know_Set_Has_nil0_ok Fu (S0 := snapAll _) (-1) (show r64 (-1) from ⟨by decide, by decide⟩) _ h500 _ h.startAll
                    refine q_callX hX h rfl rfl rfl (by decide) Try.func10 rfl rfl rfl (fun a w v L1 S1 hR hb1 h => ?_)
                    obtain ⟨rfl, rfl, _⟩ := hR
                    refine g_yes h rfl rfl rfl rfl hB15 ?_
                    refine s_x h rfl rfl (by decide) (x_not h.k rfl rfl) (fun a h => ?_)
                    refine s_x h rfl rfl (by decide) (x_pick (u' := undef) h.k rfl rfl (fun _ => rfl) (fun hh => absurd (hB15.symm.trans hh) (by decide))) (fun a h => ?_)
                    exact (h.mid 3 rfl).val (by rw [Option.some.inj hz496])
                  · refine g_no h rfl rfl rfl rfl hB15 rfl (by decide) (fun a h => ?_)
                    refine g_no h rfl rfl rfl rfl hB15 rfl (by decide) (fun a h => ?_)
                    refine g_no h rfl rfl rfl rfl hB15 rfl (by decide) (fun a h => ?_)
                    rw [if_neg (by rw [hB15]; decide)] at hz496
                    refine s_x h rfl rfl (by decide) (x_pick (u' := undef) h.k rfl rfl (fun hh => absurd (hB15.symm.trans hh) (by decide)) (fun _ => rfl)) (fun a h => ?_)
                    exact (h.mid 3 rfl).val (by rw [Option.some.inj hz496])
                  refine s_move h rfl _ rfl rfl (by decide) rfl (fun a h => ?_)
                  obtain ⟨z503, hz502, hf⟩ := bsome hf
                  refine q_grp h 6 (t := 111) 117 z503 rfl (fun hB20 => ?_) (fun hB20 => ?_) (fun a w h => ?_)
                  · rw [if_pos hB20] at hz502
                    refine g_yes h rfl rfl rfl rfl hB20 ?_
                    refine s_move h rfl _ rfl rfl (by decide) rfl (fun a h => ?_)
                    refine g_yes h rfl rfl rfl rfl hB20 ?_
                    refine s_move h rfl _ rfl rfl (by decide) rfl (fun a h => ?_)
                    refine g_yes h rfl rfl rfl rfl hB20 ?_
                    have hr505 : r64 (x418.length : Int) := len_r (h.m.rowLen (i := 0) rfl)
                    refine s_x h rfl rfl (by decide) (x_len h.k rfl Try.underlying33 rfl) (fun a h => ?_)
                    refine g_yes h rfl rfl rfl rfl hB20 ?_
                    obtain ⟨x506, h507, hz502⟩ := bsome hz502
                    have hX := know_Set_Has_nil0_ok Fu (S0 := snapAll _) (x418.length : Int) hr505 _ h507 _ h.startAll
                    refine q_callX hX h rfl rfl rfl (by decide) Try.func10 rfl rfl rfl (fun a w v L1 S1 hR hb1 h => ?_)
                    obtain ⟨rfl, rfl, _⟩ := hR
                    refine g_yes h rfl rfl rfl rfl hB20 ?_
                    refine s_x h rfl rfl (by decide) (x_not h.k rfl rfl) (fun a h => ?_)
                    refine s_x h rfl rfl (by decide) (x_pick (u' := undef) h.k rfl rfl (fun _ => rfl) (fun hh => absurd (hB20.symm.trans hh) (by decide))) (fun a h => ?_)
                    exact (h.mid 5 rfl).val (by rw [Option.some.inj hz502])
                  · refine g_no h rfl rfl rfl rfl hB20 rfl (by decide) (fun a h => ?_)
                    refine g_no h rfl rfl rfl rfl hB20 rfl (by decide) (fun a h => ?_)
                    refine g_no h rfl rfl rfl rfl hB20 rfl (by decide) (fun a h => ?_)
                    refine g_no h rfl rfl rfl rfl hB20 rfl (by decide) (fun a h => ?_)
                    refine g_no h rfl rfl rfl rfl hB20 rfl (by decide) (fun a h => ?_)
                    rw [if_neg (by rw [hB20]; decide)] at hz502
                    refine s_x h rfl rfl (by decide) (x_pick (u' := undef) h.k rfl rfl (fun hh => absurd (hB20.symm.trans hh) (by decide)) (fun _ => rfl)) (fun a h => ?_)
                    exact (h.mid 5 rfl).val (by rw [Option.some.inj hz502])
                  refine s_assign h rfl _ rfl rfl (by decide) rfl (fun a h => ?_)
                  refine l_end ?_
                  refine wp_ret ?_
                  rw [← Option.some.inj hf]
                  exact r_ret1 h rfl (rv_tmp h rfl) ⟨_, [], _, rfl, ⟨rfl, rfl, trivial⟩, rfl, up372, (h.m.pick [2] _ (by decide) rfl)⟩
          · obtain ⟨x511, rfl, hR⟩ := hR
            dsimp only at hf
            obtain ⟨g512, A513, c514, A516, c517, cs518, A520, c521, cs522, A525, c526, cs527, g529, es530, cl531, g533, es534, cl535, rfl, rfl, hs515, hq519, hq523, hr524, hq528, hm532, hm536, _⟩ := hR
            refine s_move h rfl _ rfl rfl (by decide) rfl (fun a h => ?_)
            refine s_x h rfl rfl (by decide) (x_ext h.k rfl rfl rfl) (fun a h => ?_)
            refine s_x h rfl rfl (by decide) (x_ext h.k rfl rfl rfl) (fun a h => ?_)
            refine s_assign h rfl _ rfl rfl (by decide) rfl (fun a h => ?_)
            refine s_assign h rfl _ rfl rfl (by decide) rfl (fun a h => ?_)
            refine l_end ?_
            refine wp_seq ?_
            refine c_rs ?_ -- region 10
            refine s_move h rfl _ rfl rfl (by decide) rfl (fun a h => ?_)
            obtain ⟨x537, h538, hf⟩ := bsome hf
            have hX := term_Store_Len_ok Fu (S0 := snapAll _) g351 x511.2.2 ⟨[.slice A525 x511.2.2.1.length c526, .map (some g529), .map (some g533)], h.m.boxAll (i := 3) rfl, ⟨[.slice A525 x511.2.2.1.length c526], [.map (some g529), .map (some g533)], rfl, ⟨_, _, rfl, h.m.rowAll (i := 4) rfl (j := 7) rfl hq528⟩, ⟨[.map (some g529)], [.map (some g533)], rfl, ⟨_, rfl, h.m.mapAll (i := 5) rfl (j := 7) rfl hm532⟩, ⟨_, rfl, h.m.mapAll (i := 6) rfl (j := 7) rfl hm536⟩⟩⟩⟩ _ h538 _ h.startAll
            refine q_callX hX h rfl rfl rfl (by decide) Try.func8 rfl rfl rfl (fun a w v L1 S1 hR hb1 h => ?_)
            obtain ⟨rfl, rfl, hr540, _⟩ := hR
            refine s_move h rfl _ rfl rfl (by decide) rfl (fun a h => ?_)
            have hr541 : r64 (x345.2.length : Int) := len_r (h.m.rowLen (i := 8) rfl)
            refine s_x h rfl rfl (by decide) (x_len h.k rfl Try.underlying22 rfl) (fun a h => ?_)
            refine s_x h rfl rfl (by decide) (x_bin h.k rfl rfl rfl ib_neq) (fun a h => ?_)
            refine l_end ?_
            refine c_cond h rfl (fun hb => ?_) (fun hb => ?_)
            · rw [if_pos (of_decide_eq_true hb)] at hf
              refine c_rs ?_ -- region 11
              refine s_assign h rfl _ rfl rfl (by decide) rfl (fun a h => ?_)
              refine l_end ?_
              refine wp_ret ?_
              refine e_thenR ?_
              rw [← Option.some.inj hf]
              exact r_ret1 h rfl (rv_tmp h rfl) ⟨_, [], _, rfl, ⟨rfl, rfl, trivial⟩, rfl, up372, (h.m.pick [7] _ (by decide) rfl)⟩
            · rw [if_neg (of_decide_eq_false hb)] at hf
              refine wp_skip ?_
              refine e_thenN ?_
              refine wp_seq ?_
              refine c_rs ?_ -- region 12
              refine s_move h rfl _ rfl rfl (by decide) rfl (fun a h => ?_)
              refine s_x h rfl rfl (by decide) (x_len h.k rfl Try.underlying23 rfl) (fun a h => ?_)
              refine s_move h rfl _ rfl rfl (by decide) rfl (fun a h => ?_)
              refine l_end ?_
              obtain ⟨o542, hl543, hf⟩ := bsome hf
              refine c_fin (fun a w => (.inr ()) = o542 ∧ St 118 w0 (ownL ([] ++ [.sn S0])) [(1, .slice Aa1 a1.length ca1), (8, .slice A364 x345.2.length c365), (9, .pointer (some ⟨g512, 0, none⟩)), (10, .int .i64 x511.2.1)] [.row (.slice A364 x345.2.length c365) 46 3 x345.2.length cs366, .box g512 54 ([.slice A513 x511.1.1.length c514, .slice A516 x511.1.2.1.length c517, .slice A520 x511.1.2.2.1.length c521, .bool x511.1.2.2.2]), .row (.slice A516 x511.1.2.1.length c517) 4 1 x511.1.2.1.length cs518, .row (.slice A520 x511.1.2.2.1.length c521) 3 1 x511.1.2.2.1.length cs522, .sn S371] a w) ?_ ?_
              · refine wp_block ?_
                have h := h.pick [8, 0, 1, 2, 7] (by decide) rfl
                refine c_loop (fun m547 a w => ∃ (x544 : Int), chatelainelaw37_KnowFrom_l6 Fu a1 x345 m547 x544 = some o542 ∧ r64 x544 ∧ St 118 w0 (ownL ([] ++ [.sn S0])) [(1, .slice Aa1 a1.length ca1), (8, .slice A364 x345.2.length c365), (9, .pointer (some ⟨g512, 0, none⟩)), (10, .int .i64 x511.2.1), (49, .slice Aa1 a1.length ca1), (50, .int .i64 (a1.length : Int)), (51, .int .i64 x544)] [.row (.slice A364 x345.2.length c365) 46 3 x345.2.length cs366, .box g512 54 ([.slice A513 x511.1.1.length c514, .slice A516 x511.1.2.1.length c517, .slice A520 x511.1.2.2.1.length c521, .bool x511.1.2.2.2]), .row (.slice A516 x511.1.2.1.length c517) 4 1 x511.1.2.1.length cs518, .row (.slice A520 x511.1.2.2.1.length c521) 3 1 x511.1.2.2.1.length cs522, .sn S371] a w) Fu ⟨0, hl543, (show r64 0 from ⟨by decide, by decide⟩), h.has (by exact ⟨rfl, rfl, rfl, rfl, rfl, rfl, rfl, trivial⟩)⟩ (fun m547 a w hI => ?_)
                obtain ⟨x544, hl546, hr545, h⟩ := hI
                obtain _ | m547 := m547
                · rw [chatelainelaw37_KnowFrom_l6] at hl546; cases hl546
                rw [chatelainelaw37_KnowFrom_l6] at hl546
                refine c_rs ?_ -- region 13
                refine s_x h rfl rfl (by decide) (x_bin h.k rfl rfl rfl ib_lss) (fun a h => ?_)
                refine l_end ?_
                refine c_cs h rfl (fun hb => ?_) (fun hb => ?_)
                · rw [if_pos (of_decide_eq_true hb)] at hl546
                  refine wp_skip ?_
                  refine e_thenN ?_
                  refine wp_seq ?_
                  refine wp_block ?_
                  refine c_rs ?_ -- region 14
                  obtain ⟨x548, h552, hl546⟩ := bsome hl546
                  obtain ⟨m549, hi553, hm554, hx555⟩ := idx_some h552
                  obtain ⟨b550, off551, k556, hA557, hu558, hc559⟩ := ((hsa1.mono ((le9.trans le350).trans le373))).at1 rfl hx555 (h.m.snOK (i := 4) rfl)
                  obtain ⟨e561, hr560⟩ := hu558
                  cases e561
                  refine s_x h rfl rfl (by decide) (x_iaddrE h.k rfl Try.underlying23 sz_int hA557 rfl rfl hi553 hm554) (fun a h => ?_)
                  refine s_x h rfl rfl (by decide) (x_ld h.k rfl Try.underlying3 rfl rfl (hc559 _ (h.m.snOK (i := 4) rfl))) (fun a h => ?_)
                  refine s_assign h rfl _ rfl rfl (by decide) rfl (fun a h => ?_)
                  refine l_end ?_
                  refine c_rs ?_ -- region 15
                  refine s_move h rfl _ rfl rfl (by decide) rfl (fun a h => ?_)
                  refine s_x h rfl rfl (by decide) (x_bin h.k rfl rfl rfl ib_lss) (fun a h => ?_)
                  refine s_move h rfl _ rfl rfl (by decide) rfl (fun a h => ?_)
                  refine q_grp h 5 (t := 57) 62 ((decide (x548 < 0)) || (decide ((x345.2.length : Int) ≤ x548))) rfl (fun hB2 => ?_) (fun hB2 => ?_) (fun a w h => ?_)
                  · refine g_no h rfl rfl rfl rfl hB2 rfl (by decide) (fun a h => ?_)
                    refine g_no h rfl rfl rfl rfl hB2 rfl (by decide) (fun a h => ?_)
                    refine g_no h rfl rfl rfl rfl hB2 rfl (by decide) (fun a h => ?_)
                    refine g_no h rfl rfl rfl rfl hB2 rfl (by decide) (fun a h => ?_)
                    refine s_x h rfl rfl (by decide) (x_pick (u' := undef) h.k rfl rfl (fun _ => rfl) (fun hh => absurd (hB2.symm.trans hh) (by decide))) (fun a h => ?_)
                    exact (h.mid 4 rfl).val (by first | rfl | (rw [hB2]; first | rfl | simp))
                  · refine g_yes h rfl rfl rfl rfl hB2 ?_
                    refine s_move h rfl _ rfl rfl (by decide) rfl (fun a h => ?_)
                    refine g_yes h rfl rfl rfl rfl hB2 ?_
                    refine s_move h rfl _ rfl rfl (by decide) rfl (fun a h => ?_)
                    refine g_yes h rfl rfl rfl rfl hB2 ?_
                    have hr564 : r64 (x345.2.length : Int) := len_r (h.m.rowLen (i := 0) rfl)
                    refine s_x h rfl rfl (by decide) (x_len h.k rfl Try.underlying22 rfl) (fun a h => ?_)
                    refine g_yes h rfl rfl rfl rfl hB2 ?_
                    refine s_x h rfl rfl (by decide) (x_bin h.k rfl rfl rfl ib_geq) (fun a h => ?_)
                    refine s_x h rfl rfl (by decide) (x_pick (u' := undef) h.k rfl rfl (fun hh => absurd (hB2.symm.trans hh) (by decide)) (fun _ => rfl)) (fun a h => ?_)
                    exact (h.mid 4 rfl).val (by first | rfl | (rw [hB2]; first | rfl | simp))
                  refine l_end ?_
                  refine c_cond h rfl (fun hb => ?_) (fun hb => ?_)
                  · rw [if_pos hb] at hl546
                    refine c_rs ?_ -- region 16
                    refine s_move h rfl _ rfl rfl (by decide) rfl (fun a h => ?_)
                    refine s_x h rfl rfl (by decide) (x_bin h.k rfl rfl rfl ib_eql) (fun a h => ?_)
                    refine s_move h rfl _ rfl rfl (by decide) rfl (fun a h => ?_)
                    refine q_grp h 3 (t := 65) 68 false rfl (fun hB2 => ?_) (fun hB2 => ?_) (fun a w h => ?_)
                    · refine g_yes h rfl rfl rfl rfl hB2 ?_
                      refine s_move h rfl _ rfl rfl (by decide) rfl (fun a h => ?_)
                      refine g_yes h rfl rfl rfl rfl hB2 ?_
                      refine s_x h rfl rfl (by decide) (x_eql_pn h.k rfl Try.underlying25 rfl rfl) (fun a h => ?_)
                      refine s_x h rfl rfl (by decide) (x_pick (u' := undef) h.k rfl rfl (fun _ => rfl) (fun hh => absurd (hB2.symm.trans hh) (by decide))) (fun a h => ?_)
                      exact (h.mid 2 rfl).val (by first | rfl | (rw [hB2]; first | rfl | simp))
                    · refine g_no h rfl rfl rfl rfl hB2 rfl (by decide) (fun a h => ?_)
                      refine g_no h rfl rfl rfl rfl hB2 rfl (by decide) (fun a h => ?_)
                      refine s_x h rfl rfl (by decide) (x_pick (u' := undef) h.k rfl rfl (fun hh => absurd (hB2.symm.trans hh) (by decide)) (fun _ => rfl)) (fun a h => ?_)
                      exact (h.mid 2 rfl).val (by first | rfl | (rw [hB2]; first | rfl | simp))
                    refine s_assign h rfl _ rfl rfl (by decide) rfl (fun a h => ?_)
                    refine l_end ?_
                    refine wp_ret ?_
                    refine e_blkR ?_
                    refine e_thenR ?_
                    refine e_thenR ?_
                    refine e_blkR ?_
                    refine e_thenR ?_
                    cases hl546
                    try dsimp only at hf
                    refine e_thenR ?_
                    rw [← Option.some.inj hf]
                    exact r_ret1 h rfl (rv_tmp h rfl) ⟨_, [], _, rfl, ⟨rfl, rfl, trivial⟩, rfl, up372, (h.m.pick [4] _ (by decide) rfl)⟩
                  · rw [if_neg (by rw [hb]; decide)] at hl546
                    refine wp_skip ?_
                    refine e_blkN ?_
                    refine e_thenN ?_
                    refine c_r ?_ -- region 17
                    refine s_x h rfl rfl (by decide) (x_bin h.k rfl rfl rfl (ib_add rfl)) (fun a h => ?_)
                    refine s_move h rfl _ rfl rfl (by decide) rfl (fun a h => ?_)
                    refine l_nil ?_
                    exact e_thenN ⟨m547, Nat.lt_succ_self _, w64 (x544 + 1), hl546, (w64_r _), h.has (by exact ⟨rfl, rfl, rfl, rfl, rfl, rfl, rfl, trivial⟩)⟩
                · rw [if_neg (of_decide_eq_false hb)] at hl546
                  refine wp_exit ?_
                  refine e_thenX ?_
                  refine e_thenX ?_
                  refine e_blkX ?_
                  refine e_thenN ?_
                  exact ⟨(Option.some.inj hl546), h.has (by exact ⟨rfl, rfl, rfl, rfl, trivial⟩)⟩
              · rintro a w ⟨rfl, h⟩
                try dsimp only at hf
                refine e_thenN ?_
                refine c_rs ?_ -- region 18
                refine s_move h rfl _ rfl rfl (by decide) rfl (fun a h => ?_)
                refine s_move h rfl _ rfl rfl (by decide) rfl (fun a h => ?_)
                obtain ⟨x567, h568, hf⟩ := bsome hf
                have hX := chatelaineref37_Known_ok Fu (S0 := snapAll _) A364 c365 x345.2 (h.m.rowAll (i := 0) rfl (j := 4) rfl (hq367.mono le373)) Aa1 ca1 a1 ((hsa1.mono ((le9.trans le350).trans le373)).mono (h.m.leAll (i := 4) rfl)) _ h568 _ h.startAll
                refine q_callX hX h rfl rfl rfl (by decide) Try.func9 rfl rfl rfl (fun a w v L1 S1 hR hb1 h => ?_)
                obtain ⟨A570, c571, cs572, rfl, rfl, hq573, _⟩ := hR
                have hq574 := hq573.fl (S' := S371) fl_B
                refine s_assign h rfl _ rfl rfl (by decide) rfl (fun a h => ?_)
                refine l_end ?_
                refine c_rs ?_ -- region 19
                refine s_assign h rfl _ rfl rfl (by decide) rfl (fun a h => ?_)
                refine l_end ?_
                refine wp_seq ?_
                refine c_rs ?_ -- region 20
                refine s_move h rfl _ rfl rfl (by decide) rfl (fun a h => ?_)
                have hr575 : r64 (x567.length : Int) := len_r (h.m.rowLen (i := 0) rfl)
                refine s_x h rfl rfl (by decide) (x_len h.k rfl Try.underlying33 rfl) (fun a h => ?_)
                refine s_move h rfl _ rfl rfl (by decide) rfl (fun a h => ?_)
                refine l_end ?_
                obtain ⟨o576, hl577, hf⟩ := bsome hf
                refine c_fin (fun a w => ∃ (x585 : List Int), ∃ (A586 : Option Addr), ∃ (c587 : Nat), ∃ (cs588 : List Value), (.inr x585) = o576 ∧ reps tyI S371 cs588 x585 ∧ St 118 w0 (ownL ([] ++ [.sn S0])) [(9, .pointer (some ⟨g512, 0, none⟩)), (10, .int .i64 x511.2.1), (13, .slice A570 x567.length c571), (14, .slice A586 x585.length c587)] [.box g512 54 ([.slice A513 x511.1.1.length c514, .slice A516 x511.1.2.1.length c517, .slice A520 x511.1.2.2.1.length c521, .bool x511.1.2.2.2]), .row (.slice A516 x511.1.2.1.length c517) 4 1 x511.1.2.1.length cs518, .row (.slice A520 x511.1.2.2.1.length c521) 3 1 x511.1.2.2.1.length cs522, .row (.slice A570 x567.length c571) 4 1 x567.length cs572, .row (.slice A586 x585.length c587) 3 1 x585.length cs588, .sn S371] a w) ?_ ?_
                · refine wp_block ?_
                  have h := h.mem (h.m.nilrow 3 1)
                  have h := h.pick [3, 4, 5, 1, 0, 6] (by decide) rfl
                  refine c_loop (fun m591 a w => ∃ (x578 : List Int), ∃ (A579 : Option Addr), ∃ (c580 : Nat), ∃ (cs581 : List Value), ∃ (x583 : Int), chatelainelaw37_KnowFrom_l7 Fu x511 x567 m591 x578 x583 = some o576 ∧ reps tyI S371 cs581 x578 ∧ r64 x583 ∧ St 118 w0 (ownL ([] ++ [.sn S0])) [(9, .pointer (some ⟨g512, 0, none⟩)), (10, .int .i64 x511.2.1), (13, .slice A570 x567.length c571), (14, .slice A579 x578.length c580), (73, .slice A570 x567.length c571), (74, .int .i64 (x567.length : Int)), (75, .int .i64 x583)] [.box g512 54 ([.slice A513 x511.1.1.length c514, .slice A516 x511.1.2.1.length c517, .slice A520 x511.1.2.2.1.length c521, .bool x511.1.2.2.2]), .row (.slice A516 x511.1.2.1.length c517) 4 1 x511.1.2.1.length cs518, .row (.slice A520 x511.1.2.2.1.length c521) 3 1 x511.1.2.2.1.length cs522, .row (.slice A570 x567.length c571) 4 1 x567.length cs572, .row (.slice A579 x578.length c580) 3 1 x578.length cs581, .sn S371] a w) Fu ⟨[], none, 0, [], 0, hl577, (show reps tyI S371 [] [] from rfl), (show r64 0 from ⟨by decide, by decide⟩), h.has (by exact ⟨rfl, rfl, rfl, rfl, rfl, rfl, rfl, trivial⟩)⟩ (fun m591 a w hI => ?_)
                  obtain ⟨x578, A579, c580, cs581, x583, hl590, hq582, hr584, h⟩ := hI
                  obtain _ | m591 := m591
                  · rw [chatelainelaw37_KnowFrom_l7] at hl590; cases hl590
                  rw [chatelainelaw37_KnowFrom_l7] at hl590
                  refine c_rs ?_ -- region 21
                  refine s_x h rfl rfl (by decide) (x_bin h.k rfl rfl rfl ib_lss) (fun a h => ?_)
                  refine l_end ?_
                  refine c_cs h rfl (fun hb => ?_) (fun hb => ?_)
                  · rw [if_pos (of_decide_eq_true hb)] at hl590
                    refine wp_skip ?_
                    refine e_thenN ?_
                    obtain ⟨o593, hc594, hl590⟩ := bsome hl590
                    refine c_cut (fun a w => ∃ (x595 : List Int), ∃ (A596 : Option Addr), ∃ (c597 : Nat), ∃ (cs598 : List Value), (.inr x595) = o593 ∧ reps tyI S371 cs598 x595 ∧ St 118 w0 (ownL ([] ++ [.sn S0])) [(9, .pointer (some ⟨g512, 0, none⟩)), (10, .int .i64 x511.2.1), (13, .slice A570 x567.length c571), (14, .slice A596 x595.length c597), (73, .slice A570 x567.length c571), (74, .int .i64 (x567.length : Int)), (75, .int .i64 x583)] [.box g512 54 ([.slice A513 x511.1.1.length c514, .slice A516 x511.1.2.1.length c517, .slice A520 x511.1.2.2.1.length c521, .bool x511.1.2.2.2]), .row (.slice A516 x511.1.2.1.length c517) 4 1 x511.1.2.1.length cs518, .row (.slice A520 x511.1.2.2.1.length c521) 3 1 x511.1.2.2.1.length cs522, .row (.slice A570 x567.length c571) 4 1 x567.length cs572, .row (.slice A596 x595.length c597) 3 1 x595.length cs598, .sn S371] a w) ?_ ?_
                    · refine wp_block ?_
                      refine c_rs ?_ -- region 22
                      refine s_move h rfl _ rfl rfl (by decide) rfl (fun a h => ?_)
                      obtain ⟨m600, h601, hc594⟩ := bsome hc594
                      obtain ⟨hi602, hm603⟩ := ix_some h601
                      obtain ⟨g605, hA604⟩ := h.m.rowHead (i := 3) rfl (Nat.lt_of_le_of_lt (Nat.zero_le _) hm603)
                      refine s_x h rfl rfl (by decide) (x_iaddrE h.k rfl Try.underlying33 sz_bool hA604 rfl rfl hi602 hm603) (fun a h => ?_)
                      obtain ⟨x606, h607, hc594⟩ := bsome hc594
                      obtain ⟨u608, hv609, hu610⟩ := (hq574).cell rfl h607
                      cases hu610
                      refine s_x h rfl rfl (by decide) (x_ld h.k rfl Try.underlying4 rfl rfl (h.m.cellRowE (i := 3) rfl hA604 _ (by rw [Nat.mul_one]; exact hv609))) (fun a h => ?_)
                      refine s_assign h rfl _ rfl rfl (by decide) rfl (fun a h => ?_)
                      refine s_assign h rfl _ rfl rfl (by decide) rfl (fun a h => ?_)
                      refine l_end ?_
                      refine wp_seq ?_
                      refine c_rs ?_ -- region 23
                      refine s_move h rfl _ rfl rfl (by decide) rfl (fun a h => ?_)
                      refine s_move h rfl _ rfl rfl (by decide) rfl (fun a h => ?_)
                      obtain ⟨x611, h612, hc594⟩ := bsome hc594
                      have hX := know_Set_Has_ok Fu (S0 := snapAll _) g512 x511.1 ⟨[.slice A513 x511.1.1.length c514, .slice A516 x511.1.2.1.length c517, .slice A520 x511.1.2.2.1.length c521, .bool x511.1.2.2.2], h.m.boxAll (i := 0) rfl, ⟨[.slice A513 x511.1.1.length c514], [.slice A516 x511.1.2.1.length c517, .slice A520 x511.1.2.2.1.length c521, .bool x511.1.2.2.2], rfl, ⟨_, _, rfl, (hs515).mono (h.m.leAll (i := 5) rfl)⟩, ⟨[.slice A516 x511.1.2.1.length c517], [.slice A520 x511.1.2.2.1.length c521, .bool x511.1.2.2.2], rfl, ⟨_, _, rfl, h.m.rowAll (i := 1) rfl (j := 5) rfl hq519⟩, ⟨[.slice A520 x511.1.2.2.1.length c521], [.bool x511.1.2.2.2], rfl, ⟨_, _, rfl, h.m.rowAll (i := 2) rfl (j := 5) rfl hq523⟩, rfl⟩⟩⟩⟩ x583 hr584 _ h612 _ h.startAll
                      refine q_callX hX h rfl rfl rfl (by decide) Try.func10 rfl rfl rfl (fun a w v L1 S1 hR hb1 h => ?_)
                      obtain ⟨rfl, rfl, _⟩ := hR
                      refine s_move h rfl _ rfl rfl (by decide) rfl (fun a h => ?_)
                      refine s_x h rfl rfl (by decide) (x_neqB h.k rfl Try.underlying4 rfl rfl) (fun a h => ?_)
                      refine l_end ?_
                      refine c_cond h rfl (fun hb => ?_) (fun hb => ?_)
                      · rw [if_pos hb] at hc594
                        refine c_rs ?_ -- region 24
                        refine s_assign h rfl _ rfl rfl (by decide) rfl (fun a h => ?_)
                        refine l_end ?_
                        refine wp_ret ?_
                        refine e_thenR ?_
                        refine e_blkR ?_
                        refine e_thenR ?_
                        cases hc594
                        try dsimp only at hl590
                        refine e_thenR ?_
                        refine e_blkR ?_
                        refine e_thenR ?_
                        cases hl590
                        try dsimp only at hf
                        refine e_thenR ?_
                        rw [← Option.some.inj hf]
                        exact r_ret1 h rfl (rv_tmp h rfl) ⟨_, [], _, rfl, ⟨rfl, rfl, trivial⟩, rfl, up372, (h.m.pick [5] _ (by decide) rfl)⟩
                      · rw [if_neg (by rw [hb]; decide)] at hc594
                        refine wp_skip ?_
                        refine e_thenN ?_
                        refine c_rs ?_ -- region 25
                        refine s_move h rfl _ rfl rfl (by decide) rfl (fun a h => ?_)
                        refine l_end ?_
                        refine c_cond h rfl (fun hb => ?_) (fun hb => ?_)
                        · rw [if_pos hb] at hc594
                          refine c_r ?_ -- region 26
                          refine s_move h rfl _ rfl rfl (by decide) rfl (fun a h => ?_)
                          refine s_move h rfl _ rfl rfl (by decide) rfl (fun a h => ?_)
                          refine q_bslice (T := tyI) (S := S371) h rfl rfl rfl (by decide) Try.underlying23 zi_int (by decide) (by decide) (by decide) (by decide) [.int .i64 x583] rfl rfl (C := [[.int .i64 x583]]) rfl (xs := [x583]) ⟨[.int .i64 x583], _, rfl, ⟨rfl, hr584⟩, rfl⟩ (by intro c hc; simp only [List.mem_cons, List.not_mem_nil, or_false] at hc; subst hc; rfl) (fun a w A614 h => ?_)
                          have hb615 : reps tyI S371 ([[.int .i64 x583]] : List (List Value)).flatten [x583] := ⟨[.int .i64 x583], _, rfl, ⟨rfl, hr584⟩, rfl⟩
                          obtain ⟨x616, h617, hc594⟩ := bsome hc594
                          refine q_append (T := tyI) (S := S371) h rfl rfl rfl (by decide) Try.underlying23 zb_int rfl (by decide) rfl 5 rfl hq582 rfl hb615 (h.m.rdRowA (i := 0) rfl) h617 (fun a w A618 c619 cs620 hq621 h => ?_)
                          refine s_assign h rfl _ rfl rfl (by decide) rfl (fun a h => ?_)
                          refine l_nil ?_
                          refine e_blkN ?_
                          refine e_thenN ?_
                          have h := h.pick [1, 2, 3, 4, 5, 6] (by decide) rfl
                          exact ⟨x616, A618, c619, cs620, (Option.some.inj hc594), hq621, h.has (by exact ⟨rfl, rfl, rfl, rfl, rfl, rfl, rfl, trivial⟩)⟩
                        · rw [if_neg (by rw [hb]; decide)] at hc594
                          refine wp_skip ?_
                          refine e_blkN ?_
                          refine e_thenN ?_
                          exact ⟨x578, A579, c580, cs581, (Option.some.inj hc594), hq582, h.has (by exact ⟨rfl, rfl, rfl, rfl, rfl, rfl, rfl, trivial⟩)⟩
                    · rintro a w ⟨x595, A596, c597, cs598, rfl, hq599, h⟩
                      try dsimp only at hl590
                      refine c_r ?_ -- region 27
                      refine s_x h rfl rfl (by decide) (x_bin h.k rfl rfl rfl (ib_add rfl)) (fun a h => ?_)
                      refine s_move h rfl _ rfl rfl (by decide) rfl (fun a h => ?_)
                      refine l_nil ?_
                      exact e_thenN ⟨m591, Nat.lt_succ_self _, x595, A596, c597, cs598, w64 (x583 + 1), hl590, hq599, (w64_r _), h.has (by exact ⟨rfl, rfl, rfl, rfl, rfl, rfl, rfl, trivial⟩)⟩
                  · rw [if_neg (of_decide_eq_false hb)] at hl590
                    refine wp_exit ?_
                    refine e_thenX ?_
                    refine e_thenX ?_
                    refine e_blkX ?_
                    refine e_thenN ?_
                    exact ⟨x578, A579, c580, cs581, (Option.some.inj hl590), hq582, h.has (by exact ⟨rfl, rfl, rfl, rfl, trivial⟩)⟩
                · rintro a w ⟨x585, A586, c587, cs588, rfl, hq589, h⟩
                  try dsimp only at hf
                  refine e_thenN ?_
                  refine c_rs ?_ -- region 28
                  refine s_move h rfl _ rfl rfl (by decide) rfl (fun a h => ?_)
                  refine s_x h rfl rfl (by decide) (x_bin h.k rfl rfl rfl ib_eql) (fun a h => ?_)
                  refine s_move h rfl _ rfl rfl (by decide) rfl (fun a h => ?_)
                  obtain ⟨z624, hz623, hf⟩ := bsome hf
                  refine q_grp h 5 (t := 93) 98 z624 rfl (fun hB2 => ?_) (fun hB2 => ?_) (fun a w h => ?_)
                  · rw [if_pos (of_decide_eq_true hB2)] at hz623
                    refine g_yes h rfl rfl rfl rfl hB2 ?_
                    refine s_move h rfl _ rfl rfl (by decide) rfl (fun a h => ?_)
                    refine g_yes h rfl rfl rfl rfl hB2 ?_
                    obtain ⟨x626, h627, hz623⟩ := bsome hz623
                    have hX := know_Set_List_ok Fu (S0 := snapAll _) g512 x511.1 ⟨[.slice A513 x511.1.1.length c514, .slice A516 x511.1.2.1.length c517, .slice A520 x511.1.2.2.1.length c521, .bool x511.1.2.2.2], h.m.boxAll (i := 0) rfl, ⟨[.slice A513 x511.1.1.length c514], [.slice A516 x511.1.2.1.length c517, .slice A520 x511.1.2.2.1.length c521, .bool x511.1.2.2.2], rfl, ⟨_, _, rfl, (hs515).mono (h.m.leAll (i := 5) rfl)⟩, ⟨[.slice A516 x511.1.2.1.length c517], [.slice A520 x511.1.2.2.1.length c521, .bool x511.1.2.2.2], rfl, ⟨_, _, rfl, h.m.rowAll (i := 1) rfl (j := 5) rfl hq519⟩, ⟨[.slice A520 x511.1.2.2.1.length c521], [.bool x511.1.2.2.2], rfl, ⟨_, _, rfl, h.m.rowAll (i := 2) rfl (j := 5) rfl hq523⟩, rfl⟩⟩⟩⟩ _ h627 _ h.startAll
                    refine q_callX hX h rfl rfl rfl (by decide) Try.func12 rfl rfl rfl (fun a w v L1 S1 hR hb1 h => ?_)
                    obtain ⟨A629, c630, cs631, rfl, rfl, hq632, _⟩ := hR
                    have hq633 := hq632.fl (S' := S371) fl_I
                    refine g_yes h rfl rfl rfl rfl hB2 ?_
                    refine s_move h rfl _ rfl rfl (by decide) rfl (fun a h => ?_)
                    refine g_yes h rfl rfl rfl rfl hB2 ?_
                    obtain ⟨x634, h635, hz623⟩ := bsome hz623
                    have hX := chatelaineref01_Ints_ok Fu (S0 := snapAll _) A629 c630 x626 (h.m.rowAll (i := 0) rfl (j := 6) rfl hq633) A586 c587 x585 (h.m.rowAll (i := 5) rfl (j := 6) rfl hq589) _ h635 _ h.startAll
                    refine q_callX hX h rfl rfl rfl (by decide) Try.func11 rfl rfl rfl (fun a w v L1 S1 hR hb1 h => ?_)
                    obtain ⟨rfl, rfl, _⟩ := hR
                    refine s_x h rfl rfl (by decide) (x_pick (u' := undef) h.k rfl rfl (fun _ => rfl) (fun hh => absurd (hB2.symm.trans hh) (by decide))) (fun a h => ?_)
                    have h := h.pick [1, 2, 3, 4, 5, 6] (by decide) rfl
                    exact (h.mid 4 rfl).val (by rw [Option.some.inj hz623])
                  · refine g_no h rfl rfl rfl rfl hB2 rfl (by decide) (fun a h => ?_)
                    refine g_no h rfl rfl rfl rfl hB2 rfl (by decide) (fun a h => ?_)
                    refine g_no h rfl rfl rfl rfl hB2 rfl (by decide) (fun a h => ?_)
                    refine g_no h rfl rfl rfl rfl hB2 rfl (by decide) (fun a h => ?_)
                    rw [if_neg (of_decide_eq_false hB2)] at hz623
                    refine s_x h rfl rfl (by decide) (x_pick (u' := undef) h.k rfl rfl (fun hh => absurd (hB2.symm.trans hh) (by decide)) (fun _ => rfl)) (fun a h => ?_)
                    exact (h.mid 4 rfl).val (by rw [Option.some.inj hz623])
                  refine s_move h rfl _ rfl rfl (by decide) rfl (fun a h => ?_)
                  obtain ⟨z638, hz637, hf⟩ := bsome hf
                  refine q_grp h 6 (t := 99) 105 z638 rfl (fun hB8 => ?_) (fun hB8 => ?_) (fun a w h => ?_)
                  · rw [if_pos hB8] at hz637
                    refine g_yes h rfl rfl rfl rfl hB8 ?_
                    refine s_move h rfl _ rfl rfl (by decide) rfl (fun a h => ?_)
                    refine g_yes h rfl rfl rfl rfl hB8 ?_
                    obtain ⟨x640, h641, hz637⟩ := bsome hz637
                    have hX := know_Set_Len_ok Fu (S0 := snapAll _) g512 x511.1 ⟨[.slice A513 x511.1.1.length c514, .slice A516 x511.1.2.1.length c517, .slice A520 x511.1.2.2.1.length c521, .bool x511.1.2.2.2], h.m.boxAll (i := 0) rfl, ⟨[.slice A513 x511.1.1.length c514], [.slice A516 x511.1.2.1.length c517, .slice A520 x511.1.2.2.1.length c521, .bool x511.1.2.2.2], rfl, ⟨_, _, rfl, (hs515).mono (h.m.leAll (i := 5) rfl)⟩, ⟨[.slice A516 x511.1.2.1.length c517], [.slice A520 x511.1.2.2.1.length c521, .bool x511.1.2.2.2], rfl, ⟨_, _, rfl, h.m.rowAll (i := 1) rfl (j := 5) rfl hq519⟩, ⟨[.slice A520 x511.1.2.2.1.length c521], [.bool x511.1.2.2.2], rfl, ⟨_, _, rfl, h.m.rowAll (i := 2) rfl (j := 5) rfl hq523⟩, rfl⟩⟩⟩⟩ _ h641 _ h.startAll
                    refine q_callX hX h rfl rfl rfl (by decide) Try.func13 rfl rfl rfl (fun a w v L1 S1 hR hb1 h => ?_)
                    obtain ⟨rfl, rfl, hr643, _⟩ := hR
                    refine g_yes h rfl rfl rfl rfl hB8 ?_
                    refine s_move h rfl _ rfl rfl (by decide) rfl (fun a h => ?_)
                    refine g_yes h rfl rfl rfl rfl hB8 ?_
                    have hr644 : r64 (x585.length : Int) := len_r (h.m.rowLen (i := 4) rfl)
                    refine s_x h rfl rfl (by decide) (x_len h.k rfl Try.underlying23 rfl) (fun a h => ?_)
                    refine g_yes h rfl rfl rfl rfl hB8 ?_
                    refine s_x h rfl rfl (by decide) (x_bin h.k rfl rfl rfl ib_eql) (fun a h => ?_)
                    refine s_x h rfl rfl (by decide) (x_pick (u' := undef) h.k rfl rfl (fun _ => rfl) (fun hh => absurd (hB8.symm.trans hh) (by decide))) (fun a h => ?_)
                    exact (h.mid 5 rfl).val (by rw [Option.some.inj hz637])
                  · refine g_no h rfl rfl rfl rfl hB8 rfl (by decide) (fun a h => ?_)
                    refine g_no h rfl rfl rfl rfl hB8 rfl (by decide) (fun a h => ?_)
                    refine g_no h rfl rfl rfl rfl hB8 rfl (by decide) (fun a h => ?_)
                    refine g_no h rfl rfl rfl rfl hB8 rfl (by decide) (fun a h => ?_)
                    refine g_no h rfl rfl rfl rfl hB8 rfl (by decide) (fun a h => ?_)
                    rw [if_neg (by rw [hB8]; decide)] at hz637
                    refine s_x h rfl rfl (by decide) (x_pick (u' := undef) h.k rfl rfl (fun hh => absurd (hB8.symm.trans hh) (by decide)) (fun _ => rfl)) (fun a h => ?_)
                    exact (h.mid 5 rfl).val (by rw [Option.some.inj hz637])
                  refine s_move h rfl _ rfl rfl (by decide) rfl (fun a h => ?_)
                  obtain ⟨z646, hz645, hf⟩ := bsome hf
                  refine q_grp h 4 (t := 106) 110 z646 rfl (fun hB15 => ?_) (fun hB15 => ?_) (fun a w h => ?_)
                  · rw [if_pos hB15] at hz645
                    refine g_yes h rfl rfl rfl rfl hB15 ?_
                    refine s_move h rfl _ rfl rfl (by decide) rfl (fun a h => ?_)
                    refine g_yes h rfl rfl rfl rfl hB15 ?_
                    obtain ⟨x648, h649, hz645⟩ := bsome hz645
                    have hX := know_Set_Has_ok Fu (S0 := snapAll _) g512 x511.1 ⟨[.slice A513 x511.1.1.length c514, .slice A516 x511.1.2.1.length c517, .slice A520 x511.1.2.2.1.length c521, .bool x511.1.2.2.2], h.m.boxAll (i := 0) rfl, ⟨[.slice A513 x511.1.1.length c514], [.slice A516 x511.1.2.1.length c517, .slice A520 x511.1.2.2.1.length c521, .bool x511.1.2.2.2], rfl, ⟨_, _, rfl, (hs515).mono (h.m.leAll (i := 5) rfl)⟩, ⟨[.slice A516 x511.1.2.1.length c517], [.slice A520 x511.1.2.2.1.length c521, .bool x511.1.2.2.2], rfl, ⟨_, _, rfl, h.m.rowAll (i := 1) rfl (j := 5) rfl hq519⟩, ⟨[.slice A520 x511.1.2.2.1.length c521], [.bool x511.1.2.2.2], rfl, ⟨_, _, rfl, h.m.rowAll (i := 2) rfl (j := 5) rfl hq523⟩, rfl⟩⟩⟩⟩ (-1) (show r64 (-1) from ⟨by decide, by decide⟩) _ h649 _ h.startAll
                    refine q_callX hX h rfl rfl rfl (by decide) Try.func10 rfl rfl rfl (fun a w v L1 S1 hR hb1 h => ?_)
                    obtain ⟨rfl, rfl, _⟩ := hR
                    refine g_yes h rfl rfl rfl rfl hB15 ?_
                    refine s_x h rfl rfl (by decide) (x_not h.k rfl rfl) (fun a h => ?_)
                    refine s_x h rfl rfl (by decide) (x_pick (u' := undef) h.k rfl rfl (fun _ => rfl) (fun hh => absurd (hB15.symm.trans hh) (by decide))) (fun a h => ?_)
                    exact (h.mid 3 rfl).val (by rw [Option.some.inj hz645])
                  · refine g_no h rfl rfl rfl rfl hB15 rfl (by decide) (fun a h => ?_)
                    refine g_no h rfl rfl rfl rfl hB15 rfl (by decide) (fun a h => ?_)
                    refine g_no h rfl rfl rfl rfl hB15 rfl (by decide) (fun a h => ?_)
                    rw [if_neg (by rw [hB15]; decide)] at hz645
                    refine s_x h rfl rfl (by decide) (x_pick (u' := undef) h.k rfl rfl (fun hh => absurd (hB15.symm.trans hh) (by decide)) (fun _ => rfl)) (fun a h => ?_)
                    exact (h.mid 3 rfl).val (by rw [Option.some.inj hz645])
                  refine s_move h rfl _ rfl rfl (by decide) rfl (fun a h => ?_)
                  obtain ⟨z652, hz651, hf⟩ := bsome hf
                  refine q_grp h 6 (t := 111) 117 z652 rfl (fun hB20 => ?_) (fun hB20 => ?_) (fun a w h => ?_)
                  · rw [if_pos hB20] at hz651
                    refine g_yes h rfl rfl rfl rfl hB20 ?_
                    refine s_move h rfl _ rfl rfl (by decide) rfl (fun a h => ?_)
                    refine g_yes h rfl rfl rfl rfl hB20 ?_
                    refine s_move h rfl _ rfl rfl (by decide) rfl (fun a h => ?_)
                    refine g_yes h rfl rfl rfl rfl hB20 ?_
                    have hr654 : r64 (x567.length : Int) := len_r (h.m.rowLen (i := 3) rfl)
                    refine s_x h rfl rfl (by decide) (x_len h.k rfl Try.underlying33 rfl) (fun a h => ?_)
                    refine g_yes h rfl rfl rfl rfl hB20 ?_
                    obtain ⟨x655, h656, hz651⟩ := bsome hz651
                    have hX := know_Set_Has_ok Fu (S0 := snapAll _) g512 x511.1 ⟨[.slice A513 x511.1.1.length c514, .slice A516 x511.1.2.1.length c517, .slice A520 x511.1.2.2.1.length c521, .bool x511.1.2.2.2], h.m.boxAll (i := 0) rfl, ⟨[.slice A513 x511.1.1.length c514], [.slice A516 x511.1.2.1.length c517, .slice A520 x511.1.2.2.1.length c521, .bool x511.1.2.2.2], rfl, ⟨_, _, rfl, (hs515).mono (h.m.leAll (i := 5) rfl)⟩, ⟨[.slice A516 x511.1.2.1.length c517], [.slice A520 x511.1.2.2.1.length c521, .bool x511.1.2.2.2], rfl, ⟨_, _, rfl, h.m.rowAll (i := 1) rfl (j := 5) rfl hq519⟩, ⟨[.slice A520 x511.1.2.2.1.length c521], [.bool x511.1.2.2.2], rfl, ⟨_, _, rfl, h.m.rowAll (i := 2) rfl (j := 5) rfl hq523⟩, rfl⟩⟩⟩⟩ (x567.length : Int) hr654 _ h656 _ h.startAll
                    refine q_callX hX h rfl rfl rfl (by decide) Try.func10 rfl rfl rfl (fun a w v L1 S1 hR hb1 h => ?_)
                    obtain ⟨rfl, rfl, _⟩ := hR
                    refine g_yes h rfl rfl rfl rfl hB20 ?_
                    refine s_x h rfl rfl (by decide) (x_not h.k rfl rfl) (fun a h => ?_)
                    refine s_x h rfl rfl (by decide) (x_pick (u' := undef) h.k rfl rfl (fun _ => rfl) (fun hh => absurd (hB20.symm.trans hh) (by decide))) (fun a h => ?_)
                    exact (h.mid 5 rfl).val (by rw [Option.some.inj hz651])
                  · refine g_no h rfl rfl rfl rfl hB20 rfl (by decide) (fun a h => ?_)
                    refine g_no h rfl rfl rfl rfl hB20 rfl (by decide) (fun a h => ?_)
                    refine g_no h rfl rfl rfl rfl hB20 rfl (by decide) (fun a h => ?_)
                    refine g_no h rfl rfl rfl rfl hB20 rfl (by decide) (fun a h => ?_)
                    refine g_no h rfl rfl rfl rfl hB20 rfl (by decide) (fun a h => ?_)
                    rw [if_neg (by rw [hB20]; decide)] at hz651
                    refine s_x h rfl rfl (by decide) (x_pick (u' := undef) h.k rfl rfl (fun hh => absurd (hB20.symm.trans hh) (by decide)) (fun _ => rfl)) (fun a h => ?_)
                    exact (h.mid 5 rfl).val (by rw [Option.some.inj hz651])
                  refine s_assign h rfl _ rfl rfl (by decide) rfl (fun a h => ?_)
                  refine l_end ?_
                  refine wp_ret ?_
                  rw [← Option.some.inj hf]
                  exact r_ret1 h rfl (rv_tmp h rfl) ⟨_, [], _, rfl, ⟨rfl, rfl, trivial⟩, rfl, up372, (h.m.pick [5] _ (by decide) rfl)⟩
end
end Go.Proofs.Ytnjmlihmnkbgdaa
