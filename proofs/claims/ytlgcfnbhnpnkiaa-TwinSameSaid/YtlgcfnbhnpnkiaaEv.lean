/- Ev: Go functions as plain functions, and that they are so (written by xt.py). -/
import Derived.Test.YtlgcfnbhnpnkiaaEt
set_option linter.unusedVariables false
set_option linter.unusedSimpArgs false
namespace Go.Proofs.Ytlgcfnbhnpnkiaa
open Go.RowKit
def chatelainelaw39_TwinSame_l0 (Fu : Nat) (a0 : List (Int × Int × Int)) : Nat → Int → ((List (Int × Int × Int)) × (List ((Int × Int × Int) × Int)) × (List (Int × Int))) → Option (((List (Int × Int × Int)) × (List ((Int × Int × Int) × Int)) × (List (Int × Int))))
  | 0, _, _ => none
  | k + 1, x40, x42 => if x40 < (a0.length : Int) then ((idx a0 x40).bind fun x73 => (term_Store_Put Fu (x42.1, x42.2.1, x42.2.2) x73).bind fun x93 => chatelainelaw39_TwinSame_l0 Fu a0 k (w64 (x40 + 1)) (x93.2.2.1, x93.2.2.2.1, x93.2.2.2.2)) else (some (x42.1, x42.2.1, x42.2.2))
def chatelainelaw39_TwinSame_l1 (Fu : Nat) (a0 : List (Int × Int × Int)) (a1 : List UInt8) : Nat → (List (Int × Int × Int)) → Int → Option (Sum Bool ((List (Int × Int × Int))))
  | 0, _, _ => none
  | k + 1, x160, x165 => if x165 < (a0.length : Int) then ((idx a0 x165).bind fun x175 => (if x175.1 = 1 then (if 1048576 < x175.2.2 then (some (.inl true)) else ((ix 4 (w64 (x175.2.1 - 1))).bind fun m203 => (a1[m203]?).bind fun x207 => some (.inr (x175.1, x175.2.1, w64 ((w64 (3 * x175.2.2)) + (x207.toNat : Int)))))) else (some (.inr (x175.1, x175.2.1, x175.2.2))) : Option (Sum Bool (Int × Int × Int))).bind fun o => match o with | .inl r220 => some (.inl r220) | .inr (x197, x199, x201) => (app 24 x160 ([(x197, x199, x201)])).bind fun x214 => chatelainelaw39_TwinSame_l1 Fu a0 a1 k x214 (w64 (x165 + 1))) else (some (.inr x160))
def chatelainelaw39_TwinSame (Fu : Nat) (a0 : List (Int × Int × Int)) (a1 : List UInt8) : Option Bool :=
  (chatelainelaw39_awake Fu).bind fun x4 => if (!x4) = true then (some false) else ((twin_All_nil0 Fu).bind fun x7 => if (x7.length : Int) ≠ 0 then (some false) else (if 40 < (a0.length : Int) then (some true) else ((term_New Fu).bind fun x16 => (chatelainelaw39_TwinSame_l0 Fu a0 Fu 0 (x16.1, x16.2.1, x16.2.2)).bind fun x58 => (twin_All Fu (x58.1, x58.2.1, x58.2.2)).bind fun x113 => (twin_Right Fu x113).bind fun x121 => (if (!x121) = true then some true else (term_Store_Len Fu (x58.1, x58.2.1, x58.2.2)).bind fun x128 => some (decide ((x113.length : Int) ≠ x128))).bind fun z125 => if z125 = true then (some false) else ((twin_Rename Fu a0).bind fun x132 => if x132.2 ≠ 0 then (some (decide ((x132.1.length : Int) = 0))) else ((twin_Rename Fu x132.1).bind fun x142 => (chatelainelaw39_TwinSame_l1 Fu a0 a1 Fu ([]) 0).bind fun o => match o with | .inl r245 => some r245 | .inr x167 => (if x142.2 = 0 then (chatelaineref39_Same Fu x132.1 x142.1).bind fun x224 => some x224 else some false).bind fun z222 => (if z222 = true then (twin_Twins Fu a0 a0).bind fun x230 => some x230 else some false).bind fun z228 => (if z228 = true then (twin_Twins Fu a0 x132.1).bind fun x236 => some x236 else some false).bind fun z234 => (if z234 = true then (twin_Twins Fu a0 x167).bind fun x242 => some x242 else some false).bind fun z240 => some z240)))))
set_option maxRecDepth 100000 in
set_option maxHeartbeats 2000000 in
theorem chatelainelaw39_TwinSame_ok (Fu : Nat) {S0 : Snap} (Aa0 : Option Addr) (ca0 : Nat) (a0 : List (Int × Int × Int)) (hsa0 : slS (tyP tyI (tyP tyI tyI)) S0 Aa0 ca0 a0) (csa1 : List Value) (a1 : List UInt8) (hsa1 : (tyA 4 ty8).rep S0 csa1 a1) (r : Bool) (hf : chatelainelaw39_TwinSame Fu a0 a1 = some r) (w0 : World) (hm : Mem w0 (ownL ([] ++ [.sn S0])) ([] ++ [.sn S0]) w0) :
    Calls Try.prog 3 #[.slice Aa0 a0.length ca0, .agg csa1.toArray] w0 (Ret w0 S0 [] (fun v L1 S1 => v = .bool r ∧ L1 = [] ∧ True)) := by
  unfold chatelainelaw39_TwinSame at hf
  obtain ⟨hs1, hl2⟩ := hsa1
  refine c_enterM Try.func3 rfl 112 rfl (by simp) _ hm _ rfl (fun a h => ?_)
  refine c_rs ?_ -- region 0
  refine s_box h rfl rfl rfl (by decide) rfl (cs := csa1) (by rfl) (fun a w g3 h => ?_)
  refine s_assign h rfl _ rfl rfl (by decide) rfl (fun a h => ?_)
  refine l_end ?_
  refine wp_seq ?_
  refine c_rs ?_ -- region 1
  obtain ⟨x4, h5, hf⟩ := bsome hf
  have hX := chatelainelaw39_awake_ok Fu (S0 := snapAll _)  _ h5 _ h.startAll
  refine q_callX hX h rfl rfl rfl (by decide) Try.func14 rfl rfl rfl (fun a w v L1 S1 hR hb1 h => ?_)
  obtain ⟨rfl, rfl, _⟩ := hR
  refine s_x h rfl rfl (by decide) (x_not h.k rfl rfl) (fun a h => ?_)
  refine l_end ?_
  refine c_cond h rfl (fun hb => ?_) (fun hb => ?_)
  · rw [if_pos hb] at hf
    refine c_rs ?_ -- region 2
    refine s_assign h rfl _ rfl rfl (by decide) rfl (fun a h => ?_)
    refine l_end ?_
    refine wp_ret ?_
    refine e_thenR ?_
    obtain rfl := Option.some.inj hf
    exact r_ret1 h rfl (rv_tmp h rfl) ⟨_, [], _, rfl, ⟨rfl, rfl, trivial⟩, rfl, (Up.refl _ _ _), (h.m.pick [1] _ (by decide) rfl)⟩
  · rw [if_neg (by rw [hb]; decide)] at hf
    refine wp_skip ?_
    refine e_thenN ?_
    refine wp_seq ?_
    refine c_rs ?_ -- region 3
    obtain ⟨x7, h8, hf⟩ := bsome hf
    have hX := twin_All_nil0_ok Fu (S0 := snapAll _)  _ h8 _ h.startAll
    refine q_callX hX h rfl rfl rfl (by decide) Try.func15 rfl rfl rfl (fun a w v L1 S1 hR hb1 h => ?_)
    obtain ⟨A10, c11, cs12, rfl, rfl, hq13, _⟩ := hR
    have hq14 := hq13.fl (S' := S0) (fl_P fl_I (fl_P fl_I fl_I))
    have hr15 : r64 (x7.length : Int) := len_r (h.m.rowLen (i := 0) rfl)
    refine s_x h rfl rfl (by decide) (x_len h.k rfl Try.underlying22 rfl) (fun a h => ?_)
    refine s_x h rfl rfl (by decide) (x_bin h.k rfl rfl rfl ib_neq) (fun a h => ?_)
    refine l_end ?_
    refine c_cond h rfl (fun hb => ?_) (fun hb => ?_)
    · rw [if_pos (of_decide_eq_true hb)] at hf
      refine c_rs ?_ -- region 4
      refine s_assign h rfl _ rfl rfl (by decide) rfl (fun a h => ?_)
      refine l_end ?_
      refine wp_ret ?_
      refine e_thenR ?_
      obtain rfl := Option.some.inj hf
      exact r_ret1 h rfl (rv_tmp h rfl) ⟨_, [], _, rfl, ⟨rfl, rfl, trivial⟩, rfl, (Up.refl _ _ _), (h.m.pick [2] _ (by decide) rfl)⟩
    · rw [if_neg (of_decide_eq_false hb)] at hf
      refine wp_skip ?_
      refine e_thenN ?_
      refine wp_seq ?_
      refine c_rs ?_ -- region 5
      refine s_move h rfl _ rfl rfl (by decide) rfl (fun a h => ?_)
      refine s_x h rfl rfl (by decide) (x_len h.k rfl Try.underlying22 rfl) (fun a h => ?_)
      refine s_x h rfl rfl (by decide) (x_bin h.k rfl rfl rfl ib_gtr) (fun a h => ?_)
      refine l_end ?_
      refine c_cond h rfl (fun hb => ?_) (fun hb => ?_)
      · rw [if_pos (of_decide_eq_true hb)] at hf
        refine c_rs ?_ -- region 6
        refine s_assign h rfl _ rfl rfl (by decide) rfl (fun a h => ?_)
        refine l_end ?_
        refine wp_ret ?_
        refine e_thenR ?_
        obtain rfl := Option.some.inj hf
        exact r_ret1 h rfl (rv_tmp h rfl) ⟨_, [], _, rfl, ⟨rfl, rfl, trivial⟩, rfl, (Up.refl _ _ _), (h.m.pick [2] _ (by decide) rfl)⟩
      · rw [if_neg (of_decide_eq_false hb)] at hf
        refine wp_skip ?_
        refine e_thenN ?_
        refine c_rs ?_ -- region 7
        obtain ⟨x16, h17, hf⟩ := bsome hf
        have h := h.pick [2, 0, 1] (by decide) rfl
        have hX := term_New_ok Fu (S0 := S0)  _ h17 _ (h.sub (Ls := []))
        refine q_callY (Ls := []) hX h (Up.refl _ _ _) rfl rfl rfl (by decide) Try.func16 rfl rfl rfl (fun a w v L1 S19 hR le21 up20 h => ?_)
        obtain ⟨g22, A23, c24, cs25, g27, es28, cl29, g31, es32, cl33, rfl, rfl, hq26, hm30, hm34, _⟩ := hR
        refine s_assign h rfl _ rfl rfl (by decide) rfl (fun a h => ?_)
        refine l_end ?_
        refine wp_seq ?_
        refine c_rs ?_ -- region 8
        refine s_move h rfl _ rfl rfl (by decide) rfl (fun a h => ?_)
        refine s_x h rfl rfl (by decide) (x_len h.k rfl Try.underlying22 rfl) (fun a h => ?_)
        refine s_move h rfl _ rfl rfl (by decide) rfl (fun a h => ?_)
        refine l_end ?_
        obtain ⟨o35, hl36, hf⟩ := bsome hf
        refine c_fin (fun a w => ∃ (S55 : Snap), ∃ (x58 : (List (Int × Int × Int)) × (List ((Int × Int × Int) × Int)) × (List (Int × Int))), ∃ (A59 : Option Addr), ∃ (c60 : Nat), ∃ (cs61 : List Value), ∃ (g63 : Nat), ∃ (es64 : Array MapEntry), ∃ (cl65 : Nat), ∃ (g67 : Nat), ∃ (es68 : Array MapEntry), ∃ (cl69 : Nat), x58 = o35 ∧ Snap.le S19 S55 ∧ Up (ownL ([] ++ [.sn S0])) w0 S0 S55 ∧ reps (tyP tyI (tyP tyI tyI)) S55 cs61 x58.1 ∧ mpS keyT tyI false S55 es64 cl65 x58.2.1 ∧ mpS keyI tyI false S55 es68 cl69 x58.2.2 ∧ St 112 w0 (ownL ([] ++ [.sn S0])) [(0, .slice Aa0 a0.length ca0), (3, .pointer (some ⟨g3, 0, none⟩)), (5, .pointer (some ⟨g22, 0, none⟩))] [.box g3 23 csa1, .box g22 106 ([.slice A59 x58.1.length c60, .map (some g63), .map (some g67)]), .row (.slice A59 x58.1.length c60) 29 3 x58.1.length cs61, .obj g63 (.map es64 cl65), .obj g67 (.map es68 cl69), .sn S55] a w) ?_ ?_
        · refine wp_block ?_
          have h := h.pick [6, 0, 1, 2, 3, 4] (by decide) rfl
          refine c_loop (fun m72 a w => ∃ (S37 : Snap), ∃ (x40 : Int), ∃ (x42 : (List (Int × Int × Int)) × (List ((Int × Int × Int) × Int)) × (List (Int × Int))), ∃ (A43 : Option Addr), ∃ (c44 : Nat), ∃ (cs45 : List Value), ∃ (g47 : Nat), ∃ (es48 : Array MapEntry), ∃ (cl49 : Nat), ∃ (g51 : Nat), ∃ (es52 : Array MapEntry), ∃ (cl53 : Nat), chatelainelaw39_TwinSame_l0 Fu a0 m72 x40 x42 = some o35 ∧ Snap.le S19 S37 ∧ Up (ownL ([] ++ [.sn S0])) w0 S0 S37 ∧ r64 x40 ∧ reps (tyP tyI (tyP tyI tyI)) S37 cs45 x42.1 ∧ mpS keyT tyI false S37 es48 cl49 x42.2.1 ∧ mpS keyI tyI false S37 es52 cl53 x42.2.2 ∧ St 112 w0 (ownL ([] ++ [.sn S0])) [(0, .slice Aa0 a0.length ca0), (3, .pointer (some ⟨g3, 0, none⟩)), (5, .pointer (some ⟨g22, 0, none⟩)), (25, .slice Aa0 a0.length ca0), (26, .int .i64 (a0.length : Int)), (27, .int .i64 x40)] [.box g3 23 csa1, .box g22 106 ([.slice A43 x42.1.length c44, .map (some g47), .map (some g51)]), .row (.slice A43 x42.1.length c44) 29 3 x42.1.length cs45, .obj g47 (.map es48 cl49), .obj g51 (.map es52 cl53), .sn S37] a w) Fu ⟨S19, 0, (x16.1, x16.2.1, x16.2.2), A23, c24, cs25, g27, es28, cl29, g31, es32, cl33, hl36, (Snap.le.refl _), up20, (show r64 0 from ⟨by decide, by decide⟩), hq26, hm30, hm34, h.has (by exact ⟨rfl, rfl, rfl, rfl, rfl, rfl, trivial⟩)⟩ (fun m72 a w hI => ?_)
          obtain ⟨S37, x40, x42, A43, c44, cs45, g47, es48, cl49, g51, es52, cl53, hl71, le38, up39, hr41, hq46, hm50, hm54, h⟩ := hI
          obtain _ | m72 := m72
          · rw [chatelainelaw39_TwinSame_l0] at hl71; cases hl71
          rw [chatelainelaw39_TwinSame_l0] at hl71
          refine c_rs ?_ -- region 9
          refine s_x h rfl rfl (by decide) (x_bin h.k rfl rfl rfl ib_lss) (fun a h => ?_)
          refine l_end ?_
          refine c_cs h rfl (fun hb => ?_) (fun hb => ?_)
          · rw [if_pos (of_decide_eq_true hb)] at hl71
            refine wp_skip ?_
            refine e_thenN ?_
            refine wp_seq ?_
            refine wp_block ?_
            refine c_rs ?_ -- region 10
            obtain ⟨x73, h77, hl71⟩ := bsome hl71
            obtain ⟨m74, hi78, hm79, hx80⟩ := idx_some h77
            obtain ⟨b75, off76, k81, hA82, hu83, hc84⟩ := ((hsa0.mono (le21.trans le38))).at (by decide) hx80 (h.m.snOK (i := 5) rfl)
            obtain ⟨k85, k86, rfl, ⟨rfl, hr87⟩, ⟨k88, k89, rfl, ⟨rfl, hr90⟩, ⟨rfl, hr91⟩⟩⟩ := hu83
            refine s_x h rfl rfl (by decide) (x_iaddrE h.k rfl Try.underlying22 sz_api_Term hA82 rfl rfl hi78 hm79) (fun a h => ?_)
            refine s_x h rfl rfl (by decide) (x_ldR h.k rfl ag_api_Term rfl ([.int .i64 x73.1, .int .i64 x73.2.1, .int .i64 x73.2.2]) rfl (hc84 _ (h.m.snOK (i := 5) rfl))) (fun a h => ?_)
            refine s_alloc h rfl rfl rfl (by decide) zi_api_Term rfl (fun a w g92 h => ?_)
            refine s_stW h rfl rfl rfl ag_api_Term rfl (es := [.int .i64 x73.1, .int .i64 x73.2.1, .int .i64 x73.2.2]) rfl rfl (by simp [Value.oneCell']) 0 rfl rfl (fun a w h => ?_)
            refine l_end ?_
            refine c_r ?_ -- region 11
            refine s_move h rfl _ rfl rfl (by decide) rfl (fun a h => ?_)
            refine s_x h rfl rfl (by decide) (x_ldR h.k rfl ag_api_Term rfl ([.int .i64 x73.1, .int .i64 x73.2.1, .int .i64 x73.2.2]) rfl (h.m.range0 (i := 0) rfl)) (fun a h => ?_)
            obtain ⟨x93, h94, hl71⟩ := bsome hl71
            have h := h.pick [2, 3, 4, 5, 6, 0, 1] (by decide) rfl
            have hX := term_Store_Put_ok Fu (S0 := S37) (x42.1, x42.2.1, x42.2.2) g22 A43 c44 cs45 g47 es48 cl49 g51 es52 cl53 hq46 hm50 hm54 ([.int .i64 x73.1, .int .i64 x73.2.1, .int .i64 x73.2.2]) x73 (⟨[.int .i64 x73.1], [.int .i64 x73.2.1, .int .i64 x73.2.2], rfl, ⟨rfl, hr87⟩, ⟨[.int .i64 x73.2.1], [.int .i64 x73.2.2], rfl, ⟨rfl, hr90⟩, ⟨rfl, hr91⟩⟩⟩) _ h94 _ (h.sub (Ls := [.box g22 106 ([.slice A43 x42.1.length c44, .map (some g47), .map (some g51)]), .row (.slice A43 x42.1.length c44) 29 3 x42.1.length cs45, .obj g47 (.map es48 cl49), .obj g51 (.map es52 cl53)]))
            refine q_callY (Ls := [.box g22 106 ([.slice A43 x42.1.length c44, .map (some g47), .map (some g51)]), .row (.slice A43 x42.1.length c44) 29 3 x42.1.length cs45, .obj g47 (.map es48 cl49), .obj g51 (.map es52 cl53)]) hX h up39 rfl rfl rfl (by decide) Try.func17 rfl rfl rfl (fun a w v L1 S96 hR le98 up97 h => ?_)
            obtain ⟨A101, c102, cs103, g105, es106, cl107, g109, es110, cl111, rfl, rfl, hr99, hr100, hq104, hm108, hm112, _⟩ := hR
            refine l_nil ?_
            refine e_blkN ?_
            refine e_thenN ?_
            refine c_r ?_ -- region 12
            refine s_x h rfl rfl (by decide) (x_bin h.k rfl rfl rfl (ib_add rfl)) (fun a h => ?_)
            refine s_move h rfl _ rfl rfl (by decide) rfl (fun a h => ?_)
            refine l_nil ?_
            have h := h.pick [6, 0, 1, 2, 3, 4] (by decide) rfl
            exact e_thenN ⟨m72, Nat.lt_succ_self _, S96, w64 (x40 + 1), (x93.2.2.1, x93.2.2.2.1, x93.2.2.2.2), A101, c102, cs103, g105, es106, cl107, g109, es110, cl111, hl71, (le38.trans le98), up97, (w64_r _), hq104, hm108, hm112, h.has (by exact ⟨rfl, rfl, rfl, rfl, rfl, rfl, trivial⟩)⟩
          · rw [if_neg (of_decide_eq_false hb)] at hl71
            refine wp_exit ?_
            refine e_thenX ?_
            refine e_thenX ?_
            refine e_blkX ?_
            refine e_thenN ?_
            exact ⟨S37, (x42.1, x42.2.1, x42.2.2), A43, c44, cs45, g47, es48, cl49, g51, es52, cl53, (Option.some.inj hl71), le38, up39, hq46, hm50, hm54, h.has (by exact ⟨rfl, rfl, rfl, trivial⟩)⟩
        · rintro a w ⟨S55, x58, A59, c60, cs61, g63, es64, cl65, g67, es68, cl69, rfl, le56, up57, hq62, hm66, hm70, h⟩
          refine e_thenN ?_
          refine wp_seq ?_
          refine c_rs ?_ -- region 13
          refine s_move h rfl _ rfl rfl (by decide) rfl (fun a h => ?_)
          obtain ⟨x113, h114, hf⟩ := bsome hf
          have hX := twin_All_ok Fu (S0 := snapAll _) g22 (x58.1, x58.2.1, x58.2.2) ⟨[.slice A59 x58.1.length c60, .map (some g63), .map (some g67)], h.m.boxAll (i := 1) rfl, ⟨[.slice A59 x58.1.length c60], [.map (some g63), .map (some g67)], rfl, ⟨_, _, rfl, h.m.rowAll (i := 2) rfl (j := 5) rfl hq62⟩, ⟨[.map (some g63)], [.map (some g67)], rfl, ⟨_, rfl, h.m.mapAll (i := 3) rfl (j := 5) rfl hm66⟩, ⟨_, rfl, h.m.mapAll (i := 4) rfl (j := 5) rfl hm70⟩⟩⟩⟩ _ h114 _ h.startAll
          refine q_callX hX h rfl rfl rfl (by decide) Try.func15 rfl rfl rfl (fun a w v L1 S1 hR hb1 h => ?_)
          obtain ⟨A116, c117, cs118, rfl, rfl, hq119, _⟩ := hR
          have hq120 := hq119.fl (S' := S55) (fl_P fl_I (fl_P fl_I fl_I))
          refine s_assign h rfl _ rfl rfl (by decide) rfl (fun a h => ?_)
          refine l_end ?_
          refine c_rs ?_ -- region 14
          refine s_move h rfl _ rfl rfl (by decide) rfl (fun a h => ?_)
          obtain ⟨x121, h122, hf⟩ := bsome hf
          have hX := twin_Right_ok Fu (S0 := snapAll _) A116 c117 x113 (h.m.rowAll (i := 0) rfl (j := 6) rfl hq120) _ h122 _ h.startAll
          refine q_callX hX h rfl rfl rfl (by decide) Try.func18 rfl rfl rfl (fun a w v L1 S1 hR hb1 h => ?_)
          obtain ⟨rfl, rfl, _⟩ := hR
          refine s_x h rfl rfl (by decide) (x_not h.k rfl rfl) (fun a h => ?_)
          refine s_move h rfl _ rfl rfl (by decide) rfl (fun a h => ?_)
          obtain ⟨z125, hz124, hf⟩ := bsome hf
          refine q_grp h 6 (t := 40) 46 z125 rfl (fun hB3 => ?_) (fun hB3 => ?_) (fun a w h => ?_)
          · refine g_no h rfl rfl rfl rfl hB3 rfl (by decide) (fun a h => ?_)
            refine g_no h rfl rfl rfl rfl hB3 rfl (by decide) (fun a h => ?_)
            refine g_no h rfl rfl rfl rfl hB3 rfl (by decide) (fun a h => ?_)
            refine g_no h rfl rfl rfl rfl hB3 rfl (by decide) (fun a h => ?_)
            refine g_no h rfl rfl rfl rfl hB3 rfl (by decide) (fun a h => ?_)
            rw [if_pos hB3] at hz124
            refine s_x h rfl rfl (by decide) (x_pick (u' := undef) h.k rfl rfl (fun _ => rfl) (fun hh => absurd (hB3.symm.trans hh) (by decide))) (fun a h => ?_)
            exact (h.mid 5 rfl).val (by rw [Option.some.inj hz124])
          · rw [if_neg (by rw [hB3]; decide)] at hz124
            refine g_yes h rfl rfl rfl rfl hB3 ?_
            refine s_move h rfl _ rfl rfl (by decide) rfl (fun a h => ?_)
            refine g_yes h rfl rfl rfl rfl hB3 ?_
            have hr127 : r64 (x113.length : Int) := len_r (h.m.rowLen (i := 0) rfl)
            refine s_x h rfl rfl (by decide) (x_len h.k rfl Try.underlying22 rfl) (fun a h => ?_)
            refine g_yes h rfl rfl rfl rfl hB3 ?_
            refine s_move h rfl _ rfl rfl (by decide) rfl (fun a h => ?_)
            refine g_yes h rfl rfl rfl rfl hB3 ?_
            obtain ⟨x128, h129, hz124⟩ := bsome hz124
            have hX := term_Store_Len_ok Fu (S0 := snapAll _) g22 (x58.1, x58.2.1, x58.2.2) ⟨[.slice A59 x58.1.length c60, .map (some g63), .map (some g67)], h.m.boxAll (i := 2) rfl, ⟨[.slice A59 x58.1.length c60], [.map (some g63), .map (some g67)], rfl, ⟨_, _, rfl, h.m.rowAll (i := 3) rfl (j := 6) rfl hq62⟩, ⟨[.map (some g63)], [.map (some g67)], rfl, ⟨_, rfl, h.m.mapAll (i := 4) rfl (j := 6) rfl hm66⟩, ⟨_, rfl, h.m.mapAll (i := 5) rfl (j := 6) rfl hm70⟩⟩⟩⟩ _ h129 _ h.startAll
            refine q_callX hX h rfl rfl rfl (by decide) Try.func19 rfl rfl rfl (fun a w v L1 S1 hR hb1 h => ?_)
            obtain ⟨rfl, rfl, hr131, _⟩ := hR
            refine g_yes h rfl rfl rfl rfl hB3 ?_
            refine s_x h rfl rfl (by decide) (x_bin h.k rfl rfl rfl ib_neq) (fun a h => ?_)
            refine s_x h rfl rfl (by decide) (x_pick (u' := undef) h.k rfl rfl (fun hh => absurd (hB3.symm.trans hh) (by decide)) (fun _ => rfl)) (fun a h => ?_)
            exact (h.mid 5 rfl).val (by rw [Option.some.inj hz124])
          refine l_end ?_
          refine c_cond h rfl (fun hb => ?_) (fun hb => ?_)
          · rw [if_pos hb] at hf
            refine c_rs ?_ -- region 15
            refine s_assign h rfl _ rfl rfl (by decide) rfl (fun a h => ?_)
            refine l_end ?_
            refine wp_ret ?_
            refine e_thenR ?_
            obtain rfl := Option.some.inj hf
            exact r_ret1 h rfl (rv_tmp h rfl) ⟨_, [], _, rfl, ⟨rfl, rfl, trivial⟩, rfl, up57, (h.m.pick [6] _ (by decide) rfl)⟩
          · rw [if_neg (by rw [hb]; decide)] at hf
            refine wp_skip ?_
            refine e_thenN ?_
            refine c_rs ?_ -- region 16
            refine s_move h rfl _ rfl rfl (by decide) rfl (fun a h => ?_)
            obtain ⟨x132, h133, hf⟩ := bsome hf
            have hX := twin_Rename_ok Fu (S0 := snapAll _) Aa0 ca0 a0 ((hsa0.mono (le21.trans le56)).mono (h.m.leAll (i := 6) rfl)) _ h133 _ h.startAll
            refine q_callX hX h rfl rfl rfl (by decide) Try.func20 rfl rfl rfl (fun a w v L1 S1 hR hb1 h => ?_)
            obtain ⟨A135, c136, cs137, rfl, rfl, hq138, hr139, _⟩ := hR
            have hq140 := hq138.fl (S' := S55) (fl_P fl_I (fl_P fl_I fl_I))
            refine s_move h rfl _ rfl rfl (by decide) rfl (fun a h => ?_)
            refine s_x h rfl rfl (by decide) (x_ext h.k rfl rfl rfl) (fun a h => ?_)
            refine s_x h rfl rfl (by decide) (x_ext h.k rfl rfl rfl) (fun a h => ?_)
            refine s_assign h rfl _ rfl rfl (by decide) rfl (fun a h => ?_)
            refine s_assign h rfl _ rfl rfl (by decide) rfl (fun a h => ?_)
            refine l_end ?_
            refine wp_seq ?_
            refine c_rs ?_ -- region 17
            refine s_move h rfl _ rfl rfl (by decide) rfl (fun a h => ?_)
            refine s_x h rfl rfl (by decide) (x_bin h.k rfl rfl rfl ib_neq) (fun a h => ?_)
            refine l_end ?_
            refine c_cond h rfl (fun hb => ?_) (fun hb => ?_)
            · rw [if_pos (of_decide_eq_true hb)] at hf
              refine c_rs ?_ -- region 18
              refine s_move h rfl _ rfl rfl (by decide) rfl (fun a h => ?_)
              have hr141 : r64 (x132.1.length : Int) := len_r (h.m.rowLen (i := 0) rfl)
              refine s_x h rfl rfl (by decide) (x_len h.k rfl Try.underlying22 rfl) (fun a h => ?_)
              refine s_x h rfl rfl (by decide) (x_bin h.k rfl rfl rfl ib_eql) (fun a h => ?_)
              refine s_assign h rfl _ rfl rfl (by decide) rfl (fun a h => ?_)
              refine l_end ?_
              refine wp_ret ?_
              refine e_thenR ?_
              obtain rfl := Option.some.inj hf
              exact r_ret1 h rfl (rv_tmp h rfl) ⟨_, [], _, rfl, ⟨rfl, rfl, trivial⟩, rfl, up57, (h.m.pick [7] _ (by decide) rfl)⟩
            · rw [if_neg (of_decide_eq_false hb)] at hf
              refine wp_skip ?_
              refine e_thenN ?_
              refine c_rs ?_ -- region 19
              refine s_move h rfl _ rfl rfl (by decide) rfl (fun a h => ?_)
              obtain ⟨x142, h143, hf⟩ := bsome hf
              have hX := twin_Rename_ok Fu (S0 := snapAll _) A135 c136 x132.1 (h.m.rowAll (i := 0) rfl (j := 7) rfl hq140) _ h143 _ h.startAll
              refine q_callX hX h rfl rfl rfl (by decide) Try.func20 rfl rfl rfl (fun a w v L1 S1 hR hb1 h => ?_)
              obtain ⟨A145, c146, cs147, rfl, rfl, hq148, hr149, _⟩ := hR
              have hq150 := hq148.fl (S' := S55) (fl_P fl_I (fl_P fl_I fl_I))
              refine s_move h rfl _ rfl rfl (by decide) rfl (fun a h => ?_)
              refine s_x h rfl rfl (by decide) (x_ext h.k rfl rfl rfl) (fun a h => ?_)
              refine s_x h rfl rfl (by decide) (x_ext h.k rfl rfl rfl) (fun a h => ?_)
              refine s_assign h rfl _ rfl rfl (by decide) rfl (fun a h => ?_)
              refine s_assign h rfl _ rfl rfl (by decide) rfl (fun a h => ?_)
              refine l_end ?_
              refine c_rs ?_ -- region 20
              refine s_assign h rfl _ rfl rfl (by decide) rfl (fun a h => ?_)
              refine l_end ?_
              refine wp_seq ?_
              refine c_rs ?_ -- region 21
              refine s_move h rfl _ rfl rfl (by decide) rfl (fun a h => ?_)
              refine s_x h rfl rfl (by decide) (x_len h.k rfl Try.underlying22 rfl) (fun a h => ?_)
              refine s_move h rfl _ rfl rfl (by decide) rfl (fun a h => ?_)
              refine l_end ?_
              obtain ⟨o151, hl152, hf⟩ := bsome hf
              refine c_fin (fun a w => ∃ (x167 : List (Int × Int × Int)), ∃ (A168 : Option Addr), ∃ (c169 : Nat), ∃ (cs170 : List Value), (.inr x167) = o151 ∧ reps (tyP tyI (tyP tyI tyI)) S55 cs170 x167 ∧ St 112 w0 (ownL ([] ++ [.sn S0])) [(0, .slice Aa0 a0.length ca0), (9, .slice A135 x132.1.length c136), (11, .slice A145 x142.1.length c146), (12, .int .i64 x142.2), (13, .slice A168 x167.length c169)] [.row (.slice A135 x132.1.length c136) 29 3 x132.1.length cs137, .row (.slice A145 x142.1.length c146) 29 3 x142.1.length cs147, .row (.slice A168 x167.length c169) 29 3 x167.length cs170, .sn S55] a w) ?_ ?_
              · refine wp_block ?_
                have h := h.mem (h.m.nilrow 29 3)
                have h := h.pick [4, 2, 1, 0, 9] (by decide) rfl
                refine c_loop (fun m173 a w => ∃ (x160 : List (Int × Int × Int)), ∃ (A161 : Option Addr), ∃ (c162 : Nat), ∃ (cs163 : List Value), ∃ (x165 : Int), chatelainelaw39_TwinSame_l1 Fu a0 a1 m173 x160 x165 = some o151 ∧ reps (tyP tyI (tyP tyI tyI)) S55 cs163 x160 ∧ r64 x165 ∧ St 112 w0 (ownL ([] ++ [.sn S0])) [(0, .slice Aa0 a0.length ca0), (3, .pointer (some ⟨g3, 0, none⟩)), (9, .slice A135 x132.1.length c136), (11, .slice A145 x142.1.length c146), (12, .int .i64 x142.2), (13, .slice A161 x160.length c162), (62, .slice Aa0 a0.length ca0), (63, .int .i64 (a0.length : Int)), (64, .int .i64 x165)] [.box g3 23 csa1, .row (.slice A135 x132.1.length c136) 29 3 x132.1.length cs137, .row (.slice A145 x142.1.length c146) 29 3 x142.1.length cs147, .row (.slice A161 x160.length c162) 29 3 x160.length cs163, .sn S55] a w) Fu ⟨[], none, 0, [], 0, hl152, (show reps (tyP tyI (tyP tyI tyI)) S55 [] [] from rfl), (show r64 0 from ⟨by decide, by decide⟩), h.has (by exact ⟨rfl, rfl, rfl, rfl, rfl, rfl, rfl, rfl, rfl, trivial⟩)⟩ (fun m173 a w hI => ?_)
                obtain ⟨x160, A161, c162, cs163, x165, hl172, hq164, hr166, h⟩ := hI
                obtain _ | m173 := m173
                · rw [chatelainelaw39_TwinSame_l1] at hl172; cases hl172
                rw [chatelainelaw39_TwinSame_l1] at hl172
                refine c_rs ?_ -- region 22
                refine s_x h rfl rfl (by decide) (x_bin h.k rfl rfl rfl ib_lss) (fun a h => ?_)
                refine l_end ?_
                refine c_cs h rfl (fun hb => ?_) (fun hb => ?_)
                · rw [if_pos (of_decide_eq_true hb)] at hl172
                  refine wp_skip ?_
                  refine e_thenN ?_
                  refine wp_seq ?_
                  refine wp_block ?_
                  refine c_rs ?_ -- region 23
                  obtain ⟨x175, h179, hl172⟩ := bsome hl172
                  obtain ⟨m176, hi180, hm181, hx182⟩ := idx_some h179
                  obtain ⟨b177, off178, k183, hA184, hu185, hc186⟩ := ((hsa0.mono (le21.trans le56))).at (by decide) hx182 (h.m.snOK (i := 4) rfl)
                  obtain ⟨k187, k188, rfl, ⟨rfl, hr189⟩, ⟨k190, k191, rfl, ⟨rfl, hr192⟩, ⟨rfl, hr193⟩⟩⟩ := hu185
                  refine s_x h rfl rfl (by decide) (x_iaddrE h.k rfl Try.underlying22 sz_api_Term hA184 rfl rfl hi180 hm181) (fun a h => ?_)
                  refine s_x h rfl rfl (by decide) (x_ldR h.k rfl ag_api_Term rfl ([.int .i64 x175.1, .int .i64 x175.2.1, .int .i64 x175.2.2]) rfl (hc186 _ (h.m.snOK (i := 4) rfl))) (fun a h => ?_)
                  refine s_alloc h rfl rfl rfl (by decide) zi_api_Term rfl (fun a w g194 h => ?_)
                  refine s_stW h rfl rfl rfl ag_api_Term rfl (es := [.int .i64 x175.1, .int .i64 x175.2.1, .int .i64 x175.2.2]) rfl rfl (by simp [Value.oneCell']) 0 rfl rfl (fun a w h => ?_)
                  refine l_end ?_
                  obtain ⟨o195, hc196, hl172⟩ := bsome hl172
                  refine c_cut (fun a w => ∃ (x197 : Int), ∃ (x199 : Int), ∃ (x201 : Int), (.inr (x197, x199, x201)) = o195 ∧ r64 x197 ∧ r64 x199 ∧ r64 x201 ∧ St 112 w0 (ownL ([] ++ [.sn S0])) [(0, .slice Aa0 a0.length ca0), (3, .pointer (some ⟨g3, 0, none⟩)), (9, .slice A135 x132.1.length c136), (11, .slice A145 x142.1.length c146), (12, .int .i64 x142.2), (13, .slice A161 x160.length c162), (15, .pointer (some ⟨g194, 0, none⟩)), (62, .slice Aa0 a0.length ca0), (63, .int .i64 (a0.length : Int)), (64, .int .i64 x165)] [.box g3 23 csa1, .row (.slice A135 x132.1.length c136) 29 3 x132.1.length cs137, .row (.slice A145 x142.1.length c146) 29 3 x142.1.length cs147, .row (.slice A161 x160.length c162) 29 3 x160.length cs163, .box g194 29 ([.int .i64 x197, .int .i64 x199, .int .i64 x201]), .sn S55] a w) ?_ ?_
                  · refine c_rs ?_ -- region 24
                    refine s_x h rfl rfl (by decide) (x_faddr h.k rfl Try.underlying29 rfl sz_int rfl) (fun a h => ?_)
                    refine s_x h rfl rfl (by decide) (x_ld h.k rfl Try.underlying3 rfl rfl ((h.m.cell (i := 0) rfl 0).trans rfl)) (fun a h => ?_)
                    refine s_x h rfl rfl (by decide) (x_bin h.k rfl rfl rfl ib_eql) (fun a h => ?_)
                    refine l_end ?_
                    refine c_cond h rfl (fun hb => ?_) (fun hb => ?_)
                    · rw [if_pos (of_decide_eq_true hb)] at hc196
                      refine wp_seq ?_
                      refine c_rs ?_ -- region 25
                      refine s_x h rfl rfl (by decide) (x_faddr h.k rfl Try.underlying29 rfl sz_int rfl) (fun a h => ?_)
                      refine s_x h rfl rfl (by decide) (x_ld h.k rfl Try.underlying3 rfl rfl ((h.m.cell (i := 0) rfl 2).trans rfl)) (fun a h => ?_)
                      refine s_x h rfl rfl (by decide) (x_bin h.k rfl rfl rfl ib_gtr) (fun a h => ?_)
                      refine l_end ?_
                      refine c_cond h rfl (fun hb => ?_) (fun hb => ?_)
                      · rw [if_pos (of_decide_eq_true hb)] at hc196
                        refine c_rs ?_ -- region 26
                        refine s_assign h rfl _ rfl rfl (by decide) rfl (fun a h => ?_)
                        refine l_end ?_
                        refine wp_ret ?_
                        refine e_thenR ?_
                        refine e_thenR ?_
                        cases hc196
                        try dsimp only at hl172
                        refine e_blkR ?_
                        refine e_thenR ?_
                        refine e_thenR ?_
                        refine e_blkR ?_
                        refine e_thenR ?_
                        cases hl172
                        try dsimp only at hf
                        refine e_thenR ?_
                        obtain rfl := Option.some.inj hf
                        exact r_ret1 h rfl (rv_tmp h rfl) ⟨_, [], _, rfl, ⟨rfl, rfl, trivial⟩, rfl, up57, (h.m.pick [5] _ (by decide) rfl)⟩
                      · rw [if_neg (of_decide_eq_false hb)] at hc196
                        refine wp_skip ?_
                        refine e_thenN ?_
                        -- region 27 draws
                        obtain ⟨m203, h204, hc196⟩ := bsome hc196
                        obtain ⟨x207, h208, hc196⟩ := bsome hc196
                        refine d_start h (Mem _ _ _) 11 12 rfl (by kernel_rfl) (fun _ _ _ _ _ h => h) (fun _ h => h) (fun Q a w HE HN h HS => ?_)
                        refine d_takeP h (fun _ => HS) HN 0 rfl (by kernel_rfl) (by kernel_rfl) (by kernel_rfl) (by decide) rfl rfl (by decide) (fun w' => x_faddr h.k rfl Try.underlying29 rfl sz_int rfl) (fun a h => ?_)
                        refine d_take h HS HN 1 rfl (by kernel_rfl) (by kernel_rfl) (by kernel_rfl) (by kernel_rfl) (by kernel_rfl) rfl rfl (by decide) (fun w' hw => x_ld h.k rfl Try.underlying3 rfl rfl ((hw.cell (i := 0) rfl 2).trans rfl)) (fun a h => ?_)
                        refine d_takeP h (fun _ => HS) HN 2 rfl (by kernel_rfl) (by kernel_rfl) (by kernel_rfl) (by decide) rfl rfl (by decide) (fun w' => x_bin h.k rfl rfl rfl (ib_mul rfl)) (fun a h => ?_)
                        refine d_takeP h (fun _ => HS) HN 3 rfl (by kernel_rfl) (by kernel_rfl) (by kernel_rfl) (by decide) rfl rfl (by decide) (fun w' => x_faddr h.k rfl Try.underlying29 rfl sz_int rfl) (fun a h => ?_)
                        refine d_take h HS HN 4 rfl (by kernel_rfl) (by kernel_rfl) (by kernel_rfl) (by kernel_rfl) (by kernel_rfl) rfl rfl (by decide) (fun w' hw => x_ld h.k rfl Try.underlying3 rfl rfl ((hw.cell (i := 0) rfl 1).trans rfl)) (fun a h => ?_)
                        refine d_takeP h (fun _ => HS) HN 5 rfl (by kernel_rfl) (by kernel_rfl) (by kernel_rfl) (by decide) rfl rfl (by decide) (fun w' => x_bin h.k rfl rfl rfl (ib_sub rfl)) (fun a h => ?_)
                        obtain ⟨hi205, hm206⟩ := ix_some h204
                        refine d_takeP h (fun _ => HS) HN 6 rfl (by kernel_rfl) (by kernel_rfl) (by kernel_rfl) (by decide) rfl rfl (by decide) (fun w' => x_iaddrA h.k rfl Try.underlying23 sz_uint8 rfl rfl hi205 hm206 rfl) (fun a h => ?_)
                        obtain ⟨u209, hv210, hu211⟩ := ((hs1.mono (le21.trans le56))).cell rfl h208
                        cases hu211
                        refine d_take h HS HN 7 rfl (by kernel_rfl) (by kernel_rfl) (by kernel_rfl) (by kernel_rfl) (by kernel_rfl) rfl rfl (by decide) (fun w' hw => x_ld h.k rfl Try.underlying5 rfl rfl ((hw.cell (i := 1) rfl _).trans (by rw [Nat.zero_add, Nat.mul_one]; exact hv210))) (fun a h => ?_)
                        refine d_takeP h (fun _ => HS) HN 8 rfl (by kernel_rfl) (by kernel_rfl) (by kernel_rfl) (by decide) rfl rfl (by decide) (fun w' => x_convE h.k rfl Try.underlying5 Try.underlying3 rfl (nw64 (u8_r _))) (fun a h => ?_)
                        refine d_takeP h (fun _ => HS) HN 9 rfl (by kernel_rfl) (by kernel_rfl) (by kernel_rfl) (by decide) rfl rfl (by decide) (fun w' => x_bin h.k rfl rfl rfl (ib_add rfl)) (fun a h => ?_)
                        refine d_takeP h (fun _ => HS) HN 10 rfl (by kernel_rfl) (by kernel_rfl) (by kernel_rfl) (by decide) rfl rfl (by decide) (fun w' => x_faddr h.k rfl Try.underlying29 rfl sz_int rfl) (fun a h => ?_)
                        refine d_alone 11 rfl (by kernel_rfl) (fun K hK => ?_)
                        refine s_stb h rfl rfl rfl sz_int rfl rfl rfl 0 rfl (by first | decide | simp) (fun a w h => ?_)
                        refine hK _ _ (fun hne _ => absurd rfl hne) ?_
                        clear hK
                        refine d_done (by kernel_rfl) (HE _ _ ?_) _
                        refine e_thenN ?_
                        have h := h.pick [1, 2, 3, 4, 0, 5] (by decide) rfl
                        exact ⟨x175.1, x175.2.1, w64 ((w64 (3 * x175.2.2)) + (x207.toNat : Int)), (Option.some.inj hc196), hr189, hr192, (w64_r _), h.has (by exact ⟨rfl, rfl, rfl, rfl, rfl, rfl, rfl, rfl, rfl, rfl, trivial⟩)⟩
                    · rw [if_neg (of_decide_eq_false hb)] at hc196
                      refine wp_skip ?_
                      refine e_thenN ?_
                      have h := h.pick [1, 2, 3, 4, 0, 5] (by decide) rfl
                      exact ⟨x175.1, x175.2.1, x175.2.2, (Option.some.inj hc196), hr189, hr192, hr193, h.has (by exact ⟨rfl, rfl, rfl, rfl, rfl, rfl, rfl, rfl, rfl, rfl, trivial⟩)⟩
                  · rintro a w ⟨x197, x199, x201, rfl, hr198, hr200, hr202, h⟩
                    try dsimp only at hl172
                    refine c_r ?_ -- region 28
                    refine s_move h rfl _ rfl rfl (by decide) rfl (fun a h => ?_)
                    refine s_x h rfl rfl (by decide) (x_ldR h.k rfl ag_api_Term rfl ([.int .i64 x197, .int .i64 x199, .int .i64 x201]) rfl (h.m.range0 (i := 4) rfl)) (fun a h => ?_)
                    refine q_bslice (T := tyP tyI (tyP tyI tyI)) (S := S55) h rfl rfl rfl (by decide) Try.underlying22 zi_api_Term (by decide) (by decide) (by decide) (by decide) [.agg ([.int .i64 x197, .int .i64 x199, .int .i64 x201]).toArray] rfl rfl (C := [[.int .i64 x197, .int .i64 x199, .int .i64 x201]]) rfl (xs := [(x197, x199, x201)]) ⟨[.int .i64 x197, .int .i64 x199, .int .i64 x201], _, rfl, ⟨[.int .i64 x197], [.int .i64 x199, .int .i64 x201], rfl, ⟨rfl, hr198⟩, ⟨[.int .i64 x199], [.int .i64 x201], rfl, ⟨rfl, hr200⟩, ⟨rfl, hr202⟩⟩⟩, rfl⟩ (by intro c hc; simp only [List.mem_cons, List.not_mem_nil, or_false] at hc; subst hc; rfl) (fun a w A212 h => ?_)
                    have hb213 : reps (tyP tyI (tyP tyI tyI)) S55 ([[.int .i64 x197, .int .i64 x199, .int .i64 x201]]).flatten [(x197, x199, x201)] := ⟨[.int .i64 x197, .int .i64 x199, .int .i64 x201], _, rfl, ⟨[.int .i64 x197], [.int .i64 x199, .int .i64 x201], rfl, ⟨rfl, hr198⟩, ⟨[.int .i64 x199], [.int .i64 x201], rfl, ⟨rfl, hr200⟩, ⟨rfl, hr202⟩⟩⟩, rfl⟩
                    obtain ⟨x214, h215, hl172⟩ := bsome hl172
                    refine q_append (T := tyP tyI (tyP tyI tyI)) (S := S55) h rfl rfl rfl (by decide) Try.underlying22 zb_api_Term rfl (by decide) rfl 4 rfl hq164 rfl hb213 (h.m.rdRowA (i := 0) rfl) h215 (fun a w A216 c217 cs218 hq219 h => ?_)
                    refine s_assign h rfl _ rfl rfl (by decide) rfl (fun a h => ?_)
                    refine l_nil ?_
                    refine e_blkN ?_
                    refine e_thenN ?_
                    refine c_r ?_ -- region 29
                    refine s_x h rfl rfl (by decide) (x_bin h.k rfl rfl rfl (ib_add rfl)) (fun a h => ?_)
                    refine s_move h rfl _ rfl rfl (by decide) rfl (fun a h => ?_)
                    refine l_nil ?_
                    have h := h.pick [1, 2, 3, 4, 6] (by decide) rfl
                    exact e_thenN ⟨m173, Nat.lt_succ_self _, x214, A216, c217, cs218, w64 (x165 + 1), hl172, hq219, (w64_r _), h.has (by exact ⟨rfl, rfl, rfl, rfl, rfl, rfl, rfl, rfl, rfl, trivial⟩)⟩
                · rw [if_neg (of_decide_eq_false hb)] at hl172
                  refine wp_exit ?_
                  refine e_thenX ?_
                  refine e_thenX ?_
                  refine e_blkX ?_
                  refine e_thenN ?_
                  have h := h.pick [1, 2, 3, 4] (by decide) rfl
                  exact ⟨x160, A161, c162, cs163, (Option.some.inj hl172), hq164, h.has (by exact ⟨rfl, rfl, rfl, rfl, rfl, trivial⟩)⟩
              · rintro a w ⟨x167, A168, c169, cs170, rfl, hq171, h⟩
                try dsimp only at hf
                refine e_thenN ?_
                refine c_rs ?_ -- region 30
                refine s_move h rfl _ rfl rfl (by decide) rfl (fun a h => ?_)
                refine s_x h rfl rfl (by decide) (x_bin h.k rfl rfl rfl ib_eql) (fun a h => ?_)
                refine s_move h rfl _ rfl rfl (by decide) rfl (fun a h => ?_)
                obtain ⟨z222, hz221, hf⟩ := bsome hf
                refine q_grp h 4 (t := 92) 96 z222 rfl (fun hB2 => ?_) (fun hB2 => ?_) (fun a w h => ?_)
                · rw [if_pos (of_decide_eq_true hB2)] at hz221
                  refine g_yes h rfl rfl rfl rfl hB2 ?_
                  refine s_move h rfl _ rfl rfl (by decide) rfl (fun a h => ?_)
                  refine g_yes h rfl rfl rfl rfl hB2 ?_
                  refine s_move h rfl _ rfl rfl (by decide) rfl (fun a h => ?_)
                  refine g_yes h rfl rfl rfl rfl hB2 ?_
                  obtain ⟨x224, h225, hz221⟩ := bsome hz221
                  have hX := chatelaineref39_Same_ok Fu (S0 := snapAll _) A135 c136 x132.1 (h.m.rowAll (i := 0) rfl (j := 3) rfl hq140) A145 c146 x142.1 (h.m.rowAll (i := 1) rfl (j := 3) rfl hq150) _ h225 _ h.startAll
                  refine q_callX hX h rfl rfl rfl (by decide) Try.func21 rfl rfl rfl (fun a w v L1 S1 hR hb1 h => ?_)
                  obtain ⟨rfl, rfl, _⟩ := hR
                  refine s_x h rfl rfl (by decide) (x_pick (u' := undef) h.k rfl rfl (fun _ => rfl) (fun hh => absurd (hB2.symm.trans hh) (by decide))) (fun a h => ?_)
                  exact (h.mid 3 rfl).val (by rw [Option.some.inj hz221])
                · refine g_no h rfl rfl rfl rfl hB2 rfl (by decide) (fun a h => ?_)
                  refine g_no h rfl rfl rfl rfl hB2 rfl (by decide) (fun a h => ?_)
                  refine g_no h rfl rfl rfl rfl hB2 rfl (by decide) (fun a h => ?_)
                  rw [if_neg (of_decide_eq_false hB2)] at hz221
                  refine s_x h rfl rfl (by decide) (x_pick (u' := undef) h.k rfl rfl (fun hh => absurd (hB2.symm.trans hh) (by decide)) (fun _ => rfl)) (fun a h => ?_)
                  exact (h.mid 3 rfl).val (by rw [Option.some.inj hz221])
                refine s_move h rfl _ rfl rfl (by decide) rfl (fun a h => ?_)
                obtain ⟨z228, hz227, hf⟩ := bsome hf
                refine q_grp h 4 (t := 97) 101 z228 rfl (fun hB7 => ?_) (fun hB7 => ?_) (fun a w h => ?_)
                · rw [if_pos hB7] at hz227
                  refine g_yes h rfl rfl rfl rfl hB7 ?_
                  refine s_move h rfl _ rfl rfl (by decide) rfl (fun a h => ?_)
                  refine g_yes h rfl rfl rfl rfl hB7 ?_
                  refine s_move h rfl _ rfl rfl (by decide) rfl (fun a h => ?_)
                  refine g_yes h rfl rfl rfl rfl hB7 ?_
                  obtain ⟨x230, h231, hz227⟩ := bsome hz227
                  have hX := twin_Twins_ok Fu (S0 := snapAll _) Aa0 ca0 a0 ((hsa0.mono (le21.trans le56)).mono (h.m.leAll (i := 3) rfl)) Aa0 ca0 a0 ((hsa0.mono (le21.trans le56)).mono (h.m.leAll (i := 3) rfl)) _ h231 _ h.startAll
                  refine q_callX hX h rfl rfl rfl (by decide) Try.func22 rfl rfl rfl (fun a w v L1 S1 hR hb1 h => ?_)
                  obtain ⟨rfl, rfl, _⟩ := hR
                  refine s_x h rfl rfl (by decide) (x_pick (u' := undef) h.k rfl rfl (fun _ => rfl) (fun hh => absurd (hB7.symm.trans hh) (by decide))) (fun a h => ?_)
                  exact (h.mid 3 rfl).val (by rw [Option.some.inj hz227])
                · refine g_no h rfl rfl rfl rfl hB7 rfl (by decide) (fun a h => ?_)
                  refine g_no h rfl rfl rfl rfl hB7 rfl (by decide) (fun a h => ?_)
                  refine g_no h rfl rfl rfl rfl hB7 rfl (by decide) (fun a h => ?_)
                  rw [if_neg (by rw [hB7]; decide)] at hz227
                  refine s_x h rfl rfl (by decide) (x_pick (u' := undef) h.k rfl rfl (fun hh => absurd (hB7.symm.trans hh) (by decide)) (fun _ => rfl)) (fun a h => ?_)
                  exact (h.mid 3 rfl).val (by rw [Option.some.inj hz227])
                refine s_move h rfl _ rfl rfl (by decide) rfl (fun a h => ?_)
                obtain ⟨z234, hz233, hf⟩ := bsome hf
                refine q_grp h 4 (t := 102) 106 z234 rfl (fun hB12 => ?_) (fun hB12 => ?_) (fun a w h => ?_)
                · rw [if_pos hB12] at hz233
                  refine g_yes h rfl rfl rfl rfl hB12 ?_
                  refine s_move h rfl _ rfl rfl (by decide) rfl (fun a h => ?_)
                  refine g_yes h rfl rfl rfl rfl hB12 ?_
                  refine s_move h rfl _ rfl rfl (by decide) rfl (fun a h => ?_)
                  refine g_yes h rfl rfl rfl rfl hB12 ?_
                  obtain ⟨x236, h237, hz233⟩ := bsome hz233
                  have hX := twin_Twins_ok Fu (S0 := snapAll _) Aa0 ca0 a0 ((hsa0.mono (le21.trans le56)).mono (h.m.leAll (i := 3) rfl)) A135 c136 x132.1 (h.m.rowAll (i := 0) rfl (j := 3) rfl hq140) _ h237 _ h.startAll
                  refine q_callX hX h rfl rfl rfl (by decide) Try.func22 rfl rfl rfl (fun a w v L1 S1 hR hb1 h => ?_)
                  obtain ⟨rfl, rfl, _⟩ := hR
                  refine s_x h rfl rfl (by decide) (x_pick (u' := undef) h.k rfl rfl (fun _ => rfl) (fun hh => absurd (hB12.symm.trans hh) (by decide))) (fun a h => ?_)
                  exact (h.mid 3 rfl).val (by rw [Option.some.inj hz233])
                · refine g_no h rfl rfl rfl rfl hB12 rfl (by decide) (fun a h => ?_)
                  refine g_no h rfl rfl rfl rfl hB12 rfl (by decide) (fun a h => ?_)
                  refine g_no h rfl rfl rfl rfl hB12 rfl (by decide) (fun a h => ?_)
                  rw [if_neg (by rw [hB12]; decide)] at hz233
                  refine s_x h rfl rfl (by decide) (x_pick (u' := undef) h.k rfl rfl (fun hh => absurd (hB12.symm.trans hh) (by decide)) (fun _ => rfl)) (fun a h => ?_)
                  exact (h.mid 3 rfl).val (by rw [Option.some.inj hz233])
                refine s_move h rfl _ rfl rfl (by decide) rfl (fun a h => ?_)
                obtain ⟨z240, hz239, hf⟩ := bsome hf
                refine q_grp h 4 (t := 107) 111 z240 rfl (fun hB17 => ?_) (fun hB17 => ?_) (fun a w h => ?_)
                · rw [if_pos hB17] at hz239
                  refine g_yes h rfl rfl rfl rfl hB17 ?_
                  refine s_move h rfl _ rfl rfl (by decide) rfl (fun a h => ?_)
                  refine g_yes h rfl rfl rfl rfl hB17 ?_
                  refine s_move h rfl _ rfl rfl (by decide) rfl (fun a h => ?_)
                  refine g_yes h rfl rfl rfl rfl hB17 ?_
                  obtain ⟨x242, h243, hz239⟩ := bsome hz239
                  have hX := twin_Twins_ok Fu (S0 := snapAll _) Aa0 ca0 a0 ((hsa0.mono (le21.trans le56)).mono (h.m.leAll (i := 3) rfl)) A168 c169 x167 (h.m.rowAll (i := 2) rfl (j := 3) rfl hq171) _ h243 _ h.startAll
                  refine q_callX hX h rfl rfl rfl (by decide) Try.func22 rfl rfl rfl (fun a w v L1 S1 hR hb1 h => ?_)
                  obtain ⟨rfl, rfl, _⟩ := hR
                  refine s_x h rfl rfl (by decide) (x_pick (u' := undef) h.k rfl rfl (fun _ => rfl) (fun hh => absurd (hB17.symm.trans hh) (by decide))) (fun a h => ?_)
                  exact (h.mid 3 rfl).val (by rw [Option.some.inj hz239])
                · refine g_no h rfl rfl rfl rfl hB17 rfl (by decide) (fun a h => ?_)
                  refine g_no h rfl rfl rfl rfl hB17 rfl (by decide) (fun a h => ?_)
                  refine g_no h rfl rfl rfl rfl hB17 rfl (by decide) (fun a h => ?_)
                  rw [if_neg (by rw [hB17]; decide)] at hz239
                  refine s_x h rfl rfl (by decide) (x_pick (u' := undef) h.k rfl rfl (fun hh => absurd (hB17.symm.trans hh) (by decide)) (fun _ => rfl)) (fun a h => ?_)
                  exact (h.mid 3 rfl).val (by rw [Option.some.inj hz239])
                refine s_assign h rfl _ rfl rfl (by decide) rfl (fun a h => ?_)
                refine l_end ?_
                refine wp_ret ?_
                obtain rfl := Option.some.inj hf
                exact r_ret1 h rfl (rv_tmp h rfl) ⟨_, [], _, rfl, ⟨rfl, rfl, trivial⟩, rfl, up57, (h.m.pick [3] _ (by decide) rfl)⟩
end Go.Proofs.Ytlgcfnbhnpnkiaa
