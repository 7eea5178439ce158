/- Ec: Go functions as plain functions, and that they are so (written by xt.py). -/
import Derived.Test.YtlgcfnbhnpnkiaaEb
set_option linter.unusedVariables false
set_option linter.unusedSimpArgs false
namespace Go.Proofs.Ytlgcfnbhnpnkiaa
open Go.RowKit
def slices_Equal___api_Term_api_Term_l0 (Fu : Nat) (a0 : List (Int × Int × Int)) (a1 : List (Int × Int × Int)) : Nat → Int → Option (Sum Bool Unit)
  | 0, _ => none
  | k + 1, x3 => if x3 < (a0.length : Int) then ((idx a0 x3).bind fun x7 => (idx a1 x3).bind fun x26 => if (!(decide (x7 = x26))) = true then (some (.inl false)) else (slices_Equal___api_Term_api_Term_l0 Fu a0 a1 k (w64 (x3 + 1)))) else (some (.inr ()))
def slices_Equal___api_Term_api_Term (Fu : Nat) (a0 : List (Int × Int × Int)) (a1 : List (Int × Int × Int)) : Option Bool :=
  if (a0.length : Int) ≠ (a1.length : Int) then (some false) else ((slices_Equal___api_Term_api_Term_l0 Fu a0 a1 Fu 0).bind fun o => match o with | .inl r45 => some r45 | .inr _ => some true)
set_option maxRecDepth 100000 in
set_option maxHeartbeats 2000000 in
theorem slices_Equal___api_Term_api_Term_ok (Fu : Nat) {S0 : Snap} (Aa0 : Option Addr) (ca0 : Nat) (a0 : List (Int × Int × Int)) (hsa0 : slS (tyP tyI (tyP tyI tyI)) S0 Aa0 ca0 a0) (Aa1 : Option Addr) (ca1 : Nat) (a1 : List (Int × Int × Int)) (hsa1 : slS (tyP tyI (tyP tyI tyI)) S0 Aa1 ca1 a1) (r : Bool) (hf : slices_Equal___api_Term_api_Term Fu a0 a1 = some r) (w0 : World) (hm : Mem w0 (ownL ([] ++ [.sn S0])) ([] ++ [.sn S0]) w0) :
    Calls Try.prog 67 #[.slice Aa0 a0.length ca0, .slice Aa1 a1.length ca1] w0 (Ret w0 S0 [] (fun v L1 S1 => v = .bool r ∧ L1 = [] ∧ True)) := by
  unfold slices_Equal___api_Term_api_Term at hf
  refine c_enterM Try.func67 rfl 26 rfl (by simp) _ hm _ rfl (fun a h => ?_)
  refine c_rs ?_ -- region 0
  refine s_assign h rfl _ rfl rfl (by decide) rfl (fun a h => ?_)
  refine l_end ?_
  refine wp_seq ?_
  refine c_rs ?_ -- region 1
  refine s_move h rfl _ rfl rfl (by decide) rfl (fun a h => ?_)
  refine s_x h rfl rfl (by decide) (x_len h.k rfl Try.underlying22 rfl) (fun a h => ?_)
  refine s_move h rfl _ rfl rfl (by decide) rfl (fun a h => ?_)
  refine s_x h rfl rfl (by decide) (x_len h.k rfl Try.underlying22 rfl) (fun a h => ?_)
  refine s_x h rfl rfl (by decide) (x_bin h.k rfl rfl rfl ib_neq) (fun a h => ?_)
  refine l_end ?_
  refine c_cond h rfl (fun hb => ?_) (fun hb => ?_)
  · rw [if_pos (of_decide_eq_true hb)] at hf
    refine c_rs ?_ -- region 2
    refine s_assign h rfl _ rfl rfl (by decide) rfl (fun a h => ?_)
    refine l_end ?_
    refine wp_ret ?_
    refine e_thenR ?_
    obtain rfl := Option.some.inj hf
    exact r_ret1 h rfl (rv_tmp h rfl) ⟨_, [], _, rfl, ⟨rfl, rfl, trivial⟩, rfl, (Up.refl _ _ _), h.m⟩
  · rw [if_neg (of_decide_eq_false hb)] at hf
    refine wp_skip ?_
    refine e_thenN ?_
    refine wp_seq ?_
    refine c_rs ?_ -- region 3
    refine s_move h rfl _ rfl rfl (by decide) rfl (fun a h => ?_)
    refine s_x h rfl rfl (by decide) (x_len h.k rfl Try.underlying22 rfl) (fun a h => ?_)
    refine s_move h rfl _ rfl rfl (by decide) rfl (fun a h => ?_)
    refine l_end ?_
    obtain ⟨o1, hl2, hf⟩ := bsome hf
    refine c_fin (fun a w => (.inr ()) = o1 ∧ St 26 w0 (ownL ([] ++ [.sn S0])) [] [.sn S0] a w) ?_ ?_
    · refine wp_block ?_
      refine c_loop (fun m6 a w => ∃ (x3 : Int), slices_Equal___api_Term_api_Term_l0 Fu a0 a1 m6 x3 = some o1 ∧ r64 x3 ∧ St 26 w0 (ownL ([] ++ [.sn S0])) [(0, .slice Aa0 a0.length ca0), (1, .slice Aa1 a1.length ca1), (12, .int .i64 (a0.length : Int)), (13, .int .i64 x3)] [.sn S0] a w) Fu ⟨0, hl2, (show r64 0 from ⟨by decide, by decide⟩), h.has (by exact ⟨rfl, rfl, rfl, rfl, trivial⟩)⟩ (fun m6 a w hI => ?_)
      obtain ⟨x3, hl5, hr4, h⟩ := hI
      obtain _ | m6 := m6
      · rw [slices_Equal___api_Term_api_Term_l0] at hl5; cases hl5
      rw [slices_Equal___api_Term_api_Term_l0] at hl5
      refine c_rs ?_ -- region 4
      refine s_x h rfl rfl (by decide) (x_bin h.k rfl rfl rfl ib_lss) (fun a h => ?_)
      refine l_end ?_
      refine c_cs h rfl (fun hb => ?_) (fun hb => ?_)
      · rw [if_pos (of_decide_eq_true hb)] at hl5
        refine wp_skip ?_
        refine e_thenN ?_
        refine wp_seq ?_
        refine wp_block ?_
        refine c_rs ?_ -- region 5
        refine s_move h rfl _ rfl rfl (by decide) rfl (fun a h => ?_)
        refine s_assign h rfl _ rfl rfl (by decide) rfl (fun a h => ?_)
        refine l_end ?_
        refine wp_seq ?_
        -- region 6 draws
        obtain ⟨x7, h11, hl5⟩ := bsome hl5
        obtain ⟨x26, h30, hl5⟩ := bsome hl5
        refine d_start h (Mem _ _ _) 9 9 rfl (by kernel_rfl) (fun _ _ _ _ _ h => h) (fun _ h => h) (fun Q a w HE HN h HS => ?_)
        refine d_takeP h (fun _ => HS) HN 0 rfl (by kernel_rfl) (by kernel_rfl) (by kernel_rfl) (by decide) rfl rfl (by decide) (fun w' => x_move h.k _ rfl rfl) (fun a h => ?_)
        refine d_takeP h (fun _ => HS) HN 1 rfl (by kernel_rfl) (by kernel_rfl) (by kernel_rfl) (by decide) rfl rfl (by decide) (fun w' => x_move h.k _ rfl rfl) (fun a h => ?_)
        obtain ⟨m8, hi12, hm13, hx14⟩ := idx_some h11
        obtain ⟨b9, off10, k15, hA16, hu17, hc18⟩ := (hsa0).at (by decide) hx14 (h.m.snOK (i := 0) rfl)
        obtain ⟨k19, k20, rfl, ⟨rfl, hr21⟩, ⟨k22, k23, rfl, ⟨rfl, hr24⟩, ⟨rfl, hr25⟩⟩⟩ := hu17
        refine d_takeP h (fun _ => HS) HN 2 rfl (by kernel_rfl) (by kernel_rfl) (by kernel_rfl) (by decide) rfl rfl (by decide) (fun w' => x_iaddrE h.k rfl Try.underlying22 sz_api_Term hA16 rfl rfl hi12 hm13) (fun a h => ?_)
        refine d_take h HS HN 3 rfl (by kernel_rfl) (by kernel_rfl) (by kernel_rfl) (by kernel_rfl) (by kernel_rfl) rfl rfl (by decide) (fun w' hw => x_ldR h.k rfl ag_api_Term rfl ([.int .i64 x7.1, .int .i64 x7.2.1, .int .i64 x7.2.2]) rfl (hc18 _ (hw.snOK (i := 0) rfl))) (fun a h => ?_)
        refine d_takeP h (fun _ => HS) HN 4 rfl (by kernel_rfl) (by kernel_rfl) (by kernel_rfl) (by decide) rfl rfl (by decide) (fun w' => x_move h.k _ rfl rfl) (fun a h => ?_)
        refine d_takeP h (fun _ => HS) HN 5 rfl (by kernel_rfl) (by kernel_rfl) (by kernel_rfl) (by decide) rfl rfl (by decide) (fun w' => x_move h.k _ rfl rfl) (fun a h => ?_)
        obtain ⟨m27, hi31, hm32, hx33⟩ := idx_some h30
        obtain ⟨b28, off29, k34, hA35, hu36, hc37⟩ := (hsa1).at (by decide) hx33 (h.m.snOK (i := 0) rfl)
        obtain ⟨k38, k39, rfl, ⟨rfl, hr40⟩, ⟨k41, k42, rfl, ⟨rfl, hr43⟩, ⟨rfl, hr44⟩⟩⟩ := hu36
        refine d_takeP h (fun _ => HS) HN 6 rfl (by kernel_rfl) (by kernel_rfl) (by kernel_rfl) (by decide) rfl rfl (by decide) (fun w' => x_iaddrE h.k rfl Try.underlying22 sz_api_Term hA35 rfl rfl hi31 hm32) (fun a h => ?_)
        refine d_take h HS HN 7 rfl (by kernel_rfl) (by kernel_rfl) (by kernel_rfl) (by kernel_rfl) (by kernel_rfl) rfl rfl (by decide) (fun w' hw => x_ldR h.k rfl ag_api_Term rfl ([.int .i64 x26.1, .int .i64 x26.2.1, .int .i64 x26.2.2]) rfl (hc37 _ (hw.snOK (i := 0) rfl))) (fun a h => ?_)
        refine d_takeP h (fun _ => HS) HN 8 rfl (by kernel_rfl) (by kernel_rfl) (by kernel_rfl) (by decide) rfl rfl (by decide) (fun w' => x_neqS h.k rfl rfl rfl gd_api_Term (eqs_api_Term _ x7 x26)) (fun a h => ?_)
        refine d_done (by kernel_rfl) (HE _ _ ?_) _
        refine e_thenN ?_
        refine c_cond h rfl (fun hb => ?_) (fun hb => ?_)
        · rw [if_pos hb] at hl5
          refine c_rs ?_ -- region 7
          refine s_assign h rfl _ rfl rfl (by decide) rfl (fun a h => ?_)
          refine l_end ?_
          refine wp_ret ?_
          refine e_blkR ?_
          refine e_thenR ?_
          refine e_thenR ?_
          refine e_blkR ?_
          refine e_thenR ?_
          cases hl5
          try dsimp only at hf
          refine e_thenR ?_
          obtain rfl := Option.some.inj hf
          exact r_ret1 h rfl (rv_tmp h rfl) ⟨_, [], _, rfl, ⟨rfl, rfl, trivial⟩, rfl, (Up.refl _ _ _), h.m⟩
        · rw [if_neg (by rw [hb]; decide)] at hl5
          refine wp_skip ?_
          refine e_blkN ?_
          refine e_thenN ?_
          refine c_r ?_ -- region 8
          refine s_x h rfl rfl (by decide) (x_bin h.k rfl rfl rfl (ib_add rfl)) (fun a h => ?_)
          refine s_move h rfl _ rfl rfl (by decide) rfl (fun a h => ?_)
          refine l_nil ?_
          exact e_thenN ⟨m6, Nat.lt_succ_self _, w64 (x3 + 1), hl5, (w64_r _), h.has (by exact ⟨rfl, rfl, rfl, rfl, trivial⟩)⟩
      · rw [if_neg (of_decide_eq_false hb)] at hl5
        refine wp_exit ?_
        refine e_thenX ?_
        refine e_thenX ?_
        refine e_blkX ?_
        refine e_thenN ?_
        exact ⟨(Option.some.inj hl5), h.has trivial⟩
    · rintro a w ⟨rfl, h⟩
      try dsimp only at hf
      refine e_thenN ?_
      refine c_rs ?_ -- region 9
      refine s_assign h rfl _ rfl rfl (by decide) rfl (fun a h => ?_)
      refine l_end ?_
      refine wp_ret ?_
      obtain rfl := Option.some.inj hf
      exact r_ret1 h rfl (rv_tmp h rfl) ⟨_, [], _, rfl, ⟨rfl, rfl, trivial⟩, rfl, (Up.refl _ _ _), h.m⟩
def twin_renamed_l0 (Fu : Nat) (a0 : List (Int × Int × Int)) (a1 : List ((Int × Int × Int) × Bool)) : Nat → (List (Int × Int × Int)) → Int → (List Int) → (List ((Int × Int × Int) × (Int × Int × Int))) → Option ((List (Int × Int × Int)))
  | 0, _, _, _, _ => none
  | k + 1, x22, x27, x29, x33 => if x27 < (a0.length : Int) then (((idx a0 x27).bind fun x60 => if ((decide (x60.1 ≠ 1)) || ((aget x60 a1).getD false)) = true then ((app 24 x22 ([x60])).bind fun x87 => some (x29, x33, x87)) else ((if (!((aget x60 x33).isSome)) = true then ((ix 5 x60.2.1).bind fun m121 => (x29[m121]?).bind fun x125 => (ix 5 x60.2.1).bind fun m132 => (x29[m132]?).bind fun x136 => (ix 5 x60.2.1).bind fun m143 => some ((x29.set m143 (w64 (x136 + 1))), (aset x60 (1, x60.2.1, x125) x33), 1, x60.2.1, x125)) else (some (x29, x33, ((aget x60 x33).getD (0, 0, 0)).1, ((aget x60 x33).getD (0, 0, 0)).2.1, ((aget x60 x33).getD (0, 0, 0)).2.2))).bind fun (x107, x111, x115, x117, x119) => (app 24 x22 ([(x115, x117, x119)])).bind fun x155 => some (x107, x111, x155))).bind fun (x47, x51, x55) => twin_renamed_l0 Fu a0 a1 k x55 (w64 (x27 + 1)) x47 x51) else (some x22)
def twin_renamed (Fu : Nat) (a0 : List (Int × Int × Int)) (a1 : List ((Int × Int × Int) × Bool)) (a2 : List Int) : Option ((List (Int × Int × Int))) :=
  (twin_renamed_l0 Fu a0 a1 Fu ([]) 0 a2 ([])).bind fun x37 => some x37
set_option maxRecDepth 100000 in
set_option maxHeartbeats 2000000 in
theorem twin_renamed_ok (Fu : Nat) {S0 : Snap} (Aa0 : Option Addr) (ca0 : Nat) (a0 : List (Int × Int × Int)) (hsa0 : slS (tyP tyI (tyP tyI tyI)) S0 Aa0 ca0 a0) (ma1 : Option Nat) (a1 : List ((Int × Int × Int) × Bool)) (hma1 : mpF keyT tyB false S0 ma1 a1) (csa2 : List Value) (a2 : List Int) (hsa2 : (tyA 5 tyI).rep S0 csa2 a2) (r : (List (Int × Int × Int))) (hf : twin_renamed Fu a0 a1 a2 = some r) (w0 : World) (hm : Mem w0 (ownL ([] ++ [.sn S0])) ([] ++ [.sn S0]) w0) :
    Calls Try.prog 66 #[.slice Aa0 a0.length ca0, .map ma1, .agg csa2.toArray] w0 (Ret w0 S0 [] (fun v L1 S1 => ∃ (A161 : Option Addr), ∃ (c162 : Nat), ∃ (cs163 : List Value), v = .slice A161 r.length c162 ∧ L1 = [.row (.slice A161 r.length c162) 29 3 r.length cs163] ∧ reps (tyP tyI (tyP tyI tyI)) S1 cs163 r ∧ True)) := by
  unfold twin_renamed at hf
  obtain ⟨hs1, hl2⟩ := hsa2
  refine c_enterM Try.func66 rfl 62 rfl (by simp) _ hm _ rfl (fun a h => ?_)
  refine c_rs ?_ -- region 0
  refine s_box h rfl rfl rfl (by decide) rfl (cs := csa2) (by rfl) (fun a w g3 h => ?_)
  refine s_assign h rfl _ rfl rfl (by decide) rfl (fun a h => ?_)
  refine l_end ?_
  refine c_rs ?_ -- region 1
  refine s_makeMap h rfl rfl rfl (by decide) (fun a w g4 h => ?_)
  refine s_assign h rfl _ rfl rfl (by decide) rfl (fun a h => ?_)
  refine l_end ?_
  refine c_rs ?_ -- region 2
  refine s_assign h rfl _ rfl rfl (by decide) rfl (fun a h => ?_)
  refine l_end ?_
  refine wp_seq ?_
  refine c_rs ?_ -- region 3
  refine s_move h rfl _ rfl rfl (by decide) rfl (fun a h => ?_)
  refine s_x h rfl rfl (by decide) (x_len h.k rfl Try.underlying22 rfl) (fun a h => ?_)
  refine s_move h rfl _ rfl rfl (by decide) rfl (fun a h => ?_)
  refine l_end ?_
  obtain ⟨o5, hl6, hf⟩ := bsome hf
  refine c_fin (fun a w => ∃ (x37 : List (Int × Int × Int)), ∃ (A38 : Option Addr), ∃ (c39 : Nat), ∃ (cs40 : List Value), x37 = o5 ∧ reps (tyP tyI (tyP tyI tyI)) S0 cs40 x37 ∧ St 62 w0 (ownL ([] ++ [.sn S0])) [(8, .slice A38 x37.length c39)] [.row (.slice A38 x37.length c39) 29 3 x37.length cs40, .sn S0] a w) ?_ ?_
  · refine wp_block ?_
    have h := h.mem (h.m.nilrow 29 3)
    have h := h.pick [2, 1, 0, 3] (by decide) rfl
    refine c_loop (fun m43 a w => ∃ (x22 : List (Int × Int × Int)), ∃ (A23 : Option Addr), ∃ (c24 : Nat), ∃ (cs25 : List Value), ∃ (x27 : Int), ∃ (x29 : List Int), ∃ (k30 : List Value), ∃ (x33 : List ((Int × Int × Int) × (Int × Int × Int))), ∃ (es34 : Array MapEntry), ∃ (cl35 : Nat), twin_renamed_l0 Fu a0 a1 m43 x22 x27 x29 x33 = some o5 ∧ reps (tyP tyI (tyP tyI tyI)) S0 cs25 x22 ∧ r64 x27 ∧ reps tyI S0 k30 x29 ∧ x29.length = 5 ∧ mpS keyT (tyP tyI (tyP tyI tyI)) true S0 es34 cl35 x33 ∧ St 62 w0 (ownL ([] ++ [.sn S0])) [(1, .map ma1), (5, .pointer (some ⟨g3, 0, none⟩)), (7, .map (some g4)), (8, .slice A23 x22.length c24), (14, .slice Aa0 a0.length ca0), (15, .int .i64 (a0.length : Int)), (16, .int .i64 x27)] [.box g3 111 k30, .obj g4 (.map es34 cl35), .row (.slice A23 x22.length c24) 29 3 x22.length cs25, .sn S0] a w) Fu ⟨[], none, 0, [], 0, a2, csa2, [], #[], 0, hl6, (show reps (tyP tyI (tyP tyI tyI)) S0 [] [] from rfl), (show r64 0 from ⟨by decide, by decide⟩), hs1, hl2, (mpS.nil _ _ _ _), h.has (by exact ⟨rfl, rfl, rfl, rfl, rfl, rfl, rfl, trivial⟩)⟩ (fun m43 a w hI => ?_)
    obtain ⟨x22, A23, c24, cs25, x27, x29, k30, x33, es34, cl35, hl42, hq26, hr28, hs31, hl32, hm36, h⟩ := hI
    obtain _ | m43 := m43
    · rw [twin_renamed_l0] at hl42; cases hl42
    rw [twin_renamed_l0] at hl42
    refine c_rs ?_ -- region 4
    refine s_x h rfl rfl (by decide) (x_bin h.k rfl rfl rfl ib_lss) (fun a h => ?_)
    refine l_end ?_
    refine c_cs h rfl (fun hb => ?_) (fun hb => ?_)
    · rw [if_pos (of_decide_eq_true hb)] at hl42
      refine wp_skip ?_
      refine e_thenN ?_
      obtain ⟨o45, hc46, hl42⟩ := bsome hl42
      refine c_cut (fun a w => ∃ (x47 : List Int), ∃ (k48 : List Value), ∃ (x51 : List ((Int × Int × Int) × (Int × Int × Int))), ∃ (es52 : Array MapEntry), ∃ (cl53 : Nat), ∃ (x55 : List (Int × Int × Int)), ∃ (A56 : Option Addr), ∃ (c57 : Nat), ∃ (cs58 : List Value), (x47, x51, x55) = o45 ∧ reps tyI S0 k48 x47 ∧ x47.length = 5 ∧ mpS keyT (tyP tyI (tyP tyI tyI)) true S0 es52 cl53 x51 ∧ reps (tyP tyI (tyP tyI tyI)) S0 cs58 x55 ∧ St 62 w0 (ownL ([] ++ [.sn S0])) [(1, .map ma1), (5, .pointer (some ⟨g3, 0, none⟩)), (7, .map (some g4)), (8, .slice A56 x55.length c57), (14, .slice Aa0 a0.length ca0), (15, .int .i64 (a0.length : Int)), (16, .int .i64 x27)] [.box g3 111 k48, .obj g4 (.map es52 cl53), .row (.slice A56 x55.length c57) 29 3 x55.length cs58, .sn S0] a w) ?_ ?_
      · refine wp_block ?_
        refine c_rs ?_ -- region 5
        obtain ⟨x60, h64, hc46⟩ := bsome hc46
        obtain ⟨m61, hi65, hm66, hx67⟩ := idx_some h64
        obtain ⟨b62, off63, k68, hA69, hu70, hc71⟩ := (hsa0).at (by decide) hx67 (h.m.snOK (i := 3) rfl)
        obtain ⟨k72, k73, rfl, ⟨rfl, hr74⟩, ⟨k75, k76, rfl, ⟨rfl, hr77⟩, ⟨rfl, hr78⟩⟩⟩ := hu70
        refine s_x h rfl rfl (by decide) (x_iaddrE h.k rfl Try.underlying22 sz_api_Term hA69 rfl rfl hi65 hm66) (fun a h => ?_)
        refine s_x h rfl rfl (by decide) (x_ldR h.k rfl ag_api_Term rfl ([.int .i64 x60.1, .int .i64 x60.2.1, .int .i64 x60.2.2]) rfl (hc71 _ (h.m.snOK (i := 3) rfl))) (fun a h => ?_)
        refine s_alloc h rfl rfl rfl (by decide) zi_api_Term rfl (fun a w g79 h => ?_)
        refine s_stW h rfl rfl rfl ag_api_Term rfl (es := [.int .i64 x60.1, .int .i64 x60.2.1, .int .i64 x60.2.2]) rfl rfl (by simp [Value.oneCell']) 0 rfl rfl (fun a w h => ?_)
        refine l_end ?_
        refine wp_seq ?_
        refine c_rs ?_ -- region 6
        refine s_x h rfl rfl (by decide) (x_faddr h.k rfl Try.underlying29 rfl sz_int rfl) (fun a h => ?_)
        refine s_x h rfl rfl (by decide) (x_ld h.k rfl Try.underlying3 rfl rfl ((h.m.cell (i := 0) rfl 0).trans rfl)) (fun a h => ?_)
        refine s_x h rfl rfl (by decide) (x_bin h.k rfl rfl rfl ib_neq) (fun a h => ?_)
        refine s_move h rfl _ rfl rfl (by decide) rfl (fun a h => ?_)
        refine q_grp h 4 (t := 23) 27 ((decide (x60.1 ≠ 1)) || ((aget x60 a1).getD false)) rfl (fun hB3 => ?_) (fun hB3 => ?_) (fun a w h => ?_)
        · refine g_no h rfl rfl rfl rfl hB3 rfl (by decide) (fun a h => ?_)
          refine g_no h rfl rfl rfl rfl hB3 rfl (by decide) (fun a h => ?_)
          refine g_no h rfl rfl rfl rfl hB3 rfl (by decide) (fun a h => ?_)
          refine s_x h rfl rfl (by decide) (x_pick (u' := undef) h.k rfl rfl (fun _ => rfl) (fun hh => absurd (hB3.symm.trans hh) (by decide))) (fun a h => ?_)
          exact (h.mid 3 rfl).val (by first | rfl | (rw [hB3]; first | rfl | simp))
        · refine g_yes h rfl rfl rfl rfl hB3 ?_
          refine s_move h rfl _ rfl rfl (by decide) rfl (fun a h => ?_)
          refine g_yes h rfl rfl rfl rfl hB3 ?_
          refine s_x h rfl rfl (by decide) (x_ldR h.k rfl ag_api_Term rfl ([.int .i64 x60.1, .int .i64 x60.2.1, .int .i64 x60.2.2]) rfl (h.m.range0 (i := 0) rfl)) (fun a h => ?_)
          refine g_yes h rfl rfl rfl rfl hB3 ?_
          obtain ⟨u82, hu83, hl84⟩ := mpF.look hma1 x60 (z := .bool false) (z0 := false) rfl
          cases hu83
          refine s_x h rfl rfl (by decide) (x_lookF h.k rfl Try.underlying137 rfl (h.m.snOK (i := 4) rfl) hl84 ⟨hr74, hr77, hr78⟩ rfl (zro zi_bool _)) (fun a h => ?_)
          refine s_x h rfl rfl (by decide) (x_pick (u' := undef) h.k rfl rfl (fun hh => absurd (hB3.symm.trans hh) (by decide)) (fun _ => rfl)) (fun a h => ?_)
          exact (h.mid 3 rfl).val (by first | rfl | (rw [hB3]; first | rfl | simp))
        refine l_end ?_
        refine c_cond h rfl (fun hb => ?_) (fun hb => ?_)
        · rw [if_pos hb] at hc46
          refine c_rs ?_ -- region 7
          refine s_move h rfl _ rfl rfl (by decide) rfl (fun a h => ?_)
          refine s_x h rfl rfl (by decide) (x_ldR h.k rfl ag_api_Term rfl ([.int .i64 x60.1, .int .i64 x60.2.1, .int .i64 x60.2.2]) rfl (h.m.range0 (i := 0) rfl)) (fun a h => ?_)
          refine q_bslice (T := tyP tyI (tyP tyI tyI)) (S := S0) h rfl rfl rfl (by decide) Try.underlying22 zi_api_Term (by decide) (by decide) (by decide) (by decide) [.agg ([.int .i64 x60.1, .int .i64 x60.2.1, .int .i64 x60.2.2]).toArray] rfl rfl (C := [[.int .i64 x60.1, .int .i64 x60.2.1, .int .i64 x60.2.2]]) rfl (xs := [x60]) ⟨[.int .i64 x60.1, .int .i64 x60.2.1, .int .i64 x60.2.2], _, rfl, ⟨[.int .i64 x60.1], [.int .i64 x60.2.1, .int .i64 x60.2.2], rfl, ⟨rfl, hr74⟩, ⟨[.int .i64 x60.2.1], [.int .i64 x60.2.2], rfl, ⟨rfl, hr77⟩, ⟨rfl, hr78⟩⟩⟩, rfl⟩ (by intro c hc; simp only [List.mem_cons, List.not_mem_nil, or_false] at hc; subst hc; rfl) (fun a w A85 h => ?_)
          have hb86 : reps (tyP tyI (tyP tyI tyI)) S0 ([[.int .i64 x60.1, .int .i64 x60.2.1, .int .i64 x60.2.2]]).flatten [x60] := ⟨[.int .i64 x60.1, .int .i64 x60.2.1, .int .i64 x60.2.2], _, rfl, ⟨[.int .i64 x60.1], [.int .i64 x60.2.1, .int .i64 x60.2.2], rfl, ⟨rfl, hr74⟩, ⟨[.int .i64 x60.2.1], [.int .i64 x60.2.2], rfl, ⟨rfl, hr77⟩, ⟨rfl, hr78⟩⟩⟩, rfl⟩
          obtain ⟨x87, h88, hc46⟩ := bsome hc46
          refine q_append (T := tyP tyI (tyP tyI tyI)) (S := S0) h rfl rfl rfl (by decide) Try.underlying22 zb_api_Term rfl (by decide) rfl 4 rfl hq26 rfl hb86 (h.m.rdRowA (i := 0) rfl) h88 (fun a w A89 c90 cs91 hq92 h => ?_)
          refine s_assign h rfl _ rfl rfl (by decide) rfl (fun a h => ?_)
          refine l_end ?_
          refine wp_exit ?_
          refine e_thenX ?_
          refine e_blkX ?_
          refine e_thenN ?_
          have h := h.pick [2, 3, 4, 5] (by decide) rfl
          exact ⟨x29, k30, x33, es34, cl35, x87, A89, c90, cs91, (Option.some.inj hc46), hs31, hl32, hm36, hq92, h.has (by exact ⟨rfl, rfl, rfl, rfl, rfl, rfl, rfl, trivial⟩)⟩
        · rw [if_neg (by rw [hb]; decide)] at hc46
          refine wp_skip ?_
          refine e_thenN ?_
          refine c_rs ?_ -- region 8
          refine s_move h rfl _ rfl rfl (by decide) rfl (fun a h => ?_)
          refine s_x h rfl rfl (by decide) (x_ldR h.k rfl ag_api_Term rfl ([.int .i64 x60.1, .int .i64 x60.2.1, .int .i64 x60.2.2]) rfl (h.m.range0 (i := 0) rfl)) (fun a h => ?_)
          obtain ⟨u93, hu94, hl95⟩ := mpS.look hm36 x60 (z := .agg ([.int .i64 0, .int .i64 0, .int .i64 0]).toArray) (z0 := (0, 0, 0)) ⟨_, rfl, ⟨[.int .i64 0], [.int .i64 0, .int .i64 0], rfl, ⟨rfl, (show r64 0 from ⟨by decide, by decide⟩)⟩, ⟨[.int .i64 0], [.int .i64 0], rfl, ⟨rfl, (show r64 0 from ⟨by decide, by decide⟩)⟩, ⟨rfl, (show r64 0 from ⟨by decide, by decide⟩)⟩⟩⟩⟩
          obtain ⟨k96, rfl, ⟨k97, k98, rfl, ⟨rfl, hr99⟩, ⟨k100, k101, rfl, ⟨rfl, hr102⟩, ⟨rfl, hr103⟩⟩⟩⟩ := hu94
          refine s_x h rfl rfl (by decide) (x_lookE h.k rfl Try.underlying138 rfl (h.m.ok 2 _ rfl) hl95 ⟨hr74, hr77, hr78⟩ rfl (zro zi_api_Term _)) (fun a h => ?_)
          refine s_move h rfl _ rfl rfl (by decide) rfl (fun a h => ?_)
          refine s_x h rfl rfl (by decide) (x_ext h.k rfl rfl rfl) (fun a h => ?_)
          refine s_x h rfl rfl (by decide) (x_ext h.k rfl rfl rfl) (fun a h => ?_)
          refine s_alloc h rfl rfl rfl (by decide) zi_api_Term rfl (fun a w g104 h => ?_)
          refine s_stW h rfl rfl rfl ag_api_Term rfl (es := [.int .i64 (((aget x60 x33).getD (0, 0, 0)).1), .int .i64 (((aget x60 x33).getD (0, 0, 0)).2.1), .int .i64 (((aget x60 x33).getD (0, 0, 0)).2.2)]) rfl rfl (by simp [Value.oneCell']) 0 rfl rfl (fun a w h => ?_)
          refine s_assign h rfl _ rfl rfl (by decide) rfl (fun a h => ?_)
          refine l_end ?_
          obtain ⟨o105, hc106, hc46⟩ := bsome hc46
          refine c_cut (fun a w => ∃ (x107 : List Int), ∃ (k108 : List Value), ∃ (x111 : List ((Int × Int × Int) × (Int × Int × Int))), ∃ (es112 : Array MapEntry), ∃ (cl113 : Nat), ∃ (x115 : Int), ∃ (x117 : Int), ∃ (x119 : Int), (x107, x111, x115, x117, x119) = o105 ∧ reps tyI S0 k108 x107 ∧ x107.length = 5 ∧ mpS keyT (tyP tyI (tyP tyI tyI)) true S0 es112 cl113 x111 ∧ r64 x115 ∧ r64 x117 ∧ r64 x119 ∧ St 62 w0 (ownL ([] ++ [.sn S0])) [(1, .map ma1), (5, .pointer (some ⟨g3, 0, none⟩)), (7, .map (some g4)), (8, .slice A23 x22.length c24), (11, .pointer (some ⟨g104, 0, none⟩)), (14, .slice Aa0 a0.length ca0), (15, .int .i64 (a0.length : Int)), (16, .int .i64 x27)] [.box g3 111 k108, .obj g4 (.map es112 cl113), .row (.slice A23 x22.length c24) 29 3 x22.length cs25, .box g104 29 ([.int .i64 x115, .int .i64 x117, .int .i64 x119]), .sn S0] a w) ?_ ?_
          · refine c_rs ?_ -- region 9
            refine s_move h rfl _ rfl rfl (by decide) rfl (fun a h => ?_)
            refine s_x h rfl rfl (by decide) (x_not h.k rfl rfl) (fun a h => ?_)
            refine l_end ?_
            refine c_cond h rfl (fun hb => ?_) (fun hb => ?_)
            · rw [if_pos hb] at hc106
              refine wp_seq ?_
              -- region 10 draws
              obtain ⟨m121, h122, hc106⟩ := bsome hc106
              obtain ⟨x125, h126, hc106⟩ := bsome hc106
              refine d_start h (Mem _ _ _) 7 8 rfl (by kernel_rfl) (fun _ _ _ _ _ h => h) (fun _ h => h) (fun Q a w HE HN h HS => ?_)
              refine d_takeP h (fun _ => HS) HN 0 rfl (by kernel_rfl) (by kernel_rfl) (by kernel_rfl) (by decide) rfl rfl (by decide) (fun w' => x_faddr h.k rfl Try.underlying29 rfl sz_int rfl) (fun a h => ?_)
              refine d_take h HS HN 1 rfl (by kernel_rfl) (by kernel_rfl) (by kernel_rfl) (by kernel_rfl) (by kernel_rfl) rfl rfl (by decide) (fun w' hw => x_ld h.k rfl Try.underlying3 rfl rfl ((hw.cell (i := 1) rfl 1).trans rfl)) (fun a h => ?_)
              refine d_takeP h (fun _ => HS) HN 2 rfl (by kernel_rfl) (by kernel_rfl) (by kernel_rfl) (by decide) rfl rfl (by decide) (fun w' => x_faddr h.k rfl Try.underlying29 rfl sz_int rfl) (fun a h => ?_)
              refine d_take h HS HN 3 rfl (by kernel_rfl) (by kernel_rfl) (by kernel_rfl) (by kernel_rfl) (by kernel_rfl) rfl rfl (by decide) (fun w' hw => x_ld h.k rfl Try.underlying3 rfl rfl ((hw.cell (i := 1) rfl 1).trans rfl)) (fun a h => ?_)
              obtain ⟨hi123, hm124⟩ := ix_some h122
              refine d_takeP h (fun _ => HS) HN 4 rfl (by kernel_rfl) (by kernel_rfl) (by kernel_rfl) (by decide) rfl rfl (by decide) (fun w' => x_iaddrA h.k rfl Try.underlying111 sz_int rfl rfl hi123 hm124 rfl) (fun a h => ?_)
              obtain ⟨u127, hv128, hu129⟩ := (hs31).cell rfl h126
              obtain ⟨e131, hr130⟩ := hu129
              cases e131
              refine d_take h HS HN 5 rfl (by kernel_rfl) (by kernel_rfl) (by kernel_rfl) (by kernel_rfl) (by kernel_rfl) rfl rfl (by decide) (fun w' hw => x_ld h.k rfl Try.underlying3 rfl rfl ((hw.cell (i := 2) rfl _).trans (by rw [Nat.zero_add, Nat.mul_one]; exact hv128))) (fun a h => ?_)
              refine d_takeP h (fun _ => HS) HN 6 rfl (by kernel_rfl) (by kernel_rfl) (by kernel_rfl) (by decide) rfl rfl (by decide) (fun w' => x_build h.k rfl [(0, .int .i64 1), (1, .int .i64 x60.2.1), (2, .int .i64 x125)] rfl ([.int .i64 1, .int .i64 x60.2.1, .int .i64 x125]) (by kernel_rfl)) (fun a h => ?_)
              refine d_alone 7 rfl (by kernel_rfl) (fun K hK => ?_)
              refine s_stW h rfl rfl rfl ag_api_Term rfl (es := [.int .i64 1, .int .i64 x60.2.1, .int .i64 x125]) rfl rfl (by simp [Value.oneCell']) 0 rfl rfl (fun a w h => ?_)
              refine hK _ _ (fun hne _ => absurd rfl hne) ?_
              clear hK
              refine d_done (by kernel_rfl) (HE _ _ ?_) _
              refine e_thenN ?_
              refine c_rs ?_ -- region 11
              refine s_x h rfl rfl (by decide) (x_faddr h.k rfl Try.underlying29 rfl sz_int rfl) (fun a h => ?_)
              refine s_x h rfl rfl (by decide) (x_ld h.k rfl Try.underlying3 rfl rfl ((h.m.cell (i := 1) rfl 1).trans rfl)) (fun a h => ?_)
              obtain ⟨m132, h133, hc106⟩ := bsome hc106
              obtain ⟨hi134, hm135⟩ := ix_some h133
              refine s_x h rfl rfl (by decide) (x_iaddrA h.k rfl Try.underlying111 sz_int rfl rfl hi134 hm135 rfl) (fun a h => ?_)
              obtain ⟨x136, h137, hc106⟩ := bsome hc106
              obtain ⟨u138, hv139, hu140⟩ := (hs31).cell rfl h137
              obtain ⟨e142, hr141⟩ := hu140
              cases e142
              refine s_x h rfl rfl (by decide) (x_ld h.k rfl Try.underlying3 rfl rfl ((h.m.cell (i := 2) rfl _).trans (by rw [Nat.zero_add, Nat.mul_one]; exact hv139))) (fun a h => ?_)
              refine s_x h rfl rfl (by decide) (x_bin h.k rfl rfl rfl (ib_add rfl)) (fun a h => ?_)
              obtain ⟨m143, h144, hc106⟩ := bsome hc106
              obtain ⟨hi145, hm146⟩ := ix_some h144
              refine s_x h rfl rfl (by decide) (x_iaddrA h.k rfl Try.underlying111 sz_int rfl rfl hi145 hm146 rfl) (fun a h => ?_)
              refine q_setBox (T := tyI) (q := w64 (x136 + 1)) h rfl rfl rfl sz_int rfl rfl 2 rfl rfl hs31 ⟨rfl, (w64_r _)⟩ (by first | omega | (simp_all; done)) (fun a w cs147 hq148 h => ?_)
              have hl149 : (x29.set m143 (w64 (x136 + 1))).length = 5 := by rw [List.length_set]; exact hl32
              refine l_end ?_
              refine c_r ?_ -- region 12
              refine s_move h rfl _ rfl rfl (by decide) rfl (fun a h => ?_)
              refine s_x h rfl rfl (by decide) (x_ldR h.k rfl ag_api_Term rfl ([.int .i64 x60.1, .int .i64 x60.2.1, .int .i64 x60.2.2]) rfl (h.m.range0 (i := 1) rfl)) (fun a h => ?_)
              refine s_x h rfl rfl (by decide) (x_ldR h.k rfl ag_api_Term rfl ([.int .i64 1, .int .i64 x60.2.1, .int .i64 x125]) rfl (h.m.range0 (i := 0) rfl)) (fun a h => ?_)
              refine q_mapSet (T := tyP tyI (tyP tyI tyI)) (row := true) h rfl rfl rfl Try.underlying138 rfl 3 rfl keyT hm36 (x := x60) ⟨hr74, hr77, hr78⟩ rfl (v := .agg ([.int .i64 1, .int .i64 x60.2.1, .int .i64 x125]).toArray) (q := (1, x60.2.1, x125)) rfl ⟨_, rfl, ⟨[.int .i64 1], [.int .i64 x60.2.1, .int .i64 x125], rfl, ⟨rfl, (show r64 1 from ⟨by decide, by decide⟩)⟩, ⟨[.int .i64 x60.2.1], [.int .i64 x125], rfl, ⟨rfl, hr77⟩, ⟨rfl, hr130⟩⟩⟩⟩ (fun a w es150 cl151 hm152 h => ?_)
              refine l_nil ?_
              refine e_thenN ?_
              have h := h.pick [2, 3, 4, 0, 5] (by decide) rfl
              exact ⟨(x29.set m143 (w64 (x136 + 1))), cs147, (aset x60 (1, x60.2.1, x125) x33), es150, cl151, 1, x60.2.1, x125, (Option.some.inj hc106), hq148, hl149, hm152, (show r64 1 from ⟨by decide, by decide⟩), hr77, hr130, h.has (by exact ⟨rfl, rfl, rfl, rfl, rfl, rfl, rfl, rfl, trivial⟩)⟩
            · rw [if_neg (by rw [hb]; decide)] at hc106
              refine wp_skip ?_
              refine e_thenN ?_
              have h := h.pick [2, 3, 4, 0, 5] (by decide) rfl
              exact ⟨x29, k30, x33, es34, cl35, ((aget x60 x33).getD (0, 0, 0)).1, ((aget x60 x33).getD (0, 0, 0)).2.1, ((aget x60 x33).getD (0, 0, 0)).2.2, (Option.some.inj hc106), hs31, hl32, hm36, hr99, hr102, hr103, h.has (by exact ⟨rfl, rfl, rfl, rfl, rfl, rfl, rfl, rfl, trivial⟩)⟩
          · rintro a w ⟨x107, k108, x111, es112, cl113, x115, x117, x119, rfl, hs109, hl110, hm114, hr116, hr118, hr120, h⟩
            try dsimp only at hc46
            refine c_r ?_ -- region 13
            refine s_move h rfl _ rfl rfl (by decide) rfl (fun a h => ?_)
            refine s_x h rfl rfl (by decide) (x_ldR h.k rfl ag_api_Term rfl ([.int .i64 x115, .int .i64 x117, .int .i64 x119]) rfl (h.m.range0 (i := 3) rfl)) (fun a h => ?_)
            refine q_bslice (T := tyP tyI (tyP tyI tyI)) (S := S0) h rfl rfl rfl (by decide) Try.underlying22 zi_api_Term (by decide) (by decide) (by decide) (by decide) [.agg ([.int .i64 x115, .int .i64 x117, .int .i64 x119]).toArray] rfl rfl (C := [[.int .i64 x115, .int .i64 x117, .int .i64 x119]]) rfl (xs := [(x115, x117, x119)]) ⟨[.int .i64 x115, .int .i64 x117, .int .i64 x119], _, rfl, ⟨[.int .i64 x115], [.int .i64 x117, .int .i64 x119], rfl, ⟨rfl, hr116⟩, ⟨[.int .i64 x117], [.int .i64 x119], rfl, ⟨rfl, hr118⟩, ⟨rfl, hr120⟩⟩⟩, rfl⟩ (by intro c hc; simp only [List.mem_cons, List.not_mem_nil, or_false] at hc; subst hc; rfl) (fun a w A153 h => ?_)
            have hb154 : reps (tyP tyI (tyP tyI tyI)) S0 ([[.int .i64 x115, .int .i64 x117, .int .i64 x119]]).flatten [(x115, x117, x119)] := ⟨[.int .i64 x115, .int .i64 x117, .int .i64 x119], _, rfl, ⟨[.int .i64 x115], [.int .i64 x117, .int .i64 x119], rfl, ⟨rfl, hr116⟩, ⟨[.int .i64 x117], [.int .i64 x119], rfl, ⟨rfl, hr118⟩, ⟨rfl, hr120⟩⟩⟩, rfl⟩
            obtain ⟨x155, h156, hc46⟩ := bsome hc46
            refine q_append (T := tyP tyI (tyP tyI tyI)) (S := S0) h rfl rfl rfl (by decide) Try.underlying22 zb_api_Term rfl (by decide) rfl 3 rfl hq26 rfl hb154 (h.m.rdRowA (i := 0) rfl) h156 (fun a w A157 c158 cs159 hq160 h => ?_)
            refine s_assign h rfl _ rfl rfl (by decide) rfl (fun a h => ?_)
            refine l_nil ?_
            refine e_blkN ?_
            refine e_thenN ?_
            have h := h.pick [1, 2, 3, 5] (by decide) rfl
            exact ⟨x107, k108, x111, es112, cl113, x155, A157, c158, cs159, (Option.some.inj hc46), hs109, hl110, hm114, hq160, h.has (by exact ⟨rfl, rfl, rfl, rfl, rfl, rfl, rfl, trivial⟩)⟩
      · rintro a w ⟨x47, k48, x51, es52, cl53, x55, A56, c57, cs58, rfl, hs49, hl50, hm54, hq59, h⟩
        try dsimp only at hl42
        refine c_r ?_ -- region 14
        refine s_x h rfl rfl (by decide) (x_bin h.k rfl rfl rfl (ib_add rfl)) (fun a h => ?_)
        refine s_move h rfl _ rfl rfl (by decide) rfl (fun a h => ?_)
        refine l_nil ?_
        exact e_thenN ⟨m43, Nat.lt_succ_self _, x55, A56, c57, cs58, w64 (x27 + 1), x47, k48, x51, es52, cl53, hl42, hq59, (w64_r _), hs49, hl50, hm54, h.has (by exact ⟨rfl, rfl, rfl, rfl, rfl, rfl, rfl, trivial⟩)⟩
    · rw [if_neg (of_decide_eq_false hb)] at hl42
      refine wp_exit ?_
      refine e_thenX ?_
      refine e_thenX ?_
      refine e_blkX ?_
      refine e_thenN ?_
      have h := h.pick [2, 3] (by decide) rfl
      exact ⟨x22, A23, c24, cs25, (Option.some.inj hl42), hq26, h.has (by exact ⟨rfl, trivial⟩)⟩
  · rintro a w ⟨x37, A38, c39, cs40, rfl, hq41, h⟩
    refine e_thenN ?_
    refine c_rs ?_ -- region 15
    refine s_move h rfl _ rfl rfl (by decide) rfl (fun a h => ?_)
    refine s_assign h rfl _ rfl rfl (by decide) rfl (fun a h => ?_)
    refine l_end ?_
    refine wp_ret ?_
    obtain rfl := Option.some.inj hf
    exact r_ret1 h rfl (rv_tmp h rfl) ⟨_, [.row (.slice A38 x37.length c39) 29 3 x37.length cs40], _, rfl, ⟨A38, c39, cs40, rfl, rfl, hq41, trivial⟩, rfl, (Up.refl _ _ _), h.m⟩
def twin_Rename (Fu : Nat) (a0 : List (Int × Int × Int)) : Option ((List (Int × Int × Int)) × Int) :=
  (twin_Right Fu a0).bind fun x1 => if (!x1) = true then (some ([], 2)) else ((twin_renamed Fu a0 ([]) (List.replicate 5 (0 : Int))).bind fun x5 => some (x5, 0))
set_option maxRecDepth 100000 in
set_option maxHeartbeats 2000000 in
theorem twin_Rename_ok (Fu : Nat) {S0 : Snap} (Aa0 : Option Addr) (ca0 : Nat) (a0 : List (Int × Int × Int)) (hsa0 : slS (tyP tyI (tyP tyI tyI)) S0 Aa0 ca0 a0) (r : (List (Int × Int × Int)) × Int) (hf : twin_Rename Fu a0 = some r) (w0 : World) (hm : Mem w0 (ownL ([] ++ [.sn S0])) ([] ++ [.sn S0]) w0) :
    Calls Try.prog 20 #[.slice Aa0 a0.length ca0] w0 (Ret w0 S0 [] (fun v L1 S1 => ∃ (A13 : Option Addr), ∃ (c14 : Nat), ∃ (cs15 : List Value), v = .tuple #[.slice A13 r.1.length c14, .int .i64 r.2] ∧ L1 = [.row (.slice A13 r.1.length c14) 29 3 r.1.length cs15] ∧ reps (tyP tyI (tyP tyI tyI)) S1 cs15 r.1 ∧ r64 r.2 ∧ True)) := by
  unfold twin_Rename at hf
  refine c_enterM Try.func20 rfl 10 rfl (by simp) _ hm _ rfl (fun a h => ?_)
  refine c_rs ?_ -- region 0
  refine s_assign h rfl _ rfl rfl (by decide) rfl (fun a h => ?_)
  refine s_assign h rfl _ rfl rfl (by decide) rfl (fun a h => ?_)
  refine l_end ?_
  refine wp_seq ?_
  refine c_rs ?_ -- region 1
  refine s_move h rfl _ rfl rfl (by decide) rfl (fun a h => ?_)
  obtain ⟨x1, h2, hf⟩ := bsome hf
  have hX := twin_Right_ok Fu (S0 := snapAll _) Aa0 ca0 a0 (hsa0.mono (h.m.leAll (i := 0) rfl)) _ h2 _ h.startAll
  refine q_callX hX h rfl rfl rfl (by decide) Try.func18 rfl rfl rfl (fun a w v L1 S1 hR hb1 h => ?_)
  obtain ⟨rfl, rfl, _⟩ := hR
  refine s_x h rfl rfl (by decide) (x_not h.k rfl rfl) (fun a h => ?_)
  refine l_end ?_
  refine c_cond h rfl (fun hb => ?_) (fun hb => ?_)
  · rw [if_pos hb] at hf
    refine c_rs ?_ -- region 2
    refine s_assign h rfl _ rfl rfl (by decide) rfl (fun a h => ?_)
    refine s_assign h rfl _ rfl rfl (by decide) rfl (fun a h => ?_)
    refine l_end ?_
    refine wp_ret ?_
    refine e_thenR ?_
    obtain rfl := Option.some.inj hf
    have h := h.mem (h.m.nilrow 29 3)
    exact r_ret2 h rfl (rv_tmp h rfl) (rv_tmp h rfl) ⟨_, [.row (.slice none ([]).length 0) 29 3 ([]).length []], _, rfl, ⟨none, 0, [], rfl, rfl, (show reps (tyP tyI (tyP tyI tyI)) S0 [] [] from rfl), (show r64 2 from ⟨by decide, by decide⟩), trivial⟩, rfl, (Up.refl _ _ _), h.m⟩
  · rw [if_neg (by rw [hb]; decide)] at hf
    refine wp_skip ?_
    refine e_thenN ?_
    refine c_rs ?_ -- region 3
    refine s_move h rfl _ rfl rfl (by decide) rfl (fun a h => ?_)
    refine s_x h rfl rfl (by decide) (x_build h.k rfl [] rfl (List.replicate 5 (.int .i64 0)) (by kernel_rfl)) (fun a h => ?_)
    obtain ⟨x5, h6, hf⟩ := bsome hf
    have hX := twin_renamed_ok Fu (S0 := snapAll _) Aa0 ca0 a0 (hsa0.mono (h.m.leAll (i := 0) rfl)) none [] (mpF.nil _ _ _ _) (List.replicate 5 (.int .i64 0)) (List.replicate 5 (0 : Int)) ((tyA 5 tyI).mono (h.m.leAll (i := 0) rfl) (show (tyA 5 tyI).rep S0 (List.replicate 5 (.int .i64 0)) (List.replicate 5 (0 : Int)) from ⟨(repsRep1 (T := tyI) (S := S0) ⟨rfl, (show r64 0 from ⟨by decide, by decide⟩)⟩), (by simp)⟩)) _ h6 _ h.startAll
    refine q_callX hX h rfl rfl rfl (by decide) Try.func66 rfl rfl rfl (fun a w v L1 S1 hR hb1 h => ?_)
    obtain ⟨A8, c9, cs10, rfl, rfl, hq11, _⟩ := hR
    have hq12 := hq11.fl (S' := S0) (fl_P fl_I (fl_P fl_I fl_I))
    refine s_assign h rfl _ rfl rfl (by decide) rfl (fun a h => ?_)
    refine s_assign h rfl _ rfl rfl (by decide) rfl (fun a h => ?_)
    refine l_end ?_
    refine wp_ret ?_
    obtain rfl := Option.some.inj hf
    exact r_ret2 h rfl (rv_tmp h rfl) (rv_tmp h rfl) ⟨_, [.row (.slice A8 x5.length c9) 29 3 x5.length cs10], _, rfl, ⟨A8, c9, cs10, rfl, rfl, hq12, (show r64 0 from ⟨by decide, by decide⟩), trivial⟩, rfl, (Up.refl _ _ _), h.m⟩
def twin_Twins (Fu : Nat) (a0 : List (Int × Int × Int)) (a1 : List (Int × Int × Int)) : Option Bool :=
  (twin_Rename Fu a0).bind fun x1 => (twin_Rename Fu a1).bind fun x10 => (if ((decide (x1.2 = 0)) && (decide (x10.2 = 0))) = true then (slices_Equal___api_Term_api_Term Fu x1.1 x10.1).bind fun x24 => some x24 else some false).bind fun z22 => some z22
set_option maxRecDepth 100000 in
set_option maxHeartbeats 2000000 in
theorem twin_Twins_ok (Fu : Nat) {S0 : Snap} (Aa0 : Option Addr) (ca0 : Nat) (a0 : List (Int × Int × Int)) (hsa0 : slS (tyP tyI (tyP tyI tyI)) S0 Aa0 ca0 a0) (Aa1 : Option Addr) (ca1 : Nat) (a1 : List (Int × Int × Int)) (hsa1 : slS (tyP tyI (tyP tyI tyI)) S0 Aa1 ca1 a1) (r : Bool) (hf : twin_Twins Fu a0 a1 = some r) (w0 : World) (hm : Mem w0 (ownL ([] ++ [.sn S0])) ([] ++ [.sn S0]) w0) :
    Calls Try.prog 22 #[.slice Aa0 a0.length ca0, .slice Aa1 a1.length ca1] w0 (Ret w0 S0 [] (fun v L1 S1 => v = .bool r ∧ L1 = [] ∧ True)) := by
  unfold twin_Twins at hf
  refine c_enterM Try.func22 rfl 30 rfl (by simp) _ hm _ rfl (fun a h => ?_)
  refine c_rs ?_ -- region 0
  refine s_assign h rfl _ rfl rfl (by decide) rfl (fun a h => ?_)
  refine l_end ?_
  refine c_rs ?_ -- region 1
  refine s_move h rfl _ rfl rfl (by decide) rfl (fun a h => ?_)
  obtain ⟨x1, h2, hf⟩ := bsome hf
  have hX := twin_Rename_ok Fu (S0 := snapAll _) Aa0 ca0 a0 (hsa0.mono (h.m.leAll (i := 0) rfl)) _ h2 _ h.startAll
  refine q_callX hX h rfl rfl rfl (by decide) Try.func20 rfl rfl rfl (fun a w v L1 S1 hR hb1 h => ?_)
  obtain ⟨A4, c5, cs6, rfl, rfl, hq7, hr8, _⟩ := hR
  have hq9 := hq7.fl (S' := S0) (fl_P fl_I (fl_P fl_I fl_I))
  refine s_move h rfl _ rfl rfl (by decide) rfl (fun a h => ?_)
  refine s_x h rfl rfl (by decide) (x_ext h.k rfl rfl rfl) (fun a h => ?_)
  refine s_x h rfl rfl (by decide) (x_ext h.k rfl rfl rfl) (fun a h => ?_)
  refine s_assign h rfl _ rfl rfl (by decide) rfl (fun a h => ?_)
  refine s_assign h rfl _ rfl rfl (by decide) rfl (fun a h => ?_)
  refine l_end ?_
  refine c_rs ?_ -- region 2
  refine s_move h rfl _ rfl rfl (by decide) rfl (fun a h => ?_)
  obtain ⟨x10, h11, hf⟩ := bsome hf
  have hX := twin_Rename_ok Fu (S0 := snapAll _) Aa1 ca1 a1 (hsa1.mono (h.m.leAll (i := 1) rfl)) _ h11 _ h.startAll
  refine q_callX hX h rfl rfl rfl (by decide) Try.func20 rfl rfl rfl (fun a w v L1 S1 hR hb1 h => ?_)
  obtain ⟨A13, c14, cs15, rfl, rfl, hq16, hr17, _⟩ := hR
  have hq18 := hq16.fl (S' := S0) (fl_P fl_I (fl_P fl_I fl_I))
  refine s_move h rfl _ rfl rfl (by decide) rfl (fun a h => ?_)
  refine s_x h rfl rfl (by decide) (x_ext h.k rfl rfl rfl) (fun a h => ?_)
  refine s_x h rfl rfl (by decide) (x_ext h.k rfl rfl rfl) (fun a h => ?_)
  refine s_assign h rfl _ rfl rfl (by decide) rfl (fun a h => ?_)
  refine s_assign h rfl _ rfl rfl (by decide) rfl (fun a h => ?_)
  refine l_end ?_
  refine c_rs ?_ -- region 3
  refine s_move h rfl _ rfl rfl (by decide) rfl (fun a h => ?_)
  refine s_x h rfl rfl (by decide) (x_bin h.k rfl rfl rfl ib_eql) (fun a h => ?_)
  refine s_move h rfl _ rfl rfl (by decide) rfl (fun a h => ?_)
  refine q_grp h 3 (t := 21) 24 ((decide (x1.2 = 0)) && (decide (x10.2 = 0))) rfl (fun hB2 => ?_) (fun hB2 => ?_) (fun a w h => ?_)
  · refine g_yes h rfl rfl rfl rfl hB2 ?_
    refine s_move h rfl _ rfl rfl (by decide) rfl (fun a h => ?_)
    refine g_yes h rfl rfl rfl rfl hB2 ?_
    refine s_x h rfl rfl (by decide) (x_bin h.k rfl rfl rfl ib_eql) (fun a h => ?_)
    refine s_x h rfl rfl (by decide) (x_pick (u' := undef) h.k rfl rfl (fun _ => rfl) (fun hh => absurd (hB2.symm.trans hh) (by decide))) (fun a h => ?_)
    exact (h.mid 2 rfl).val (by first | rfl | (rw [hB2]; first | rfl | simp))
  · refine g_no h rfl rfl rfl rfl hB2 rfl (by decide) (fun a h => ?_)
    refine g_no h rfl rfl rfl rfl hB2 rfl (by decide) (fun a h => ?_)
    refine s_x h rfl rfl (by decide) (x_pick (u' := undef) h.k rfl rfl (fun hh => absurd (hB2.symm.trans hh) (by decide)) (fun _ => rfl)) (fun a h => ?_)
    exact (h.mid 2 rfl).val (by first | rfl | (rw [hB2]; first | rfl | simp))
  refine s_move h rfl _ rfl rfl (by decide) rfl (fun a h => ?_)
  obtain ⟨z22, hz21, hf⟩ := bsome hf
  refine q_grp h 4 (t := 25) 29 z22 rfl (fun hB6 => ?_) (fun hB6 => ?_) (fun a w h => ?_)
  · rw [if_pos hB6] at hz21
    refine g_yes h rfl rfl rfl rfl hB6 ?_
    refine s_move h rfl _ rfl rfl (by decide) rfl (fun a h => ?_)
    refine g_yes h rfl rfl rfl rfl hB6 ?_
    refine s_move h rfl _ rfl rfl (by decide) rfl (fun a h => ?_)
    refine g_yes h rfl rfl rfl rfl hB6 ?_
    obtain ⟨x24, h25, hz21⟩ := bsome hz21
    have hX := slices_Equal___api_Term_api_Term_ok Fu (S0 := snapAll _) A4 c5 x1.1 (h.m.rowAll (i := 1) rfl (j := 2) rfl hq9) A13 c14 x10.1 (h.m.rowAll (i := 0) rfl (j := 2) rfl hq18) _ h25 _ h.startAll
    refine q_callX hX h rfl rfl rfl (by decide) Try.func67 rfl rfl rfl (fun a w v L1 S1 hR hb1 h => ?_)
    obtain ⟨rfl, rfl, _⟩ := hR
    refine s_x h rfl rfl (by decide) (x_pick (u' := undef) h.k rfl rfl (fun _ => rfl) (fun hh => absurd (hB6.symm.trans hh) (by decide))) (fun a h => ?_)
    exact (h.mid 3 rfl).val (by rw [Option.some.inj hz21])
  · refine g_no h rfl rfl rfl rfl hB6 rfl (by decide) (fun a h => ?_)
    refine g_no h rfl rfl rfl rfl hB6 rfl (by decide) (fun a h => ?_)
    refine g_no h rfl rfl rfl rfl hB6 rfl (by decide) (fun a h => ?_)
    rw [if_neg (by rw [hB6]; decide)] at hz21
    refine s_x h rfl rfl (by decide) (x_pick (u' := undef) h.k rfl rfl (fun hh => absurd (hB6.symm.trans hh) (by decide)) (fun _ => rfl)) (fun a h => ?_)
    exact (h.mid 3 rfl).val (by rw [Option.some.inj hz21])
  refine s_assign h rfl _ rfl rfl (by decide) rfl (fun a h => ?_)
  refine l_end ?_
  refine wp_ret ?_
  obtain rfl := Option.some.inj hf
  exact r_ret1 h rfl (rv_tmp h rfl) ⟨_, [], _, rfl, ⟨rfl, rfl, trivial⟩, rfl, (Up.refl _ _ _), (h.m.pick [2] _ (by decide) rfl)⟩
def chatelainelaw39_atom (Fu : Nat) (a0 : Int) (a1 : Int) : Option ((Int × Int × Int)) :=
  some (1, a0, a1)
set_option maxRecDepth 100000 in
set_option maxHeartbeats 2000000 in
theorem chatelainelaw39_atom_ok (Fu : Nat) {S0 : Snap} (a0 : Int) (hra0 : r64 a0) (a1 : Int) (hra1 : r64 a1) (r : (Int × Int × Int)) (hf : chatelainelaw39_atom Fu a0 a1 = some r) (w0 : World) (hm : Mem w0 (ownL ([] ++ [.sn S0])) ([] ++ [.sn S0]) w0) :
    Calls Try.prog 61 #[.int .i64 a0, .int .i64 a1] w0 (Ret w0 S0 [] (fun v L1 S1 => ∃ (k2 : List Value), v = .agg k2.toArray ∧ L1 = [] ∧ (tyP tyI (tyP tyI tyI)).rep S1 k2 r ∧ True)) := by
  unfold chatelainelaw39_atom at hf
  refine c_enterM Try.func61 rfl 8 rfl (by simp) _ hm _ rfl (fun a h => ?_)
  refine c_rs ?_ -- region 0
  refine s_alloc h rfl rfl rfl (by decide) zi_api_Term rfl (fun a w g1 h => ?_)
  refine l_end ?_
  refine c_rs ?_ -- region 1
  refine s_move h rfl _ rfl rfl (by decide) rfl (fun a h => ?_)
  refine s_move h rfl _ rfl rfl (by decide) rfl (fun a h => ?_)
  refine s_x h rfl rfl (by decide) (x_build h.k rfl [(0, .int .i64 1), (1, .int .i64 a0), (2, .int .i64 a1)] rfl ([.int .i64 1, .int .i64 a0, .int .i64 a1]) (by kernel_rfl)) (fun a h => ?_)
  refine s_stW h rfl rfl rfl ag_api_Term rfl (es := [.int .i64 1, .int .i64 a0, .int .i64 a1]) rfl rfl (by simp [Value.oneCell']) 0 rfl rfl (fun a w h => ?_)
  refine l_end ?_
  refine wp_ret ?_
  obtain rfl := Option.some.inj hf
  exact r_ret1 h rfl (rv_cellA h rfl 0 rfl ag_api_Term rfl) ⟨_, [], _, rfl, ⟨[.int .i64 1, .int .i64 a0, .int .i64 a1], rfl, rfl, ⟨[.int .i64 1], [.int .i64 a0, .int .i64 a1], rfl, ⟨rfl, (show r64 1 from ⟨by decide, by decide⟩)⟩, ⟨[.int .i64 a0], [.int .i64 a1], rfl, ⟨rfl, hra0⟩, ⟨rfl, hra1⟩⟩⟩, trivial⟩, rfl, (Up.refl _ _ _), (h.m.pick [1] _ (by decide) rfl)⟩
def chatelainelaw39_awake (Fu : Nat) : Option Bool :=
  (chatelainelaw39_atom Fu 1 7).bind fun x1 => (chatelainelaw39_atom Fu 1 3).bind fun x13 => (twin_Rename Fu ([x1, x13])).bind fun x27 => (if x27.2 = 0 then (chatelainelaw39_atom Fu 1 0).bind fun x39 => (chatelainelaw39_atom Fu 1 1).bind fun x51 => (chatelaineref39_Same Fu x27.1 ([x39, x51])).bind fun x65 => some x65 else some false).bind fun z37 => some z37
set_option maxRecDepth 100000 in
set_option maxHeartbeats 2000000 in
theorem chatelainelaw39_awake_ok (Fu : Nat) {S0 : Snap}  (r : Bool) (hf : chatelainelaw39_awake Fu = some r) (w0 : World) (hm : Mem w0 (ownL ([] ++ [.sn S0])) ([] ++ [.sn S0]) w0) :
    Calls Try.prog 14 #[] w0 (Ret w0 S0 [] (fun v L1 S1 => v = .bool r ∧ L1 = [] ∧ True)) := by
  unfold chatelainelaw39_awake at hf
  refine c_enterM Try.func14 rfl 19 rfl (by simp) _ hm _ rfl (fun a h => ?_)
  refine c_rs ?_ -- region 0
  refine s_assign h rfl _ rfl rfl (by decide) rfl (fun a h => ?_)
  refine l_end ?_
  refine c_rs ?_ -- region 1
  obtain ⟨x1, h2, hf⟩ := bsome hf
  have hX := chatelainelaw39_atom_ok Fu (S0 := snapAll _) 1 (show r64 1 from ⟨by decide, by decide⟩) 7 (show r64 7 from ⟨by decide, by decide⟩) _ h2 _ h.startAll
  refine q_callX hX h rfl rfl rfl (by decide) Try.func61 rfl rfl rfl (fun a w v L1 S1 hR hb1 h => ?_)
  obtain ⟨k4, rfl, rfl, hv5, _⟩ := hR
  obtain ⟨k6, k7, rfl, ⟨rfl, hr8⟩, ⟨k9, k10, rfl, ⟨rfl, hr11⟩, ⟨rfl, hr12⟩⟩⟩ := hv5
  obtain ⟨x13, h14, hf⟩ := bsome hf
  have hX := chatelainelaw39_atom_ok Fu (S0 := snapAll _) 1 (show r64 1 from ⟨by decide, by decide⟩) 3 (show r64 3 from ⟨by decide, by decide⟩) _ h14 _ h.startAll
  refine q_callX hX h rfl rfl rfl (by decide) Try.func61 rfl rfl rfl (fun a w v L1 S1 hR hb1 h => ?_)
  obtain ⟨k16, rfl, rfl, hv17, _⟩ := hR
  obtain ⟨k18, k19, rfl, ⟨rfl, hr20⟩, ⟨k21, k22, rfl, ⟨rfl, hr23⟩, ⟨rfl, hr24⟩⟩⟩ := hv17
  refine q_bslice (T := tyP tyI (tyP tyI tyI)) (S := S0) h rfl rfl rfl (by decide) Try.underlying22 zi_api_Term (by decide) (by decide) (by decide) (by decide) [.agg ([.int .i64 x1.1, .int .i64 x1.2.1, .int .i64 x1.2.2]).toArray, .agg ([.int .i64 x13.1, .int .i64 x13.2.1, .int .i64 x13.2.2]).toArray] rfl rfl (C := [[.int .i64 x1.1, .int .i64 x1.2.1, .int .i64 x1.2.2], [.int .i64 x13.1, .int .i64 x13.2.1, .int .i64 x13.2.2]]) rfl (xs := [x1, x13]) ⟨[.int .i64 x1.1, .int .i64 x1.2.1, .int .i64 x1.2.2], _, rfl, ⟨[.int .i64 x1.1], [.int .i64 x1.2.1, .int .i64 x1.2.2], rfl, ⟨rfl, hr8⟩, ⟨[.int .i64 x1.2.1], [.int .i64 x1.2.2], rfl, ⟨rfl, hr11⟩, ⟨rfl, hr12⟩⟩⟩, ⟨[.int .i64 x13.1, .int .i64 x13.2.1, .int .i64 x13.2.2], _, rfl, ⟨[.int .i64 x13.1], [.int .i64 x13.2.1, .int .i64 x13.2.2], rfl, ⟨rfl, hr20⟩, ⟨[.int .i64 x13.2.1], [.int .i64 x13.2.2], rfl, ⟨rfl, hr23⟩, ⟨rfl, hr24⟩⟩⟩, rfl⟩⟩ (by simp only [List.mem_cons, List.not_mem_nil, or_false]; rintro c (rfl | rfl) <;> rfl) (fun a w A25 h => ?_)
  have hb26 : reps (tyP tyI (tyP tyI tyI)) S0 ([[.int .i64 x1.1, .int .i64 x1.2.1, .int .i64 x1.2.2], [.int .i64 x13.1, .int .i64 x13.2.1, .int .i64 x13.2.2]]).flatten [x1, x13] := ⟨[.int .i64 x1.1, .int .i64 x1.2.1, .int .i64 x1.2.2], _, rfl, ⟨[.int .i64 x1.1], [.int .i64 x1.2.1, .int .i64 x1.2.2], rfl, ⟨rfl, hr8⟩, ⟨[.int .i64 x1.2.1], [.int .i64 x1.2.2], rfl, ⟨rfl, hr11⟩, ⟨rfl, hr12⟩⟩⟩, ⟨[.int .i64 x13.1, .int .i64 x13.2.1, .int .i64 x13.2.2], _, rfl, ⟨[.int .i64 x13.1], [.int .i64 x13.2.1, .int .i64 x13.2.2], rfl, ⟨rfl, hr20⟩, ⟨[.int .i64 x13.2.1], [.int .i64 x13.2.2], rfl, ⟨rfl, hr23⟩, ⟨rfl, hr24⟩⟩⟩, rfl⟩⟩
  obtain ⟨x27, h28, hf⟩ := bsome hf
  have hX := twin_Rename_ok Fu (S0 := snapAll _) A25 2 ([x1, x13]) (h.m.rowAll (i := 0) rfl (j := 1) rfl hb26) _ h28 _ h.startAll
  refine q_callX hX h rfl rfl rfl (by decide) Try.func20 rfl rfl rfl (fun a w v L1 S1 hR hb1 h => ?_)
  obtain ⟨A30, c31, cs32, rfl, rfl, hq33, hr34, _⟩ := hR
  have hq35 := hq33.fl (S' := S0) (fl_P fl_I (fl_P fl_I fl_I))
  refine s_move h rfl _ rfl rfl (by decide) rfl (fun a h => ?_)
  refine s_x h rfl rfl (by decide) (x_ext h.k rfl rfl rfl) (fun a h => ?_)
  refine s_x h rfl rfl (by decide) (x_ext h.k rfl rfl rfl) (fun a h => ?_)
  refine s_assign h rfl _ rfl rfl (by decide) rfl (fun a h => ?_)
  refine s_assign h rfl _ rfl rfl (by decide) rfl (fun a h => ?_)
  refine l_end ?_
  refine c_rs ?_ -- region 2
  refine s_move h rfl _ rfl rfl (by decide) rfl (fun a h => ?_)
  refine s_x h rfl rfl (by decide) (x_bin h.k rfl rfl rfl ib_eql) (fun a h => ?_)
  refine s_move h rfl _ rfl rfl (by decide) rfl (fun a h => ?_)
  obtain ⟨z37, hz36, hf⟩ := bsome hf
  refine q_grp h 6 (t := 12) 18 z37 rfl (fun hB2 => ?_) (fun hB2 => ?_) (fun a w h => ?_)
  · rw [if_pos (of_decide_eq_true hB2)] at hz36
    refine g_yes h rfl rfl rfl rfl hB2 ?_
    refine s_move h rfl _ rfl rfl (by decide) rfl (fun a h => ?_)
    refine g_yes h rfl rfl rfl rfl hB2 ?_
    obtain ⟨x39, h40, hz36⟩ := bsome hz36
    have hX := chatelainelaw39_atom_ok Fu (S0 := snapAll _) 1 (show r64 1 from ⟨by decide, by decide⟩) 0 (show r64 0 from ⟨by decide, by decide⟩) _ h40 _ h.startAll
    refine q_callX hX h rfl rfl rfl (by decide) Try.func61 rfl rfl rfl (fun a w v L1 S1 hR hb1 h => ?_)
    obtain ⟨k42, rfl, rfl, hv43, _⟩ := hR
    obtain ⟨k44, k45, rfl, ⟨rfl, hr46⟩, ⟨k47, k48, rfl, ⟨rfl, hr49⟩, ⟨rfl, hr50⟩⟩⟩ := hv43
    refine g_yes h rfl rfl rfl rfl hB2 ?_
    obtain ⟨x51, h52, hz36⟩ := bsome hz36
    have hX := chatelainelaw39_atom_ok Fu (S0 := snapAll _) 1 (show r64 1 from ⟨by decide, by decide⟩) 1 (show r64 1 from ⟨by decide, by decide⟩) _ h52 _ h.startAll
    refine q_callX hX h rfl rfl rfl (by decide) Try.func61 rfl rfl rfl (fun a w v L1 S1 hR hb1 h => ?_)
    obtain ⟨k54, rfl, rfl, hv55, _⟩ := hR
    obtain ⟨k56, k57, rfl, ⟨rfl, hr58⟩, ⟨k59, k60, rfl, ⟨rfl, hr61⟩, ⟨rfl, hr62⟩⟩⟩ := hv55
    refine g_yes h rfl rfl rfl rfl hB2 ?_
    refine q_bslice (T := tyP tyI (tyP tyI tyI)) (S := S0) h rfl rfl rfl (by decide) Try.underlying22 zi_api_Term (by decide) (by decide) (by decide) (by decide) [.agg ([.int .i64 x39.1, .int .i64 x39.2.1, .int .i64 x39.2.2]).toArray, .agg ([.int .i64 x51.1, .int .i64 x51.2.1, .int .i64 x51.2.2]).toArray] rfl rfl (C := [[.int .i64 x39.1, .int .i64 x39.2.1, .int .i64 x39.2.2], [.int .i64 x51.1, .int .i64 x51.2.1, .int .i64 x51.2.2]]) rfl (xs := [x39, x51]) ⟨[.int .i64 x39.1, .int .i64 x39.2.1, .int .i64 x39.2.2], _, rfl, ⟨[.int .i64 x39.1], [.int .i64 x39.2.1, .int .i64 x39.2.2], rfl, ⟨rfl, hr46⟩, ⟨[.int .i64 x39.2.1], [.int .i64 x39.2.2], rfl, ⟨rfl, hr49⟩, ⟨rfl, hr50⟩⟩⟩, ⟨[.int .i64 x51.1, .int .i64 x51.2.1, .int .i64 x51.2.2], _, rfl, ⟨[.int .i64 x51.1], [.int .i64 x51.2.1, .int .i64 x51.2.2], rfl, ⟨rfl, hr58⟩, ⟨[.int .i64 x51.2.1], [.int .i64 x51.2.2], rfl, ⟨rfl, hr61⟩, ⟨rfl, hr62⟩⟩⟩, rfl⟩⟩ (by simp only [List.mem_cons, List.not_mem_nil, or_false]; rintro c (rfl | rfl) <;> rfl) (fun a w A63 h => ?_)
    have hb64 : reps (tyP tyI (tyP tyI tyI)) S0 ([[.int .i64 x39.1, .int .i64 x39.2.1, .int .i64 x39.2.2], [.int .i64 x51.1, .int .i64 x51.2.1, .int .i64 x51.2.2]]).flatten [x39, x51] := ⟨[.int .i64 x39.1, .int .i64 x39.2.1, .int .i64 x39.2.2], _, rfl, ⟨[.int .i64 x39.1], [.int .i64 x39.2.1, .int .i64 x39.2.2], rfl, ⟨rfl, hr46⟩, ⟨[.int .i64 x39.2.1], [.int .i64 x39.2.2], rfl, ⟨rfl, hr49⟩, ⟨rfl, hr50⟩⟩⟩, ⟨[.int .i64 x51.1, .int .i64 x51.2.1, .int .i64 x51.2.2], _, rfl, ⟨[.int .i64 x51.1], [.int .i64 x51.2.1, .int .i64 x51.2.2], rfl, ⟨rfl, hr58⟩, ⟨[.int .i64 x51.2.1], [.int .i64 x51.2.2], rfl, ⟨rfl, hr61⟩, ⟨rfl, hr62⟩⟩⟩, rfl⟩⟩
    refine g_yes h rfl rfl rfl rfl hB2 ?_
    obtain ⟨x65, h66, hz36⟩ := bsome hz36
    have hX := chatelaineref39_Same_ok Fu (S0 := snapAll _) A30 c31 x27.1 (h.m.rowAll (i := 1) rfl (j := 3) rfl hq35) A63 2 ([x39, x51]) (h.m.rowAll (i := 0) rfl (j := 3) rfl hb64) _ h66 _ h.startAll
    refine q_callX hX h rfl rfl rfl (by decide) Try.func21 rfl rfl rfl (fun a w v L1 S1 hR hb1 h => ?_)
    obtain ⟨rfl, rfl, _⟩ := hR
    refine s_x h rfl rfl (by decide) (x_pick (u' := undef) h.k rfl rfl (fun _ => rfl) (fun hh => absurd (hB2.symm.trans hh) (by decide))) (fun a h => ?_)
    have h := h.pick [1, 2, 3] (by decide) rfl
    exact (h.mid 5 rfl).val (by rw [Option.some.inj hz36])
  · refine g_no h rfl rfl rfl rfl hB2 rfl (by decide) (fun a h => ?_)
    refine g_no h rfl rfl rfl rfl hB2 rfl (by decide) (fun a h => ?_)
    refine g_no h rfl rfl rfl rfl hB2 rfl (by decide) (fun a h => ?_)
    refine g_no h rfl rfl rfl rfl hB2 rfl (by decide) (fun a h => ?_)
    refine g_no h rfl rfl rfl rfl hB2 rfl (by decide) (fun a h => ?_)
    rw [if_neg (of_decide_eq_false hB2)] at hz36
    refine s_x h rfl rfl (by decide) (x_pick (u' := undef) h.k rfl rfl (fun hh => absurd (hB2.symm.trans hh) (by decide)) (fun _ => rfl)) (fun a h => ?_)
    exact (h.mid 5 rfl).val (by rw [Option.some.inj hz36])
  refine s_assign h rfl _ rfl rfl (by decide) rfl (fun a h => ?_)
  refine l_end ?_
  refine wp_ret ?_
  obtain rfl := Option.some.inj hf
  exact r_ret1 h rfl (rv_tmp h rfl) ⟨_, [], _, rfl, ⟨rfl, rfl, trivial⟩, rfl, (Up.refl _ _ _), (h.m.pick [2] _ (by decide) rfl)⟩
end Go.Proofs.Ytlgcfnbhnpnkiaa
