/- Eb: Go functions as plain functions, and that they are so (written by xt.py). -/
import Derived.Test.YtdahdlidpplllaaEa
set_option linter.unusedVariables false
set_option linter.unusedSimpArgs false
namespace Go.Proofs.Ytdahdlidpplllaa
open Go.RowKit
def chatelaineref01_Same_l0 (Fu : Nat) (a0 : List UInt8) (a1 : List UInt8) : Nat → Int → Option (Sum Bool Unit)
  | 0, _ => none
  | k + 1, x3 => if x3 < (a0.length : Int) then ((idx a0 x3).bind fun x7 => (idx a1 x3).bind fun x19 => if (x7.toNat : Int) ≠ (x19.toNat : Int) then (some (.inl false)) else (chatelaineref01_Same_l0 Fu a0 a1 k (w64 (x3 + 1)))) else (some (.inr ()))
def chatelaineref01_Same (Fu : Nat) (a0 : List UInt8) (a1 : List UInt8) : Option Bool :=
  if (a0.length : Int) ≠ (a1.length : Int) then (some false) else ((chatelaineref01_Same_l0 Fu a0 a1 Fu 0).bind fun o => match o with | .inl r31 => some r31 | .inr _ => some true)
set_option maxRecDepth 100000 in
set_option maxHeartbeats 2000000 in
theorem chatelaineref01_Same_ok (Fu : Nat) {S0 : Snap} (Aa0 : Option Addr) (ca0 : Nat) (a0 : List UInt8) (hsa0 : slS ty8 S0 Aa0 ca0 a0) (Aa1 : Option Addr) (ca1 : Nat) (a1 : List UInt8) (hsa1 : slS ty8 S0 Aa1 ca1 a1) (r : Bool) (hf : chatelaineref01_Same Fu a0 a1 = some r) (w0 : World) (hm : Mem w0 (ownL ([] ++ [.sn S0])) ([] ++ [.sn S0]) w0) :
    Calls Try.prog 19 #[.slice Aa0 a0.length ca0, .slice Aa1 a1.length ca1] w0 (Ret w0 S0 [] (fun v L1 S1 => v = .bool r ∧ L1 = [] ∧ True)) := by
  unfold chatelaineref01_Same at hf
  refine c_enterM Try.func19 rfl 26 rfl (by simp) _ hm _ rfl (fun a h => ?_)
  refine c_rs ?_ -- region 0
  refine s_assign h rfl _ rfl rfl (by decide) rfl (fun a h => ?_)
  refine l_end ?_
  refine wp_seq ?_
  refine c_rs ?_ -- region 1
  refine s_move h rfl _ rfl rfl (by decide) rfl (fun a h => ?_)
  refine s_x h rfl rfl (by decide) (x_len h.k rfl Try.underlying23 rfl) (fun a h => ?_)
  refine s_move h rfl _ rfl rfl (by decide) rfl (fun a h => ?_)
  refine s_x h rfl rfl (by decide) (x_len h.k rfl Try.underlying23 rfl) (fun a h => ?_)
  refine s_x h rfl rfl (by decide) (x_bin h.k rfl rfl rfl ib_neq) (fun a h => ?_)
  refine l_end ?_
  refine c_cond h rfl (fun hb => ?_) (fun hb => ?_)
  · rw [if_pos (of_decide_eq_true hb)] at hf
    refine c_rs ?_ -- region 2
    refine s_assign h rfl _ rfl rfl (by decide) rfl (fun a h => ?_)
    refine l_end ?_
    refine wp_ret ?_
    refine e_thenR ?_
    obtain rfl := Option.some.inj hf
    exact r_ret1 h rfl (rv_tmp h rfl) ⟨_, [], _, rfl, ⟨rfl, rfl, trivial⟩, rfl, (Up.refl _ _ _), h.m⟩
  · rw [if_neg (of_decide_eq_false hb)] at hf
    refine wp_skip ?_
    refine e_thenN ?_
    refine wp_seq ?_
    refine c_rs ?_ -- region 3
    refine s_assign h rfl _ rfl rfl (by decide) rfl (fun a h => ?_)
    refine l_end ?_
    obtain ⟨o1, hl2, hf⟩ := bsome hf
    refine c_fin (fun a w => (.inr ()) = o1 ∧ St 26 w0 (ownL ([] ++ [.sn S0])) [] [.sn S0] a w) ?_ ?_
    · refine wp_block ?_
      refine c_loop (fun m6 a w => ∃ (x3 : Int), chatelaineref01_Same_l0 Fu a0 a1 m6 x3 = some o1 ∧ r64 x3 ∧ St 26 w0 (ownL ([] ++ [.sn S0])) [(0, .slice Aa0 a0.length ca0), (1, .slice Aa1 a1.length ca1), (5, .int .i64 x3)] [.sn S0] a w) Fu ⟨0, hl2, (show r64 0 from ⟨by decide, by decide⟩), h.has (by exact ⟨rfl, rfl, rfl, trivial⟩)⟩ (fun m6 a w hI => ?_)
      obtain ⟨x3, hl5, hr4, h⟩ := hI
      obtain _ | m6 := m6
      · rw [chatelaineref01_Same_l0] at hl5; cases hl5
      rw [chatelaineref01_Same_l0] at hl5
      refine wp_seq ?_
      refine c_rs ?_ -- region 4
      refine s_move h rfl _ rfl rfl (by decide) rfl (fun a h => ?_)
      refine s_move h rfl _ rfl rfl (by decide) rfl (fun a h => ?_)
      refine s_x h rfl rfl (by decide) (x_len h.k rfl Try.underlying23 rfl) (fun a h => ?_)
      refine s_x h rfl rfl (by decide) (x_bin h.k rfl rfl rfl ib_lss) (fun a h => ?_)
      refine l_end ?_
      refine c_cond h rfl (fun hb => ?_) (fun hb => ?_)
      · rw [if_pos (of_decide_eq_true hb)] at hl5
        refine wp_skip ?_
        refine e_thenN ?_
        refine wp_seq ?_
        refine wp_block ?_
        refine wp_seq ?_
        -- region 6 draws
        obtain ⟨x7, h11, hl5⟩ := bsome hl5
        obtain ⟨x19, h23, hl5⟩ := bsome hl5
        refine d_start h (Mem _ _ _) 9 9 rfl (by kernel_rfl) (fun _ _ _ _ _ h => h) (fun _ h => h) (fun Q a w HE HN h HS => ?_)
        refine d_takeP h (fun _ => HS) HN 0 rfl (by kernel_rfl) (by kernel_rfl) (by kernel_rfl) (by decide) rfl rfl (by decide) (fun w' => x_move h.k _ rfl rfl) (fun a h => ?_)
        refine d_takeP h (fun _ => HS) HN 1 rfl (by kernel_rfl) (by kernel_rfl) (by kernel_rfl) (by decide) rfl rfl (by decide) (fun w' => x_move h.k _ rfl rfl) (fun a h => ?_)
        obtain ⟨m8, hi12, hm13, hx14⟩ := idx_some h11
        obtain ⟨b9, off10, k15, hA16, hu17, hc18⟩ := (hsa0).at1 rfl hx14 (h.m.snOK (i := 0) rfl)
        cases hu17
        refine d_takeP h (fun _ => HS) HN 2 rfl (by kernel_rfl) (by kernel_rfl) (by kernel_rfl) (by decide) rfl rfl (by decide) (fun w' => x_iaddrE h.k rfl Try.underlying23 sz_uint8 hA16 rfl rfl hi12 hm13) (fun a h => ?_)
        refine d_take h HS HN 3 rfl (by kernel_rfl) (by kernel_rfl) (by kernel_rfl) (by kernel_rfl) (by kernel_rfl) rfl rfl (by decide) (fun w' hw => x_ld h.k rfl Try.underlying5 rfl rfl (hc18 _ (hw.snOK (i := 0) rfl))) (fun a h => ?_)
        refine d_takeP h (fun _ => HS) HN 4 rfl (by kernel_rfl) (by kernel_rfl) (by kernel_rfl) (by decide) rfl rfl (by decide) (fun w' => x_move h.k _ rfl rfl) (fun a h => ?_)
        refine d_takeP h (fun _ => HS) HN 5 rfl (by kernel_rfl) (by kernel_rfl) (by kernel_rfl) (by decide) rfl rfl (by decide) (fun w' => x_move h.k _ rfl rfl) (fun a h => ?_)
        obtain ⟨m20, hi24, hm25, hx26⟩ := idx_some h23
        obtain ⟨b21, off22, k27, hA28, hu29, hc30⟩ := (hsa1).at1 rfl hx26 (h.m.snOK (i := 0) rfl)
        cases hu29
        refine d_takeP h (fun _ => HS) HN 6 rfl (by kernel_rfl) (by kernel_rfl) (by kernel_rfl) (by decide) rfl rfl (by decide) (fun w' => x_iaddrE h.k rfl Try.underlying23 sz_uint8 hA28 rfl rfl hi24 hm25) (fun a h => ?_)
        refine d_take h HS HN 7 rfl (by kernel_rfl) (by kernel_rfl) (by kernel_rfl) (by kernel_rfl) (by kernel_rfl) rfl rfl (by decide) (fun w' hw => x_ld h.k rfl Try.underlying5 rfl rfl (hc30 _ (hw.snOK (i := 0) rfl))) (fun a h => ?_)
        refine d_takeP h (fun _ => HS) HN 8 rfl (by kernel_rfl) (by kernel_rfl) (by kernel_rfl) (by decide) rfl rfl (by decide) (fun w' => x_bin h.k rfl rfl rfl ib_neq) (fun a h => ?_)
        refine d_done (by kernel_rfl) (HE _ _ ?_) _
        refine e_thenN ?_
        refine c_cond h rfl (fun hb => ?_) (fun hb => ?_)
        · rw [if_pos (of_decide_eq_true hb)] at hl5
          refine c_rs ?_ -- region 7
          refine s_assign h rfl _ rfl rfl (by decide) rfl (fun a h => ?_)
          refine l_end ?_
          refine wp_ret ?_
          refine e_blkR ?_
          refine e_thenR ?_
          refine e_thenR ?_
          refine e_blkR ?_
          refine e_thenR ?_
          cases hl5
          try dsimp only at hf
          refine e_thenR ?_
          obtain rfl := Option.some.inj hf
          exact r_ret1 h rfl (rv_tmp h rfl) ⟨_, [], _, rfl, ⟨rfl, rfl, trivial⟩, rfl, (Up.refl _ _ _), h.m⟩
        · rw [if_neg (of_decide_eq_false hb)] at hl5
          refine wp_skip ?_
          refine e_blkN ?_
          refine e_thenN ?_
          refine c_r ?_ -- region 5
          refine s_move h rfl _ rfl rfl (by decide) rfl (fun a h => ?_)
          refine s_x h rfl rfl (by decide) (x_bin h.k rfl rfl rfl (ib_add rfl)) (fun a h => ?_)
          refine s_assign h rfl _ rfl rfl (by decide) rfl (fun a h => ?_)
          refine l_nil ?_
          exact e_thenN ⟨m6, Nat.lt_succ_self _, w64 (x3 + 1), hl5, (w64_r _), h.has (by exact ⟨rfl, rfl, rfl, trivial⟩)⟩
      · rw [if_neg (of_decide_eq_false hb)] at hl5
        refine wp_exit ?_
        refine e_thenX ?_
        refine e_thenX ?_
        refine e_blkX ?_
        refine e_thenN ?_
        exact ⟨(Option.some.inj hl5), h.has trivial⟩
    · rintro a w ⟨rfl, h⟩
      try dsimp only at hf
      refine e_thenN ?_
      refine c_rs ?_ -- region 8
      refine s_assign h rfl _ rfl rfl (by decide) rfl (fun a h => ?_)
      refine l_end ?_
      refine wp_ret ?_
      obtain rfl := Option.some.inj hf
      exact r_ret1 h rfl (rv_tmp h rfl) ⟨_, [], _, rfl, ⟨rfl, rfl, trivial⟩, rfl, (Up.refl _ _ _), h.m⟩
def en_api_Term (x : Int × Int × Int) : List Value := [.int .i64 x.1, .int .i64 x.2.1, .int .i64 x.2.2]
theorem gd_api_Term : Try.prog.eqGuardType Try.prog.depth 89 = false := by kernel_rfl
theorem eqs_api_Term (w : World) (x y : Int × Int × Int) : (Op.equalIn 10000 89 (.agg (en_api_Term x).toArray) (.agg (en_api_Term y).toArray)).run Try.prog w = .ok (decide (x = y)) w := by
  have hq : Try.prog.stoodInHeld 89 = false := by kernel_rfl
  rw [run_equalIn_struct w 9999 _ _ _ (by simp only [Program.fieldsOf, Try.underlying89]) hq]
  simp only [Program.fieldsOf, Try.underlying89]
  refine Eq.trans (b := .ok ((x.1 == y.1) && ((x.2.1 == y.2.1) && ((x.2.2 == y.2.2) && true))) w) ?_ ?_
  · refine eqf_cons' (by decide) (part_one w Try.underlying3 rfl _ _ _ rfl) (part_one w Try.underlying3 rfl _ _ _ rfl) (run_equalIn_int w 9998 _ .i64 .i64 _ _ Try.underlying3) ?_
    refine eqf_cons' (by decide) (part_one w Try.underlying3 rfl _ _ _ rfl) (part_one w Try.underlying3 rfl _ _ _ rfl) (run_equalIn_int w 9998 _ .i64 .i64 _ _ Try.underlying3) ?_
    refine eqf_cons' (by decide) (part_one w Try.underlying3 rfl _ _ _ rfl) (part_one w Try.underlying3 rfl _ _ _ rfl) (run_equalIn_int w 9998 _ .i64 .i64 _ _ Try.underlying3) ?_
    exact eqf_nil'
  · refine congrArg (fun b => Result.ok b w) ?_
    obtain ⟨x0, x1, x2⟩ := x
    obtain ⟨y0, y1, y2⟩ := y
    rw [Bool.eq_iff_iff]
    simp
def chatelaineref39_In_l0 (Fu : Nat) (a0 : List (Int × Int × Int)) (a1 : Int × Int × Int) : Nat → Int → Option (Sum Bool Unit)
  | 0, _ => none
  | k + 1, x11 => if x11 < (a0.length : Int) then ((idx a0 x11).bind fun x15 => if x15 = a1 then (some (.inl true)) else (chatelaineref39_In_l0 Fu a0 a1 k (w64 (x11 + 1)))) else (some (.inr ()))
def chatelaineref39_In (Fu : Nat) (a0 : List (Int × Int × Int)) (a1 : Int × Int × Int) : Option Bool :=
  (chatelaineref39_In_l0 Fu a0 a1 Fu 0).bind fun o => match o with | .inl r34 => some r34 | .inr _ => some false
set_option maxRecDepth 100000 in
set_option maxHeartbeats 2000000 in
theorem chatelaineref39_In_ok (Fu : Nat) {S0 : Snap} (Aa0 : Option Addr) (ca0 : Nat) (a0 : List (Int × Int × Int)) (hsa0 : slS (tyP tyI (tyP tyI tyI)) S0 Aa0 ca0 a0) (csa1 : List Value) (a1 : Int × Int × Int) (hsa1 : (tyP tyI (tyP tyI tyI)).rep S0 csa1 a1) (r : Bool) (hf : chatelaineref39_In Fu a0 a1 = some r) (w0 : World) (hm : Mem w0 (ownL ([] ++ [.sn S0])) ([] ++ [.sn S0]) w0) :
    Calls Try.prog 89 #[.slice Aa0 a0.length ca0, .agg csa1.toArray] w0 (Ret w0 S0 [] (fun v L1 S1 => v = .bool r ∧ L1 = [] ∧ True)) := by
  unfold chatelaineref39_In at hf
  obtain ⟨k1, k2, rfl, ⟨rfl, hr3⟩, ⟨k4, k5, rfl, ⟨rfl, hr6⟩, ⟨rfl, hr7⟩⟩⟩ := hsa1
  refine c_enterM Try.func89 rfl 18 rfl (by simp) _ hm _ rfl (fun a h => ?_)
  refine c_rs ?_ -- region 0
  refine s_box h rfl rfl rfl (by decide) rfl (cs := [.int .i64 a1.1, .int .i64 a1.2.1, .int .i64 a1.2.2]) (by rfl) (fun a w g8 h => ?_)
  refine s_assign h rfl _ rfl rfl (by decide) rfl (fun a h => ?_)
  refine l_end ?_
  refine wp_seq ?_
  refine c_rs ?_ -- region 1
  refine s_assign h rfl _ rfl rfl (by decide) rfl (fun a h => ?_)
  refine l_end ?_
  obtain ⟨o9, hl10, hf⟩ := bsome hf
  refine c_fin (fun a w => (.inr ()) = o9 ∧ St 18 w0 (ownL ([] ++ [.sn S0])) [] [.sn S0] a w) ?_ ?_
  · refine wp_block ?_
    refine c_loop (fun m14 a w => ∃ (x11 : Int), chatelaineref39_In_l0 Fu a0 a1 m14 x11 = some o9 ∧ r64 x11 ∧ St 18 w0 (ownL ([] ++ [.sn S0])) [(0, .slice Aa0 a0.length ca0), (3, .pointer (some ⟨g8, 0, none⟩)), (5, .int .i64 x11)] [.box g8 89 ([.int .i64 a1.1, .int .i64 a1.2.1, .int .i64 a1.2.2]), .sn S0] a w) Fu ⟨0, hl10, (show r64 0 from ⟨by decide, by decide⟩), h.has (by exact ⟨rfl, rfl, rfl, trivial⟩)⟩ (fun m14 a w hI => ?_)
    obtain ⟨x11, hl13, hr12, h⟩ := hI
    obtain _ | m14 := m14
    · rw [chatelaineref39_In_l0] at hl13; cases hl13
    rw [chatelaineref39_In_l0] at hl13
    refine wp_seq ?_
    refine c_rs ?_ -- region 2
    refine s_move h rfl _ rfl rfl (by decide) rfl (fun a h => ?_)
    refine s_move h rfl _ rfl rfl (by decide) rfl (fun a h => ?_)
    refine s_x h rfl rfl (by decide) (x_len h.k rfl Try.underlying81 rfl) (fun a h => ?_)
    refine s_x h rfl rfl (by decide) (x_bin h.k rfl rfl rfl ib_lss) (fun a h => ?_)
    refine l_end ?_
    refine c_cond h rfl (fun hb => ?_) (fun hb => ?_)
    · rw [if_pos (of_decide_eq_true hb)] at hl13
      refine wp_skip ?_
      refine e_thenN ?_
      refine wp_seq ?_
      refine wp_block ?_
      refine wp_seq ?_
      -- region 4 draws
      obtain ⟨x15, h19, hl13⟩ := bsome hl13
      refine d_start h (Mem _ _ _) 6 6 rfl (by kernel_rfl) (fun _ _ _ _ _ h => h) (fun _ h => h) (fun Q a w HE HN h HS => ?_)
      refine d_takeP h (fun _ => HS) HN 0 rfl (by kernel_rfl) (by kernel_rfl) (by kernel_rfl) (by decide) rfl rfl (by decide) (fun w' => x_move h.k _ rfl rfl) (fun a h => ?_)
      refine d_takeP h (fun _ => HS) HN 1 rfl (by kernel_rfl) (by kernel_rfl) (by kernel_rfl) (by decide) rfl rfl (by decide) (fun w' => x_move h.k _ rfl rfl) (fun a h => ?_)
      obtain ⟨m16, hi20, hm21, hx22⟩ := idx_some h19
      obtain ⟨b17, off18, k23, hA24, hu25, hc26⟩ := (hsa0).at (by decide) hx22 (h.m.snOK (i := 1) rfl)
      obtain ⟨k27, k28, rfl, ⟨rfl, hr29⟩, ⟨k30, k31, rfl, ⟨rfl, hr32⟩, ⟨rfl, hr33⟩⟩⟩ := hu25
      refine d_takeP h (fun _ => HS) HN 2 rfl (by kernel_rfl) (by kernel_rfl) (by kernel_rfl) (by decide) rfl rfl (by decide) (fun w' => x_iaddrE h.k rfl Try.underlying81 sz_api_Term hA24 rfl rfl hi20 hm21) (fun a h => ?_)
      refine d_take h HS HN 3 rfl (by kernel_rfl) (by kernel_rfl) (by kernel_rfl) (by kernel_rfl) (by kernel_rfl) rfl rfl (by decide) (fun w' hw => x_ldR h.k rfl ag_api_Term rfl ([.int .i64 x15.1, .int .i64 x15.2.1, .int .i64 x15.2.2]) rfl (hc26 _ (hw.snOK (i := 1) rfl))) (fun a h => ?_)
      refine d_take h HS HN 4 rfl (by kernel_rfl) (by kernel_rfl) (by kernel_rfl) (by kernel_rfl) (by kernel_rfl) rfl rfl (by decide) (fun w' hw => x_ldR h.k rfl ag_api_Term rfl ([.int .i64 a1.1, .int .i64 a1.2.1, .int .i64 a1.2.2]) rfl (hw.range0 (i := 0) rfl)) (fun a h => ?_)
      refine d_takeP h (fun _ => HS) HN 5 rfl (by kernel_rfl) (by kernel_rfl) (by kernel_rfl) (by decide) rfl rfl (by decide) (fun w' => x_eqlS h.k rfl rfl rfl gd_api_Term (eqs_api_Term _ x15 a1)) (fun a h => ?_)
      refine d_done (by kernel_rfl) (HE _ _ ?_) _
      refine e_thenN ?_
      refine c_cond h rfl (fun hb => ?_) (fun hb => ?_)
      · rw [if_pos (of_decide_eq_true hb)] at hl13
        refine c_rs ?_ -- region 5
        refine s_assign h rfl _ rfl rfl (by decide) rfl (fun a h => ?_)
        refine l_end ?_
        refine wp_ret ?_
        refine e_blkR ?_
        refine e_thenR ?_
        refine e_thenR ?_
        refine e_blkR ?_
        refine e_thenR ?_
        cases hl13
        try dsimp only at hf
        refine e_thenR ?_
        obtain rfl := Option.some.inj hf
        exact r_ret1 h rfl (rv_tmp h rfl) ⟨_, [], _, rfl, ⟨rfl, rfl, trivial⟩, rfl, (Up.refl _ _ _), (h.m.pick [1] _ (by decide) rfl)⟩
      · rw [if_neg (of_decide_eq_false hb)] at hl13
        refine wp_skip ?_
        refine e_blkN ?_
        refine e_thenN ?_
        refine c_r ?_ -- region 3
        refine s_move h rfl _ rfl rfl (by decide) rfl (fun a h => ?_)
        refine s_x h rfl rfl (by decide) (x_bin h.k rfl rfl rfl (ib_add rfl)) (fun a h => ?_)
        refine s_assign h rfl _ rfl rfl (by decide) rfl (fun a h => ?_)
        refine l_nil ?_
        exact e_thenN ⟨m14, Nat.lt_succ_self _, w64 (x11 + 1), hl13, (w64_r _), h.has (by exact ⟨rfl, rfl, rfl, trivial⟩)⟩
    · rw [if_neg (of_decide_eq_false hb)] at hl13
      refine wp_exit ?_
      refine e_thenX ?_
      refine e_thenX ?_
      refine e_blkX ?_
      refine e_thenN ?_
      have h := h.pick [1] (by decide) rfl
      exact ⟨(Option.some.inj hl13), h.has trivial⟩
  · rintro a w ⟨rfl, h⟩
    try dsimp only at hf
    refine e_thenN ?_
    refine c_rs ?_ -- region 6
    refine s_assign h rfl _ rfl rfl (by decide) rfl (fun a h => ?_)
    refine l_end ?_
    refine wp_ret ?_
    obtain rfl := Option.some.inj hf
    exact r_ret1 h rfl (rv_tmp h rfl) ⟨_, [], _, rfl, ⟨rfl, rfl, trivial⟩, rfl, (Up.refl _ _ _), h.m⟩
def chatelaineref39_Same_l0 (Fu : Nat) (a0 : List (Int × Int × Int)) (a1 : List (Int × Int × Int)) : Nat → Int → Option (Sum Bool Unit)
  | 0, _ => none
  | k + 1, x3 => if x3 < (a0.length : Int) then ((idx a0 x3).bind fun x7 => (idx a1 x3).bind fun x26 => if (!(decide (x7 = x26))) = true then (some (.inl false)) else (chatelaineref39_Same_l0 Fu a0 a1 k (w64 (x3 + 1)))) else (some (.inr ()))
def chatelaineref39_Same (Fu : Nat) (a0 : List (Int × Int × Int)) (a1 : List (Int × Int × Int)) : Option Bool :=
  if (a0.length : Int) ≠ (a1.length : Int) then (some false) else ((chatelaineref39_Same_l0 Fu a0 a1 Fu 0).bind fun o => match o with | .inl r45 => some r45 | .inr _ => some true)
set_option maxRecDepth 100000 in
set_option maxHeartbeats 2000000 in
theorem chatelaineref39_Same_ok (Fu : Nat) {S0 : Snap} (Aa0 : Option Addr) (ca0 : Nat) (a0 : List (Int × Int × Int)) (hsa0 : slS (tyP tyI (tyP tyI tyI)) S0 Aa0 ca0 a0) (Aa1 : Option Addr) (ca1 : Nat) (a1 : List (Int × Int × Int)) (hsa1 : slS (tyP tyI (tyP tyI tyI)) S0 Aa1 ca1 a1) (r : Bool) (hf : chatelaineref39_Same Fu a0 a1 = some r) (w0 : World) (hm : Mem w0 (ownL ([] ++ [.sn S0])) ([] ++ [.sn S0]) w0) :
    Calls Try.prog 56 #[.slice Aa0 a0.length ca0, .slice Aa1 a1.length ca1] w0 (Ret w0 S0 [] (fun v L1 S1 => v = .bool r ∧ L1 = [] ∧ True)) := by
  unfold chatelaineref39_Same at hf
  refine c_enterM Try.func56 rfl 26 rfl (by simp) _ hm _ rfl (fun a h => ?_)
  refine c_rs ?_ -- region 0
  refine s_assign h rfl _ rfl rfl (by decide) rfl (fun a h => ?_)
  refine l_end ?_
  refine wp_seq ?_
  refine c_rs ?_ -- region 1
  refine s_move h rfl _ rfl rfl (by decide) rfl (fun a h => ?_)
  refine s_x h rfl rfl (by decide) (x_len h.k rfl Try.underlying81 rfl) (fun a h => ?_)
  refine s_move h rfl _ rfl rfl (by decide) rfl (fun a h => ?_)
  refine s_x h rfl rfl (by decide) (x_len h.k rfl Try.underlying81 rfl) (fun a h => ?_)
  refine s_x h rfl rfl (by decide) (x_bin h.k rfl rfl rfl ib_neq) (fun a h => ?_)
  refine l_end ?_
  refine c_cond h rfl (fun hb => ?_) (fun hb => ?_)
  · rw [if_pos (of_decide_eq_true hb)] at hf
    refine c_rs ?_ -- region 2
    refine s_assign h rfl _ rfl rfl (by decide) rfl (fun a h => ?_)
    refine l_end ?_
    refine wp_ret ?_
    refine e_thenR ?_
    obtain rfl := Option.some.inj hf
    exact r_ret1 h rfl (rv_tmp h rfl) ⟨_, [], _, rfl, ⟨rfl, rfl, trivial⟩, rfl, (Up.refl _ _ _), h.m⟩
  · rw [if_neg (of_decide_eq_false hb)] at hf
    refine wp_skip ?_
    refine e_thenN ?_
    refine wp_seq ?_
    refine c_rs ?_ -- region 3
    refine s_assign h rfl _ rfl rfl (by decide) rfl (fun a h => ?_)
    refine l_end ?_
    obtain ⟨o1, hl2, hf⟩ := bsome hf
    refine c_fin (fun a w => (.inr ()) = o1 ∧ St 26 w0 (ownL ([] ++ [.sn S0])) [] [.sn S0] a w) ?_ ?_
    · refine wp_block ?_
      refine c_loop (fun m6 a w => ∃ (x3 : Int), chatelaineref39_Same_l0 Fu a0 a1 m6 x3 = some o1 ∧ r64 x3 ∧ St 26 w0 (ownL ([] ++ [.sn S0])) [(0, .slice Aa0 a0.length ca0), (1, .slice Aa1 a1.length ca1), (5, .int .i64 x3)] [.sn S0] a w) Fu ⟨0, hl2, (show r64 0 from ⟨by decide, by decide⟩), h.has (by exact ⟨rfl, rfl, rfl, trivial⟩)⟩ (fun m6 a w hI => ?_)
      obtain ⟨x3, hl5, hr4, h⟩ := hI
      obtain _ | m6 := m6
      · rw [chatelaineref39_Same_l0] at hl5; cases hl5
      rw [chatelaineref39_Same_l0] at hl5
      refine wp_seq ?_
      refine c_rs ?_ -- region 4
      refine s_move h rfl _ rfl rfl (by decide) rfl (fun a h => ?_)
      refine s_move h rfl _ rfl rfl (by decide) rfl (fun a h => ?_)
      refine s_x h rfl rfl (by decide) (x_len h.k rfl Try.underlying81 rfl) (fun a h => ?_)
      refine s_x h rfl rfl (by decide) (x_bin h.k rfl rfl rfl ib_lss) (fun a h => ?_)
      refine l_end ?_
      refine c_cond h rfl (fun hb => ?_) (fun hb => ?_)
      · rw [if_pos (of_decide_eq_true hb)] at hl5
        refine wp_skip ?_
        refine e_thenN ?_
        refine wp_seq ?_
        refine wp_block ?_
        refine wp_seq ?_
        -- region 6 draws
        obtain ⟨x7, h11, hl5⟩ := bsome hl5
        obtain ⟨x26, h30, hl5⟩ := bsome hl5
        refine d_start h (Mem _ _ _) 9 9 rfl (by kernel_rfl) (fun _ _ _ _ _ h => h) (fun _ h => h) (fun Q a w HE HN h HS => ?_)
        refine d_takeP h (fun _ => HS) HN 0 rfl (by kernel_rfl) (by kernel_rfl) (by kernel_rfl) (by decide) rfl rfl (by decide) (fun w' => x_move h.k _ rfl rfl) (fun a h => ?_)
        refine d_takeP h (fun _ => HS) HN 1 rfl (by kernel_rfl) (by kernel_rfl) (by kernel_rfl) (by decide) rfl rfl (by decide) (fun w' => x_move h.k _ rfl rfl) (fun a h => ?_)
        obtain ⟨m8, hi12, hm13, hx14⟩ := idx_some h11
        obtain ⟨b9, off10, k15, hA16, hu17, hc18⟩ := (hsa0).at (by decide) hx14 (h.m.snOK (i := 0) rfl)
        obtain ⟨k19, k20, rfl, ⟨rfl, hr21⟩, ⟨k22, k23, rfl, ⟨rfl, hr24⟩, ⟨rfl, hr25⟩⟩⟩ := hu17
        refine d_takeP h (fun _ => HS) HN 2 rfl (by kernel_rfl) (by kernel_rfl) (by kernel_rfl) (by decide) rfl rfl (by decide) (fun w' => x_iaddrE h.k rfl Try.underlying81 sz_api_Term hA16 rfl rfl hi12 hm13) (fun a h => ?_)
        refine d_take h HS HN 3 rfl (by kernel_rfl) (by kernel_rfl) (by kernel_rfl) (by kernel_rfl) (by kernel_rfl) rfl rfl (by decide) (fun w' hw => x_ldR h.k rfl ag_api_Term rfl ([.int .i64 x7.1, .int .i64 x7.2.1, .int .i64 x7.2.2]) rfl (hc18 _ (hw.snOK (i := 0) rfl))) (fun a h => ?_)
        refine d_takeP h (fun _ => HS) HN 4 rfl (by kernel_rfl) (by kernel_rfl) (by kernel_rfl) (by decide) rfl rfl (by decide) (fun w' => x_move h.k _ rfl rfl) (fun a h => ?_)
        refine d_takeP h (fun _ => HS) HN 5 rfl (by kernel_rfl) (by kernel_rfl) (by kernel_rfl) (by decide) rfl rfl (by decide) (fun w' => x_move h.k _ rfl rfl) (fun a h => ?_)
        obtain ⟨m27, hi31, hm32, hx33⟩ := idx_some h30
        obtain ⟨b28, off29, k34, hA35, hu36, hc37⟩ := (hsa1).at (by decide) hx33 (h.m.snOK (i := 0) rfl)
        obtain ⟨k38, k39, rfl, ⟨rfl, hr40⟩, ⟨k41, k42, rfl, ⟨rfl, hr43⟩, ⟨rfl, hr44⟩⟩⟩ := hu36
        refine d_takeP h (fun _ => HS) HN 6 rfl (by kernel_rfl) (by kernel_rfl) (by kernel_rfl) (by decide) rfl rfl (by decide) (fun w' => x_iaddrE h.k rfl Try.underlying81 sz_api_Term hA35 rfl rfl hi31 hm32) (fun a h => ?_)
        refine d_take h HS HN 7 rfl (by kernel_rfl) (by kernel_rfl) (by kernel_rfl) (by kernel_rfl) (by kernel_rfl) rfl rfl (by decide) (fun w' hw => x_ldR h.k rfl ag_api_Term rfl ([.int .i64 x26.1, .int .i64 x26.2.1, .int .i64 x26.2.2]) rfl (hc37 _ (hw.snOK (i := 0) rfl))) (fun a h => ?_)
        refine d_takeP h (fun _ => HS) HN 8 rfl (by kernel_rfl) (by kernel_rfl) (by kernel_rfl) (by decide) rfl rfl (by decide) (fun w' => x_neqS h.k rfl rfl rfl gd_api_Term (eqs_api_Term _ x7 x26)) (fun a h => ?_)
        refine d_done (by kernel_rfl) (HE _ _ ?_) _
        refine e_thenN ?_
        refine c_cond h rfl (fun hb => ?_) (fun hb => ?_)
        · rw [if_pos hb] at hl5
          refine c_rs ?_ -- region 7
          refine s_assign h rfl _ rfl rfl (by decide) rfl (fun a h => ?_)
          refine l_end ?_
          refine wp_ret ?_
          refine e_blkR ?_
          refine e_thenR ?_
          refine e_thenR ?_
          refine e_blkR ?_
          refine e_thenR ?_
          cases hl5
          try dsimp only at hf
          refine e_thenR ?_
          obtain rfl := Option.some.inj hf
          exact r_ret1 h rfl (rv_tmp h rfl) ⟨_, [], _, rfl, ⟨rfl, rfl, trivial⟩, rfl, (Up.refl _ _ _), h.m⟩
        · rw [if_neg (by rw [hb]; decide)] at hl5
          refine wp_skip ?_
          refine e_blkN ?_
          refine e_thenN ?_
          refine c_r ?_ -- region 5
          refine s_move h rfl _ rfl rfl (by decide) rfl (fun a h => ?_)
          refine s_x h rfl rfl (by decide) (x_bin h.k rfl rfl rfl (ib_add rfl)) (fun a h => ?_)
          refine s_assign h rfl _ rfl rfl (by decide) rfl (fun a h => ?_)
          refine l_nil ?_
          exact e_thenN ⟨m6, Nat.lt_succ_self _, w64 (x3 + 1), hl5, (w64_r _), h.has (by exact ⟨rfl, rfl, rfl, trivial⟩)⟩
      · rw [if_neg (of_decide_eq_false hb)] at hl5
        refine wp_exit ?_
        refine e_thenX ?_
        refine e_thenX ?_
        refine e_blkX ?_
        refine e_thenN ?_
        exact ⟨(Option.some.inj hl5), h.has trivial⟩
    · rintro a w ⟨rfl, h⟩
      try dsimp only at hf
      refine e_thenN ?_
      refine c_rs ?_ -- region 8
      refine s_assign h rfl _ rfl rfl (by decide) rfl (fun a h => ?_)
      refine l_end ?_
      refine wp_ret ?_
      obtain rfl := Option.some.inj hf
      exact r_ret1 h rfl (rv_tmp h rfl) ⟨_, [], _, rfl, ⟨rfl, rfl, trivial⟩, rfl, (Up.refl _ _ _), h.m⟩
def chatelaineref39_Keep_l1 (Fu : Nat) (a0 : List (Int × Int × Int)) (x32 : Int × Int × Int) : Nat → Int → Int → Option Int
  | 0, _, _ => none
  | k + 1, x68, x70 => if 0 ≤ x70 then (((idx a0 x70).bind fun x80 => if x80 = x32 then (some x70) else (some x68)).bind fun x78 => chatelaineref39_Keep_l1 Fu a0 x32 k x78 (w64 (x70 - 1))) else (some x68)
def chatelaineref39_Keep_l2 (Fu : Nat) (a1 : List (Int × Int × Int)) (x32 : Int × Int × Int) : Nat → Int → Int → Option Int
  | 0, _, _ => none
  | k + 1, x101, x103 => if x103 < (a1.length : Int) then (((idx a1 x103).bind fun x113 => (if x113.2.1 = x32.2.1 then (idx a1 x103).bind fun x134 => some (decide (x101 ≤ x134.2.2)) else some false).bind fun z132 => if z132 = true then ((idx a1 x103).bind fun x153 => some (w64 (x153.2.2 + 1))) else (some x101)).bind fun x111 => chatelaineref39_Keep_l2 Fu a1 x32 k x111 (w64 (x103 + 1))) else (some x101)
def chatelaineref39_Keep_l3 (Fu : Nat) (a0 : List (Int × Int × Int)) (a1 : List (Int × Int × Int)) (x32 : Int × Int × Int) (x72 : Int) : Nat → Int → Int → Option Int
  | 0, _, _ => none
  | k + 1, x174, x176 => if x176 < x72 then (((idx a0 x176).bind fun x186 => (if x186.1 = 1 then (idx a0 x176).bind fun x207 => some (decide (x207.2.1 = x32.2.1)) else some false).bind fun z205 => (if z205 = true then (idx a0 x176).bind fun x228 => (chatelaineref39_In Fu a1 x228).bind fun x247 => some (!x247) else some false).bind fun z226 => (if z226 = true then (sub a0 0 x176).bind fun x252 => (idx a0 x176).bind fun x262 => (chatelaineref39_In Fu x252 x262).bind fun x281 => some (!x281) else some false).bind fun z250 => if z250 = true then (some (w64 (x174 + 1))) else (some x174)).bind fun x184 => chatelaineref39_Keep_l3 Fu a0 a1 x32 x72 k x184 (w64 (x176 + 1))) else (some x174)
def chatelaineref39_Keep_l0 (Fu : Nat) (a0 : List (Int × Int × Int)) (a1 : List (Int × Int × Int)) : Nat → (List (Int × Int × Int)) → Int → Option ((List (Int × Int × Int)))
  | 0, _, _ => none
  | k + 1, x10, x15 => if x15 < (a0.length : Int) then (((idx a0 x15).bind fun x32 => (if x32.1 ≠ 1 then some true else (chatelaineref39_In Fu a1 x32).bind fun x55 => some x55).bind fun z53 => if z53 = true then ((app 24 x10 ([x32])).bind fun x60 => some x60) else ((chatelaineref39_Keep_l1 Fu a0 x32 Fu x15 (w64 (x15 - 1))).bind fun x72 => (chatelaineref39_Keep_l2 Fu a1 x32 Fu 0 0).bind fun x105 => (chatelaineref39_Keep_l3 Fu a0 a1 x32 x72 Fu x105 0).bind fun x178 => (app 24 x10 ([(1, x32.2.1, x178)])).bind fun x286 => some x286)).bind fun x27 => chatelaineref39_Keep_l0 Fu a0 a1 k x27 (w64 (x15 + 1))) else (some x10)
def chatelaineref39_Keep (Fu : Nat) (a0 : List (Int × Int × Int)) (a1 : List (Int × Int × Int)) : Option ((List (Int × Int × Int))) :=
  (chatelaineref39_Keep_l0 Fu a0 a1 Fu ([]) 0).bind fun x17 => some x17
set_option maxRecDepth 100000 in
set_option maxHeartbeats 2000000 in
theorem chatelaineref39_Keep_ok (Fu : Nat) {S0 : Snap} (Aa0 : Option Addr) (ca0 : Nat) (a0 : List (Int × Int × Int)) (hsa0 : slS (tyP tyI (tyP tyI tyI)) S0 Aa0 ca0 a0) (Aa1 : Option Addr) (ca1 : Nat) (a1 : List (Int × Int × Int)) (hsa1 : slS (tyP tyI (tyP tyI tyI)) S0 Aa1 ca1 a1) (r : (List (Int × Int × Int))) (hf : chatelaineref39_Keep Fu a0 a1 = some r) (w0 : World) (hm : Mem w0 (ownL ([] ++ [.sn S0])) ([] ++ [.sn S0]) w0) :
    Calls Try.prog 57 #[.slice Aa0 a0.length ca0, .slice Aa1 a1.length ca1] w0 (Ret w0 S0 [] (fun v L1 S1 => ∃ (A292 : Option Addr), ∃ (c293 : Nat), ∃ (cs294 : List Value), v = .slice A292 r.length c293 ∧ L1 = [.row (.slice A292 r.length c293) 89 3 r.length cs294] ∧ reps (tyP tyI (tyP tyI tyI)) S1 cs294 r ∧ True)) := by
  unfold chatelaineref39_Keep at hf
  refine c_enterM Try.func57 rfl 129 rfl (by simp) _ hm _ rfl (fun a h => ?_)
  refine c_rs ?_ -- region 0
  refine s_assign h rfl _ rfl rfl (by decide) rfl (fun a h => ?_)
  refine l_end ?_
  refine c_rs ?_ -- region 1
  refine s_assign h rfl _ rfl rfl (by decide) rfl (fun a h => ?_)
  refine l_end ?_
  refine wp_seq ?_
  refine c_rs ?_ -- region 2
  refine s_assign h rfl _ rfl rfl (by decide) rfl (fun a h => ?_)
  refine l_end ?_
  obtain ⟨o1, hl2, hf⟩ := bsome hf
  refine c_fin (fun a w => ∃ (x17 : List (Int × Int × Int)), ∃ (A18 : Option Addr), ∃ (c19 : Nat), ∃ (cs20 : List Value), x17 = o1 ∧ reps (tyP tyI (tyP tyI tyI)) S0 cs20 x17 ∧ St 129 w0 (ownL ([] ++ [.sn S0])) [(5, .slice A18 x17.length c19)] [.row (.slice A18 x17.length c19) 89 3 x17.length cs20, .sn S0] a w) ?_ ?_
  · refine wp_block ?_
    have h := h.mem (h.m.nilrow 89 3)
    refine c_loop (fun m23 a w => ∃ (x10 : List (Int × Int × Int)), ∃ (A11 : Option Addr), ∃ (c12 : Nat), ∃ (cs13 : List Value), ∃ (x15 : Int), chatelaineref39_Keep_l0 Fu a0 a1 m23 x10 x15 = some o1 ∧ reps (tyP tyI (tyP tyI tyI)) S0 cs13 x10 ∧ r64 x15 ∧ St 129 w0 (ownL ([] ++ [.sn S0])) [(0, .slice Aa0 a0.length ca0), (1, .slice Aa1 a1.length ca1), (5, .slice A11 x10.length c12), (6, .int .i64 x15)] [.row (.slice A11 x10.length c12) 89 3 x10.length cs13, .sn S0] a w) Fu ⟨[], none, 0, [], 0, hl2, (show reps (tyP tyI (tyP tyI tyI)) S0 [] [] from rfl), (show r64 0 from ⟨by decide, by decide⟩), h.has (by exact ⟨rfl, rfl, rfl, rfl, trivial⟩)⟩ (fun m23 a w hI => ?_)
    obtain ⟨x10, A11, c12, cs13, x15, hl22, hq14, hr16, h⟩ := hI
    obtain _ | m23 := m23
    · rw [chatelaineref39_Keep_l0] at hl22; cases hl22
    rw [chatelaineref39_Keep_l0] at hl22
    refine wp_seq ?_
    refine c_rs ?_ -- region 3
    refine s_move h rfl _ rfl rfl (by decide) rfl (fun a h => ?_)
    refine s_move h rfl _ rfl rfl (by decide) rfl (fun a h => ?_)
    refine s_x h rfl rfl (by decide) (x_len h.k rfl Try.underlying81 rfl) (fun a h => ?_)
    refine s_x h rfl rfl (by decide) (x_bin h.k rfl rfl rfl ib_lss) (fun a h => ?_)
    refine l_end ?_
    refine c_cond h rfl (fun hb => ?_) (fun hb => ?_)
    · rw [if_pos (of_decide_eq_true hb)] at hl22
      refine wp_skip ?_
      refine e_thenN ?_
      obtain ⟨o25, hc26, hl22⟩ := bsome hl22
      refine c_cut (fun a w => ∃ (x27 : List (Int × Int × Int)), ∃ (A28 : Option Addr), ∃ (c29 : Nat), ∃ (cs30 : List Value), x27 = o25 ∧ reps (tyP tyI (tyP tyI tyI)) S0 cs30 x27 ∧ St 129 w0 (ownL ([] ++ [.sn S0])) [(0, .slice Aa0 a0.length ca0), (1, .slice Aa1 a1.length ca1), (5, .slice A28 x27.length c29), (6, .int .i64 x15)] [.row (.slice A28 x27.length c29) 89 3 x27.length cs30, .sn S0] a w) ?_ ?_
      · refine wp_block ?_
        refine c_rs ?_ -- region 5
        refine s_move h rfl _ rfl rfl (by decide) rfl (fun a h => ?_)
        refine s_move h rfl _ rfl rfl (by decide) rfl (fun a h => ?_)
        obtain ⟨x32, h36, hc26⟩ := bsome hc26
        obtain ⟨m33, hi37, hm38, hx39⟩ := idx_some h36
        obtain ⟨b34, off35, k40, hA41, hu42, hc43⟩ := (hsa0).at (by decide) hx39 (h.m.snOK (i := 1) rfl)
        obtain ⟨k44, k45, rfl, ⟨rfl, hr46⟩, ⟨k47, k48, rfl, ⟨rfl, hr49⟩, ⟨rfl, hr50⟩⟩⟩ := hu42
        refine s_x h rfl rfl (by decide) (x_iaddrE h.k rfl Try.underlying81 sz_api_Term hA41 rfl rfl hi37 hm38) (fun a h => ?_)
        refine s_x h rfl rfl (by decide) (x_ldR h.k rfl ag_api_Term rfl ([.int .i64 x32.1, .int .i64 x32.2.1, .int .i64 x32.2.2]) rfl (hc43 _ (h.m.snOK (i := 1) rfl))) (fun a h => ?_)
        refine s_alloc h rfl rfl rfl (by decide) zi_api_Term rfl (fun a w g51 h => ?_)
        refine s_stW h rfl rfl rfl ag_api_Term rfl (es := [.int .i64 x32.1, .int .i64 x32.2.1, .int .i64 x32.2.2]) rfl rfl (by simp [Value.oneCell']) 0 rfl rfl (fun a w h => ?_)
        refine l_end ?_
        refine wp_seq ?_
        refine c_rs ?_ -- region 6
        refine s_x h rfl rfl (by decide) (x_faddr h.k rfl Try.underlying89 rfl sz_int rfl) (fun a h => ?_)
        refine s_x h rfl rfl (by decide) (x_ld h.k rfl Try.underlying3 rfl rfl ((h.m.cell (i := 0) rfl 0).trans rfl)) (fun a h => ?_)
        refine s_x h rfl rfl (by decide) (x_bin h.k rfl rfl rfl ib_neq) (fun a h => ?_)
        refine s_move h rfl _ rfl rfl (by decide) rfl (fun a h => ?_)
        obtain ⟨z53, hz52, hc26⟩ := bsome hc26
        refine q_grp h 4 (t := 26) 30 z53 rfl (fun hB3 => ?_) (fun hB3 => ?_) (fun a w h => ?_)
        · refine g_no h rfl rfl rfl rfl hB3 rfl (by decide) (fun a h => ?_)
          refine g_no h rfl rfl rfl rfl hB3 rfl (by decide) (fun a h => ?_)
          refine g_no h rfl rfl rfl rfl hB3 rfl (by decide) (fun a h => ?_)
          rw [if_pos (of_decide_eq_true hB3)] at hz52
          refine s_x h rfl rfl (by decide) (x_pick (u' := undef) h.k rfl rfl (fun _ => rfl) (fun hh => absurd (hB3.symm.trans hh) (by decide))) (fun a h => ?_)
          exact (h.mid 3 rfl).val (by rw [Option.some.inj hz52])
        · rw [if_neg (of_decide_eq_false hB3)] at hz52
          refine g_yes h rfl rfl rfl rfl hB3 ?_
          refine s_move h rfl _ rfl rfl (by decide) rfl (fun a h => ?_)
          refine g_yes h rfl rfl rfl rfl hB3 ?_
          refine s_x h rfl rfl (by decide) (x_ldR h.k rfl ag_api_Term rfl ([.int .i64 x32.1, .int .i64 x32.2.1, .int .i64 x32.2.2]) rfl (h.m.range0 (i := 0) rfl)) (fun a h => ?_)
          refine g_yes h rfl rfl rfl rfl hB3 ?_
          obtain ⟨x55, h56, hz52⟩ := bsome hz52
          have hX := chatelaineref39_In_ok Fu (S0 := snapAll _) Aa1 ca1 a1 (hsa1.mono (h.m.leAll (i := 2) rfl)) ([.int .i64 x32.1, .int .i64 x32.2.1, .int .i64 x32.2.2]) x32 ((tyP tyI (tyP tyI tyI)).mono (h.m.leAll (i := 2) rfl) (show (tyP tyI (tyP tyI tyI)).rep S0 ([.int .i64 x32.1, .int .i64 x32.2.1, .int .i64 x32.2.2]) x32 from ⟨[.int .i64 x32.1], [.int .i64 x32.2.1, .int .i64 x32.2.2], rfl, ⟨rfl, hr46⟩, ⟨[.int .i64 x32.2.1], [.int .i64 x32.2.2], rfl, ⟨rfl, hr49⟩, ⟨rfl, hr50⟩⟩⟩)) _ h56 _ h.startAll
          refine q_callX hX h rfl rfl rfl (by decide) Try.func89 rfl rfl rfl (fun a w v L1 S1 hR hb1 h => ?_)
          obtain ⟨rfl, rfl, _⟩ := hR
          refine s_x h rfl rfl (by decide) (x_pick (u' := undef) h.k rfl rfl (fun hh => absurd (hB3.symm.trans hh) (by decide)) (fun _ => rfl)) (fun a h => ?_)
          exact (h.mid 3 rfl).val (by rw [Option.some.inj hz52])
        refine l_end ?_
        refine c_cond h rfl (fun hb => ?_) (fun hb => ?_)
        · rw [if_pos hb] at hc26
          refine c_rs ?_ -- region 7
          refine s_move h rfl _ rfl rfl (by decide) rfl (fun a h => ?_)
          refine s_x h rfl rfl (by decide) (x_ldR h.k rfl ag_api_Term rfl ([.int .i64 x32.1, .int .i64 x32.2.1, .int .i64 x32.2.2]) rfl (h.m.range0 (i := 0) rfl)) (fun a h => ?_)
          refine q_bslice (T := tyP tyI (tyP tyI tyI)) (S := S0) h rfl rfl rfl (by decide) Try.underlying81 zi_api_Term (by decide) (by decide) (by decide) (by decide) [.agg ([.int .i64 x32.1, .int .i64 x32.2.1, .int .i64 x32.2.2]).toArray] rfl rfl (C := [[.int .i64 x32.1, .int .i64 x32.2.1, .int .i64 x32.2.2]]) rfl (xs := [x32]) ⟨[.int .i64 x32.1, .int .i64 x32.2.1, .int .i64 x32.2.2], _, rfl, ⟨[.int .i64 x32.1], [.int .i64 x32.2.1, .int .i64 x32.2.2], rfl, ⟨rfl, hr46⟩, ⟨[.int .i64 x32.2.1], [.int .i64 x32.2.2], rfl, ⟨rfl, hr49⟩, ⟨rfl, hr50⟩⟩⟩, rfl⟩ (by intro c hc; simp only [List.mem_cons, List.not_mem_nil, or_false] at hc; subst hc; rfl) (fun a w A58 h => ?_)
          have hb59 : reps (tyP tyI (tyP tyI tyI)) S0 ([[.int .i64 x32.1, .int .i64 x32.2.1, .int .i64 x32.2.2]]).flatten [x32] := ⟨[.int .i64 x32.1, .int .i64 x32.2.1, .int .i64 x32.2.2], _, rfl, ⟨[.int .i64 x32.1], [.int .i64 x32.2.1, .int .i64 x32.2.2], rfl, ⟨rfl, hr46⟩, ⟨[.int .i64 x32.2.1], [.int .i64 x32.2.2], rfl, ⟨rfl, hr49⟩, ⟨rfl, hr50⟩⟩⟩, rfl⟩
          obtain ⟨x60, h61, hc26⟩ := bsome hc26
          refine q_append (T := tyP tyI (tyP tyI tyI)) (S := S0) h rfl rfl rfl (by decide) Try.underlying81 zb_api_Term rfl (by decide) rfl 2 rfl hq14 rfl hb59 (h.m.rdRowA (i := 0) rfl) h61 (fun a w A62 c63 cs64 hq65 h => ?_)
          refine s_assign h rfl _ rfl rfl (by decide) rfl (fun a h => ?_)
          refine l_end ?_
          refine wp_exit ?_
          refine e_thenX ?_
          refine e_blkX ?_
          refine e_thenN ?_
          have h := h.pick [2, 3] (by decide) rfl
          exact ⟨x60, A62, c63, cs64, (Option.some.inj hc26), hq65, h.has (by exact ⟨rfl, rfl, rfl, rfl, trivial⟩)⟩
        · rw [if_neg (by rw [hb]; decide)] at hc26
          refine wp_skip ?_
          refine e_thenN ?_
          refine c_rs ?_ -- region 8
          refine s_move h rfl _ rfl rfl (by decide) rfl (fun a h => ?_)
          refine s_assign h rfl _ rfl rfl (by decide) rfl (fun a h => ?_)
          refine l_end ?_
          refine wp_seq ?_
          refine c_rs ?_ -- region 9
          refine s_move h rfl _ rfl rfl (by decide) rfl (fun a h => ?_)
          refine s_x h rfl rfl (by decide) (x_bin h.k rfl rfl rfl (ib_sub rfl)) (fun a h => ?_)
          refine s_assign h rfl _ rfl rfl (by decide) rfl (fun a h => ?_)
          refine l_end ?_
          obtain ⟨o66, hl67, hc26⟩ := bsome hc26
          refine c_fin (fun a w => ∃ (x72 : Int), x72 = o66 ∧ r64 x72 ∧ St 129 w0 (ownL ([] ++ [.sn S0])) [(0, .slice Aa0 a0.length ca0), (1, .slice Aa1 a1.length ca1), (5, .slice A11 x10.length c12), (6, .int .i64 x15), (7, .pointer (some ⟨g51, 0, none⟩)), (8, .int .i64 x72)] [.row (.slice A11 x10.length c12) 89 3 x10.length cs13, .box g51 89 ([.int .i64 x32.1, .int .i64 x32.2.1, .int .i64 x32.2.2]), .sn S0] a w) ?_ ?_
          · refine wp_block ?_
            have h := h.pick [1, 0, 2] (by decide) rfl
            refine c_loop (fun m75 a w => ∃ (x68 : Int), ∃ (x70 : Int), chatelaineref39_Keep_l1 Fu a0 x32 m75 x68 x70 = some o66 ∧ r64 x68 ∧ r64 x70 ∧ St 129 w0 (ownL ([] ++ [.sn S0])) [(0, .slice Aa0 a0.length ca0), (1, .slice Aa1 a1.length ca1), (5, .slice A11 x10.length c12), (6, .int .i64 x15), (7, .pointer (some ⟨g51, 0, none⟩)), (8, .int .i64 x68), (9, .int .i64 x70)] [.row (.slice A11 x10.length c12) 89 3 x10.length cs13, .box g51 89 ([.int .i64 x32.1, .int .i64 x32.2.1, .int .i64 x32.2.2]), .sn S0] a w) Fu ⟨x15, w64 (x15 - 1), hl67, hr16, (w64_r _), h.has (by exact ⟨rfl, rfl, rfl, rfl, rfl, rfl, rfl, trivial⟩)⟩ (fun m75 a w hI => ?_)
            obtain ⟨x68, x70, hl74, hr69, hr71, h⟩ := hI
            obtain _ | m75 := m75
            · rw [chatelaineref39_Keep_l1] at hl74; cases hl74
            rw [chatelaineref39_Keep_l1] at hl74
            refine wp_seq ?_
            refine c_rs ?_ -- region 10
            refine s_move h rfl _ rfl rfl (by decide) rfl (fun a h => ?_)
            refine s_x h rfl rfl (by decide) (x_bin h.k rfl rfl rfl ib_geq) (fun a h => ?_)
            refine l_end ?_
            refine c_cond h rfl (fun hb => ?_) (fun hb => ?_)
            · rw [if_pos (of_decide_eq_true hb)] at hl74
              refine wp_skip ?_
              refine e_thenN ?_
              obtain ⟨o76, hc77, hl74⟩ := bsome hl74
              refine c_cut (fun a w => ∃ (x78 : Int), x78 = o76 ∧ r64 x78 ∧ St 129 w0 (ownL ([] ++ [.sn S0])) [(0, .slice Aa0 a0.length ca0), (1, .slice Aa1 a1.length ca1), (5, .slice A11 x10.length c12), (6, .int .i64 x15), (7, .pointer (some ⟨g51, 0, none⟩)), (8, .int .i64 x78), (9, .int .i64 x70)] [.row (.slice A11 x10.length c12) 89 3 x10.length cs13, .box g51 89 ([.int .i64 x32.1, .int .i64 x32.2.1, .int .i64 x32.2.2]), .sn S0] a w) ?_ ?_
              · refine wp_block ?_
                refine wp_seq ?_
                -- region 12 draws
                obtain ⟨x80, h84, hc77⟩ := bsome hc77
                refine d_start h (Mem _ _ _) 6 6 rfl (by kernel_rfl) (fun _ _ _ _ _ h => h) (fun _ h => h) (fun Q a w HE HN h HS => ?_)
                refine d_takeP h (fun _ => HS) HN 0 rfl (by kernel_rfl) (by kernel_rfl) (by kernel_rfl) (by decide) rfl rfl (by decide) (fun w' => x_move h.k _ rfl rfl) (fun a h => ?_)
                refine d_takeP h (fun _ => HS) HN 1 rfl (by kernel_rfl) (by kernel_rfl) (by kernel_rfl) (by decide) rfl rfl (by decide) (fun w' => x_move h.k _ rfl rfl) (fun a h => ?_)
                obtain ⟨m81, hi85, hm86, hx87⟩ := idx_some h84
                obtain ⟨b82, off83, k88, hA89, hu90, hc91⟩ := (hsa0).at (by decide) hx87 (h.m.snOK (i := 2) rfl)
                obtain ⟨k92, k93, rfl, ⟨rfl, hr94⟩, ⟨k95, k96, rfl, ⟨rfl, hr97⟩, ⟨rfl, hr98⟩⟩⟩ := hu90
                refine d_takeP h (fun _ => HS) HN 2 rfl (by kernel_rfl) (by kernel_rfl) (by kernel_rfl) (by decide) rfl rfl (by decide) (fun w' => x_iaddrE h.k rfl Try.underlying81 sz_api_Term hA89 rfl rfl hi85 hm86) (fun a h => ?_)
                refine d_take h HS HN 3 rfl (by kernel_rfl) (by kernel_rfl) (by kernel_rfl) (by kernel_rfl) (by kernel_rfl) rfl rfl (by decide) (fun w' hw => x_ldR h.k rfl ag_api_Term rfl ([.int .i64 x80.1, .int .i64 x80.2.1, .int .i64 x80.2.2]) rfl (hc91 _ (hw.snOK (i := 2) rfl))) (fun a h => ?_)
                refine d_take h HS HN 4 rfl (by kernel_rfl) (by kernel_rfl) (by kernel_rfl) (by kernel_rfl) (by kernel_rfl) rfl rfl (by decide) (fun w' hw => x_ldR h.k rfl ag_api_Term rfl ([.int .i64 x32.1, .int .i64 x32.2.1, .int .i64 x32.2.2]) rfl (hw.range0 (i := 1) rfl)) (fun a h => ?_)
                refine d_takeP h (fun _ => HS) HN 5 rfl (by kernel_rfl) (by kernel_rfl) (by kernel_rfl) (by decide) rfl rfl (by decide) (fun w' => x_eqlS h.k rfl rfl rfl gd_api_Term (eqs_api_Term _ x80 x32)) (fun a h => ?_)
                refine d_done (by kernel_rfl) (HE _ _ ?_) _
                refine e_thenN ?_
                refine c_cond h rfl (fun hb => ?_) (fun hb => ?_)
                · rw [if_pos (of_decide_eq_true hb)] at hc77
                  refine c_r ?_ -- region 13
                  refine s_move h rfl _ rfl rfl (by decide) rfl (fun a h => ?_)
                  refine s_assign h rfl _ rfl rfl (by decide) rfl (fun a h => ?_)
                  refine l_nil ?_
                  refine e_blkN ?_
                  refine e_thenN ?_
                  exact ⟨x70, (Option.some.inj hc77), hr71, h.has (by exact ⟨rfl, rfl, rfl, rfl, rfl, rfl, rfl, trivial⟩)⟩
                · rw [if_neg (of_decide_eq_false hb)] at hc77
                  refine wp_skip ?_
                  refine e_blkN ?_
                  refine e_thenN ?_
                  exact ⟨x68, (Option.some.inj hc77), hr69, h.has (by exact ⟨rfl, rfl, rfl, rfl, rfl, rfl, rfl, trivial⟩)⟩
              · rintro a w ⟨x78, rfl, hr79, h⟩
                refine c_r ?_ -- region 11
                refine s_move h rfl _ rfl rfl (by decide) rfl (fun a h => ?_)
                refine s_x h rfl rfl (by decide) (x_bin h.k rfl rfl rfl (ib_sub rfl)) (fun a h => ?_)
                refine s_assign h rfl _ rfl rfl (by decide) rfl (fun a h => ?_)
                refine l_nil ?_
                exact e_thenN ⟨m75, Nat.lt_succ_self _, x78, w64 (x70 - 1), hl74, hr79, (w64_r _), h.has (by exact ⟨rfl, rfl, rfl, rfl, rfl, rfl, rfl, trivial⟩)⟩
            · rw [if_neg (of_decide_eq_false hb)] at hl74
              refine wp_exit ?_
              refine e_thenX ?_
              refine e_thenX ?_
              refine e_blkX ?_
              refine e_thenN ?_
              exact ⟨x68, (Option.some.inj hl74), hr69, h.has (by exact ⟨rfl, rfl, rfl, rfl, rfl, rfl, trivial⟩)⟩
          · rintro a w ⟨x72, rfl, hr73, h⟩
            refine e_thenN ?_
            refine c_rs ?_ -- region 14
            refine s_assign h rfl _ rfl rfl (by decide) rfl (fun a h => ?_)
            refine l_end ?_
            refine wp_seq ?_
            refine c_rs ?_ -- region 15
            refine s_assign h rfl _ rfl rfl (by decide) rfl (fun a h => ?_)
            refine l_end ?_
            obtain ⟨o99, hl100, hc26⟩ := bsome hc26
            refine c_fin (fun a w => ∃ (x105 : Int), x105 = o99 ∧ r64 x105 ∧ St 129 w0 (ownL ([] ++ [.sn S0])) [(0, .slice Aa0 a0.length ca0), (1, .slice Aa1 a1.length ca1), (5, .slice A11 x10.length c12), (6, .int .i64 x15), (7, .pointer (some ⟨g51, 0, none⟩)), (8, .int .i64 x72), (10, .int .i64 x105)] [.row (.slice A11 x10.length c12) 89 3 x10.length cs13, .box g51 89 ([.int .i64 x32.1, .int .i64 x32.2.1, .int .i64 x32.2.2]), .sn S0] a w) ?_ ?_
            · refine wp_block ?_
              refine c_loop (fun m108 a w => ∃ (x101 : Int), ∃ (x103 : Int), chatelaineref39_Keep_l2 Fu a1 x32 m108 x101 x103 = some o99 ∧ r64 x101 ∧ r64 x103 ∧ St 129 w0 (ownL ([] ++ [.sn S0])) [(0, .slice Aa0 a0.length ca0), (1, .slice Aa1 a1.length ca1), (5, .slice A11 x10.length c12), (6, .int .i64 x15), (7, .pointer (some ⟨g51, 0, none⟩)), (8, .int .i64 x72), (10, .int .i64 x101), (11, .int .i64 x103)] [.row (.slice A11 x10.length c12) 89 3 x10.length cs13, .box g51 89 ([.int .i64 x32.1, .int .i64 x32.2.1, .int .i64 x32.2.2]), .sn S0] a w) Fu ⟨0, 0, hl100, (show r64 0 from ⟨by decide, by decide⟩), (show r64 0 from ⟨by decide, by decide⟩), h.has (by exact ⟨rfl, rfl, rfl, rfl, rfl, rfl, rfl, rfl, trivial⟩)⟩ (fun m108 a w hI => ?_)
              obtain ⟨x101, x103, hl107, hr102, hr104, h⟩ := hI
              obtain _ | m108 := m108
              · rw [chatelaineref39_Keep_l2] at hl107; cases hl107
              rw [chatelaineref39_Keep_l2] at hl107
              refine wp_seq ?_
              refine c_rs ?_ -- region 16
              refine s_move h rfl _ rfl rfl (by decide) rfl (fun a h => ?_)
              refine s_move h rfl _ rfl rfl (by decide) rfl (fun a h => ?_)
              refine s_x h rfl rfl (by decide) (x_len h.k rfl Try.underlying81 rfl) (fun a h => ?_)
              refine s_x h rfl rfl (by decide) (x_bin h.k rfl rfl rfl ib_lss) (fun a h => ?_)
              refine l_end ?_
              refine c_cond h rfl (fun hb => ?_) (fun hb => ?_)
              · rw [if_pos (of_decide_eq_true hb)] at hl107
                refine wp_skip ?_
                refine e_thenN ?_
                obtain ⟨o109, hc110, hl107⟩ := bsome hl107
                refine c_cut (fun a w => ∃ (x111 : Int), x111 = o109 ∧ r64 x111 ∧ St 129 w0 (ownL ([] ++ [.sn S0])) [(0, .slice Aa0 a0.length ca0), (1, .slice Aa1 a1.length ca1), (5, .slice A11 x10.length c12), (6, .int .i64 x15), (7, .pointer (some ⟨g51, 0, none⟩)), (8, .int .i64 x72), (10, .int .i64 x111), (11, .int .i64 x103)] [.row (.slice A11 x10.length c12) 89 3 x10.length cs13, .box g51 89 ([.int .i64 x32.1, .int .i64 x32.2.1, .int .i64 x32.2.2]), .sn S0] a w) ?_ ?_
                · refine wp_block ?_
                  refine wp_seq ?_
                  -- region 18 draws
                  obtain ⟨x113, h117, hc110⟩ := bsome hc110
                  obtain ⟨z132, hz133, hc110⟩ := bsome hc110
                  refine c_fin (fun a w => St 129 w0 (ownL ([] ++ [.sn S0])) [(0, .slice Aa0 a0.length ca0), (1, .slice Aa1 a1.length ca1), (5, .slice A11 x10.length c12), (6, .int .i64 x15), (7, .pointer (some ⟨g51, 0, none⟩)), (8, .int .i64 x72), (10, .int .i64 x101), (11, .int .i64 x103), (71, .bool z132)] [.row (.slice A11 x10.length c12) 89 3 x10.length cs13, .box g51 89 ([.int .i64 x32.1, .int .i64 x32.2.1, .int .i64 x32.2.2]), .sn S0] a w) ?_ (fun a w h => ?_)
                  · refine d_start h (Mem _ _ _) 17 17 rfl (by kernel_rfl) (fun _ _ _ _ _ h => h) (fun _ h => h) (fun Q a w HE HN h HS => ?_)
                    refine d_takeP h (fun _ => HS) HN 0 rfl (by kernel_rfl) (by kernel_rfl) (by kernel_rfl) (by decide) rfl rfl (by decide) (fun w' => x_move h.k _ rfl rfl) (fun a h => ?_)
                    refine d_takeP h (fun _ => HS) HN 1 rfl (by kernel_rfl) (by kernel_rfl) (by kernel_rfl) (by decide) rfl rfl (by decide) (fun w' => x_move h.k _ rfl rfl) (fun a h => ?_)
                    obtain ⟨m114, hi118, hm119, hx120⟩ := idx_some h117
                    obtain ⟨b115, off116, k121, hA122, hu123, hc124⟩ := (hsa1).at (by decide) hx120 (h.m.snOK (i := 2) rfl)
                    obtain ⟨k125, k126, rfl, ⟨rfl, hr127⟩, ⟨k128, k129, rfl, ⟨rfl, hr130⟩, ⟨rfl, hr131⟩⟩⟩ := hu123
                    refine d_takeP h (fun _ => HS) HN 2 rfl (by kernel_rfl) (by kernel_rfl) (by kernel_rfl) (by decide) rfl rfl (by decide) (fun w' => x_iaddrE h.k rfl Try.underlying81 sz_api_Term hA122 rfl rfl hi118 hm119) (fun a h => ?_)
                    refine d_takeP h (fun _ => HS) HN 3 rfl (by kernel_rfl) (by kernel_rfl) (by kernel_rfl) (by decide) rfl rfl (by decide) (fun w' => x_faddr h.k rfl Try.underlying89 rfl sz_int rfl) (fun a h => ?_)
                    refine d_take h HS HN 4 rfl (by kernel_rfl) (by kernel_rfl) (by kernel_rfl) (by kernel_rfl) (by kernel_rfl) rfl rfl (by decide) (fun w' hw => x_ld h.k rfl Try.underlying3 rfl rfl (hc124 _ (hw.snOK (i := 2) rfl) 1 _ rfl)) (fun a h => ?_)
                    refine d_takeP h (fun _ => HS) HN 5 rfl (by kernel_rfl) (by kernel_rfl) (by kernel_rfl) (by decide) rfl rfl (by decide) (fun w' => x_faddr h.k rfl Try.underlying89 rfl sz_int rfl) (fun a h => ?_)
                    refine d_take h HS HN 6 rfl (by kernel_rfl) (by kernel_rfl) (by kernel_rfl) (by kernel_rfl) (by kernel_rfl) rfl rfl (by decide) (fun w' hw => x_ld h.k rfl Try.underlying3 rfl rfl ((hw.cell (i := 1) rfl 1).trans rfl)) (fun a h => ?_)
                    refine d_takeP h (fun _ => HS) HN 7 rfl (by kernel_rfl) (by kernel_rfl) (by kernel_rfl) (by decide) rfl rfl (by decide) (fun w' => x_bin h.k rfl rfl rfl ib_eql) (fun a h => ?_)
                    refine d_takeP h (fun _ => HS) HN 8 rfl (by kernel_rfl) (by kernel_rfl) (by kernel_rfl) (by decide) rfl rfl (by decide) (fun w' => x_move h.k _ rfl rfl) (fun a h => ?_)
                    refine d_split (t := 63) h rfl (fun hB8 => ?_) (fun hB8 => ?_)
                    · rw [if_pos (of_decide_eq_true hB8)] at hz133
                      obtain ⟨x134, h138, hz133⟩ := bsome hz133
                      refine d_takeP h (fun _ => HS) HN 9 rfl (by kernel_rfl) (by kernel_rfl) (by kernel_rfl) (by decide) (by rw [g_want h rfl rfl rfl rfl hB8]; rfl) rfl (by decide) (fun w' => x_move h.k _ rfl rfl) (fun a h => ?_)
                      refine d_takeP h (fun _ => HS) HN 10 rfl (by kernel_rfl) (by kernel_rfl) (by kernel_rfl) (by decide) (by rw [g_want h rfl rfl rfl rfl hB8]; rfl) rfl (by decide) (fun w' => x_move h.k _ rfl rfl) (fun a h => ?_)
                      obtain ⟨m135, hi139, hm140, hx141⟩ := idx_some h138
                      obtain ⟨b136, off137, k142, hA143, hu144, hc145⟩ := (hsa1).at (by decide) hx141 (h.m.snOK (i := 2) rfl)
                      obtain ⟨k146, k147, rfl, ⟨rfl, hr148⟩, ⟨k149, k150, rfl, ⟨rfl, hr151⟩, ⟨rfl, hr152⟩⟩⟩ := hu144
                      refine d_takeP h (fun _ => HS) HN 11 rfl (by kernel_rfl) (by kernel_rfl) (by kernel_rfl) (by decide) (by rw [g_want h rfl rfl rfl rfl hB8]; rfl) rfl (by decide) (fun w' => x_iaddrE h.k rfl Try.underlying81 sz_api_Term hA143 rfl rfl hi139 hm140) (fun a h => ?_)
                      refine d_takeP h (fun _ => HS) HN 12 rfl (by kernel_rfl) (by kernel_rfl) (by kernel_rfl) (by decide) (by rw [g_want h rfl rfl rfl rfl hB8]; rfl) rfl (by decide) (fun w' => x_faddr h.k rfl Try.underlying89 rfl sz_int rfl) (fun a h => ?_)
                      refine d_takeY h HS HN 13 rfl (by kernel_rfl) (by kernel_rfl) (by kernel_rfl) (by kernel_rfl) (by kernel_rfl) (by rw [g_want h rfl rfl rfl rfl hB8]; rfl) rfl (by decide) (fun w' hw => x_ld h.k rfl Try.underlying3 rfl rfl (hc145 _ (hw.snOK (i := 2) rfl) 2 _ rfl)) (fun a h => ?_)
                      refine d_takeP h (fun _ => HS) HN 14 rfl (by kernel_rfl) (by kernel_rfl) (by kernel_rfl) (by decide) (by rw [g_want h rfl rfl rfl rfl hB8]; rfl) rfl (by decide) (fun w' => x_move h.k _ rfl rfl) (fun a h => ?_)
                      refine d_takeP h (fun _ => HS) HN 15 rfl (by kernel_rfl) (by kernel_rfl) (by kernel_rfl) (by decide) (by rw [g_want h rfl rfl rfl rfl hB8]; rfl) rfl (by decide) (fun w' => x_bin h.k rfl rfl rfl ib_geq) (fun a h => ?_)
                      refine d_takeP h (fun _ => HS) HN 16 rfl (by kernel_rfl) (by kernel_rfl) (by kernel_rfl) (by decide) rfl rfl (by decide) (fun w' => x_pick (v := .bool z132) (u' := undef) h.k rfl rfl (fun _ => by rw [← Option.some.inj hz133]; rfl) (fun hh => absurd (hB8.symm.trans hh) (by decide))) (fun a h => ?_)
                      refine d_done (by kernel_rfl) (HE _ _ ?_) _
                      refine e_thenN ?_
                      exact h.has (by exact ⟨rfl, rfl, rfl, rfl, rfl, rfl, rfl, rfl, rfl, trivial⟩)
                    · rw [if_neg (of_decide_eq_false hB8)] at hz133
                      refine d_takeNP h (fun _ => HS) HN 9 rfl (by kernel_rfl) (by kernel_rfl) (by kernel_rfl) (by decide) (by rw [g_want h rfl rfl rfl rfl hB8]; rfl) rfl (by decide) (fun a h => ?_)
                      refine d_takeNP h (fun _ => HS) HN 10 rfl (by kernel_rfl) (by kernel_rfl) (by kernel_rfl) (by decide) (by rw [g_want h rfl rfl rfl rfl hB8]; rfl) rfl (by decide) (fun a h => ?_)
                      refine d_takeNP h (fun _ => HS) HN 11 rfl (by kernel_rfl) (by kernel_rfl) (by kernel_rfl) (by decide) (by rw [g_want h rfl rfl rfl rfl hB8]; rfl) rfl (by decide) (fun a h => ?_)
                      refine d_takeNP h (fun _ => HS) HN 12 rfl (by kernel_rfl) (by kernel_rfl) (by kernel_rfl) (by decide) (by rw [g_want h rfl rfl rfl rfl hB8]; rfl) rfl (by decide) (fun a h => ?_)
                      refine d_takeNP h (fun _ => HS) HN 13 rfl (by kernel_rfl) (by kernel_rfl) (by kernel_rfl) (by decide) (by rw [g_want h rfl rfl rfl rfl hB8]; rfl) rfl (by decide) (fun a h => ?_)
                      refine d_takeNP h (fun _ => HS) HN 14 rfl (by kernel_rfl) (by kernel_rfl) (by kernel_rfl) (by decide) (by rw [g_want h rfl rfl rfl rfl hB8]; rfl) rfl (by decide) (fun a h => ?_)
                      refine d_takeNP h (fun _ => HS) HN 15 rfl (by kernel_rfl) (by kernel_rfl) (by kernel_rfl) (by decide) (by rw [g_want h rfl rfl rfl rfl hB8]; rfl) rfl (by decide) (fun a h => ?_)
                      refine d_takeP h (fun _ => HS) HN 16 rfl (by kernel_rfl) (by kernel_rfl) (by kernel_rfl) (by decide) rfl rfl (by decide) (fun w' => x_pick (v := .bool z132) (u' := undef) h.k rfl rfl (fun hh => absurd (hB8.symm.trans hh) (by decide)) (fun _ => by rw [← Option.some.inj hz133]; rfl)) (fun a h => ?_)
                      refine d_done (by kernel_rfl) (HE _ _ ?_) _
                      refine e_thenN ?_
                      exact h.has (by exact ⟨rfl, rfl, rfl, rfl, rfl, rfl, rfl, rfl, rfl, trivial⟩)
                  refine e_thenN ?_
                  refine c_cond h rfl (fun hb => ?_) (fun hb => ?_)
                  · rw [if_pos hb] at hc110
                    refine c_r ?_ -- region 19
                    refine s_move h rfl _ rfl rfl (by decide) rfl (fun a h => ?_)
                    refine s_move h rfl _ rfl rfl (by decide) rfl (fun a h => ?_)
                    obtain ⟨x153, h157, hc110⟩ := bsome hc110
                    obtain ⟨m154, hi158, hm159, hx160⟩ := idx_some h157
                    obtain ⟨b155, off156, k161, hA162, hu163, hc164⟩ := (hsa1).at (by decide) hx160 (h.m.snOK (i := 2) rfl)
                    obtain ⟨k165, k166, rfl, ⟨rfl, hr167⟩, ⟨k168, k169, rfl, ⟨rfl, hr170⟩, ⟨rfl, hr171⟩⟩⟩ := hu163
                    refine s_x h rfl rfl (by decide) (x_iaddrE h.k rfl Try.underlying81 sz_api_Term hA162 rfl rfl hi158 hm159) (fun a h => ?_)
                    refine s_x h rfl rfl (by decide) (x_faddr h.k rfl Try.underlying89 rfl sz_int rfl) (fun a h => ?_)
                    refine s_x h rfl rfl (by decide) (x_ld h.k rfl Try.underlying3 rfl rfl (hc164 _ (h.m.snOK (i := 2) rfl) 2 _ rfl)) (fun a h => ?_)
                    refine s_x h rfl rfl (by decide) (x_bin h.k rfl rfl rfl (ib_add rfl)) (fun a h => ?_)
                    refine s_assign h rfl _ rfl rfl (by decide) rfl (fun a h => ?_)
                    refine l_nil ?_
                    refine e_blkN ?_
                    refine e_thenN ?_
                    exact ⟨w64 (x153.2.2 + 1), (Option.some.inj hc110), (w64_r _), h.has (by exact ⟨rfl, rfl, rfl, rfl, rfl, rfl, rfl, rfl, trivial⟩)⟩
                  · rw [if_neg (by rw [hb]; decide)] at hc110
                    refine wp_skip ?_
                    refine e_blkN ?_
                    refine e_thenN ?_
                    exact ⟨x101, (Option.some.inj hc110), hr102, h.has (by exact ⟨rfl, rfl, rfl, rfl, rfl, rfl, rfl, rfl, trivial⟩)⟩
                · rintro a w ⟨x111, rfl, hr112, h⟩
                  refine c_r ?_ -- region 17
                  refine s_move h rfl _ rfl rfl (by decide) rfl (fun a h => ?_)
                  refine s_x h rfl rfl (by decide) (x_bin h.k rfl rfl rfl (ib_add rfl)) (fun a h => ?_)
                  refine s_assign h rfl _ rfl rfl (by decide) rfl (fun a h => ?_)
                  refine l_nil ?_
                  exact e_thenN ⟨m108, Nat.lt_succ_self _, x111, w64 (x103 + 1), hl107, hr112, (w64_r _), h.has (by exact ⟨rfl, rfl, rfl, rfl, rfl, rfl, rfl, rfl, trivial⟩)⟩
              · rw [if_neg (of_decide_eq_false hb)] at hl107
                refine wp_exit ?_
                refine e_thenX ?_
                refine e_thenX ?_
                refine e_blkX ?_
                refine e_thenN ?_
                exact ⟨x101, (Option.some.inj hl107), hr102, h.has (by exact ⟨rfl, rfl, rfl, rfl, rfl, rfl, rfl, trivial⟩)⟩
            · rintro a w ⟨x105, rfl, hr106, h⟩
              refine e_thenN ?_
              refine wp_seq ?_
              refine c_rs ?_ -- region 20
              refine s_assign h rfl _ rfl rfl (by decide) rfl (fun a h => ?_)
              refine l_end ?_
              obtain ⟨o172, hl173, hc26⟩ := bsome hc26
              refine c_fin (fun a w => ∃ (x178 : Int), x178 = o172 ∧ r64 x178 ∧ St 129 w0 (ownL ([] ++ [.sn S0])) [(0, .slice Aa0 a0.length ca0), (1, .slice Aa1 a1.length ca1), (5, .slice A11 x10.length c12), (6, .int .i64 x15), (7, .pointer (some ⟨g51, 0, none⟩)), (10, .int .i64 x178)] [.row (.slice A11 x10.length c12) 89 3 x10.length cs13, .box g51 89 ([.int .i64 x32.1, .int .i64 x32.2.1, .int .i64 x32.2.2]), .sn S0] a w) ?_ ?_
              · refine wp_block ?_
                refine c_loop (fun m181 a w => ∃ (x174 : Int), ∃ (x176 : Int), chatelaineref39_Keep_l3 Fu a0 a1 x32 x72 m181 x174 x176 = some o172 ∧ r64 x174 ∧ r64 x176 ∧ St 129 w0 (ownL ([] ++ [.sn S0])) [(0, .slice Aa0 a0.length ca0), (1, .slice Aa1 a1.length ca1), (5, .slice A11 x10.length c12), (6, .int .i64 x15), (7, .pointer (some ⟨g51, 0, none⟩)), (8, .int .i64 x72), (10, .int .i64 x174), (12, .int .i64 x176)] [.row (.slice A11 x10.length c12) 89 3 x10.length cs13, .box g51 89 ([.int .i64 x32.1, .int .i64 x32.2.1, .int .i64 x32.2.2]), .sn S0] a w) Fu ⟨x105, 0, hl173, hr106, (show r64 0 from ⟨by decide, by decide⟩), h.has (by exact ⟨rfl, rfl, rfl, rfl, rfl, rfl, rfl, rfl, trivial⟩)⟩ (fun m181 a w hI => ?_)
                obtain ⟨x174, x176, hl180, hr175, hr177, h⟩ := hI
                obtain _ | m181 := m181
                · rw [chatelaineref39_Keep_l3] at hl180; cases hl180
                rw [chatelaineref39_Keep_l3] at hl180
                refine wp_seq ?_
                refine c_rs ?_ -- region 21
                refine s_move h rfl _ rfl rfl (by decide) rfl (fun a h => ?_)
                refine s_move h rfl _ rfl rfl (by decide) rfl (fun a h => ?_)
                refine s_x h rfl rfl (by decide) (x_bin h.k rfl rfl rfl ib_lss) (fun a h => ?_)
                refine l_end ?_
                refine c_cond h rfl (fun hb => ?_) (fun hb => ?_)
                · rw [if_pos (of_decide_eq_true hb)] at hl180
                  refine wp_skip ?_
                  refine e_thenN ?_
                  obtain ⟨o182, hc183, hl180⟩ := bsome hl180
                  refine c_cut (fun a w => ∃ (x184 : Int), x184 = o182 ∧ r64 x184 ∧ St 129 w0 (ownL ([] ++ [.sn S0])) [(0, .slice Aa0 a0.length ca0), (1, .slice Aa1 a1.length ca1), (5, .slice A11 x10.length c12), (6, .int .i64 x15), (7, .pointer (some ⟨g51, 0, none⟩)), (8, .int .i64 x72), (10, .int .i64 x184), (12, .int .i64 x176)] [.row (.slice A11 x10.length c12) 89 3 x10.length cs13, .box g51 89 ([.int .i64 x32.1, .int .i64 x32.2.1, .int .i64 x32.2.2]), .sn S0] a w) ?_ ?_
                  · refine wp_block ?_
                    refine wp_seq ?_
                    -- region 23 draws
                    obtain ⟨x186, h190, hc183⟩ := bsome hc183
                    obtain ⟨z205, hz206, hc183⟩ := bsome hc183
                    obtain ⟨z226, hz227, hc183⟩ := bsome hc183
                    obtain ⟨z250, hz251, hc183⟩ := bsome hc183
                    refine c_fin (fun a w => St 129 w0 (ownL ([] ++ [.sn S0])) [(0, .slice Aa0 a0.length ca0), (1, .slice Aa1 a1.length ca1), (5, .slice A11 x10.length c12), (6, .int .i64 x15), (7, .pointer (some ⟨g51, 0, none⟩)), (8, .int .i64 x72), (10, .int .i64 x174), (12, .int .i64 x176), (118, .bool z250)] [.row (.slice A11 x10.length c12) 89 3 x10.length cs13, .box g51 89 ([.int .i64 x32.1, .int .i64 x32.2.1, .int .i64 x32.2.2]), .sn S0] a w) ?_ (fun a w h => ?_)
                    · refine d_start h (Mem _ _ _) 36 36 rfl (by kernel_rfl) (fun _ _ _ _ _ h => h) (fun _ h => h) (fun Q a w HE HN h HS => ?_)
                      refine d_takeP h (fun _ => HS) HN 0 rfl (by kernel_rfl) (by kernel_rfl) (by kernel_rfl) (by decide) rfl rfl (by decide) (fun w' => x_move h.k _ rfl rfl) (fun a h => ?_)
                      refine d_takeP h (fun _ => HS) HN 1 rfl (by kernel_rfl) (by kernel_rfl) (by kernel_rfl) (by decide) rfl rfl (by decide) (fun w' => x_move h.k _ rfl rfl) (fun a h => ?_)
                      obtain ⟨m187, hi191, hm192, hx193⟩ := idx_some h190
                      obtain ⟨b188, off189, k194, hA195, hu196, hc197⟩ := (hsa0).at (by decide) hx193 (h.m.snOK (i := 2) rfl)
                      obtain ⟨k198, k199, rfl, ⟨rfl, hr200⟩, ⟨k201, k202, rfl, ⟨rfl, hr203⟩, ⟨rfl, hr204⟩⟩⟩ := hu196
                      refine d_takeP h (fun _ => HS) HN 2 rfl (by kernel_rfl) (by kernel_rfl) (by kernel_rfl) (by decide) rfl rfl (by decide) (fun w' => x_iaddrE h.k rfl Try.underlying81 sz_api_Term hA195 rfl rfl hi191 hm192) (fun a h => ?_)
                      refine d_takeP h (fun _ => HS) HN 3 rfl (by kernel_rfl) (by kernel_rfl) (by kernel_rfl) (by decide) rfl rfl (by decide) (fun w' => x_faddr h.k rfl Try.underlying89 rfl sz_int rfl) (fun a h => ?_)
                      refine d_take h HS HN 4 rfl (by kernel_rfl) (by kernel_rfl) (by kernel_rfl) (by kernel_rfl) (by kernel_rfl) rfl rfl (by decide) (fun w' hw => x_ld h.k rfl Try.underlying3 rfl rfl (hc197 _ (hw.snOK (i := 2) rfl) 0 _ rfl)) (fun a h => ?_)
                      refine d_takeP h (fun _ => HS) HN 5 rfl (by kernel_rfl) (by kernel_rfl) (by kernel_rfl) (by decide) rfl rfl (by decide) (fun w' => x_bin h.k rfl rfl rfl ib_eql) (fun a h => ?_)
                      refine d_takeP h (fun _ => HS) HN 6 rfl (by kernel_rfl) (by kernel_rfl) (by kernel_rfl) (by decide) rfl rfl (by decide) (fun w' => x_move h.k _ rfl rfl) (fun a h => ?_)
                      refine d_split (t := 89) h rfl (fun hB6 => ?_) (fun hB6 => ?_)
                      · rw [if_pos (of_decide_eq_true hB6)] at hz206
                        obtain ⟨x207, h211, hz206⟩ := bsome hz206
                        refine d_takeP h (fun _ => HS) HN 7 rfl (by kernel_rfl) (by kernel_rfl) (by kernel_rfl) (by decide) (by rw [g_want h rfl rfl rfl rfl hB6]; rfl) rfl (by decide) (fun w' => x_move h.k _ rfl rfl) (fun a h => ?_)
                        refine d_takeP h (fun _ => HS) HN 8 rfl (by kernel_rfl) (by kernel_rfl) (by kernel_rfl) (by decide) (by rw [g_want h rfl rfl rfl rfl hB6]; rfl) rfl (by decide) (fun w' => x_move h.k _ rfl rfl) (fun a h => ?_)
                        obtain ⟨m208, hi212, hm213, hx214⟩ := idx_some h211
                        obtain ⟨b209, off210, k215, hA216, hu217, hc218⟩ := (hsa0).at (by decide) hx214 (h.m.snOK (i := 2) rfl)
                        obtain ⟨k219, k220, rfl, ⟨rfl, hr221⟩, ⟨k222, k223, rfl, ⟨rfl, hr224⟩, ⟨rfl, hr225⟩⟩⟩ := hu217
                        refine d_takeP h (fun _ => HS) HN 9 rfl (by kernel_rfl) (by kernel_rfl) (by kernel_rfl) (by decide) (by rw [g_want h rfl rfl rfl rfl hB6]; rfl) rfl (by decide) (fun w' => x_iaddrE h.k rfl Try.underlying81 sz_api_Term hA216 rfl rfl hi212 hm213) (fun a h => ?_)
                        refine d_takeP h (fun _ => HS) HN 10 rfl (by kernel_rfl) (by kernel_rfl) (by kernel_rfl) (by decide) (by rw [g_want h rfl rfl rfl rfl hB6]; rfl) rfl (by decide) (fun w' => x_faddr h.k rfl Try.underlying89 rfl sz_int rfl) (fun a h => ?_)
                        refine d_takeY h HS HN 11 rfl (by kernel_rfl) (by kernel_rfl) (by kernel_rfl) (by kernel_rfl) (by kernel_rfl) (by rw [g_want h rfl rfl rfl rfl hB6]; rfl) rfl (by decide) (fun w' hw => x_ld h.k rfl Try.underlying3 rfl rfl (hc218 _ (hw.snOK (i := 2) rfl) 1 _ rfl)) (fun a h => ?_)
                        refine d_takeP h (fun _ => HS) HN 12 rfl (by kernel_rfl) (by kernel_rfl) (by kernel_rfl) (by decide) (by rw [g_want h rfl rfl rfl rfl hB6]; rfl) rfl (by decide) (fun w' => x_faddr h.k rfl Try.underlying89 rfl sz_int rfl) (fun a h => ?_)
                        refine d_takeY h HS HN 13 rfl (by kernel_rfl) (by kernel_rfl) (by kernel_rfl) (by kernel_rfl) (by kernel_rfl) (by rw [g_want h rfl rfl rfl rfl hB6]; rfl) rfl (by decide) (fun w' hw => x_ld h.k rfl Try.underlying3 rfl rfl ((hw.cell (i := 1) rfl 1).trans rfl)) (fun a h => ?_)
                        refine d_takeP h (fun _ => HS) HN 14 rfl (by kernel_rfl) (by kernel_rfl) (by kernel_rfl) (by decide) (by rw [g_want h rfl rfl rfl rfl hB6]; rfl) rfl (by decide) (fun w' => x_bin h.k rfl rfl rfl ib_eql) (fun a h => ?_)
                        refine d_takeP h (fun _ => HS) HN 15 rfl (by kernel_rfl) (by kernel_rfl) (by kernel_rfl) (by decide) rfl rfl (by decide) (fun w' => x_pick (v := .bool z205) (u' := undef) h.k rfl rfl (fun _ => by rw [← Option.some.inj hz206]; rfl) (fun hh => absurd (hB6.symm.trans hh) (by decide))) (fun a h => ?_)
                        refine d_takeP h (fun _ => HS) HN 16 rfl (by kernel_rfl) (by kernel_rfl) (by kernel_rfl) (by decide) rfl rfl (by decide) (fun w' => x_move h.k _ rfl rfl) (fun a h => ?_)
                        refine d_split (t := 99) h rfl (fun hB16 => ?_) (fun hB16 => ?_)
                        · rw [if_pos hB16] at hz227
                          obtain ⟨x228, h232, hz227⟩ := bsome hz227
                          obtain ⟨x247, h248, hz227⟩ := bsome hz227
                          refine d_takeP h (fun _ => HS) HN 17 rfl (by kernel_rfl) (by kernel_rfl) (by kernel_rfl) (by decide) (by rw [g_want h rfl rfl rfl rfl hB16]; rfl) rfl (by decide) (fun w' => x_move h.k _ rfl rfl) (fun a h => ?_)
                          refine d_takeP h (fun _ => HS) HN 18 rfl (by kernel_rfl) (by kernel_rfl) (by kernel_rfl) (by decide) (by rw [g_want h rfl rfl rfl rfl hB16]; rfl) rfl (by decide) (fun w' => x_move h.k _ rfl rfl) (fun a h => ?_)
                          refine d_takeP h (fun _ => HS) HN 19 rfl (by kernel_rfl) (by kernel_rfl) (by kernel_rfl) (by decide) (by rw [g_want h rfl rfl rfl rfl hB16]; rfl) rfl (by decide) (fun w' => x_move h.k _ rfl rfl) (fun a h => ?_)
                          obtain ⟨m229, hi233, hm234, hx235⟩ := idx_some h232
                          obtain ⟨b230, off231, k236, hA237, hu238, hc239⟩ := (hsa0).at (by decide) hx235 (h.m.snOK (i := 2) rfl)
                          obtain ⟨k240, k241, rfl, ⟨rfl, hr242⟩, ⟨k243, k244, rfl, ⟨rfl, hr245⟩, ⟨rfl, hr246⟩⟩⟩ := hu238
                          refine d_takeP h (fun _ => HS) HN 20 rfl (by kernel_rfl) (by kernel_rfl) (by kernel_rfl) (by decide) (by rw [g_want h rfl rfl rfl rfl hB16]; rfl) rfl (by decide) (fun w' => x_iaddrE h.k rfl Try.underlying81 sz_api_Term hA237 rfl rfl hi233 hm234) (fun a h => ?_)
                          refine d_takeY h HS HN 21 rfl (by kernel_rfl) (by kernel_rfl) (by kernel_rfl) (by kernel_rfl) (by kernel_rfl) (by rw [g_want h rfl rfl rfl rfl hB16]; rfl) rfl (by decide) (fun w' hw => x_ldR h.k rfl ag_api_Term rfl ([.int .i64 x228.1, .int .i64 x228.2.1, .int .i64 x228.2.2]) rfl (hc239 _ (hw.snOK (i := 2) rfl))) (fun a h => ?_)
                          refine d_alone 22 rfl (by kernel_rfl) (fun K hK => ?_)
                          refine g_yes (j := 16) (t := 99) h rfl rfl rfl rfl hB16 ?_
                          have hX := chatelaineref39_In_ok Fu (S0 := snapAll _) Aa1 ca1 a1 (hsa1.mono (h.m.leAll (i := 2) rfl)) ([.int .i64 x228.1, .int .i64 x228.2.1, .int .i64 x228.2.2]) x228 ((tyP tyI (tyP tyI tyI)).mono (h.m.leAll (i := 2) rfl) (show (tyP tyI (tyP tyI tyI)).rep S0 ([.int .i64 x228.1, .int .i64 x228.2.1, .int .i64 x228.2.2]) x228 from ⟨[.int .i64 x228.1], [.int .i64 x228.2.1, .int .i64 x228.2.2], rfl, ⟨rfl, hr242⟩, ⟨[.int .i64 x228.2.1], [.int .i64 x228.2.2], rfl, ⟨rfl, hr245⟩, ⟨rfl, hr246⟩⟩⟩)) _ h248 _ h.startAll
                          refine q_callX hX h rfl rfl rfl (by decide) Try.func89 rfl rfl rfl (fun a w v L1 S1 hR hb1 h => ?_)
                          obtain ⟨rfl, rfl, _⟩ := hR
                          refine hK _ _ (fun _ _ => HS.ext hb1) ?_
                          replace HS := HS.ext hb1
                          clear hK
                          refine d_takeP h (fun _ => HS) HN 23 rfl (by kernel_rfl) (by kernel_rfl) (by kernel_rfl) (by decide) (by rw [g_want h rfl rfl rfl rfl hB16]; rfl) rfl (by decide) (fun w' => x_not h.k rfl rfl) (fun a h => ?_)
                          refine d_takeP h (fun _ => HS) HN 24 rfl (by kernel_rfl) (by kernel_rfl) (by kernel_rfl) (by decide) rfl rfl (by decide) (fun w' => x_pick (v := .bool z226) (u' := undef) h.k rfl rfl (fun _ => by rw [← Option.some.inj hz227]; rfl) (fun hh => absurd (hB16.symm.trans hh) (by decide))) (fun a h => ?_)
                          refine d_takeP h (fun _ => HS) HN 25 rfl (by kernel_rfl) (by kernel_rfl) (by kernel_rfl) (by decide) rfl rfl (by decide) (fun w' => x_move h.k _ rfl rfl) (fun a h => ?_)
                          refine d_split (t := 108) h rfl (fun hB25 => ?_) (fun hB25 => ?_)
                          · rw [if_pos hB25] at hz251
                            obtain ⟨x252, h253, hz251⟩ := bsome hz251
                            obtain ⟨x262, h266, hz251⟩ := bsome hz251
                            obtain ⟨x281, h282, hz251⟩ := bsome hz251
                            refine d_takeP h (fun _ => HS) HN 26 rfl (by kernel_rfl) (by kernel_rfl) (by kernel_rfl) (by decide) (by rw [g_want h rfl rfl rfl rfl hB25]; rfl) rfl (by decide) (fun w' => x_move h.k _ rfl rfl) (fun a h => ?_)
                            refine d_takeP h (fun _ => HS) HN 27 rfl (by kernel_rfl) (by kernel_rfl) (by kernel_rfl) (by decide) (by rw [g_want h rfl rfl rfl rfl hB25]; rfl) rfl (by decide) (fun w' => x_move h.k _ rfl rfl) (fun a h => ?_)
                            obtain ⟨m254, n255, hi256, hi257, hm258, hm259, hr260⟩ := sub_some h253
                            have hs261 := slS.sub (hsa0) hm258 hm259 (Nat.le_trans hm259 (hsa0).1) (Nat.le_refl _) hr260
                            refine d_takeP h (fun _ => HS) HN 28 rfl (by kernel_rfl) (by kernel_rfl) (by kernel_rfl) (by decide) (by rw [g_want h rfl rfl rfl rfl hB25]; rfl) rfl (by decide) (fun w' => x_sliceE h.k rfl Try.underlying81 sz_api_Term rfl ca0 hr260 (bd_none (by omega)) (bd_some rfl hi257) (bd_none rfl) (by intro hh; cases hh) hm258 hm259 (Nat.le_trans hm259 (hsa0).1) (Nat.le_refl _)) (fun a h => ?_)
                            refine d_takeP h (fun _ => HS) HN 29 rfl (by kernel_rfl) (by kernel_rfl) (by kernel_rfl) (by decide) (by rw [g_want h rfl rfl rfl rfl hB25]; rfl) rfl (by decide) (fun w' => x_move h.k _ rfl rfl) (fun a h => ?_)
                            refine d_takeP h (fun _ => HS) HN 30 rfl (by kernel_rfl) (by kernel_rfl) (by kernel_rfl) (by decide) (by rw [g_want h rfl rfl rfl rfl hB25]; rfl) rfl (by decide) (fun w' => x_move h.k _ rfl rfl) (fun a h => ?_)
                            obtain ⟨m263, hi267, hm268, hx269⟩ := idx_some h266
                            obtain ⟨b264, off265, k270, hA271, hu272, hc273⟩ := (hsa0).at (by decide) hx269 (h.m.snOK (i := 2) rfl)
                            obtain ⟨k274, k275, rfl, ⟨rfl, hr276⟩, ⟨k277, k278, rfl, ⟨rfl, hr279⟩, ⟨rfl, hr280⟩⟩⟩ := hu272
                            refine d_takeP h (fun _ => HS) HN 31 rfl (by kernel_rfl) (by kernel_rfl) (by kernel_rfl) (by decide) (by rw [g_want h rfl rfl rfl rfl hB25]; rfl) rfl (by decide) (fun w' => x_iaddrE h.k rfl Try.underlying81 sz_api_Term hA271 rfl rfl hi267 hm268) (fun a h => ?_)
                            refine d_takeY h HS HN 32 rfl (by kernel_rfl) (by kernel_rfl) (by kernel_rfl) (by kernel_rfl) (by kernel_rfl) (by rw [g_want h rfl rfl rfl rfl hB25]; rfl) rfl (by decide) (fun w' hw => x_ldR h.k rfl ag_api_Term rfl ([.int .i64 x262.1, .int .i64 x262.2.1, .int .i64 x262.2.2]) rfl (hc273 _ (hw.snOK (i := 2) rfl))) (fun a h => ?_)
                            refine d_alone 33 rfl (by kernel_rfl) (fun K hK => ?_)
                            refine g_yes (j := 25) (t := 108) h rfl rfl rfl rfl hB25 ?_
                            have hX := chatelaineref39_In_ok Fu (S0 := snapAll _) (sA Aa0 ca0 m254 3) (ca0 - m254) x252 (hs261.mono (h.m.leAll (i := 2) rfl)) ([.int .i64 x262.1, .int .i64 x262.2.1, .int .i64 x262.2.2]) x262 ((tyP tyI (tyP tyI tyI)).mono (h.m.leAll (i := 2) rfl) (show (tyP tyI (tyP tyI tyI)).rep S0 ([.int .i64 x262.1, .int .i64 x262.2.1, .int .i64 x262.2.2]) x262 from ⟨[.int .i64 x262.1], [.int .i64 x262.2.1, .int .i64 x262.2.2], rfl, ⟨rfl, hr276⟩, ⟨[.int .i64 x262.2.1], [.int .i64 x262.2.2], rfl, ⟨rfl, hr279⟩, ⟨rfl, hr280⟩⟩⟩)) _ h282 _ h.startAll
                            refine q_callX hX h rfl rfl rfl (by decide) Try.func89 rfl rfl rfl (fun a w v L1 S1 hR hb1 h => ?_)
                            obtain ⟨rfl, rfl, _⟩ := hR
                            refine hK _ _ (fun _ _ => HS.ext hb1) ?_
                            replace HS := HS.ext hb1
                            clear hK
                            refine d_takeP h (fun _ => HS) HN 34 rfl (by kernel_rfl) (by kernel_rfl) (by kernel_rfl) (by decide) (by rw [g_want h rfl rfl rfl rfl hB25]; rfl) rfl (by decide) (fun w' => x_not h.k rfl rfl) (fun a h => ?_)
                            refine d_takeP h (fun _ => HS) HN 35 rfl (by kernel_rfl) (by kernel_rfl) (by kernel_rfl) (by decide) rfl rfl (by decide) (fun w' => x_pick (v := .bool z250) (u' := undef) h.k rfl rfl (fun _ => by rw [← Option.some.inj hz251]; rfl) (fun hh => absurd (hB25.symm.trans hh) (by decide))) (fun a h => ?_)
                            refine d_done (by kernel_rfl) (HE _ _ ?_) _
                            refine e_thenN ?_
                            exact h.has (by exact ⟨rfl, rfl, rfl, rfl, rfl, rfl, rfl, rfl, rfl, trivial⟩)
                          · rw [if_neg (by rw [hB25]; decide)] at hz251
                            refine d_takeNP h (fun _ => HS) HN 26 rfl (by kernel_rfl) (by kernel_rfl) (by kernel_rfl) (by decide) (by rw [g_want h rfl rfl rfl rfl hB25]; rfl) rfl (by decide) (fun a h => ?_)
                            refine d_takeNP h (fun _ => HS) HN 27 rfl (by kernel_rfl) (by kernel_rfl) (by kernel_rfl) (by decide) (by rw [g_want h rfl rfl rfl rfl hB25]; rfl) rfl (by decide) (fun a h => ?_)
                            refine d_takeNP h (fun _ => HS) HN 28 rfl (by kernel_rfl) (by kernel_rfl) (by kernel_rfl) (by decide) (by rw [g_want h rfl rfl rfl rfl hB25]; rfl) rfl (by decide) (fun a h => ?_)
                            refine d_takeNP h (fun _ => HS) HN 29 rfl (by kernel_rfl) (by kernel_rfl) (by kernel_rfl) (by decide) (by rw [g_want h rfl rfl rfl rfl hB25]; rfl) rfl (by decide) (fun a h => ?_)
                            refine d_takeNP h (fun _ => HS) HN 30 rfl (by kernel_rfl) (by kernel_rfl) (by kernel_rfl) (by decide) (by rw [g_want h rfl rfl rfl rfl hB25]; rfl) rfl (by decide) (fun a h => ?_)
                            refine d_takeNP h (fun _ => HS) HN 31 rfl (by kernel_rfl) (by kernel_rfl) (by kernel_rfl) (by decide) (by rw [g_want h rfl rfl rfl rfl hB25]; rfl) rfl (by decide) (fun a h => ?_)
                            refine d_takeNP h (fun _ => HS) HN 32 rfl (by kernel_rfl) (by kernel_rfl) (by kernel_rfl) (by decide) (by rw [g_want h rfl rfl rfl rfl hB25]; rfl) rfl (by decide) (fun a h => ?_)
                            refine d_takeNP h (fun _ => HS) HN 33 rfl (by kernel_rfl) (by kernel_rfl) (by kernel_rfl) (by decide) (by rw [g_want h rfl rfl rfl rfl hB25]; rfl) rfl (by decide) (fun a h => ?_)
                            refine d_takeNP h (fun _ => HS) HN 34 rfl (by kernel_rfl) (by kernel_rfl) (by kernel_rfl) (by decide) (by rw [g_want h rfl rfl rfl rfl hB25]; rfl) rfl (by decide) (fun a h => ?_)
                            refine d_takeP h (fun _ => HS) HN 35 rfl (by kernel_rfl) (by kernel_rfl) (by kernel_rfl) (by decide) rfl rfl (by decide) (fun w' => x_pick (v := .bool z250) (u' := undef) h.k rfl rfl (fun hh => absurd (hB25.symm.trans hh) (by decide)) (fun _ => by rw [← Option.some.inj hz251]; rfl)) (fun a h => ?_)
                            refine d_done (by kernel_rfl) (HE _ _ ?_) _
                            refine e_thenN ?_
                            exact h.has (by exact ⟨rfl, rfl, rfl, rfl, rfl, rfl, rfl, rfl, rfl, trivial⟩)
                        · rw [if_neg (by rw [hB16]; decide)] at hz227
                          refine d_takeNP h (fun _ => HS) HN 17 rfl (by kernel_rfl) (by kernel_rfl) (by kernel_rfl) (by decide) (by rw [g_want h rfl rfl rfl rfl hB16]; rfl) rfl (by decide) (fun a h => ?_)
                          refine d_takeNP h (fun _ => HS) HN 18 rfl (by kernel_rfl) (by kernel_rfl) (by kernel_rfl) (by decide) (by rw [g_want h rfl rfl rfl rfl hB16]; rfl) rfl (by decide) (fun a h => ?_)
                          refine d_takeNP h (fun _ => HS) HN 19 rfl (by kernel_rfl) (by kernel_rfl) (by kernel_rfl) (by decide) (by rw [g_want h rfl rfl rfl rfl hB16]; rfl) rfl (by decide) (fun a h => ?_)
                          refine d_takeNP h (fun _ => HS) HN 20 rfl (by kernel_rfl) (by kernel_rfl) (by kernel_rfl) (by decide) (by rw [g_want h rfl rfl rfl rfl hB16]; rfl) rfl (by decide) (fun a h => ?_)
                          refine d_takeNP h (fun _ => HS) HN 21 rfl (by kernel_rfl) (by kernel_rfl) (by kernel_rfl) (by decide) (by rw [g_want h rfl rfl rfl rfl hB16]; rfl) rfl (by decide) (fun a h => ?_)
                          refine d_takeNP h (fun _ => HS) HN 22 rfl (by kernel_rfl) (by kernel_rfl) (by kernel_rfl) (by decide) (by rw [g_want h rfl rfl rfl rfl hB16]; rfl) rfl (by decide) (fun a h => ?_)
                          refine d_takeNP h (fun _ => HS) HN 23 rfl (by kernel_rfl) (by kernel_rfl) (by kernel_rfl) (by decide) (by rw [g_want h rfl rfl rfl rfl hB16]; rfl) rfl (by decide) (fun a h => ?_)
                          refine d_takeP h (fun _ => HS) HN 24 rfl (by kernel_rfl) (by kernel_rfl) (by kernel_rfl) (by decide) rfl rfl (by decide) (fun w' => x_pick (v := .bool z226) (u' := undef) h.k rfl rfl (fun hh => absurd (hB16.symm.trans hh) (by decide)) (fun _ => by rw [← Option.some.inj hz227]; rfl)) (fun a h => ?_)
                          refine d_takeP h (fun _ => HS) HN 25 rfl (by kernel_rfl) (by kernel_rfl) (by kernel_rfl) (by decide) rfl rfl (by decide) (fun w' => x_move h.k _ rfl rfl) (fun a h => ?_)
                          refine d_split (t := 108) h rfl (fun hB25 => ?_) (fun hB25 => ?_)
                          · rw [if_pos hB25] at hz251
                            obtain ⟨x252, h253, hz251⟩ := bsome hz251
                            obtain ⟨x262, h266, hz251⟩ := bsome hz251
                            obtain ⟨x281, h282, hz251⟩ := bsome hz251
                            refine d_takeP h (fun _ => HS) HN 26 rfl (by kernel_rfl) (by kernel_rfl) (by kernel_rfl) (by decide) (by rw [g_want h rfl rfl rfl rfl hB25]; rfl) rfl (by decide) (fun w' => x_move h.k _ rfl rfl) (fun a h => ?_)
                            refine d_takeP h (fun _ => HS) HN 27 rfl (by kernel_rfl) (by kernel_rfl) (by kernel_rfl) (by decide) (by rw [g_want h rfl rfl rfl rfl hB25]; rfl) rfl (by decide) (fun w' => x_move h.k _ rfl rfl) (fun a h => ?_)
                            obtain ⟨m254, n255, hi256, hi257, hm258, hm259, hr260⟩ := sub_some h253
                            have hs261 := slS.sub (hsa0) hm258 hm259 (Nat.le_trans hm259 (hsa0).1) (Nat.le_refl _) hr260
                            refine d_takeP h (fun _ => HS) HN 28 rfl (by kernel_rfl) (by kernel_rfl) (by kernel_rfl) (by decide) (by rw [g_want h rfl rfl rfl rfl hB25]; rfl) rfl (by decide) (fun w' => x_sliceE h.k rfl Try.underlying81 sz_api_Term rfl ca0 hr260 (bd_none (by omega)) (bd_some rfl hi257) (bd_none rfl) (by intro hh; cases hh) hm258 hm259 (Nat.le_trans hm259 (hsa0).1) (Nat.le_refl _)) (fun a h => ?_)
                            refine d_takeP h (fun _ => HS) HN 29 rfl (by kernel_rfl) (by kernel_rfl) (by kernel_rfl) (by decide) (by rw [g_want h rfl rfl rfl rfl hB25]; rfl) rfl (by decide) (fun w' => x_move h.k _ rfl rfl) (fun a h => ?_)
                            refine d_takeP h (fun _ => HS) HN 30 rfl (by kernel_rfl) (by kernel_rfl) (by kernel_rfl) (by decide) (by rw [g_want h rfl rfl rfl rfl hB25]; rfl) rfl (by decide) (fun w' => x_move h.k _ rfl rfl) (fun a h => ?_)
                            obtain ⟨m263, hi267, hm268, hx269⟩ := idx_some h266
                            obtain ⟨b264, off265, k270, hA271, hu272, hc273⟩ := (hsa0).at (by decide) hx269 (h.m.snOK (i := 2) rfl)
                            obtain ⟨k274, k275, rfl, ⟨rfl, hr276⟩, ⟨k277, k278, rfl, ⟨rfl, hr279⟩, ⟨rfl, hr280⟩⟩⟩ := hu272
                            refine d_takeP h (fun _ => HS) HN 31 rfl (by kernel_rfl) (by kernel_rfl) (by kernel_rfl) (by decide) (by rw [g_want h rfl rfl rfl rfl hB25]; rfl) rfl (by decide) (fun w' => x_iaddrE h.k rfl Try.underlying81 sz_api_Term hA271 rfl rfl hi267 hm268) (fun a h => ?_)
                            refine d_takeY h HS HN 32 rfl (by kernel_rfl) (by kernel_rfl) (by kernel_rfl) (by kernel_rfl) (by kernel_rfl) (by rw [g_want h rfl rfl rfl rfl hB25]; rfl) rfl (by decide) (fun w' hw => x_ldR h.k rfl ag_api_Term rfl ([.int .i64 x262.1, .int .i64 x262.2.1, .int .i64 x262.2.2]) rfl (hc273 _ (hw.snOK (i := 2) rfl))) (fun a h => ?_)
                            refine d_alone 33 rfl (by kernel_rfl) (fun K hK => ?_)
                            refine g_yes (j := 25) (t := 108) h rfl rfl rfl rfl hB25 ?_
                            have hX := chatelaineref39_In_ok Fu (S0 := snapAll _) (sA Aa0 ca0 m254 3) (ca0 - m254) x252 (hs261.mono (h.m.leAll (i := 2) rfl)) ([.int .i64 x262.1, .int .i64 x262.2.1, .int .i64 x262.2.2]) x262 ((tyP tyI (tyP tyI tyI)).mono (h.m.leAll (i := 2) rfl) (show (tyP tyI (tyP tyI tyI)).rep S0 ([.int .i64 x262.1, .int .i64 x262.2.1, .int .i64 x262.2.2]) x262 from ⟨[.int .i64 x262.1], [.int .i64 x262.2.1, .int .i64 x262.2.2], rfl, ⟨rfl, hr276⟩, ⟨[.int .i64 x262.2.1], [.int .i64 x262.2.2], rfl, ⟨rfl, hr279⟩, ⟨rfl, hr280⟩⟩⟩)) _ h282 _ h.startAll
                            refine q_callX hX h rfl rfl rfl (by decide) Try.func89 rfl rfl rfl (fun a w v L1 S1 hR hb1 h => ?_)
                            obtain ⟨rfl, rfl, _⟩ := hR
                            refine hK _ _ (fun _ _ => HS.ext hb1) ?_
                            replace HS := HS.ext hb1
                            clear hK
                            refine d_takeP h (fun _ => HS) HN 34 rfl (by kernel_rfl) (by kernel_rfl) (by kernel_rfl) (by decide) (by rw [g_want h rfl rfl rfl rfl hB25]; rfl) rfl (by decide) (fun w' => x_not h.k rfl rfl) (fun a h => ?_)
                            refine d_takeP h (fun _ => HS) HN 35 rfl (by kernel_rfl) (by kernel_rfl) (by kernel_rfl) (by decide) rfl rfl (by decide) (fun w' => x_pick (v := .bool z250) (u' := undef) h.k rfl rfl (fun _ => by rw [← Option.some.inj hz251]; rfl) (fun hh => absurd (hB25.symm.trans hh) (by decide))) (fun a h => ?_)
                            refine d_done (by kernel_rfl) (HE _ _ ?_) _
                            refine e_thenN ?_
                            exact h.has (by exact ⟨rfl, rfl, rfl, rfl, rfl, rfl, rfl, rfl, rfl, trivial⟩)
                          · rw [if_neg (by rw [hB25]; decide)] at hz251
                            refine d_takeNP h (fun _ => HS) HN 26 rfl (by kernel_rfl) (by kernel_rfl) (by kernel_rfl) (by decide) (by rw [g_want h rfl rfl rfl rfl hB25]; rfl) rfl (by decide) (fun a h => ?_)
                            refine d_takeNP h (fun _ => HS) HN 27 rfl (by kernel_rfl) (by kernel_rfl) (by kernel_rfl) (by decide) (by rw [g_want h rfl rfl rfl rfl hB25]; rfl) rfl (by decide) (fun a h => ?_)
                            refine d_takeNP h (fun _ => HS) HN 28 rfl (by kernel_rfl) (by kernel_rfl) (by kernel_rfl) (by decide) (by rw [g_want h rfl rfl rfl rfl hB25]; rfl) rfl (by decide) (fun a h => ?_)
                            refine d_takeNP h (fun _ => HS) HN 29 rfl (by kernel_rfl) (by kernel_rfl) (by kernel_rfl) (by decide) (by rw [g_want h rfl rfl rfl rfl hB25]; rfl) rfl (by decide) (fun a h => ?_)
                            refine d_takeNP h (fun _ => HS) HN 30 rfl (by kernel_rfl) (by kernel_rfl) (by kernel_rfl) (by decide) (by rw [g_want h rfl rfl rfl rfl hB25]; rfl) rfl (by decide) (fun a h => ?_)
                            refine d_takeNP h (fun _ => HS) HN 31 rfl (by kernel_rfl) (by kernel_rfl) (by kernel_rfl) (by decide) (by rw [g_want h rfl rfl rfl rfl hB25]; rfl) rfl (by decide) (fun a h => ?_)
                            refine d_takeNP h (fun _ => HS) HN 32 rfl (by kernel_rfl) (by kernel_rfl) (by kernel_rfl) (by decide) (by rw [g_want h rfl rfl rfl rfl hB25]; rfl) rfl (by decide) (fun a h => ?_)
                            refine d_takeNP h (fun _ => HS) HN 33 rfl (by kernel_rfl) (by kernel_rfl) (by kernel_rfl) (by decide) (by rw [g_want h rfl rfl rfl rfl hB25]; rfl) rfl (by decide) (fun a h => ?_)
                            refine d_takeNP h (fun _ => HS) HN 34 rfl (by kernel_rfl) (by kernel_rfl) (by kernel_rfl) (by decide) (by rw [g_want h rfl rfl rfl rfl hB25]; rfl) rfl (by decide) (fun a h => ?_)
                            refine d_takeP h (fun _ => HS) HN 35 rfl (by kernel_rfl) (by kernel_rfl) (by kernel_rfl) (by decide) rfl rfl (by decide) (fun w' => x_pick (v := .bool z250) (u' := undef) h.k rfl rfl (fun hh => absurd (hB25.symm.trans hh) (by decide)) (fun _ => by rw [← Option.some.inj hz251]; rfl)) (fun a h => ?_)
                            refine d_done (by kernel_rfl) (HE _ _ ?_) _
                            refine e_thenN ?_
                            exact h.has (by exact ⟨rfl, rfl, rfl, rfl, rfl, rfl, rfl, rfl, rfl, trivial⟩)
                      · rw [if_neg (of_decide_eq_false hB6)] at hz206
                        refine d_takeNP h (fun _ => HS) HN 7 rfl (by kernel_rfl) (by kernel_rfl) (by kernel_rfl) (by decide) (by rw [g_want h rfl rfl rfl rfl hB6]; rfl) rfl (by decide) (fun a h => ?_)
                        refine d_takeNP h (fun _ => HS) HN 8 rfl (by kernel_rfl) (by kernel_rfl) (by kernel_rfl) (by decide) (by rw [g_want h rfl rfl rfl rfl hB6]; rfl) rfl (by decide) (fun a h => ?_)
                        refine d_takeNP h (fun _ => HS) HN 9 rfl (by kernel_rfl) (by kernel_rfl) (by kernel_rfl) (by decide) (by rw [g_want h rfl rfl rfl rfl hB6]; rfl) rfl (by decide) (fun a h => ?_)
                        refine d_takeNP h (fun _ => HS) HN 10 rfl (by kernel_rfl) (by kernel_rfl) (by kernel_rfl) (by decide) (by rw [g_want h rfl rfl rfl rfl hB6]; rfl) rfl (by decide) (fun a h => ?_)
                        refine d_takeNP h (fun _ => HS) HN 11 rfl (by kernel_rfl) (by kernel_rfl) (by kernel_rfl) (by decide) (by rw [g_want h rfl rfl rfl rfl hB6]; rfl) rfl (by decide) (fun a h => ?_)
                        refine d_takeNP h (fun _ => HS) HN 12 rfl (by kernel_rfl) (by kernel_rfl) (by kernel_rfl) (by decide) (by rw [g_want h rfl rfl rfl rfl hB6]; rfl) rfl (by decide) (fun a h => ?_)
                        refine d_takeNP h (fun _ => HS) HN 13 rfl (by kernel_rfl) (by kernel_rfl) (by kernel_rfl) (by decide) (by rw [g_want h rfl rfl rfl rfl hB6]; rfl) rfl (by decide) (fun a h => ?_)
                        refine d_takeNP h (fun _ => HS) HN 14 rfl (by kernel_rfl) (by kernel_rfl) (by kernel_rfl) (by decide) (by rw [g_want h rfl rfl rfl rfl hB6]; rfl) rfl (by decide) (fun a h => ?_)
                        refine d_takeP h (fun _ => HS) HN 15 rfl (by kernel_rfl) (by kernel_rfl) (by kernel_rfl) (by decide) rfl rfl (by decide) (fun w' => x_pick (v := .bool z205) (u' := undef) h.k rfl rfl (fun hh => absurd (hB6.symm.trans hh) (by decide)) (fun _ => by rw [← Option.some.inj hz206]; rfl)) (fun a h => ?_)
                        refine d_takeP h (fun _ => HS) HN 16 rfl (by kernel_rfl) (by kernel_rfl) (by kernel_rfl) (by decide) rfl rfl (by decide) (fun w' => x_move h.k _ rfl rfl) (fun a h => ?_)
                        refine d_split (t := 99) h rfl (fun hB16 => ?_) (fun hB16 => ?_)
                        · rw [if_pos hB16] at hz227
                          obtain ⟨x228, h232, hz227⟩ := bsome hz227
                          obtain ⟨x247, h248, hz227⟩ := bsome hz227
                          refine d_takeP h (fun _ => HS) HN 17 rfl (by kernel_rfl) (by kernel_rfl) (by kernel_rfl) (by decide) (by rw [g_want h rfl rfl rfl rfl hB16]; rfl) rfl (by decide) (fun w' => x_move h.k _ rfl rfl) (fun a h => ?_)
                          refine d_takeP h (fun _ => HS) HN 18 rfl (by kernel_rfl) (by kernel_rfl) (by kernel_rfl) (by decide) (by rw [g_want h rfl rfl rfl rfl hB16]; rfl) rfl (by decide) (fun w' => x_move h.k _ rfl rfl) (fun a h => ?_)
                          refine d_takeP h (fun _ => HS) HN 19 rfl (by kernel_rfl) (by kernel_rfl) (by kernel_rfl) (by decide) (by rw [g_want h rfl rfl rfl rfl hB16]; rfl) rfl (by decide) (fun w' => x_move h.k _ rfl rfl) (fun a h => ?_)
                          obtain ⟨m229, hi233, hm234, hx235⟩ := idx_some h232
                          obtain ⟨b230, off231, k236, hA237, hu238, hc239⟩ := (hsa0).at (by decide) hx235 (h.m.snOK (i := 2) rfl)
                          obtain ⟨k240, k241, rfl, ⟨rfl, hr242⟩, ⟨k243, k244, rfl, ⟨rfl, hr245⟩, ⟨rfl, hr246⟩⟩⟩ := hu238
                          refine d_takeP h (fun _ => HS) HN 20 rfl (by kernel_rfl) (by kernel_rfl) (by kernel_rfl) (by decide) (by rw [g_want h rfl rfl rfl rfl hB16]; rfl) rfl (by decide) (fun w' => x_iaddrE h.k rfl Try.underlying81 sz_api_Term hA237 rfl rfl hi233 hm234) (fun a h => ?_)
                          refine d_takeY h HS HN 21 rfl (by kernel_rfl) (by kernel_rfl) (by kernel_rfl) (by kernel_rfl) (by kernel_rfl) (by rw [g_want h rfl rfl rfl rfl hB16]; rfl) rfl (by decide) (fun w' hw => x_ldR h.k rfl ag_api_Term rfl ([.int .i64 x228.1, .int .i64 x228.2.1, .int .i64 x228.2.2]) rfl (hc239 _ (hw.snOK (i := 2) rfl))) (fun a h => ?_)
                          refine d_alone 22 rfl (by kernel_rfl) (fun K hK => ?_)
                          refine g_yes (j := 16) (t := 99) h rfl rfl rfl rfl hB16 ?_
                          have hX := chatelaineref39_In_ok Fu (S0 := snapAll _) Aa1 ca1 a1 (hsa1.mono (h.m.leAll (i := 2) rfl)) ([.int .i64 x228.1, .int .i64 x228.2.1, .int .i64 x228.2.2]) x228 ((tyP tyI (tyP tyI tyI)).mono (h.m.leAll (i := 2) rfl) (show (tyP tyI (tyP tyI tyI)).rep S0 ([.int .i64 x228.1, .int .i64 x228.2.1, .int .i64 x228.2.2]) x228 from ⟨[.int .i64 x228.1], [.int .i64 x228.2.1, .int .i64 x228.2.2], rfl, ⟨rfl, hr242⟩, ⟨[.int .i64 x228.2.1], [.int .i64 x228.2.2], rfl, ⟨rfl, hr245⟩, ⟨rfl, hr246⟩⟩⟩)) _ h248 _ h.startAll
                          refine q_callX hX h rfl rfl rfl (by decide) Try.func89 rfl rfl rfl (fun a w v L1 S1 hR hb1 h => ?_)
                          obtain ⟨rfl, rfl, _⟩ := hR
                          refine hK _ _ (fun _ _ => HS.ext hb1) ?_
                          replace HS := HS.ext hb1
                          clear hK
                          refine d_takeP h (fun _ => HS) HN 23 rfl (by kernel_rfl) (by kernel_rfl) (by kernel_rfl) (by decide) (by rw [g_want h rfl rfl rfl rfl hB16]; rfl) rfl (by decide) (fun w' => x_not h.k rfl rfl) (fun a h => ?_)
                          refine d_takeP h (fun _ => HS) HN 24 rfl (by kernel_rfl) (by kernel_rfl) (by kernel_rfl) (by decide) rfl rfl (by decide) (fun w' => x_pick (v := .bool z226) (u' := undef) h.k rfl rfl (fun _ => by rw [← Option.some.inj hz227]; rfl) (fun hh => absurd (hB16.symm.trans hh) (by decide))) (fun a h => ?_)
                          refine d_takeP h (fun _ => HS) HN 25 rfl (by kernel_rfl) (by kernel_rfl) (by kernel_rfl) (by decide) rfl rfl (by decide) (fun w' => x_move h.k _ rfl rfl) (fun a h => ?_)
                          refine d_split (t := 108) h rfl (fun hB25 => ?_) (fun hB25 => ?_)
                          · rw [if_pos hB25] at hz251
                            obtain ⟨x252, h253, hz251⟩ := bsome hz251
                            obtain ⟨x262, h266, hz251⟩ := bsome hz251
                            obtain ⟨x281, h282, hz251⟩ := bsome hz251
                            refine d_takeP h (fun _ => HS) HN 26 rfl (by kernel_rfl) (by kernel_rfl) (by kernel_rfl) (by decide) (by rw [g_want h rfl rfl rfl rfl hB25]; rfl) rfl (by decide) (fun w' => x_move h.k _ rfl rfl) (fun a h => ?_)
                            refine d_takeP h (fun _ => HS) HN 27 rfl (by kernel_rfl) (by kernel_rfl) (by kernel_rfl) (by decide) (by rw [g_want h rfl rfl rfl rfl hB25]; rfl) rfl (by decide) (fun w' => x_move h.k _ rfl rfl) (fun a h => ?_)
                            obtain ⟨m254, n255, hi256, hi257, hm258, hm259, hr260⟩ := sub_some h253
                            have hs261 := slS.sub (hsa0) hm258 hm259 (Nat.le_trans hm259 (hsa0).1) (Nat.le_refl _) hr260
                            refine d_takeP h (fun _ => HS) HN 28 rfl (by kernel_rfl) (by kernel_rfl) (by kernel_rfl) (by decide) (by rw [g_want h rfl rfl rfl rfl hB25]; rfl) rfl (by decide) (fun w' => x_sliceE h.k rfl Try.underlying81 sz_api_Term rfl ca0 hr260 (bd_none (by omega)) (bd_some rfl hi257) (bd_none rfl) (by intro hh; cases hh) hm258 hm259 (Nat.le_trans hm259 (hsa0).1) (Nat.le_refl _)) (fun a h => ?_)
                            refine d_takeP h (fun _ => HS) HN 29 rfl (by kernel_rfl) (by kernel_rfl) (by kernel_rfl) (by decide) (by rw [g_want h rfl rfl rfl rfl hB25]; rfl) rfl (by decide) (fun w' => x_move h.k _ rfl rfl) (fun a h => ?_)
                            refine d_takeP h (fun _ => HS) HN 30 rfl (by kernel_rfl) (by kernel_rfl) (by kernel_rfl) (by decide) (by rw [g_want h rfl rfl rfl rfl hB25]; rfl) rfl (by decide) (fun w' => x_move h.k _ rfl rfl) (fun a h => ?_)
                            obtain ⟨m263, hi267, hm268, hx269⟩ := idx_some h266
                            obtain ⟨b264, off265, k270, hA271, hu272, hc273⟩ := (hsa0).at (by decide) hx269 (h.m.snOK (i := 2) rfl)
                            obtain ⟨k274, k275, rfl, ⟨rfl, hr276⟩, ⟨k277, k278, rfl, ⟨rfl, hr279⟩, ⟨rfl, hr280⟩⟩⟩ := hu272
                            refine d_takeP h (fun _ => HS) HN 31 rfl (by kernel_rfl) (by kernel_rfl) (by kernel_rfl) (by decide) (by rw [g_want h rfl rfl rfl rfl hB25]; rfl) rfl (by decide) (fun w' => x_iaddrE h.k rfl Try.underlying81 sz_api_Term hA271 rfl rfl hi267 hm268) (fun a h => ?_)
                            refine d_takeY h HS HN 32 rfl (by kernel_rfl) (by kernel_rfl) (by kernel_rfl) (by kernel_rfl) (by kernel_rfl) (by rw [g_want h rfl rfl rfl rfl hB25]; rfl) rfl (by decide) (fun w' hw => x_ldR h.k rfl ag_api_Term rfl ([.int .i64 x262.1, .int .i64 x262.2.1, .int .i64 x262.2.2]) rfl (hc273 _ (hw.snOK (i := 2) rfl))) (fun a h => ?_)
                            refine d_alone 33 rfl (by kernel_rfl) (fun K hK => ?_)
                            refine g_yes (j := 25) (t := 108) h rfl rfl rfl rfl hB25 ?_
                            have hX := chatelaineref39_In_ok Fu (S0 := snapAll _) (sA Aa0 ca0 m254 3) (ca0 - m254) x252 (hs261.mono (h.m.leAll (i := 2) rfl)) ([.int .i64 x262.1, .int .i64 x262.2.1, .int .i64 x262.2.2]) x262 ((tyP tyI (tyP tyI tyI)).mono (h.m.leAll (i := 2) rfl) (show (tyP tyI (tyP tyI tyI)).rep S0 ([.int .i64 x262.1, .int .i64 x262.2.1, .int .i64 x262.2.2]) x262 from ⟨[.int .i64 x262.1], [.int .i64 x262.2.1, .int .i64 x262.2.2], rfl, ⟨rfl, hr276⟩, ⟨[.int .i64 x262.2.1], [.int .i64 x262.2.2], rfl, ⟨rfl, hr279⟩, ⟨rfl, hr280⟩⟩⟩)) _ h282 _ h.startAll
                            refine q_callX hX h rfl rfl rfl (by decide) Try.func89 rfl rfl rfl (fun a w v L1 S1 hR hb1 h => ?_)
                            obtain ⟨rfl, rfl, _⟩ := hR
                            refine hK _ _ (fun _ _ => HS.ext hb1) ?_
                            replace HS := HS.ext hb1
                            clear hK
                            refine d_takeP h (fun _ => HS) HN 34 rfl (by kernel_rfl) (by kernel_rfl) (by kernel_rfl) (by decide) (by rw [g_want h rfl rfl rfl rfl hB25]; rfl) rfl (by decide) (fun w' => x_not h.k rfl rfl) (fun a h => ?_)
                            refine d_takeP h (fun _ => HS) HN 35 rfl (by kernel_rfl) (by kernel_rfl) (by kernel_rfl) (by decide) rfl rfl (by decide) (fun w' => x_pick (v := .bool z250) (u' := undef) h.k rfl rfl (fun _ => by rw [← Option.some.inj hz251]; rfl) (fun hh => absurd (hB25.symm.trans hh) (by decide))) (fun a h => ?_)
                            refine d_done (by kernel_rfl) (HE _ _ ?_) _
                            refine e_thenN ?_
                            exact h.has (by exact ⟨rfl, rfl, rfl, rfl, rfl, rfl, rfl, rfl, rfl, trivial⟩)
                          · rw [if_neg (by rw [hB25]; decide)] at hz251
                            refine d_takeNP h (fun _ => HS) HN 26 rfl (by kernel_rfl) (by kernel_rfl) (by kernel_rfl) (by decide) (by rw [g_want h rfl rfl rfl rfl hB25]; rfl) rfl (by decide) (fun a h => ?_)
                            refine d_takeNP h (fun _ => HS) HN 27 rfl (by kernel_rfl) (by kernel_rfl) (by kernel_rfl) (by decide) (by rw [g_want h rfl rfl rfl rfl hB25]; rfl) rfl (by decide) (fun a h => ?_)
                            refine d_takeNP h (fun _ => HS) HN 28 rfl (by kernel_rfl) (by kernel_rfl) (by kernel_rfl) (by decide) (by rw [g_want h rfl rfl rfl rfl hB25]; rfl) rfl (by decide) (fun a h => ?_)
                            refine d_takeNP h (fun _ => HS) HN 29 rfl (by kernel_rfl) (by kernel_rfl) (by kernel_rfl) (by decide) (by rw [g_want h rfl rfl rfl rfl hB25]; rfl) rfl (by decide) (fun a h => ?_)
                            refine d_takeNP h (fun _ => HS) HN 30 rfl (by kernel_rfl) (by kernel_rfl) (by kernel_rfl) (by decide) (by rw [g_want h rfl rfl rfl rfl hB25]; rfl) rfl (by decide) (fun a h => ?_)
                            refine d_takeNP h (fun _ => HS) HN 31 rfl (by kernel_rfl) (by kernel_rfl) (by kernel_rfl) (by decide) (by rw [g_want h rfl rfl rfl rfl hB25]; rfl) rfl (by decide) (fun a h => ?_)
                            refine d_takeNP h (fun _ => HS) HN 32 rfl (by kernel_rfl) (by kernel_rfl) (by kernel_rfl) (by decide) (by rw [g_want h rfl rfl rfl rfl hB25]; rfl) rfl (by decide) (fun a h => ?_)
                            refine d_takeNP h (fun _ => HS) HN 33 rfl (by kernel_rfl) (by kernel_rfl) (by kernel_rfl) (by decide) (by rw [g_want h rfl rfl rfl rfl hB25]; rfl) rfl (by decide) (fun a h => ?_)
                            refine d_takeNP h (fun _ => HS) HN 34 rfl (by kernel_rfl) (by kernel_rfl) (by kernel_rfl) (by decide) (by rw [g_want h rfl rfl rfl rfl hB25]; rfl) rfl (by decide) (fun a h => ?_)
                            refine d_takeP h (fun _ => HS) HN 35 rfl (by kernel_rfl) (by kernel_rfl) (by kernel_rfl) (by decide) rfl rfl (by decide) (fun w' => x_pick (v := .bool z250) (u' := undef) h.k rfl rfl (fun hh => absurd (hB25.symm.trans hh) (by decide)) (fun _ => by rw [← Option.some.inj hz251]; rfl)) (fun a h => ?_)
                            refine d_done (by kernel_rfl) (HE _ _ ?_) _
                            refine e_thenN ?_
                            exact h.has (by exact ⟨rfl, rfl, rfl, rfl, rfl, rfl, rfl, rfl, rfl, trivial⟩)
                        · rw [if_neg (by rw [hB16]; decide)] at hz227
                          refine d_takeNP h (fun _ => HS) HN 17 rfl (by kernel_rfl) (by kernel_rfl) (by kernel_rfl) (by decide) (by rw [g_want h rfl rfl rfl rfl hB16]; rfl) rfl (by decide) (fun a h => ?_)
                          refine d_takeNP h (fun _ => HS) HN 18 rfl (by kernel_rfl) (by kernel_rfl) (by kernel_rfl) (by decide) (by rw [g_want h rfl rfl rfl rfl hB16]; rfl) rfl (by decide) (fun a h => ?_)
                          refine d_takeNP h (fun _ => HS) HN 19 rfl (by kernel_rfl) (by kernel_rfl) (by kernel_rfl) (by decide) (by rw [g_want h rfl rfl rfl rfl hB16]; rfl) rfl (by decide) (fun a h => ?_)
                          refine d_takeNP h (fun _ => HS) HN 20 rfl (by kernel_rfl) (by kernel_rfl) (by kernel_rfl) (by decide) (by rw [g_want h rfl rfl rfl rfl hB16]; rfl) rfl (by decide) (fun a h => ?_)
                          refine d_takeNP h (fun _ => HS) HN 21 rfl (by kernel_rfl) (by kernel_rfl) (by kernel_rfl) (by decide) (by rw [g_want h rfl rfl rfl rfl hB16]; rfl) rfl (by decide) (fun a h => ?_)
                          refine d_takeNP h (fun _ => HS) HN 22 rfl (by kernel_rfl) (by kernel_rfl) (by kernel_rfl) (by decide) (by rw [g_want h rfl rfl rfl rfl hB16]; rfl) rfl (by decide) (fun a h => ?_)
                          refine d_takeNP h (fun _ => HS) HN 23 rfl (by kernel_rfl) (by kernel_rfl) (by kernel_rfl) (by decide) (by rw [g_want h rfl rfl rfl rfl hB16]; rfl) rfl (by decide) (fun a h => ?_)
                          refine d_takeP h (fun _ => HS) HN 24 rfl (by kernel_rfl) (by kernel_rfl) (by kernel_rfl) (by decide) rfl rfl (by decide) (fun w' => x_pick (v := .bool z226) (u' := undef) h.k rfl rfl (fun hh => absurd (hB16.symm.trans hh) (by decide)) (fun _ => by rw [← Option.some.inj hz227]; rfl)) (fun a h => ?_)
                          refine d_takeP h (fun _ => HS) HN 25 rfl (by kernel_rfl) (by kernel_rfl) (by kernel_rfl) (by decide) rfl rfl (by decide) (fun w' => x_move h.k _ rfl rfl) (fun a h => ?_)
                          refine d_split (t := 108) h rfl (fun hB25 => ?_) (fun hB25 => ?_)
                          · rw [if_pos hB25] at hz251
                            obtain ⟨x252, h253, hz251⟩ := bsome hz251
                            obtain ⟨x262, h266, hz251⟩ := bsome hz251
                            obtain ⟨x281, h282, hz251⟩ := bsome hz251
                            refine d_takeP h (fun _ => HS) HN 26 rfl (by kernel_rfl) (by kernel_rfl) (by kernel_rfl) (by decide) (by rw [g_want h rfl rfl rfl rfl hB25]; rfl) rfl (by decide) (fun w' => x_move h.k _ rfl rfl) (fun a h => ?_)
                            refine d_takeP h (fun _ => HS) HN 27 rfl (by kernel_rfl) (by kernel_rfl) (by kernel_rfl) (by decide) (by rw [g_want h rfl rfl rfl rfl hB25]; rfl) rfl (by decide) (fun w' => x_move h.k _ rfl rfl) (fun a h => ?_)
                            obtain ⟨m254, n255, hi256, hi257, hm258, hm259, hr260⟩ := sub_some h253
                            have hs261 := slS.sub (hsa0) hm258 hm259 (Nat.le_trans hm259 (hsa0).1) (Nat.le_refl _) hr260
                            refine d_takeP h (fun _ => HS) HN 28 rfl (by kernel_rfl) (by kernel_rfl) (by kernel_rfl) (by decide) (by rw [g_want h rfl rfl rfl rfl hB25]; rfl) rfl (by decide) (fun w' => x_sliceE h.k rfl Try.underlying81 sz_api_Term rfl ca0 hr260 (bd_none (by omega)) (bd_some rfl hi257) (bd_none rfl) (by intro hh; cases hh) hm258 hm259 (Nat.le_trans hm259 (hsa0).1) (Nat.le_refl _)) (fun a h => ?_)
                            refine d_takeP h (fun _ => HS) HN 29 rfl (by kernel_rfl) (by kernel_rfl) (by kernel_rfl) (by decide) (by rw [g_want h rfl rfl rfl rfl hB25]; rfl) rfl (by decide) (fun w' => x_move h.k _ rfl rfl) (fun a h => ?_)
                            refine d_takeP h (fun _ => HS) HN 30 rfl (by kernel_rfl) (by kernel_rfl) (by kernel_rfl) (by decide) (by rw [g_want h rfl rfl rfl rfl hB25]; rfl) rfl (by decide) (fun w' => x_move h.k _ rfl rfl) (fun a h => ?_)
                            obtain ⟨m263, hi267, hm268, hx269⟩ := idx_some h266
                            obtain ⟨b264, off265, k270, hA271, hu272, hc273⟩ := (hsa0).at (by decide) hx269 (h.m.snOK (i := 2) rfl)
                            obtain ⟨k274, k275, rfl, ⟨rfl, hr276⟩, ⟨k277, k278, rfl, ⟨rfl, hr279⟩, ⟨rfl, hr280⟩⟩⟩ := hu272
                            refine d_takeP h (fun _ => HS) HN 31 rfl (by kernel_rfl) (by kernel_rfl) (by kernel_rfl) (by decide) (by rw [g_want h rfl rfl rfl rfl hB25]; rfl) rfl (by decide) (fun w' => x_iaddrE h.k rfl Try.underlying81 sz_api_Term hA271 rfl rfl hi267 hm268) (fun a h => ?_)
                            refine d_takeY h HS HN 32 rfl (by kernel_rfl) (by kernel_rfl) (by kernel_rfl) (by kernel_rfl) (by kernel_rfl) (by rw [g_want h rfl rfl rfl rfl hB25]; rfl) rfl (by decide) (fun w' hw => x_ldR h.k rfl ag_api_Term rfl ([.int .i64 x262.1, .int .i64 x262.2.1, .int .i64 x262.2.2]) rfl (hc273 _ (hw.snOK (i := 2) rfl))) (fun a h => ?_)
                            refine d_alone 33 rfl (by kernel_rfl) (fun K hK => ?_)
                            refine g_yes (j := 25) (t := 108) h rfl rfl rfl rfl hB25 ?_
                            have hX := chatelaineref39_In_ok Fu (S0 := snapAll _) (sA Aa0 ca0 m254 3) (ca0 - m254) x252 (hs261.mono (h.m.leAll (i := 2) rfl)) ([.int .i64 x262.1, .int .i64 x262.2.1, .int .i64 x262.2.2]) x262 ((tyP tyI (tyP tyI tyI)).mono (h.m.leAll (i := 2) rfl) (show (tyP tyI (tyP tyI tyI)).rep S0 ([.int .i64 x262.1, .int .i64 x262.2.1, .int .i64 x262.2.2]) x262 from ⟨[.int .i64 x262.1], [.int .i64 x262.2.1, .int .i64 x262.2.2], rfl, ⟨rfl, hr276⟩, ⟨[.int .i64 x262.2.1], [.int .i64 x262.2.2], rfl, ⟨rfl, hr279⟩, ⟨rfl, hr280⟩⟩⟩)) _ h282 _ h.startAll
                            refine q_callX hX h rfl rfl rfl (by decide) Try.func89 rfl rfl rfl (fun a w v L1 S1 hR hb1 h => ?_)
                            obtain ⟨rfl, rfl, _⟩ := hR
                            refine hK _ _ (fun _ _ => HS.ext hb1) ?_
                            replace HS := HS.ext hb1
                            clear hK
                            refine d_takeP h (fun _ => HS) HN 34 rfl (by kernel_rfl) (by kernel_rfl) (by kernel_rfl) (by decide) (by rw [g_want h rfl rfl rfl rfl hB25]; rfl) rfl (by decide) (fun w' => x_not h.k rfl rfl) (fun a h => ?_)
                            refine d_takeP h (fun _ => HS) HN 35 rfl (by kernel_rfl) (by kernel_rfl) (by kernel_rfl) (by decide) rfl rfl (by decide) (fun w' => x_pick (v := .bool z250) (u' := undef) h.k rfl rfl (fun _ => by rw [← Option.some.inj hz251]; rfl) (fun hh => absurd (hB25.symm.trans hh) (by decide))) (fun a h => ?_)
                            refine d_done (by kernel_rfl) (HE _ _ ?_) _
                            refine e_thenN ?_
                            exact h.has (by exact ⟨rfl, rfl, rfl, rfl, rfl, rfl, rfl, rfl, rfl, trivial⟩)
                          · rw [if_neg (by rw [hB25]; decide)] at hz251
                            refine d_takeNP h (fun _ => HS) HN 26 rfl (by kernel_rfl) (by kernel_rfl) (by kernel_rfl) (by decide) (by rw [g_want h rfl rfl rfl rfl hB25]; rfl) rfl (by decide) (fun a h => ?_)
                            refine d_takeNP h (fun _ => HS) HN 27 rfl (by kernel_rfl) (by kernel_rfl) (by kernel_rfl) (by decide) (by rw [g_want h rfl rfl rfl rfl hB25]; rfl) rfl (by decide) (fun a h => ?_)
                            refine d_takeNP h (fun _ => HS) HN 28 rfl (by kernel_rfl) (by kernel_rfl) (by kernel_rfl) (by decide) (by rw [g_want h rfl rfl rfl rfl hB25]; rfl) rfl (by decide) (fun a h => ?_)
                            refine d_takeNP h (fun _ => HS) HN 29 rfl (by kernel_rfl) (by kernel_rfl) (by kernel_rfl) (by decide) (by rw [g_want h rfl rfl rfl rfl hB25]; rfl) rfl (by decide) (fun a h => ?_)
                            refine d_takeNP h (fun _ => HS) HN 30 rfl (by kernel_rfl) (by kernel_rfl) (by kernel_rfl) (by decide) (by rw [g_want h rfl rfl rfl rfl hB25]; rfl) rfl (by decide) (fun a h => ?_)
                            refine d_takeNP h (fun _ => HS) HN 31 rfl (by kernel_rfl) (by kernel_rfl) (by kernel_rfl) (by decide) (by rw [g_want h rfl rfl rfl rfl hB25]; rfl) rfl (by decide) (fun a h => ?_)
                            refine d_takeNP h (fun _ => HS) HN 32 rfl (by kernel_rfl) (by kernel_rfl) (by kernel_rfl) (by decide) (by rw [g_want h rfl rfl rfl rfl hB25]; rfl) rfl (by decide) (fun a h => ?_)
                            refine d_takeNP h (fun _ => HS) HN 33 rfl (by kernel_rfl) (by kernel_rfl) (by kernel_rfl) (by decide) (by rw [g_want h rfl rfl rfl rfl hB25]; rfl) rfl (by decide) (fun a h => ?_)
                            refine d_takeNP h (fun _ => HS) HN 34 rfl (by kernel_rfl) (by kernel_rfl) (by kernel_rfl) (by decide) (by rw [g_want h rfl rfl rfl rfl hB25]; rfl) rfl (by decide) (fun a h => ?_)
                            refine d_takeP h (fun _ => HS) HN 35 rfl (by kernel_rfl) (by kernel_rfl) (by kernel_rfl) (by decide) rfl rfl (by decide) (fun w' => x_pick (v := .bool z250) (u' := undef) h.k rfl rfl (fun hh => absurd (hB25.symm.trans hh) (by decide)) (fun _ => by rw [← Option.some.inj hz251]; rfl)) (fun a h => ?_)
                            refine d_done (by kernel_rfl) (HE _ _ ?_) _
                            refine e_thenN ?_
                            exact h.has (by exact ⟨rfl, rfl, rfl, rfl, rfl, rfl, rfl, rfl, rfl, trivial⟩)
                    refine e_thenN ?_
                    refine c_cond h rfl (fun hb => ?_) (fun hb => ?_)
                    · rw [if_pos hb] at hc183
                      refine c_r ?_ -- region 24
                      refine s_move h rfl _ rfl rfl (by decide) rfl (fun a h => ?_)
                      refine s_x h rfl rfl (by decide) (x_bin h.k rfl rfl rfl (ib_add rfl)) (fun a h => ?_)
                      refine s_assign h rfl _ rfl rfl (by decide) rfl (fun a h => ?_)
                      refine l_nil ?_
                      refine e_blkN ?_
                      refine e_thenN ?_
                      exact ⟨w64 (x174 + 1), (Option.some.inj hc183), (w64_r _), h.has (by exact ⟨rfl, rfl, rfl, rfl, rfl, rfl, rfl, rfl, trivial⟩)⟩
                    · rw [if_neg (by rw [hb]; decide)] at hc183
                      refine wp_skip ?_
                      refine e_blkN ?_
                      refine e_thenN ?_
                      exact ⟨x174, (Option.some.inj hc183), hr175, h.has (by exact ⟨rfl, rfl, rfl, rfl, rfl, rfl, rfl, rfl, trivial⟩)⟩
                  · rintro a w ⟨x184, rfl, hr185, h⟩
                    refine c_r ?_ -- region 22
                    refine s_move h rfl _ rfl rfl (by decide) rfl (fun a h => ?_)
                    refine s_x h rfl rfl (by decide) (x_bin h.k rfl rfl rfl (ib_add rfl)) (fun a h => ?_)
                    refine s_assign h rfl _ rfl rfl (by decide) rfl (fun a h => ?_)
                    refine l_nil ?_
                    exact e_thenN ⟨m181, Nat.lt_succ_self _, x184, w64 (x176 + 1), hl180, hr185, (w64_r _), h.has (by exact ⟨rfl, rfl, rfl, rfl, rfl, rfl, rfl, rfl, trivial⟩)⟩
                · rw [if_neg (of_decide_eq_false hb)] at hl180
                  refine wp_exit ?_
                  refine e_thenX ?_
                  refine e_thenX ?_
                  refine e_blkX ?_
                  refine e_thenN ?_
                  exact ⟨x174, (Option.some.inj hl180), hr175, h.has (by exact ⟨rfl, rfl, rfl, rfl, rfl, rfl, trivial⟩)⟩
              · rintro a w ⟨x178, rfl, hr179, h⟩
                refine e_thenN ?_
                refine c_r ?_ -- region 25
                refine s_move h rfl _ rfl rfl (by decide) rfl (fun a h => ?_)
                refine s_x h rfl rfl (by decide) (x_faddr h.k rfl Try.underlying89 rfl sz_int rfl) (fun a h => ?_)
                refine s_x h rfl rfl (by decide) (x_ld h.k rfl Try.underlying3 rfl rfl ((h.m.cell (i := 1) rfl 1).trans rfl)) (fun a h => ?_)
                refine s_move h rfl _ rfl rfl (by decide) rfl (fun a h => ?_)
                refine s_x h rfl rfl (by decide) (x_build h.k rfl [(0, .int .i64 1), (1, .int .i64 x32.2.1), (2, .int .i64 x178)] rfl ([.int .i64 1, .int .i64 x32.2.1, .int .i64 x178]) (by kernel_rfl)) (fun a h => ?_)
                refine q_bslice (T := tyP tyI (tyP tyI tyI)) (S := S0) h rfl rfl rfl (by decide) Try.underlying81 zi_api_Term (by decide) (by decide) (by decide) (by decide) [.agg ([.int .i64 1, .int .i64 x32.2.1, .int .i64 x178]).toArray] rfl rfl (C := [[.int .i64 1, .int .i64 x32.2.1, .int .i64 x178]]) rfl (xs := [(1, x32.2.1, x178)]) ⟨[.int .i64 1, .int .i64 x32.2.1, .int .i64 x178], _, rfl, ⟨[.int .i64 1], [.int .i64 x32.2.1, .int .i64 x178], rfl, ⟨rfl, (show r64 1 from ⟨by decide, by decide⟩)⟩, ⟨[.int .i64 x32.2.1], [.int .i64 x178], rfl, ⟨rfl, hr49⟩, ⟨rfl, hr179⟩⟩⟩, rfl⟩ (by intro c hc; simp only [List.mem_cons, List.not_mem_nil, or_false] at hc; subst hc; rfl) (fun a w A284 h => ?_)
                have hb285 : reps (tyP tyI (tyP tyI tyI)) S0 ([[.int .i64 1, .int .i64 x32.2.1, .int .i64 x178]]).flatten [(1, x32.2.1, x178)] := ⟨[.int .i64 1, .int .i64 x32.2.1, .int .i64 x178], _, rfl, ⟨[.int .i64 1], [.int .i64 x32.2.1, .int .i64 x178], rfl, ⟨rfl, (show r64 1 from ⟨by decide, by decide⟩)⟩, ⟨[.int .i64 x32.2.1], [.int .i64 x178], rfl, ⟨rfl, hr49⟩, ⟨rfl, hr179⟩⟩⟩, rfl⟩
                obtain ⟨x286, h287, hc26⟩ := bsome hc26
                refine q_append (T := tyP tyI (tyP tyI tyI)) (S := S0) h rfl rfl rfl (by decide) Try.underlying81 zb_api_Term rfl (by decide) rfl 1 rfl hq14 rfl hb285 (h.m.rdRowA (i := 0) rfl) h287 (fun a w A288 c289 cs290 hq291 h => ?_)
                refine s_assign h rfl _ rfl rfl (by decide) rfl (fun a h => ?_)
                refine l_nil ?_
                refine e_blkN ?_
                refine e_thenN ?_
                have h := h.pick [1, 3] (by decide) rfl
                exact ⟨x286, A288, c289, cs290, (Option.some.inj hc26), hq291, h.has (by exact ⟨rfl, rfl, rfl, rfl, trivial⟩)⟩
      · rintro a w ⟨x27, A28, c29, cs30, rfl, hq31, h⟩
        refine c_r ?_ -- region 4
        refine s_move h rfl _ rfl rfl (by decide) rfl (fun a h => ?_)
        refine s_x h rfl rfl (by decide) (x_bin h.k rfl rfl rfl (ib_add rfl)) (fun a h => ?_)
        refine s_assign h rfl _ rfl rfl (by decide) rfl (fun a h => ?_)
        refine l_nil ?_
        exact e_thenN ⟨m23, Nat.lt_succ_self _, x27, A28, c29, cs30, w64 (x15 + 1), hl22, hq31, (w64_r _), h.has (by exact ⟨rfl, rfl, rfl, rfl, trivial⟩)⟩
    · rw [if_neg (of_decide_eq_false hb)] at hl22
      refine wp_exit ?_
      refine e_thenX ?_
      refine e_thenX ?_
      refine e_blkX ?_
      refine e_thenN ?_
      exact ⟨x10, A11, c12, cs13, (Option.some.inj hl22), hq14, h.has (by exact ⟨rfl, trivial⟩)⟩
  · rintro a w ⟨x17, A18, c19, cs20, rfl, hq21, h⟩
    refine e_thenN ?_
    refine c_rs ?_ -- region 26
    refine s_move h rfl _ rfl rfl (by decide) rfl (fun a h => ?_)
    refine s_assign h rfl _ rfl rfl (by decide) rfl (fun a h => ?_)
    refine l_end ?_
    refine wp_ret ?_
    obtain rfl := Option.some.inj hf
    exact r_ret1 h rfl (rv_tmp h rfl) ⟨_, [.row (.slice A18 x17.length c19) 89 3 x17.length cs20], _, rfl, ⟨A18, c19, cs20, rfl, rfl, hq21, trivial⟩, rfl, (Up.refl _ _ _), h.m⟩
end Go.Proofs.Ytdahdlidpplllaa
