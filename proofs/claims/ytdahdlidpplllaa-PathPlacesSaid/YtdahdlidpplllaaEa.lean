/- Ea: Go functions as plain functions, and that they are so (written by xt.py). -/
import Derived.Test.YtdahdlidpplllaaPm
import Derived.Test.YtdahdlidpplllaaTy
import Derived.Test.YtdahdlidpplllaaTerm2
set_option linter.unusedVariables false
set_option linter.unusedSimpArgs false
namespace Go.Proofs.Ytdahdlidpplllaa
open Go.RowKit
def twin_within (Fu : Nat) (a0 : Int) (a1 : Int) (a2 : Int) : Option Bool :=
  some ((decide (a1 ≤ a0)) && (decide (a0 ≤ a2)))
set_option maxRecDepth 100000 in
set_option maxHeartbeats 2000000 in
theorem twin_within_ok (Fu : Nat) {S0 : Snap} (a0 : Int) (hra0 : r64 a0) (a1 : Int) (hra1 : r64 a1) (a2 : Int) (hra2 : r64 a2) (r : Bool) (hf : twin_within Fu a0 a1 a2 = some r) (w0 : World) (hm : Mem w0 (ownL ([] ++ [.sn S0])) ([] ++ [.sn S0]) w0) :
    Calls Try.prog 87 #[.int .i64 a0, .int .i64 a1, .int .i64 a2] w0 (Ret w0 S0 [] (fun v L1 S1 => v = .bool r ∧ L1 = [] ∧ True)) := by
  unfold twin_within at hf
  refine c_enterM Try.func87 rfl 15 rfl (by simp) _ hm _ rfl (fun a h => ?_)
  refine c_rs ?_ -- region 0
  refine s_assign h rfl _ rfl rfl (by decide) rfl (fun a h => ?_)
  refine l_end ?_
  refine c_rs ?_ -- region 1
  refine s_move h rfl _ rfl rfl (by decide) rfl (fun a h => ?_)
  refine s_move h rfl _ rfl rfl (by decide) rfl (fun a h => ?_)
  refine s_x h rfl rfl (by decide) (x_bin h.k rfl rfl rfl ib_geq) (fun a h => ?_)
  refine s_move h rfl _ rfl rfl (by decide) rfl (fun a h => ?_)
  refine q_grp h 4 (t := 10) 14 ((decide (a1 ≤ a0)) && (decide (a0 ≤ a2))) rfl (fun hB3 => ?_) (fun hB3 => ?_) (fun a w h => ?_)
  · refine g_yes h rfl rfl rfl rfl hB3 ?_
    refine s_move h rfl _ rfl rfl (by decide) rfl (fun a h => ?_)
    refine g_yes h rfl rfl rfl rfl hB3 ?_
    refine s_move h rfl _ rfl rfl (by decide) rfl (fun a h => ?_)
    refine g_yes h rfl rfl rfl rfl hB3 ?_
    refine s_x h rfl rfl (by decide) (x_bin h.k rfl rfl rfl ib_leq) (fun a h => ?_)
    refine s_x h rfl rfl (by decide) (x_pick (u' := undef) h.k rfl rfl (fun _ => rfl) (fun hh => absurd (hB3.symm.trans hh) (by decide))) (fun a h => ?_)
    exact (h.mid 3 rfl).val (by first | rfl | (rw [hB3]; first | rfl | simp))
  · refine g_no h rfl rfl rfl rfl hB3 rfl (by decide) (fun a h => ?_)
    refine g_no h rfl rfl rfl rfl hB3 rfl (by decide) (fun a h => ?_)
    refine g_no h rfl rfl rfl rfl hB3 rfl (by decide) (fun a h => ?_)
    refine s_x h rfl rfl (by decide) (x_pick (u' := undef) h.k rfl rfl (fun hh => absurd (hB3.symm.trans hh) (by decide)) (fun _ => rfl)) (fun a h => ?_)
    exact (h.mid 3 rfl).val (by first | rfl | (rw [hB3]; first | rfl | simp))
  refine s_assign h rfl _ rfl rfl (by decide) rfl (fun a h => ?_)
  refine l_end ?_
  refine wp_ret ?_
  obtain rfl := Option.some.inj hf
  exact r_ret1 h rfl (rv_tmp h rfl) ⟨_, [], _, rfl, ⟨rfl, rfl, trivial⟩, rfl, (Up.refl _ _ _), h.m⟩
def twin_Right_l0 (Fu : Nat) (a0 : List (Int × Int × Int)) : Nat → Int → Option (Sum Bool Unit)
  | 0, _ => none
  | k + 1, x3 => if x3 < (a0.length : Int) then ((idx a0 x3).bind fun x7 => (if x7.1 = 1 then ((twin_within Fu x7.2.1 1 4).bind fun x30 => some (x30 && (decide (0 ≤ x7.2.2)))) else (if x7.1 = 2 then ((twin_within Fu x7.2.1 0 (w64 (x3 - 1))).bind fun x35 => some (x35 && (decide (0 ≤ x7.2.2)))) else (if x7.1 = 3 then ((twin_within Fu x7.2.1 0 (w64 (x3 - 1))).bind fun x40 => (if x40 = true then (twin_within Fu x7.2.2 0 (w64 (x3 - 1))).bind fun x46 => some x46 else some false).bind fun z44 => some z44) else (some false)))).bind fun x29 => if (!x29) = true then (some (.inl false)) else (twin_Right_l0 Fu a0 k (w64 (x3 + 1)))) else (some (.inr ()))
def twin_Right (Fu : Nat) (a0 : List (Int × Int × Int)) : Option Bool :=
  (twin_Right_l0 Fu a0 Fu 0).bind fun o => match o with | .inl r49 => some r49 | .inr _ => some true
set_option maxRecDepth 100000 in
set_option maxHeartbeats 2000000 in
theorem twin_Right_ok (Fu : Nat) {S0 : Snap} (Aa0 : Option Addr) (ca0 : Nat) (a0 : List (Int × Int × Int)) (hsa0 : slS (tyP tyI (tyP tyI tyI)) S0 Aa0 ca0 a0) (r : Bool) (hf : twin_Right Fu a0 = some r) (w0 : World) (hm : Mem w0 (ownL ([] ++ [.sn S0])) ([] ++ [.sn S0]) w0) :
    Calls Try.prog 53 #[.slice Aa0 a0.length ca0] w0 (Ret w0 S0 [] (fun v L1 S1 => v = .bool r ∧ L1 = [] ∧ True)) := by
  unfold twin_Right at hf
  refine c_enterM Try.func53 rfl 54 rfl (by simp) _ hm _ rfl (fun a h => ?_)
  refine c_rs ?_ -- region 0
  refine s_assign h rfl _ rfl rfl (by decide) rfl (fun a h => ?_)
  refine l_end ?_
  refine wp_seq ?_
  refine c_rs ?_ -- region 1
  refine s_move h rfl _ rfl rfl (by decide) rfl (fun a h => ?_)
  refine s_x h rfl rfl (by decide) (x_len h.k rfl Try.underlying81 rfl) (fun a h => ?_)
  refine s_move h rfl _ rfl rfl (by decide) rfl (fun a h => ?_)
  refine l_end ?_
  obtain ⟨o1, hl2, hf⟩ := bsome hf
  refine c_fin (fun a w => (.inr ()) = o1 ∧ St 54 w0 (ownL ([] ++ [.sn S0])) [] [.sn S0] a w) ?_ ?_
  · refine wp_block ?_
    refine c_loop (fun m6 a w => ∃ (x3 : Int), twin_Right_l0 Fu a0 m6 x3 = some o1 ∧ r64 x3 ∧ St 54 w0 (ownL ([] ++ [.sn S0])) [(6, .slice Aa0 a0.length ca0), (7, .int .i64 (a0.length : Int)), (8, .int .i64 x3)] [.sn S0] a w) Fu ⟨0, hl2, (show r64 0 from ⟨by decide, by decide⟩), h.has (by exact ⟨rfl, rfl, rfl, trivial⟩)⟩ (fun m6 a w hI => ?_)
    obtain ⟨x3, hl5, hr4, h⟩ := hI
    obtain _ | m6 := m6
    · rw [twin_Right_l0] at hl5; cases hl5
    rw [twin_Right_l0] at hl5
    refine c_rs ?_ -- region 2
    refine s_x h rfl rfl (by decide) (x_bin h.k rfl rfl rfl ib_lss) (fun a h => ?_)
    refine l_end ?_
    refine c_cs h rfl (fun hb => ?_) (fun hb => ?_)
    · rw [if_pos (of_decide_eq_true hb)] at hl5
      refine wp_skip ?_
      refine e_thenN ?_
      refine wp_seq ?_
      refine wp_block ?_
      refine c_rs ?_ -- region 3
      refine s_move h rfl _ rfl rfl (by decide) rfl (fun a h => ?_)
      obtain ⟨x7, h11, hl5⟩ := bsome hl5
      obtain ⟨m8, hi12, hm13, hx14⟩ := idx_some h11
      obtain ⟨b9, off10, k15, hA16, hu17, hc18⟩ := (hsa0).at (by decide) hx14 (h.m.snOK (i := 0) rfl)
      obtain ⟨k19, k20, rfl, ⟨rfl, hr21⟩, ⟨k22, k23, rfl, ⟨rfl, hr24⟩, ⟨rfl, hr25⟩⟩⟩ := hu17
      refine s_x h rfl rfl (by decide) (x_iaddrE h.k rfl Try.underlying81 sz_api_Term hA16 rfl rfl hi12 hm13) (fun a h => ?_)
      refine s_x h rfl rfl (by decide) (x_ldR h.k rfl ag_api_Term rfl ([.int .i64 x7.1, .int .i64 x7.2.1, .int .i64 x7.2.2]) rfl (hc18 _ (h.m.snOK (i := 0) rfl))) (fun a h => ?_)
      refine s_alloc h rfl rfl rfl (by decide) zi_api_Term rfl (fun a w g26 h => ?_)
      refine s_assign h rfl _ rfl rfl (by decide) rfl (fun a h => ?_)
      refine s_stW h rfl rfl rfl ag_api_Term rfl (es := [.int .i64 x7.1, .int .i64 x7.2.1, .int .i64 x7.2.2]) rfl rfl (by simp [Value.oneCell']) 0 rfl rfl (fun a w h => ?_)
      refine l_end ?_
      refine c_rs ?_ -- region 4
      refine s_assign h rfl _ rfl rfl (by decide) rfl (fun a h => ?_)
      refine l_end ?_
      obtain ⟨o27, hc28, hl5⟩ := bsome hl5
      refine c_cut (fun a w => ∃ (x29 : Bool), x29 = o27 ∧ St 54 w0 (ownL ([] ++ [.sn S0])) [(5, .bool x29), (6, .slice Aa0 a0.length ca0), (7, .int .i64 (a0.length : Int)), (8, .int .i64 x3)] [.sn S0] a w) ?_ ?_
      · refine c_rs ?_ -- region 5
        refine s_x h rfl rfl (by decide) (x_faddr h.k rfl Try.underlying89 rfl sz_int rfl) (fun a h => ?_)
        refine s_x h rfl rfl (by decide) (x_ld h.k rfl Try.underlying3 rfl rfl ((h.m.cell (i := 0) rfl 0).trans rfl)) (fun a h => ?_)
        refine l_end ?_
        refine wp_block ?_
        refine c_rs ?_ -- region 6
        refine s_x h rfl rfl (by decide) (x_bin h.k rfl rfl rfl ib_eql) (fun a h => ?_)
        refine s_assign h rfl _ rfl rfl (by decide) rfl (fun a h => ?_)
        refine l_end ?_
        refine c_cond h rfl (fun hb => ?_) (fun hb => ?_)
        · rw [if_pos (of_decide_eq_true hb)] at hc28
          refine c_r ?_ -- region 7
          refine s_x h rfl rfl (by decide) (x_faddr h.k rfl Try.underlying89 rfl sz_int rfl) (fun a h => ?_)
          refine s_x h rfl rfl (by decide) (x_ld h.k rfl Try.underlying3 rfl rfl ((h.m.cell (i := 0) rfl 1).trans rfl)) (fun a h => ?_)
          obtain ⟨x30, h31, hc28⟩ := bsome hc28
          have hX := twin_within_ok Fu (S0 := snapAll _) x7.2.1 hr24 1 (show r64 1 from ⟨by decide, by decide⟩) 4 (show r64 4 from ⟨by decide, by decide⟩) _ h31 _ h.startAll
          refine q_callX hX h rfl rfl rfl (by decide) Try.func87 rfl rfl rfl (fun a w v L1 S1 hR hb1 h => ?_)
          obtain ⟨rfl, rfl, _⟩ := hR
          refine s_move h rfl _ rfl rfl (by decide) rfl (fun a h => ?_)
          refine q_grp h 4 (t := 20) 24 (x30 && (decide (0 ≤ x7.2.2))) rfl (fun hB3 => ?_) (fun hB3 => ?_) (fun a w h => ?_)
          · refine g_yes h rfl rfl rfl rfl hB3 ?_
            refine s_x h rfl rfl (by decide) (x_faddr h.k rfl Try.underlying89 rfl sz_int rfl) (fun a h => ?_)
            refine g_yes h rfl rfl rfl rfl hB3 ?_
            refine s_x h rfl rfl (by decide) (x_ld h.k rfl Try.underlying3 rfl rfl ((h.m.cell (i := 0) rfl 2).trans rfl)) (fun a h => ?_)
            refine g_yes h rfl rfl rfl rfl hB3 ?_
            refine s_x h rfl rfl (by decide) (x_bin h.k rfl rfl rfl ib_geq) (fun a h => ?_)
            refine s_x h rfl rfl (by decide) (x_pick (u' := undef) h.k rfl rfl (fun _ => rfl) (fun hh => absurd (hB3.symm.trans hh) (by decide))) (fun a h => ?_)
            exact (h.mid 3 rfl).val (by first | rfl | (rw [hB3]; first | rfl | simp))
          · refine g_no h rfl rfl rfl rfl hB3 rfl (by decide) (fun a h => ?_)
            refine g_no h rfl rfl rfl rfl hB3 rfl (by decide) (fun a h => ?_)
            refine g_no h rfl rfl rfl rfl hB3 rfl (by decide) (fun a h => ?_)
            refine s_x h rfl rfl (by decide) (x_pick (u' := undef) h.k rfl rfl (fun hh => absurd (hB3.symm.trans hh) (by decide)) (fun _ => rfl)) (fun a h => ?_)
            exact (h.mid 3 rfl).val (by first | rfl | (rw [hB3]; first | rfl | simp))
          refine s_assign h rfl _ rfl rfl (by decide) rfl (fun a h => ?_)
          refine l_nil ?_
          refine e_blkN ?_
          refine e_thenN ?_
          have h := h.pick [1] (by decide) rfl
          exact ⟨(x30 && (decide (0 ≤ x7.2.2))), (Option.some.inj hc28), h.has (by exact ⟨rfl, rfl, rfl, rfl, trivial⟩)⟩
        · rw [if_neg (of_decide_eq_false hb)] at hc28
          refine c_rs ?_ -- region 8
          refine s_x h rfl rfl (by decide) (x_bin h.k rfl rfl rfl ib_eql) (fun a h => ?_)
          refine s_assign h rfl _ rfl rfl (by decide) rfl (fun a h => ?_)
          refine l_end ?_
          refine c_cond h rfl (fun hb => ?_) (fun hb => ?_)
          · rw [if_pos (of_decide_eq_true hb)] at hc28
            refine c_r ?_ -- region 9
            refine s_x h rfl rfl (by decide) (x_faddr h.k rfl Try.underlying89 rfl sz_int rfl) (fun a h => ?_)
            refine s_x h rfl rfl (by decide) (x_ld h.k rfl Try.underlying3 rfl rfl ((h.m.cell (i := 0) rfl 1).trans rfl)) (fun a h => ?_)
            refine s_move h rfl _ rfl rfl (by decide) rfl (fun a h => ?_)
            refine s_x h rfl rfl (by decide) (x_bin h.k rfl rfl rfl (ib_sub rfl)) (fun a h => ?_)
            obtain ⟨x35, h36, hc28⟩ := bsome hc28
            have hX := twin_within_ok Fu (S0 := snapAll _) x7.2.1 hr24 0 (show r64 0 from ⟨by decide, by decide⟩) (w64 (x3 - 1)) (w64_r _) _ h36 _ h.startAll
            refine q_callX hX h rfl rfl rfl (by decide) Try.func87 rfl rfl rfl (fun a w v L1 S1 hR hb1 h => ?_)
            obtain ⟨rfl, rfl, _⟩ := hR
            refine s_move h rfl _ rfl rfl (by decide) rfl (fun a h => ?_)
            refine q_grp h 4 (t := 32) 36 (x35 && (decide (0 ≤ x7.2.2))) rfl (fun hB5 => ?_) (fun hB5 => ?_) (fun a w h => ?_)
            · refine g_yes h rfl rfl rfl rfl hB5 ?_
              refine s_x h rfl rfl (by decide) (x_faddr h.k rfl Try.underlying89 rfl sz_int rfl) (fun a h => ?_)
              refine g_yes h rfl rfl rfl rfl hB5 ?_
              refine s_x h rfl rfl (by decide) (x_ld h.k rfl Try.underlying3 rfl rfl ((h.m.cell (i := 0) rfl 2).trans rfl)) (fun a h => ?_)
              refine g_yes h rfl rfl rfl rfl hB5 ?_
              refine s_x h rfl rfl (by decide) (x_bin h.k rfl rfl rfl ib_geq) (fun a h => ?_)
              refine s_x h rfl rfl (by decide) (x_pick (u' := undef) h.k rfl rfl (fun _ => rfl) (fun hh => absurd (hB5.symm.trans hh) (by decide))) (fun a h => ?_)
              exact (h.mid 3 rfl).val (by first | rfl | (rw [hB5]; first | rfl | simp))
            · refine g_no h rfl rfl rfl rfl hB5 rfl (by decide) (fun a h => ?_)
              refine g_no h rfl rfl rfl rfl hB5 rfl (by decide) (fun a h => ?_)
              refine g_no h rfl rfl rfl rfl hB5 rfl (by decide) (fun a h => ?_)
              refine s_x h rfl rfl (by decide) (x_pick (u' := undef) h.k rfl rfl (fun hh => absurd (hB5.symm.trans hh) (by decide)) (fun _ => rfl)) (fun a h => ?_)
              exact (h.mid 3 rfl).val (by first | rfl | (rw [hB5]; first | rfl | simp))
            refine s_assign h rfl _ rfl rfl (by decide) rfl (fun a h => ?_)
            refine l_nil ?_
            refine e_blkN ?_
            refine e_thenN ?_
            have h := h.pick [1] (by decide) rfl
            exact ⟨(x35 && (decide (0 ≤ x7.2.2))), (Option.some.inj hc28), h.has (by exact ⟨rfl, rfl, rfl, rfl, trivial⟩)⟩
          · rw [if_neg (of_decide_eq_false hb)] at hc28
            refine c_rs ?_ -- region 10
            refine s_x h rfl rfl (by decide) (x_bin h.k rfl rfl rfl ib_eql) (fun a h => ?_)
            refine s_assign h rfl _ rfl rfl (by decide) rfl (fun a h => ?_)
            refine l_end ?_
            refine c_cond h rfl (fun hb => ?_) (fun hb => ?_)
            · rw [if_pos (of_decide_eq_true hb)] at hc28
              refine c_r ?_ -- region 11
              refine s_x h rfl rfl (by decide) (x_faddr h.k rfl Try.underlying89 rfl sz_int rfl) (fun a h => ?_)
              refine s_x h rfl rfl (by decide) (x_ld h.k rfl Try.underlying3 rfl rfl ((h.m.cell (i := 0) rfl 1).trans rfl)) (fun a h => ?_)
              refine s_move h rfl _ rfl rfl (by decide) rfl (fun a h => ?_)
              refine s_x h rfl rfl (by decide) (x_bin h.k rfl rfl rfl (ib_sub rfl)) (fun a h => ?_)
              obtain ⟨x40, h41, hc28⟩ := bsome hc28
              have hX := twin_within_ok Fu (S0 := snapAll _) x7.2.1 hr24 0 (show r64 0 from ⟨by decide, by decide⟩) (w64 (x3 - 1)) (w64_r _) _ h41 _ h.startAll
              refine q_callX hX h rfl rfl rfl (by decide) Try.func87 rfl rfl rfl (fun a w v L1 S1 hR hb1 h => ?_)
              obtain ⟨rfl, rfl, _⟩ := hR
              refine s_move h rfl _ rfl rfl (by decide) rfl (fun a h => ?_)
              obtain ⟨z44, hz43, hc28⟩ := bsome hc28
              refine q_grp h 6 (t := 44) 50 z44 rfl (fun hB5 => ?_) (fun hB5 => ?_) (fun a w h => ?_)
              · rw [if_pos hB5] at hz43
                refine g_yes h rfl rfl rfl rfl hB5 ?_
                refine s_x h rfl rfl (by decide) (x_faddr h.k rfl Try.underlying89 rfl sz_int rfl) (fun a h => ?_)
                refine g_yes h rfl rfl rfl rfl hB5 ?_
                refine s_x h rfl rfl (by decide) (x_ld h.k rfl Try.underlying3 rfl rfl ((h.m.cell (i := 0) rfl 2).trans rfl)) (fun a h => ?_)
                refine g_yes h rfl rfl rfl rfl hB5 ?_
                refine s_move h rfl _ rfl rfl (by decide) rfl (fun a h => ?_)
                refine g_yes h rfl rfl rfl rfl hB5 ?_
                refine s_x h rfl rfl (by decide) (x_bin h.k rfl rfl rfl (ib_sub rfl)) (fun a h => ?_)
                refine g_yes h rfl rfl rfl rfl hB5 ?_
                obtain ⟨x46, h47, hz43⟩ := bsome hz43
                have hX := twin_within_ok Fu (S0 := snapAll _) x7.2.2 hr25 0 (show r64 0 from ⟨by decide, by decide⟩) (w64 (x3 - 1)) (w64_r _) _ h47 _ h.startAll
                refine q_callX hX h rfl rfl rfl (by decide) Try.func87 rfl rfl rfl (fun a w v L1 S1 hR hb1 h => ?_)
                obtain ⟨rfl, rfl, _⟩ := hR
                refine s_x h rfl rfl (by decide) (x_pick (u' := undef) h.k rfl rfl (fun _ => rfl) (fun hh => absurd (hB5.symm.trans hh) (by decide))) (fun a h => ?_)
                exact (h.mid 5 rfl).val (by rw [Option.some.inj hz43])
              · refine g_no h rfl rfl rfl rfl hB5 rfl (by decide) (fun a h => ?_)
                refine g_no h rfl rfl rfl rfl hB5 rfl (by decide) (fun a h => ?_)
                refine g_no h rfl rfl rfl rfl hB5 rfl (by decide) (fun a h => ?_)
                refine g_no h rfl rfl rfl rfl hB5 rfl (by decide) (fun a h => ?_)
                refine g_no h rfl rfl rfl rfl hB5 rfl (by decide) (fun a h => ?_)
                rw [if_neg (by rw [hB5]; decide)] at hz43
                refine s_x h rfl rfl (by decide) (x_pick (u' := undef) h.k rfl rfl (fun hh => absurd (hB5.symm.trans hh) (by decide)) (fun _ => rfl)) (fun a h => ?_)
                exact (h.mid 5 rfl).val (by rw [Option.some.inj hz43])
              refine s_assign h rfl _ rfl rfl (by decide) rfl (fun a h => ?_)
              refine l_nil ?_
              refine e_blkN ?_
              refine e_thenN ?_
              have h := h.pick [1] (by decide) rfl
              exact ⟨z44, (Option.some.inj hc28), h.has (by exact ⟨rfl, rfl, rfl, rfl, trivial⟩)⟩
            · rw [if_neg (of_decide_eq_false hb)] at hc28
              refine wp_skip ?_
              refine e_blkN ?_
              refine e_thenN ?_
              have h := h.pick [1] (by decide) rfl
              exact ⟨false, (Option.some.inj hc28), h.has (by exact ⟨rfl, rfl, rfl, rfl, trivial⟩)⟩
      · rintro a w ⟨x29, rfl, h⟩
        refine c_rs ?_ -- region 12
        refine s_move h rfl _ rfl rfl (by decide) rfl (fun a h => ?_)
        refine s_x h rfl rfl (by decide) (x_not h.k rfl rfl) (fun a h => ?_)
        refine l_end ?_
        refine c_cond h rfl (fun hb => ?_) (fun hb => ?_)
        · rw [if_pos hb] at hl5
          refine c_rs ?_ -- region 13
          refine s_assign h rfl _ rfl rfl (by decide) rfl (fun a h => ?_)
          refine l_end ?_
          refine wp_ret ?_
          refine e_blkR ?_
          refine e_thenR ?_
          refine e_thenR ?_
          refine e_blkR ?_
          refine e_thenR ?_
          cases hl5
          try dsimp only at hf
          refine e_thenR ?_
          obtain rfl := Option.some.inj hf
          exact r_ret1 h rfl (rv_tmp h rfl) ⟨_, [], _, rfl, ⟨rfl, rfl, trivial⟩, rfl, (Up.refl _ _ _), h.m⟩
        · rw [if_neg (by rw [hb]; decide)] at hl5
          refine wp_skip ?_
          refine e_blkN ?_
          refine e_thenN ?_
          refine c_r ?_ -- region 14
          refine s_x h rfl rfl (by decide) (x_bin h.k rfl rfl rfl (ib_add rfl)) (fun a h => ?_)
          refine s_move h rfl _ rfl rfl (by decide) rfl (fun a h => ?_)
          refine l_nil ?_
          exact e_thenN ⟨m6, Nat.lt_succ_self _, w64 (x3 + 1), hl5, (w64_r _), h.has (by exact ⟨rfl, rfl, rfl, trivial⟩)⟩
    · rw [if_neg (of_decide_eq_false hb)] at hl5
      refine wp_exit ?_
      refine e_thenX ?_
      refine e_thenX ?_
      refine e_blkX ?_
      refine e_thenN ?_
      exact ⟨(Option.some.inj hl5), h.has trivial⟩
  · rintro a w ⟨rfl, h⟩
    try dsimp only at hf
    refine e_thenN ?_
    refine c_rs ?_ -- region 15
    refine s_assign h rfl _ rfl rfl (by decide) rfl (fun a h => ?_)
    refine l_end ?_
    refine wp_ret ?_
    obtain rfl := Option.some.inj hf
    exact r_ret1 h rfl (rv_tmp h rfl) ⟨_, [], _, rfl, ⟨rfl, rfl, trivial⟩, rfl, (Up.refl _ _ _), h.m⟩
def path_may (Fu : Nat) (a0 : Int) : Option Bool :=
  some ((decide (1 ≤ a0)) && (decide (a0 ≤ 4096)))
set_option maxRecDepth 100000 in
set_option maxHeartbeats 2000000 in
theorem path_may_ok (Fu : Nat) {S0 : Snap} (a0 : Int) (hra0 : r64 a0) (r : Bool) (hf : path_may Fu a0 = some r) (w0 : World) (hm : Mem w0 (ownL ([] ++ [.sn S0])) ([] ++ [.sn S0]) w0) :
    Calls Try.prog 83 #[.int .i64 a0] w0 (Ret w0 S0 [] (fun v L1 S1 => v = .bool r ∧ L1 = [] ∧ True)) := by
  unfold path_may at hf
  refine c_enterM Try.func83 rfl 9 rfl (by simp) _ hm _ rfl (fun a h => ?_)
  refine c_rs ?_ -- region 0
  refine s_assign h rfl _ rfl rfl (by decide) rfl (fun a h => ?_)
  refine l_end ?_
  refine c_rs ?_ -- region 1
  refine s_move h rfl _ rfl rfl (by decide) rfl (fun a h => ?_)
  refine s_x h rfl rfl (by decide) (x_bin h.k rfl rfl rfl ib_geq) (fun a h => ?_)
  refine s_move h rfl _ rfl rfl (by decide) rfl (fun a h => ?_)
  refine q_grp h 3 (t := 5) 8 ((decide (1 ≤ a0)) && (decide (a0 ≤ 4096))) rfl (fun hB2 => ?_) (fun hB2 => ?_) (fun a w h => ?_)
  · refine g_yes h rfl rfl rfl rfl hB2 ?_
    refine s_move h rfl _ rfl rfl (by decide) rfl (fun a h => ?_)
    refine g_yes h rfl rfl rfl rfl hB2 ?_
    refine s_x h rfl rfl (by decide) (x_bin h.k rfl rfl rfl ib_leq) (fun a h => ?_)
    refine s_x h rfl rfl (by decide) (x_pick (u' := undef) h.k rfl rfl (fun _ => rfl) (fun hh => absurd (hB2.symm.trans hh) (by decide))) (fun a h => ?_)
    exact (h.mid 2 rfl).val (by first | rfl | (rw [hB2]; first | rfl | simp))
  · refine g_no h rfl rfl rfl rfl hB2 rfl (by decide) (fun a h => ?_)
    refine g_no h rfl rfl rfl rfl hB2 rfl (by decide) (fun a h => ?_)
    refine s_x h rfl rfl (by decide) (x_pick (u' := undef) h.k rfl rfl (fun hh => absurd (hB2.symm.trans hh) (by decide)) (fun _ => rfl)) (fun a h => ?_)
    exact (h.mid 2 rfl).val (by first | rfl | (rw [hB2]; first | rfl | simp))
  refine s_assign h rfl _ rfl rfl (by decide) rfl (fun a h => ?_)
  refine l_end ?_
  refine wp_ret ?_
  obtain rfl := Option.some.inj hf
  exact r_ret1 h rfl (rv_tmp h rfl) ⟨_, [], _, rfl, ⟨rfl, rfl, trivial⟩, rfl, (Up.refl _ _ _), h.m⟩
def path_Depth_l0 (Fu : Nat) (a0 : Int) : Nat → Int → Int → Option Int
  | 0, _, _ => none
  | k + 1, x6, x8 => if x8 < a0 then (path_Depth_l0 Fu a0 k (w64 (x6 + 1)) (w64 (x8 * 4))) else (some x6)
def path_Depth (Fu : Nat) (a0 : Int) : Option Int :=
  (path_may Fu a0).bind fun x1 => if (!x1) = true then (some 0) else ((path_Depth_l0 Fu a0 Fu 1 4).bind fun x10 => some x10)
set_option maxRecDepth 100000 in
set_option maxHeartbeats 2000000 in
theorem path_Depth_ok (Fu : Nat) {S0 : Snap} (a0 : Int) (hra0 : r64 a0) (r : Int) (hf : path_Depth Fu a0 = some r) (w0 : World) (hm : Mem w0 (ownL ([] ++ [.sn S0])) ([] ++ [.sn S0]) w0) :
    Calls Try.prog 46 #[.int .i64 a0] w0 (Ret w0 S0 [] (fun v L1 S1 => v = .int .i64 r ∧ L1 = [] ∧ r64 r ∧ True)) := by
  unfold path_Depth at hf
  refine c_enterM Try.func46 rfl 16 rfl (by simp) _ hm _ rfl (fun a h => ?_)
  refine c_rs ?_ -- region 0
  refine s_assign h rfl _ rfl rfl (by decide) rfl (fun a h => ?_)
  refine l_end ?_
  refine wp_seq ?_
  refine c_rs ?_ -- region 1
  refine s_move h rfl _ rfl rfl (by decide) rfl (fun a h => ?_)
  obtain ⟨x1, h2, hf⟩ := bsome hf
  have hX := path_may_ok Fu (S0 := snapAll _) a0 hra0 _ h2 _ h.startAll
  refine q_callX hX h rfl rfl rfl (by decide) Try.func83 rfl rfl rfl (fun a w v L1 S1 hR hb1 h => ?_)
  obtain ⟨rfl, rfl, _⟩ := hR
  refine s_x h rfl rfl (by decide) (x_not h.k rfl rfl) (fun a h => ?_)
  refine l_end ?_
  refine c_cond h rfl (fun hb => ?_) (fun hb => ?_)
  · rw [if_pos hb] at hf
    refine c_rs ?_ -- region 2
    refine s_assign h rfl _ rfl rfl (by decide) rfl (fun a h => ?_)
    refine l_end ?_
    refine wp_ret ?_
    refine e_thenR ?_
    obtain rfl := Option.some.inj hf
    exact r_ret1 h rfl (rv_tmp h rfl) ⟨_, [], _, rfl, ⟨rfl, rfl, (show r64 0 from ⟨by decide, by decide⟩), trivial⟩, rfl, (Up.refl _ _ _), h.m⟩
  · rw [if_neg (by rw [hb]; decide)] at hf
    refine wp_skip ?_
    refine e_thenN ?_
    refine c_rs ?_ -- region 3
    refine s_assign h rfl _ rfl rfl (by decide) rfl (fun a h => ?_)
    refine s_assign h rfl _ rfl rfl (by decide) rfl (fun a h => ?_)
    refine l_end ?_
    obtain ⟨o4, hl5, hf⟩ := bsome hf
    refine c_cut (fun a w => ∃ (x10 : Int), x10 = o4 ∧ r64 x10 ∧ St 16 w0 (ownL ([] ++ [.sn S0])) [(3, .int .i64 x10)] [.sn S0] a w) ?_ ?_
    · refine wp_block ?_
      refine c_loop (fun m13 a w => ∃ (x6 : Int), ∃ (x8 : Int), path_Depth_l0 Fu a0 m13 x6 x8 = some o4 ∧ r64 x6 ∧ r64 x8 ∧ St 16 w0 (ownL ([] ++ [.sn S0])) [(0, .int .i64 a0), (3, .int .i64 x6), (4, .int .i64 x8)] [.sn S0] a w) Fu ⟨1, 4, hl5, (show r64 1 from ⟨by decide, by decide⟩), (show r64 4 from ⟨by decide, by decide⟩), h.has (by exact ⟨rfl, rfl, rfl, trivial⟩)⟩ (fun m13 a w hI => ?_)
      obtain ⟨x6, x8, hl12, hr7, hr9, h⟩ := hI
      obtain _ | m13 := m13
      · rw [path_Depth_l0] at hl12; cases hl12
      rw [path_Depth_l0] at hl12
      refine wp_seq ?_
      refine c_rs ?_ -- region 4
      refine s_move h rfl _ rfl rfl (by decide) rfl (fun a h => ?_)
      refine s_move h rfl _ rfl rfl (by decide) rfl (fun a h => ?_)
      refine s_x h rfl rfl (by decide) (x_bin h.k rfl rfl rfl ib_lss) (fun a h => ?_)
      refine l_end ?_
      refine c_cond h rfl (fun hb => ?_) (fun hb => ?_)
      · rw [if_pos (of_decide_eq_true hb)] at hl12
        refine wp_skip ?_
        refine e_thenN ?_
        refine wp_block ?_
        refine c_r ?_ -- region 5
        refine s_move h rfl _ rfl rfl (by decide) rfl (fun a h => ?_)
        refine s_x h rfl rfl (by decide) (x_bin h.k rfl rfl rfl (ib_add rfl)) (fun a h => ?_)
        refine s_move h rfl _ rfl rfl (by decide) rfl (fun a h => ?_)
        refine s_x h rfl rfl (by decide) (x_bin h.k rfl rfl rfl (ib_mul rfl)) (fun a h => ?_)
        refine s_assign h rfl _ rfl rfl (by decide) rfl (fun a h => ?_)
        refine s_assign h rfl _ rfl rfl (by decide) rfl (fun a h => ?_)
        refine l_nil ?_
        refine e_blkN ?_
        exact e_thenN ⟨m13, Nat.lt_succ_self _, w64 (x6 + 1), w64 (x8 * 4), hl12, (w64_r _), (w64_r _), h.has (by exact ⟨rfl, rfl, rfl, trivial⟩)⟩
      · rw [if_neg (of_decide_eq_false hb)] at hl12
        refine wp_exit ?_
        refine e_thenX ?_
        refine e_thenX ?_
        refine e_blkX ?_
        refine e_thenN ?_
        exact ⟨x6, (Option.some.inj hl12), hr7, h.has (by exact ⟨rfl, trivial⟩)⟩
    · rintro a w ⟨x10, rfl, hr11, h⟩
      refine c_rs ?_ -- region 6
      refine s_move h rfl _ rfl rfl (by decide) rfl (fun a h => ?_)
      refine s_assign h rfl _ rfl rfl (by decide) rfl (fun a h => ?_)
      refine l_end ?_
      refine wp_ret ?_
      obtain rfl := Option.some.inj hf
      exact r_ret1 h rfl (rv_tmp h rfl) ⟨_, [], _, rfl, ⟨rfl, rfl, hr11, trivial⟩, rfl, (Up.refl _ _ _), h.m⟩
def path_width_l0 (Fu : Nat) (a1 : Int) (x1 : Int) : Nat → Int → Int → Option Int
  | 0, _, _ => none
  | k + 1, x7, x9 => if x9 < w64 (x1 - a1) then (path_width_l0 Fu a1 x1 k (w64 (x7 * 4)) (w64 (x9 + 1))) else (some x7)
def path_width (Fu : Nat) (a0 : Int) (a1 : Int) : Option Int :=
  (path_Depth Fu a0).bind fun x1 => (path_width_l0 Fu a1 x1 Fu 1 0).bind fun x11 => some x11
set_option maxRecDepth 100000 in
set_option maxHeartbeats 2000000 in
theorem path_width_ok (Fu : Nat) {S0 : Snap} (a0 : Int) (hra0 : r64 a0) (a1 : Int) (hra1 : r64 a1) (r : Int) (hf : path_width Fu a0 a1 = some r) (w0 : World) (hm : Mem w0 (ownL ([] ++ [.sn S0])) ([] ++ [.sn S0]) w0) :
    Calls Try.prog 84 #[.int .i64 a0, .int .i64 a1] w0 (Ret w0 S0 [] (fun v L1 S1 => v = .int .i64 r ∧ L1 = [] ∧ r64 r ∧ True)) := by
  unfold path_width at hf
  refine c_enterM Try.func84 rfl 16 rfl (by simp) _ hm _ rfl (fun a h => ?_)
  refine c_rs ?_ -- region 0
  refine s_assign h rfl _ rfl rfl (by decide) rfl (fun a h => ?_)
  refine l_end ?_
  refine c_rs ?_ -- region 1
  refine s_assign h rfl _ rfl rfl (by decide) rfl (fun a h => ?_)
  refine l_end ?_
  refine wp_seq ?_
  refine c_rs ?_ -- region 2
  refine s_move h rfl _ rfl rfl (by decide) rfl (fun a h => ?_)
  obtain ⟨x1, h2, hf⟩ := bsome hf
  have hX := path_Depth_ok Fu (S0 := snapAll _) a0 hra0 _ h2 _ h.startAll
  refine q_callX hX h rfl rfl rfl (by decide) Try.func46 rfl rfl rfl (fun a w v L1 S1 hR hb1 h => ?_)
  obtain ⟨rfl, rfl, hr4, _⟩ := hR
  refine s_move h rfl _ rfl rfl (by decide) rfl (fun a h => ?_)
  refine s_x h rfl rfl (by decide) (x_bin h.k rfl rfl rfl (ib_sub rfl)) (fun a h => ?_)
  refine s_move h rfl _ rfl rfl (by decide) rfl (fun a h => ?_)
  refine l_end ?_
  obtain ⟨o5, hl6, hf⟩ := bsome hf
  refine c_fin (fun a w => ∃ (x11 : Int), x11 = o5 ∧ r64 x11 ∧ St 16 w0 (ownL ([] ++ [.sn S0])) [(5, .int .i64 x11)] [.sn S0] a w) ?_ ?_
  · refine wp_block ?_
    refine c_loop (fun m14 a w => ∃ (x7 : Int), ∃ (x9 : Int), path_width_l0 Fu a1 x1 m14 x7 x9 = some o5 ∧ r64 x7 ∧ r64 x9 ∧ St 16 w0 (ownL ([] ++ [.sn S0])) [(5, .int .i64 x7), (9, .int .i64 (w64 (x1 - a1))), (10, .int .i64 x9)] [.sn S0] a w) Fu ⟨1, 0, hl6, (show r64 1 from ⟨by decide, by decide⟩), (show r64 0 from ⟨by decide, by decide⟩), h.has (by exact ⟨rfl, rfl, rfl, trivial⟩)⟩ (fun m14 a w hI => ?_)
    obtain ⟨x7, x9, hl13, hr8, hr10, h⟩ := hI
    obtain _ | m14 := m14
    · rw [path_width_l0] at hl13; cases hl13
    rw [path_width_l0] at hl13
    refine c_rs ?_ -- region 3
    refine s_x h rfl rfl (by decide) (x_bin h.k rfl rfl rfl ib_lss) (fun a h => ?_)
    refine l_end ?_
    refine c_cs h rfl (fun hb => ?_) (fun hb => ?_)
    · rw [if_pos (of_decide_eq_true hb)] at hl13
      refine wp_skip ?_
      refine e_thenN ?_
      refine wp_seq ?_
      refine wp_block ?_
      refine c_r ?_ -- region 4
      refine s_move h rfl _ rfl rfl (by decide) rfl (fun a h => ?_)
      refine s_x h rfl rfl (by decide) (x_bin h.k rfl rfl rfl (ib_mul rfl)) (fun a h => ?_)
      refine s_assign h rfl _ rfl rfl (by decide) rfl (fun a h => ?_)
      refine l_nil ?_
      refine e_blkN ?_
      refine e_thenN ?_
      refine c_r ?_ -- region 5
      refine s_x h rfl rfl (by decide) (x_bin h.k rfl rfl rfl (ib_add rfl)) (fun a h => ?_)
      refine s_move h rfl _ rfl rfl (by decide) rfl (fun a h => ?_)
      refine l_nil ?_
      exact e_thenN ⟨m14, Nat.lt_succ_self _, w64 (x7 * 4), w64 (x9 + 1), hl13, (w64_r _), (w64_r _), h.has (by exact ⟨rfl, rfl, rfl, trivial⟩)⟩
    · rw [if_neg (of_decide_eq_false hb)] at hl13
      refine wp_exit ?_
      refine e_thenX ?_
      refine e_thenX ?_
      refine e_blkX ?_
      refine e_thenN ?_
      exact ⟨x7, (Option.some.inj hl13), hr8, h.has (by exact ⟨rfl, trivial⟩)⟩
  · rintro a w ⟨x11, rfl, hr12, h⟩
    refine e_thenN ?_
    refine c_rs ?_ -- region 6
    refine s_move h rfl _ rfl rfl (by decide) rfl (fun a h => ?_)
    refine s_assign h rfl _ rfl rfl (by decide) rfl (fun a h => ?_)
    refine l_end ?_
    refine wp_ret ?_
    obtain rfl := Option.some.inj hf
    exact r_ret1 h rfl (rv_tmp h rfl) ⟨_, [], _, rfl, ⟨rfl, rfl, hr12, trivial⟩, rfl, (Up.refl _ _ _), h.m⟩
def path_Count (Fu : Nat) (a0 : Int) (a1 : Int) : Option Int :=
  (path_may Fu a0).bind fun x1 => (if ((!x1) || (decide (a1 < 0))) = true then some true else (path_Depth Fu a0).bind fun x9 => some (decide (x9 < a1))).bind fun z7 => if z7 = true then (some 0) else ((path_width Fu a0 a1).bind fun x13 => (quoI (w64 ((w64 (a0 + x13)) - 1)) x13).bind fun x17 => some x17)
set_option maxRecDepth 100000 in
set_option maxHeartbeats 2000000 in
theorem path_Count_ok (Fu : Nat) {S0 : Snap} (a0 : Int) (hra0 : r64 a0) (a1 : Int) (hra1 : r64 a1) (r : Int) (hf : path_Count Fu a0 a1 = some r) (w0 : World) (hm : Mem w0 (ownL ([] ++ [.sn S0])) ([] ++ [.sn S0]) w0) :
    Calls Try.prog 48 #[.int .i64 a0, .int .i64 a1] w0 (Ret w0 S0 [] (fun v L1 S1 => v = .int .i64 r ∧ L1 = [] ∧ r64 r ∧ True)) := by
  unfold path_Count at hf
  refine c_enterM Try.func48 rfl 28 rfl (by simp) _ hm _ rfl (fun a h => ?_)
  refine c_rs ?_ -- region 0
  refine s_assign h rfl _ rfl rfl (by decide) rfl (fun a h => ?_)
  refine l_end ?_
  refine wp_seq ?_
  refine c_rs ?_ -- region 1
  refine s_move h rfl _ rfl rfl (by decide) rfl (fun a h => ?_)
  obtain ⟨x1, h2, hf⟩ := bsome hf
  have hX := path_may_ok Fu (S0 := snapAll _) a0 hra0 _ h2 _ h.startAll
  refine q_callX hX h rfl rfl rfl (by decide) Try.func83 rfl rfl rfl (fun a w v L1 S1 hR hb1 h => ?_)
  obtain ⟨rfl, rfl, _⟩ := hR
  refine s_x h rfl rfl (by decide) (x_not h.k rfl rfl) (fun a h => ?_)
  refine s_move h rfl _ rfl rfl (by decide) rfl (fun a h => ?_)
  refine q_grp h 3 (t := 9) 12 ((!x1) || (decide (a1 < 0))) rfl (fun hB3 => ?_) (fun hB3 => ?_) (fun a w h => ?_)
  · refine g_no h rfl rfl rfl rfl hB3 rfl (by decide) (fun a h => ?_)
    refine g_no h rfl rfl rfl rfl hB3 rfl (by decide) (fun a h => ?_)
    refine s_x h rfl rfl (by decide) (x_pick (u' := undef) h.k rfl rfl (fun _ => rfl) (fun hh => absurd (hB3.symm.trans hh) (by decide))) (fun a h => ?_)
    exact (h.mid 2 rfl).val (by first | rfl | (rw [hB3]; first | rfl | simp))
  · refine g_yes h rfl rfl rfl rfl hB3 ?_
    refine s_move h rfl _ rfl rfl (by decide) rfl (fun a h => ?_)
    refine g_yes h rfl rfl rfl rfl hB3 ?_
    refine s_x h rfl rfl (by decide) (x_bin h.k rfl rfl rfl ib_lss) (fun a h => ?_)
    refine s_x h rfl rfl (by decide) (x_pick (u' := undef) h.k rfl rfl (fun hh => absurd (hB3.symm.trans hh) (by decide)) (fun _ => rfl)) (fun a h => ?_)
    exact (h.mid 2 rfl).val (by first | rfl | (rw [hB3]; first | rfl | simp))
  refine s_move h rfl _ rfl rfl (by decide) rfl (fun a h => ?_)
  obtain ⟨z7, hz6, hf⟩ := bsome hf
  refine q_grp h 5 (t := 13) 18 z7 rfl (fun hB7 => ?_) (fun hB7 => ?_) (fun a w h => ?_)
  · refine g_no h rfl rfl rfl rfl hB7 rfl (by decide) (fun a h => ?_)
    refine g_no h rfl rfl rfl rfl hB7 rfl (by decide) (fun a h => ?_)
    refine g_no h rfl rfl rfl rfl hB7 rfl (by decide) (fun a h => ?_)
    refine g_no h rfl rfl rfl rfl hB7 rfl (by decide) (fun a h => ?_)
    rw [if_pos hB7] at hz6
    refine s_x h rfl rfl (by decide) (x_pick (u' := undef) h.k rfl rfl (fun _ => rfl) (fun hh => absurd (hB7.symm.trans hh) (by decide))) (fun a h => ?_)
    exact (h.mid 4 rfl).val (by rw [Option.some.inj hz6])
  · rw [if_neg (by rw [hB7]; decide)] at hz6
    refine g_yes h rfl rfl rfl rfl hB7 ?_
    refine s_move h rfl _ rfl rfl (by decide) rfl (fun a h => ?_)
    refine g_yes h rfl rfl rfl rfl hB7 ?_
    refine s_move h rfl _ rfl rfl (by decide) rfl (fun a h => ?_)
    refine g_yes h rfl rfl rfl rfl hB7 ?_
    obtain ⟨x9, h10, hz6⟩ := bsome hz6
    have hX := path_Depth_ok Fu (S0 := snapAll _) a0 hra0 _ h10 _ h.startAll
    refine q_callX hX h rfl rfl rfl (by decide) Try.func46 rfl rfl rfl (fun a w v L1 S1 hR hb1 h => ?_)
    obtain ⟨rfl, rfl, hr12, _⟩ := hR
    refine g_yes h rfl rfl rfl rfl hB7 ?_
    refine s_x h rfl rfl (by decide) (x_bin h.k rfl rfl rfl ib_gtr) (fun a h => ?_)
    refine s_x h rfl rfl (by decide) (x_pick (u' := undef) h.k rfl rfl (fun hh => absurd (hB7.symm.trans hh) (by decide)) (fun _ => rfl)) (fun a h => ?_)
    exact (h.mid 4 rfl).val (by rw [Option.some.inj hz6])
  refine l_end ?_
  refine c_cond h rfl (fun hb => ?_) (fun hb => ?_)
  · rw [if_pos hb] at hf
    refine c_rs ?_ -- region 2
    refine s_assign h rfl _ rfl rfl (by decide) rfl (fun a h => ?_)
    refine l_end ?_
    refine wp_ret ?_
    refine e_thenR ?_
    obtain rfl := Option.some.inj hf
    exact r_ret1 h rfl (rv_tmp h rfl) ⟨_, [], _, rfl, ⟨rfl, rfl, (show r64 0 from ⟨by decide, by decide⟩), trivial⟩, rfl, (Up.refl _ _ _), h.m⟩
  · rw [if_neg (by rw [hb]; decide)] at hf
    refine wp_skip ?_
    refine e_thenN ?_
    refine c_rs ?_ -- region 3
    refine s_move h rfl _ rfl rfl (by decide) rfl (fun a h => ?_)
    refine s_move h rfl _ rfl rfl (by decide) rfl (fun a h => ?_)
    obtain ⟨x13, h14, hf⟩ := bsome hf
    have hX := path_width_ok Fu (S0 := snapAll _) a0 hra0 a1 hra1 _ h14 _ h.startAll
    refine q_callX hX h rfl rfl rfl (by decide) Try.func84 rfl rfl rfl (fun a w v L1 S1 hR hb1 h => ?_)
    obtain ⟨rfl, rfl, hr16, _⟩ := hR
    refine s_assign h rfl _ rfl rfl (by decide) rfl (fun a h => ?_)
    refine l_end ?_
    refine c_rs ?_ -- region 4
    refine s_move h rfl _ rfl rfl (by decide) rfl (fun a h => ?_)
    refine s_move h rfl _ rfl rfl (by decide) rfl (fun a h => ?_)
    refine s_x h rfl rfl (by decide) (x_bin h.k rfl rfl rfl (ib_add rfl)) (fun a h => ?_)
    refine s_x h rfl rfl (by decide) (x_bin h.k rfl rfl rfl (ib_sub rfl)) (fun a h => ?_)
    refine s_move h rfl _ rfl rfl (by decide) rfl (fun a h => ?_)
    obtain ⟨x17, h18, hf⟩ := bsome hf
    refine s_x h rfl rfl (by decide) (x_bin h.k rfl rfl rfl (ib_quo_ h18)) (fun a h => ?_)
    refine s_assign h rfl _ rfl rfl (by decide) rfl (fun a h => ?_)
    refine l_end ?_
    refine wp_ret ?_
    obtain rfl := Option.some.inj hf
    exact r_ret1 h rfl (rv_tmp h rfl) ⟨_, [], _, rfl, ⟨rfl, rfl, (quoI_r h18 (w64_r _)), trivial⟩, rfl, (Up.refl _ _ _), h.m⟩
def path_Below (Fu : Nat) (a0 : Int) (a1 : Int) (a2 : Int) : Option (Int × Int) :=
  (if a2 < 0 then some true else (path_Count Fu a0 a1).bind fun x4 => some (decide (x4 ≤ a2))).bind fun z2 => if z2 = true then (some (0, 0)) else ((path_width Fu a0 a1).bind fun x8 => some (w64 (a2 * x8), mn (w64 ((w64 (a2 * x8)) + x8)) a0))
set_option maxRecDepth 100000 in
set_option maxHeartbeats 2000000 in
theorem path_Below_ok (Fu : Nat) {S0 : Snap} (a0 : Int) (hra0 : r64 a0) (a1 : Int) (hra1 : r64 a1) (a2 : Int) (hra2 : r64 a2) (r : Int × Int) (hf : path_Below Fu a0 a1 a2 = some r) (w0 : World) (hm : Mem w0 (ownL ([] ++ [.sn S0])) ([] ++ [.sn S0]) w0) :
    Calls Try.prog 60 #[.int .i64 a0, .int .i64 a1, .int .i64 a2] w0 (Ret w0 S0 [] (fun v L1 S1 => v = .tuple #[.int .i64 r.1, .int .i64 r.2] ∧ L1 = [] ∧ r64 r.1 ∧ r64 r.2 ∧ True)) := by
  unfold path_Below at hf
  refine c_enterM Try.func60 rfl 31 rfl (by simp) _ hm _ rfl (fun a h => ?_)
  refine c_rs ?_ -- region 0
  refine s_assign h rfl _ rfl rfl (by decide) rfl (fun a h => ?_)
  refine s_assign h rfl _ rfl rfl (by decide) rfl (fun a h => ?_)
  refine l_end ?_
  refine wp_seq ?_
  refine c_rs ?_ -- region 1
  refine s_move h rfl _ rfl rfl (by decide) rfl (fun a h => ?_)
  refine s_x h rfl rfl (by decide) (x_bin h.k rfl rfl rfl ib_lss) (fun a h => ?_)
  refine s_move h rfl _ rfl rfl (by decide) rfl (fun a h => ?_)
  obtain ⟨z2, hz1, hf⟩ := bsome hf
  refine q_grp h 6 (t := 11) 17 z2 rfl (fun hB2 => ?_) (fun hB2 => ?_) (fun a w h => ?_)
  · refine g_no h rfl rfl rfl rfl hB2 rfl (by decide) (fun a h => ?_)
    refine g_no h rfl rfl rfl rfl hB2 rfl (by decide) (fun a h => ?_)
    refine g_no h rfl rfl rfl rfl hB2 rfl (by decide) (fun a h => ?_)
    refine g_no h rfl rfl rfl rfl hB2 rfl (by decide) (fun a h => ?_)
    refine g_no h rfl rfl rfl rfl hB2 rfl (by decide) (fun a h => ?_)
    rw [if_pos (of_decide_eq_true hB2)] at hz1
    refine s_x h rfl rfl (by decide) (x_pick (u' := undef) h.k rfl rfl (fun _ => rfl) (fun hh => absurd (hB2.symm.trans hh) (by decide))) (fun a h => ?_)
    exact (h.mid 5 rfl).val (by rw [Option.some.inj hz1])
  · rw [if_neg (of_decide_eq_false hB2)] at hz1
    refine g_yes h rfl rfl rfl rfl hB2 ?_
    refine s_move h rfl _ rfl rfl (by decide) rfl (fun a h => ?_)
    refine g_yes h rfl rfl rfl rfl hB2 ?_
    refine s_move h rfl _ rfl rfl (by decide) rfl (fun a h => ?_)
    refine g_yes h rfl rfl rfl rfl hB2 ?_
    refine s_move h rfl _ rfl rfl (by decide) rfl (fun a h => ?_)
    refine g_yes h rfl rfl rfl rfl hB2 ?_
    obtain ⟨x4, h5, hz1⟩ := bsome hz1
    have hX := path_Count_ok Fu (S0 := snapAll _) a0 hra0 a1 hra1 _ h5 _ h.startAll
    refine q_callX hX h rfl rfl rfl (by decide) Try.func48 rfl rfl rfl (fun a w v L1 S1 hR hb1 h => ?_)
    obtain ⟨rfl, rfl, hr7, _⟩ := hR
    refine g_yes h rfl rfl rfl rfl hB2 ?_
    refine s_x h rfl rfl (by decide) (x_bin h.k rfl rfl rfl ib_geq) (fun a h => ?_)
    refine s_x h rfl rfl (by decide) (x_pick (u' := undef) h.k rfl rfl (fun hh => absurd (hB2.symm.trans hh) (by decide)) (fun _ => rfl)) (fun a h => ?_)
    exact (h.mid 5 rfl).val (by rw [Option.some.inj hz1])
  refine l_end ?_
  refine c_cond h rfl (fun hb => ?_) (fun hb => ?_)
  · rw [if_pos hb] at hf
    refine c_rs ?_ -- region 2
    refine s_assign h rfl _ rfl rfl (by decide) rfl (fun a h => ?_)
    refine s_assign h rfl _ rfl rfl (by decide) rfl (fun a h => ?_)
    refine l_end ?_
    refine wp_ret ?_
    refine e_thenR ?_
    obtain rfl := Option.some.inj hf
    exact r_ret2 h rfl (rv_tmp h rfl) (rv_tmp h rfl) ⟨_, [], _, rfl, ⟨rfl, rfl, (show r64 0 from ⟨by decide, by decide⟩), (show r64 0 from ⟨by decide, by decide⟩), trivial⟩, rfl, (Up.refl _ _ _), h.m⟩
  · rw [if_neg (by rw [hb]; decide)] at hf
    refine wp_skip ?_
    refine e_thenN ?_
    refine c_rs ?_ -- region 3
    refine s_move h rfl _ rfl rfl (by decide) rfl (fun a h => ?_)
    refine s_move h rfl _ rfl rfl (by decide) rfl (fun a h => ?_)
    obtain ⟨x8, h9, hf⟩ := bsome hf
    have hX := path_width_ok Fu (S0 := snapAll _) a0 hra0 a1 hra1 _ h9 _ h.startAll
    refine q_callX hX h rfl rfl rfl (by decide) Try.func84 rfl rfl rfl (fun a w v L1 S1 hR hb1 h => ?_)
    obtain ⟨rfl, rfl, hr11, _⟩ := hR
    refine s_assign h rfl _ rfl rfl (by decide) rfl (fun a h => ?_)
    refine l_end ?_
    refine c_rs ?_ -- region 4
    refine s_move h rfl _ rfl rfl (by decide) rfl (fun a h => ?_)
    refine s_move h rfl _ rfl rfl (by decide) rfl (fun a h => ?_)
    refine s_x h rfl rfl (by decide) (x_bin h.k rfl rfl rfl (ib_mul rfl)) (fun a h => ?_)
    refine s_move h rfl _ rfl rfl (by decide) rfl (fun a h => ?_)
    refine s_move h rfl _ rfl rfl (by decide) rfl (fun a h => ?_)
    refine s_x h rfl rfl (by decide) (x_bin h.k rfl rfl rfl (ib_mul rfl)) (fun a h => ?_)
    refine s_move h rfl _ rfl rfl (by decide) rfl (fun a h => ?_)
    refine s_x h rfl rfl (by decide) (x_bin h.k rfl rfl rfl (ib_add rfl)) (fun a h => ?_)
    refine s_move h rfl _ rfl rfl (by decide) rfl (fun a h => ?_)
    refine s_x h rfl rfl (by decide) (x_mn h.k rfl rfl rfl) (fun a h => ?_)
    refine s_assign h rfl _ rfl rfl (by decide) rfl (fun a h => ?_)
    refine s_assign h rfl _ rfl rfl (by decide) rfl (fun a h => ?_)
    refine l_end ?_
    refine wp_ret ?_
    obtain rfl := Option.some.inj hf
    exact r_ret2 h rfl (rv_tmp h rfl) (rv_tmp h rfl) ⟨_, [], _, rfl, ⟨rfl, rfl, (w64_r _), (mn_r (w64_r _) hra0), trivial⟩, rfl, (Up.refl _ _ _), h.m⟩
def chatelaineref20_May (Fu : Nat) (a0 : Int) : Option Bool :=
  some ((decide (1 ≤ a0)) && (decide (a0 ≤ 4096)))
set_option maxRecDepth 100000 in
set_option maxHeartbeats 2000000 in
theorem chatelaineref20_May_ok (Fu : Nat) {S0 : Snap} (a0 : Int) (hra0 : r64 a0) (r : Bool) (hf : chatelaineref20_May Fu a0 = some r) (w0 : World) (hm : Mem w0 (ownL ([] ++ [.sn S0])) ([] ++ [.sn S0]) w0) :
    Calls Try.prog 45 #[.int .i64 a0] w0 (Ret w0 S0 [] (fun v L1 S1 => v = .bool r ∧ L1 = [] ∧ True)) := by
  unfold chatelaineref20_May at hf
  refine c_enterM Try.func45 rfl 9 rfl (by simp) _ hm _ rfl (fun a h => ?_)
  refine c_rs ?_ -- region 0
  refine s_assign h rfl _ rfl rfl (by decide) rfl (fun a h => ?_)
  refine l_end ?_
  refine c_rs ?_ -- region 1
  refine s_move h rfl _ rfl rfl (by decide) rfl (fun a h => ?_)
  refine s_x h rfl rfl (by decide) (x_bin h.k rfl rfl rfl ib_geq) (fun a h => ?_)
  refine s_move h rfl _ rfl rfl (by decide) rfl (fun a h => ?_)
  refine q_grp h 3 (t := 5) 8 ((decide (1 ≤ a0)) && (decide (a0 ≤ 4096))) rfl (fun hB2 => ?_) (fun hB2 => ?_) (fun a w h => ?_)
  · refine g_yes h rfl rfl rfl rfl hB2 ?_
    refine s_move h rfl _ rfl rfl (by decide) rfl (fun a h => ?_)
    refine g_yes h rfl rfl rfl rfl hB2 ?_
    refine s_x h rfl rfl (by decide) (x_bin h.k rfl rfl rfl ib_leq) (fun a h => ?_)
    refine s_x h rfl rfl (by decide) (x_pick (u' := undef) h.k rfl rfl (fun _ => rfl) (fun hh => absurd (hB2.symm.trans hh) (by decide))) (fun a h => ?_)
    exact (h.mid 2 rfl).val (by first | rfl | (rw [hB2]; first | rfl | simp))
  · refine g_no h rfl rfl rfl rfl hB2 rfl (by decide) (fun a h => ?_)
    refine g_no h rfl rfl rfl rfl hB2 rfl (by decide) (fun a h => ?_)
    refine s_x h rfl rfl (by decide) (x_pick (u' := undef) h.k rfl rfl (fun hh => absurd (hB2.symm.trans hh) (by decide)) (fun _ => rfl)) (fun a h => ?_)
    exact (h.mid 2 rfl).val (by first | rfl | (rw [hB2]; first | rfl | simp))
  refine s_assign h rfl _ rfl rfl (by decide) rfl (fun a h => ?_)
  refine l_end ?_
  refine wp_ret ?_
  obtain rfl := Option.some.inj hf
  exact r_ret1 h rfl (rv_tmp h rfl) ⟨_, [], _, rfl, ⟨rfl, rfl, trivial⟩, rfl, (Up.refl _ _ _), h.m⟩
def chatelaineref20_Counts_l0 (Fu : Nat) : Nat → (List Int) → Int → Option ((List Int))
  | 0, _, _ => none
  | k + 1, x10, x15 => (app 8 x10 ([x15])).bind fun x27 => if ((decide (x15 = 1)) && (decide (1 < (x27.length : Int)))) = true then (some x27) else (chatelaineref20_Counts_l0 Fu k x27 (w64 (Int.tdiv (w64 (x15 + 3)) 4)))
def chatelaineref20_Counts_l1 (Fu : Nat) (x17 : List Int) : Nat → (List Int) → Int → Option ((List Int))
  | 0, _, _ => none
  | k + 1, x46, x51 => if 0 ≤ x51 then ((ix x17.length x51).bind fun m61 => (x17[m61]?).bind fun x67 => (app 8 x46 ([x67])).bind fun x76 => chatelaineref20_Counts_l1 Fu x17 k x76 (w64 (x51 - 1))) else (some x46)
def chatelaineref20_Counts (Fu : Nat) (a0 : Int) : Option ((List Int)) :=
  (chatelaineref20_Counts_l0 Fu Fu ([]) a0).bind fun x17 => (chatelaineref20_Counts_l1 Fu x17 Fu ([]) (w64 ((x17.length : Int) - 1))).bind fun x53 => some x53
set_option maxRecDepth 100000 in
set_option maxHeartbeats 2000000 in
theorem chatelaineref20_Counts_ok (Fu : Nat) {S0 : Snap} (a0 : Int) (hra0 : r64 a0) (r : (List Int)) (hf : chatelaineref20_Counts Fu a0 = some r) (w0 : World) (hm : Mem w0 (ownL ([] ++ [.sn S0])) ([] ++ [.sn S0]) w0) :
    Calls Try.prog 49 #[.int .i64 a0] w0 (Ret w0 S0 [] (fun v L1 S1 => ∃ (A82 : Option Addr), ∃ (c83 : Nat), ∃ (cs84 : List Value), v = .slice A82 r.length c83 ∧ L1 = [.row (.slice A82 r.length c83) 3 1 r.length cs84] ∧ reps tyI S1 cs84 r ∧ True)) := by
  unfold chatelaineref20_Counts at hf
  refine c_enterM Try.func49 rfl 37 rfl (by simp) _ hm _ rfl (fun a h => ?_)
  refine c_rs ?_ -- region 0
  refine s_assign h rfl _ rfl rfl (by decide) rfl (fun a h => ?_)
  refine l_end ?_
  refine c_rs ?_ -- region 1
  refine s_assign h rfl _ rfl rfl (by decide) rfl (fun a h => ?_)
  refine l_end ?_
  refine c_rs ?_ -- region 2
  refine s_move h rfl _ rfl rfl (by decide) rfl (fun a h => ?_)
  refine s_assign h rfl _ rfl rfl (by decide) rfl (fun a h => ?_)
  refine l_end ?_
  obtain ⟨o1, hl2, hf⟩ := bsome hf
  refine c_cut (fun a w => ∃ (x17 : List Int), ∃ (A18 : Option Addr), ∃ (c19 : Nat), ∃ (cs20 : List Value), x17 = o1 ∧ reps tyI S0 cs20 x17 ∧ St 37 w0 (ownL ([] ++ [.sn S0])) [(3, .slice A18 x17.length c19)] [.row (.slice A18 x17.length c19) 3 1 x17.length cs20, .sn S0] a w) ?_ ?_
  · refine wp_block ?_
    have h := h.mem (h.m.nilrow 3 1)
    refine c_loop (fun m23 a w => ∃ (x10 : List Int), ∃ (A11 : Option Addr), ∃ (c12 : Nat), ∃ (cs13 : List Value), ∃ (x15 : Int), chatelaineref20_Counts_l0 Fu m23 x10 x15 = some o1 ∧ reps tyI S0 cs13 x10 ∧ r64 x15 ∧ St 37 w0 (ownL ([] ++ [.sn S0])) [(3, .slice A11 x10.length c12), (4, .int .i64 x15)] [.row (.slice A11 x10.length c12) 3 1 x10.length cs13, .sn S0] a w) Fu ⟨[], none, 0, [], a0, hl2, (show reps tyI S0 [] [] from rfl), hra0, h.has (by exact ⟨rfl, rfl, trivial⟩)⟩ (fun m23 a w hI => ?_)
    obtain ⟨x10, A11, c12, cs13, x15, hl22, hq14, hr16, h⟩ := hI
    obtain _ | m23 := m23
    · rw [chatelaineref20_Counts_l0] at hl22; cases hl22
    rw [chatelaineref20_Counts_l0] at hl22
    refine wp_block ?_
    refine c_rs ?_ -- region 3
    refine s_move h rfl _ rfl rfl (by decide) rfl (fun a h => ?_)
    refine s_move h rfl _ rfl rfl (by decide) rfl (fun a h => ?_)
    refine q_bslice (T := tyI) (S := S0) h rfl rfl rfl (by decide) Try.underlying78 zi_int (by decide) (by decide) (by decide) (by decide) [.int .i64 x15] rfl rfl (C := [[.int .i64 x15]]) rfl (xs := [x15]) ⟨[.int .i64 x15], _, rfl, ⟨rfl, hr16⟩, rfl⟩ (by intro c hc; simp only [List.mem_cons, List.not_mem_nil, or_false] at hc; subst hc; rfl) (fun a w A25 h => ?_)
    have hb26 : reps tyI S0 ([[.int .i64 x15]]).flatten [x15] := ⟨[.int .i64 x15], _, rfl, ⟨rfl, hr16⟩, rfl⟩
    obtain ⟨x27, h28, hl22⟩ := bsome hl22
    refine q_append (T := tyI) (S := S0) h rfl rfl rfl (by decide) Try.underlying78 zb_int rfl (by decide) rfl 1 rfl hq14 rfl hb26 (h.m.rdRowA (i := 0) rfl) h28 (fun a w A29 c30 cs31 hq32 h => ?_)
    refine s_assign h rfl _ rfl rfl (by decide) rfl (fun a h => ?_)
    refine l_end ?_
    refine wp_seq ?_
    refine c_rs ?_ -- region 4
    refine s_move h rfl _ rfl rfl (by decide) rfl (fun a h => ?_)
    refine s_x h rfl rfl (by decide) (x_bin h.k rfl rfl rfl ib_eql) (fun a h => ?_)
    refine s_move h rfl _ rfl rfl (by decide) rfl (fun a h => ?_)
    refine q_grp h 4 (t := 14) 18 ((decide (x15 = 1)) && (decide (1 < (x27.length : Int)))) rfl (fun hB2 => ?_) (fun hB2 => ?_) (fun a w h => ?_)
    · refine g_yes h rfl rfl rfl rfl hB2 ?_
      refine s_move h rfl _ rfl rfl (by decide) rfl (fun a h => ?_)
      refine g_yes h rfl rfl rfl rfl hB2 ?_
      have hr35 : r64 (x27.length : Int) := len_r (h.m.rowLen (i := 1) rfl)
      refine s_x h rfl rfl (by decide) (x_len h.k rfl Try.underlying78 rfl) (fun a h => ?_)
      refine g_yes h rfl rfl rfl rfl hB2 ?_
      refine s_x h rfl rfl (by decide) (x_bin h.k rfl rfl rfl ib_gtr) (fun a h => ?_)
      refine s_x h rfl rfl (by decide) (x_pick (u' := undef) h.k rfl rfl (fun _ => rfl) (fun hh => absurd (hB2.symm.trans hh) (by decide))) (fun a h => ?_)
      exact (h.mid 3 rfl).val (by first | rfl | (rw [hB2]; first | rfl | simp))
    · refine g_no h rfl rfl rfl rfl hB2 rfl (by decide) (fun a h => ?_)
      refine g_no h rfl rfl rfl rfl hB2 rfl (by decide) (fun a h => ?_)
      refine g_no h rfl rfl rfl rfl hB2 rfl (by decide) (fun a h => ?_)
      refine s_x h rfl rfl (by decide) (x_pick (u' := undef) h.k rfl rfl (fun hh => absurd (hB2.symm.trans hh) (by decide)) (fun _ => rfl)) (fun a h => ?_)
      exact (h.mid 3 rfl).val (by first | rfl | (rw [hB2]; first | rfl | simp))
    refine l_end ?_
    refine c_cond h rfl (fun hb => ?_) (fun hb => ?_)
    · rw [if_pos hb] at hl22
      refine wp_exit ?_
      refine e_thenX ?_
      refine e_blkY (by decide) ?_
      refine e_thenX ?_
      refine e_blkX ?_
      refine e_thenN ?_
      have h := h.pick [1, 2] (by decide) rfl
      exact ⟨x27, A29, c30, cs31, (Option.some.inj hl22), hq32, h.has (by exact ⟨rfl, trivial⟩)⟩
    · rw [if_neg (by rw [hb]; decide)] at hl22
      refine wp_skip ?_
      refine e_thenN ?_
      refine c_r ?_ -- region 5
      refine s_move h rfl _ rfl rfl (by decide) rfl (fun a h => ?_)
      refine s_x h rfl rfl (by decide) (x_bin h.k rfl rfl rfl (ib_add rfl)) (fun a h => ?_)
      refine s_x h rfl rfl (by decide) (x_bin h.k rfl rfl rfl (ib_quow (by decide))) (fun a h => ?_)
      refine s_assign h rfl _ rfl rfl (by decide) rfl (fun a h => ?_)
      refine l_nil ?_
      refine e_blkN ?_
      have h := h.pick [1, 2] (by decide) rfl
      exact e_thenN ⟨m23, Nat.lt_succ_self _, x27, A29, c30, cs31, w64 (Int.tdiv (w64 (x15 + 3)) 4), hl22, hq32, (w64_r _), h.has (by exact ⟨rfl, rfl, trivial⟩)⟩
  · rintro a w ⟨x17, A18, c19, cs20, rfl, hq21, h⟩
    refine c_rs ?_ -- region 6
    refine s_assign h rfl _ rfl rfl (by decide) rfl (fun a h => ?_)
    refine l_end ?_
    refine wp_seq ?_
    refine c_rs ?_ -- region 7
    refine s_move h rfl _ rfl rfl (by decide) rfl (fun a h => ?_)
    have hr36 : r64 (x17.length : Int) := len_r (h.m.rowLen (i := 0) rfl)
    refine s_x h rfl rfl (by decide) (x_len h.k rfl Try.underlying78 rfl) (fun a h => ?_)
    refine s_x h rfl rfl (by decide) (x_bin h.k rfl rfl rfl (ib_sub rfl)) (fun a h => ?_)
    refine s_assign h rfl _ rfl rfl (by decide) rfl (fun a h => ?_)
    refine l_end ?_
    obtain ⟨o37, hl38, hf⟩ := bsome hf
    refine c_fin (fun a w => ∃ (x53 : List Int), ∃ (A54 : Option Addr), ∃ (c55 : Nat), ∃ (cs56 : List Value), x53 = o37 ∧ reps tyI S0 cs56 x53 ∧ St 37 w0 (ownL ([] ++ [.sn S0])) [(5, .slice A54 x53.length c55)] [.row (.slice A54 x53.length c55) 3 1 x53.length cs56, .sn S0] a w) ?_ ?_
    · refine wp_block ?_
      have h := h.mem (h.m.nilrow 3 1)
      have h := h.pick [1, 0, 2] (by decide) rfl
      refine c_loop (fun m59 a w => ∃ (x46 : List Int), ∃ (A47 : Option Addr), ∃ (c48 : Nat), ∃ (cs49 : List Value), ∃ (x51 : Int), chatelaineref20_Counts_l1 Fu x17 m59 x46 x51 = some o37 ∧ reps tyI S0 cs49 x46 ∧ r64 x51 ∧ St 37 w0 (ownL ([] ++ [.sn S0])) [(3, .slice A18 x17.length c19), (5, .slice A47 x46.length c48), (6, .int .i64 x51)] [.row (.slice A18 x17.length c19) 3 1 x17.length cs20, .row (.slice A47 x46.length c48) 3 1 x46.length cs49, .sn S0] a w) Fu ⟨[], none, 0, [], w64 ((x17.length : Int) - 1), hl38, (show reps tyI S0 [] [] from rfl), (w64_r _), h.has (by exact ⟨rfl, rfl, rfl, trivial⟩)⟩ (fun m59 a w hI => ?_)
      obtain ⟨x46, A47, c48, cs49, x51, hl58, hq50, hr52, h⟩ := hI
      obtain _ | m59 := m59
      · rw [chatelaineref20_Counts_l1] at hl58; cases hl58
      rw [chatelaineref20_Counts_l1] at hl58
      refine wp_seq ?_
      refine c_rs ?_ -- region 8
      refine s_move h rfl _ rfl rfl (by decide) rfl (fun a h => ?_)
      refine s_x h rfl rfl (by decide) (x_bin h.k rfl rfl rfl ib_geq) (fun a h => ?_)
      refine l_end ?_
      refine c_cond h rfl (fun hb => ?_) (fun hb => ?_)
      · rw [if_pos (of_decide_eq_true hb)] at hl58
        refine wp_skip ?_
        refine e_thenN ?_
        refine wp_seq ?_
        refine wp_block ?_
        refine c_r ?_ -- region 10
        refine s_move h rfl _ rfl rfl (by decide) rfl (fun a h => ?_)
        refine s_move h rfl _ rfl rfl (by decide) rfl (fun a h => ?_)
        refine s_move h rfl _ rfl rfl (by decide) rfl (fun a h => ?_)
        obtain ⟨m61, h62, hl58⟩ := bsome hl58
        obtain ⟨hi63, hm64⟩ := ix_some h62
        obtain ⟨g66, hA65⟩ := h.m.rowHead (i := 0) rfl (Nat.lt_of_le_of_lt (Nat.zero_le _) hm64)
        refine s_x h rfl rfl (by decide) (x_iaddrE h.k rfl Try.underlying78 sz_int hA65 rfl rfl hi63 hm64) (fun a h => ?_)
        obtain ⟨x67, h68, hl58⟩ := bsome hl58
        obtain ⟨u69, hv70, hu71⟩ := (hq21).cell rfl h68
        obtain ⟨e73, hr72⟩ := hu71
        cases e73
        refine s_x h rfl rfl (by decide) (x_ld h.k rfl Try.underlying3 rfl rfl (h.m.cellRowE (i := 0) rfl hA65 _ (by rw [Nat.mul_one]; exact hv70))) (fun a h => ?_)
        refine q_bslice (T := tyI) (S := S0) h rfl rfl rfl (by decide) Try.underlying78 zi_int (by decide) (by decide) (by decide) (by decide) [.int .i64 x67] rfl rfl (C := [[.int .i64 x67]]) rfl (xs := [x67]) ⟨[.int .i64 x67], _, rfl, ⟨rfl, hr72⟩, rfl⟩ (by intro c hc; simp only [List.mem_cons, List.not_mem_nil, or_false] at hc; subst hc; rfl) (fun a w A74 h => ?_)
        have hb75 : reps tyI S0 ([[.int .i64 x67]]).flatten [x67] := ⟨[.int .i64 x67], _, rfl, ⟨rfl, hr72⟩, rfl⟩
        obtain ⟨x76, h77, hl58⟩ := bsome hl58
        refine q_append (T := tyI) (S := S0) h rfl rfl rfl (by decide) Try.underlying78 zb_int rfl (by decide) rfl 2 rfl hq50 rfl hb75 (h.m.rdRowA (i := 0) rfl) h77 (fun a w A78 c79 cs80 hq81 h => ?_)
        refine s_assign h rfl _ rfl rfl (by decide) rfl (fun a h => ?_)
        refine l_nil ?_
        refine e_blkN ?_
        refine e_thenN ?_
        refine c_r ?_ -- region 9
        refine s_move h rfl _ rfl rfl (by decide) rfl (fun a h => ?_)
        refine s_x h rfl rfl (by decide) (x_bin h.k rfl rfl rfl (ib_sub rfl)) (fun a h => ?_)
        refine s_assign h rfl _ rfl rfl (by decide) rfl (fun a h => ?_)
        refine l_nil ?_
        have h := h.pick [1, 2, 3] (by decide) rfl
        exact e_thenN ⟨m59, Nat.lt_succ_self _, x76, A78, c79, cs80, w64 (x51 - 1), hl58, hq81, (w64_r _), h.has (by exact ⟨rfl, rfl, rfl, trivial⟩)⟩
      · rw [if_neg (of_decide_eq_false hb)] at hl58
        refine wp_exit ?_
        refine e_thenX ?_
        refine e_thenX ?_
        refine e_blkX ?_
        refine e_thenN ?_
        have h := h.pick [1, 2] (by decide) rfl
        exact ⟨x46, A47, c48, cs49, (Option.some.inj hl58), hq50, h.has (by exact ⟨rfl, trivial⟩)⟩
    · rintro a w ⟨x53, A54, c55, cs56, rfl, hq57, h⟩
      refine e_thenN ?_
      refine c_rs ?_ -- region 11
      refine s_move h rfl _ rfl rfl (by decide) rfl (fun a h => ?_)
      refine s_assign h rfl _ rfl rfl (by decide) rfl (fun a h => ?_)
      refine l_end ?_
      refine wp_ret ?_
      obtain rfl := Option.some.inj hf
      exact r_ret1 h rfl (rv_tmp h rfl) ⟨_, [.row (.slice A54 x53.length c55) 3 1 x53.length cs56], _, rfl, ⟨A54, c55, cs56, rfl, rfl, hq57, trivial⟩, rfl, (Up.refl _ _ _), h.m⟩
def chatelaineref20_Place_l0 (Fu : Nat) (a1 : Int) (x6 : (List Int)) : Nat → Int → Int → Option Int
  | 0, _, _ => none
  | k + 1, x35, x37 => if x37 < a1 then ((ix x6.length x37).bind fun m43 => (x6[m43]?).bind fun x49 => chatelaineref20_Place_l0 Fu a1 x6 k (w64 (x35 + x49)) (w64 (x37 + 1))) else (some x35)
def chatelaineref20_Place (Fu : Nat) (a0 : Int) (a1 : Int) (a2 : Int) : Option Int :=
  (chatelaineref20_May Fu a0).bind fun x1 => if ((!x1) || (decide (a1 < 1))) = true then (some (-1)) else ((chatelaineref20_Counts Fu a0).bind fun x6 => (if ((decide ((x6.length : Int) ≤ a1)) || (decide (a2 < 0))) = true then some true else (ix x6.length a1).bind fun m20 => (x6[m20]?).bind fun x26 => some (decide (x26 ≤ a2))).bind fun z18 => if z18 = true then (some (-1)) else ((chatelaineref20_Place_l0 Fu a1 x6 Fu 0 1).bind fun x39 => some (w64 (x39 + a2))))
set_option maxRecDepth 100000 in
set_option maxHeartbeats 2000000 in
theorem chatelaineref20_Place_ok (Fu : Nat) {S0 : Snap} (a0 : Int) (hra0 : r64 a0) (a1 : Int) (hra1 : r64 a1) (a2 : Int) (hra2 : r64 a2) (r : Int) (hf : chatelaineref20_Place Fu a0 a1 a2 = some r) (w0 : World) (hm : Mem w0 (ownL ([] ++ [.sn S0])) ([] ++ [.sn S0]) w0) :
    Calls Try.prog 43 #[.int .i64 a0, .int .i64 a1, .int .i64 a2] w0 (Ret w0 S0 [] (fun v L1 S1 => v = .int .i64 r ∧ L1 = [] ∧ r64 r ∧ True)) := by
  unfold chatelaineref20_Place at hf
  refine c_enterM Try.func43 rfl 49 rfl (by simp) _ hm _ rfl (fun a h => ?_)
  refine c_rs ?_ -- region 0
  refine s_assign h rfl _ rfl rfl (by decide) rfl (fun a h => ?_)
  refine l_end ?_
  refine wp_seq ?_
  refine c_rs ?_ -- region 1
  refine s_move h rfl _ rfl rfl (by decide) rfl (fun a h => ?_)
  obtain ⟨x1, h2, hf⟩ := bsome hf
  have hX := chatelaineref20_May_ok Fu (S0 := snapAll _) a0 hra0 _ h2 _ h.startAll
  refine q_callX hX h rfl rfl rfl (by decide) Try.func45 rfl rfl rfl (fun a w v L1 S1 hR hb1 h => ?_)
  obtain ⟨rfl, rfl, _⟩ := hR
  refine s_x h rfl rfl (by decide) (x_not h.k rfl rfl) (fun a h => ?_)
  refine s_move h rfl _ rfl rfl (by decide) rfl (fun a h => ?_)
  refine q_grp h 3 (t := 13) 16 ((!x1) || (decide (a1 < 1))) rfl (fun hB3 => ?_) (fun hB3 => ?_) (fun a w h => ?_)
  · refine g_no h rfl rfl rfl rfl hB3 rfl (by decide) (fun a h => ?_)
    refine g_no h rfl rfl rfl rfl hB3 rfl (by decide) (fun a h => ?_)
    refine s_x h rfl rfl (by decide) (x_pick (u' := undef) h.k rfl rfl (fun _ => rfl) (fun hh => absurd (hB3.symm.trans hh) (by decide))) (fun a h => ?_)
    exact (h.mid 2 rfl).val (by first | rfl | (rw [hB3]; first | rfl | simp))
  · refine g_yes h rfl rfl rfl rfl hB3 ?_
    refine s_move h rfl _ rfl rfl (by decide) rfl (fun a h => ?_)
    refine g_yes h rfl rfl rfl rfl hB3 ?_
    refine s_x h rfl rfl (by decide) (x_bin h.k rfl rfl rfl ib_lss) (fun a h => ?_)
    refine s_x h rfl rfl (by decide) (x_pick (u' := undef) h.k rfl rfl (fun hh => absurd (hB3.symm.trans hh) (by decide)) (fun _ => rfl)) (fun a h => ?_)
    exact (h.mid 2 rfl).val (by first | rfl | (rw [hB3]; first | rfl | simp))
  refine l_end ?_
  refine c_cond h rfl (fun hb => ?_) (fun hb => ?_)
  · rw [if_pos hb] at hf
    refine c_rs ?_ -- region 2
    refine s_assign h rfl _ rfl rfl (by decide) rfl (fun a h => ?_)
    refine l_end ?_
    refine wp_ret ?_
    refine e_thenR ?_
    obtain rfl := Option.some.inj hf
    exact r_ret1 h rfl (rv_tmp h rfl) ⟨_, [], _, rfl, ⟨rfl, rfl, (show r64 (-1) from ⟨by decide, by decide⟩), trivial⟩, rfl, (Up.refl _ _ _), h.m⟩
  · rw [if_neg (by rw [hb]; decide)] at hf
    refine wp_skip ?_
    refine e_thenN ?_
    refine c_rs ?_ -- region 3
    refine s_move h rfl _ rfl rfl (by decide) rfl (fun a h => ?_)
    obtain ⟨x6, h7, hf⟩ := bsome hf
    have hX := chatelaineref20_Counts_ok Fu (S0 := snapAll _) a0 hra0 _ h7 _ h.startAll
    refine q_callX hX h rfl rfl rfl (by decide) Try.func49 rfl rfl rfl (fun a w v L1 S1 hR hb1 h => ?_)
    obtain ⟨A9, c10, cs11, rfl, rfl, hq12, _⟩ := hR
    have hq13 := hq12.fl (S' := S0) fl_I
    refine s_assign h rfl _ rfl rfl (by decide) rfl (fun a h => ?_)
    refine l_end ?_
    refine wp_seq ?_
    refine c_rs ?_ -- region 4
    refine s_move h rfl _ rfl rfl (by decide) rfl (fun a h => ?_)
    refine s_move h rfl _ rfl rfl (by decide) rfl (fun a h => ?_)
    have hr14 : r64 (x6.length : Int) := len_r (h.m.rowLen (i := 0) rfl)
    refine s_x h rfl rfl (by decide) (x_len h.k rfl Try.underlying78 rfl) (fun a h => ?_)
    refine s_x h rfl rfl (by decide) (x_bin h.k rfl rfl rfl ib_geq) (fun a h => ?_)
    refine s_move h rfl _ rfl rfl (by decide) rfl (fun a h => ?_)
    refine q_grp h 3 (t := 23) 26 ((decide ((x6.length : Int) ≤ a1)) || (decide (a2 < 0))) rfl (fun hB4 => ?_) (fun hB4 => ?_) (fun a w h => ?_)
    · refine g_no h rfl rfl rfl rfl hB4 rfl (by decide) (fun a h => ?_)
      refine g_no h rfl rfl rfl rfl hB4 rfl (by decide) (fun a h => ?_)
      refine s_x h rfl rfl (by decide) (x_pick (u' := undef) h.k rfl rfl (fun _ => rfl) (fun hh => absurd (hB4.symm.trans hh) (by decide))) (fun a h => ?_)
      exact (h.mid 2 rfl).val (by first | rfl | (rw [hB4]; first | rfl | simp))
    · refine g_yes h rfl rfl rfl rfl hB4 ?_
      refine s_move h rfl _ rfl rfl (by decide) rfl (fun a h => ?_)
      refine g_yes h rfl rfl rfl rfl hB4 ?_
      refine s_x h rfl rfl (by decide) (x_bin h.k rfl rfl rfl ib_lss) (fun a h => ?_)
      refine s_x h rfl rfl (by decide) (x_pick (u' := undef) h.k rfl rfl (fun hh => absurd (hB4.symm.trans hh) (by decide)) (fun _ => rfl)) (fun a h => ?_)
      exact (h.mid 2 rfl).val (by first | rfl | (rw [hB4]; first | rfl | simp))
    refine s_move h rfl _ rfl rfl (by decide) rfl (fun a h => ?_)
    obtain ⟨z18, hz17, hf⟩ := bsome hf
    refine q_grp h 7 (t := 27) 34 z18 rfl (fun hB8 => ?_) (fun hB8 => ?_) (fun a w h => ?_)
    · refine g_no h rfl rfl rfl rfl hB8 rfl (by decide) (fun a h => ?_)
      refine g_no h rfl rfl rfl rfl hB8 rfl (by decide) (fun a h => ?_)
      refine g_no h rfl rfl rfl rfl hB8 rfl (by decide) (fun a h => ?_)
      refine g_no h rfl rfl rfl rfl hB8 rfl (by decide) (fun a h => ?_)
      refine g_no h rfl rfl rfl rfl hB8 rfl (by decide) (fun a h => ?_)
      refine g_no h rfl rfl rfl rfl hB8 rfl (by decide) (fun a h => ?_)
      rw [if_pos hB8] at hz17
      refine s_x h rfl rfl (by decide) (x_pick (u' := undef) h.k rfl rfl (fun _ => rfl) (fun hh => absurd (hB8.symm.trans hh) (by decide))) (fun a h => ?_)
      exact (h.mid 6 rfl).val (by rw [Option.some.inj hz17])
    · rw [if_neg (by rw [hB8]; decide)] at hz17
      refine g_yes h rfl rfl rfl rfl hB8 ?_
      refine s_move h rfl _ rfl rfl (by decide) rfl (fun a h => ?_)
      refine g_yes h rfl rfl rfl rfl hB8 ?_
      refine s_move h rfl _ rfl rfl (by decide) rfl (fun a h => ?_)
      refine g_yes h rfl rfl rfl rfl hB8 ?_
      refine s_move h rfl _ rfl rfl (by decide) rfl (fun a h => ?_)
      refine g_yes h rfl rfl rfl rfl hB8 ?_
      obtain ⟨m20, h21, hz17⟩ := bsome hz17
      obtain ⟨hi22, hm23⟩ := ix_some h21
      obtain ⟨g25, hA24⟩ := h.m.rowHead (i := 0) rfl (Nat.lt_of_le_of_lt (Nat.zero_le _) hm23)
      refine s_x h rfl rfl (by decide) (x_iaddrE h.k rfl Try.underlying78 sz_int hA24 rfl rfl hi22 hm23) (fun a h => ?_)
      refine g_yes h rfl rfl rfl rfl hB8 ?_
      obtain ⟨x26, h27, hz17⟩ := bsome hz17
      obtain ⟨u28, hv29, hu30⟩ := (hq13).cell rfl h27
      obtain ⟨e32, hr31⟩ := hu30
      cases e32
      refine s_x h rfl rfl (by decide) (x_ld h.k rfl Try.underlying3 rfl rfl (h.m.cellRowE (i := 0) rfl hA24 _ (by rw [Nat.mul_one]; exact hv29))) (fun a h => ?_)
      refine g_yes h rfl rfl rfl rfl hB8 ?_
      refine s_x h rfl rfl (by decide) (x_bin h.k rfl rfl rfl ib_geq) (fun a h => ?_)
      refine s_x h rfl rfl (by decide) (x_pick (u' := undef) h.k rfl rfl (fun hh => absurd (hB8.symm.trans hh) (by decide)) (fun _ => rfl)) (fun a h => ?_)
      exact (h.mid 6 rfl).val (by rw [Option.some.inj hz17])
    refine l_end ?_
    refine c_cond h rfl (fun hb => ?_) (fun hb => ?_)
    · rw [if_pos hb] at hf
      refine c_rs ?_ -- region 5
      refine s_assign h rfl _ rfl rfl (by decide) rfl (fun a h => ?_)
      refine l_end ?_
      refine wp_ret ?_
      refine e_thenR ?_
      obtain rfl := Option.some.inj hf
      exact r_ret1 h rfl (rv_tmp h rfl) ⟨_, [], _, rfl, ⟨rfl, rfl, (show r64 (-1) from ⟨by decide, by decide⟩), trivial⟩, rfl, (Up.refl _ _ _), (h.m.pick [1] _ (by decide) rfl)⟩
    · rw [if_neg (by rw [hb]; decide)] at hf
      refine wp_skip ?_
      refine e_thenN ?_
      refine c_rs ?_ -- region 6
      refine s_assign h rfl _ rfl rfl (by decide) rfl (fun a h => ?_)
      refine l_end ?_
      refine wp_seq ?_
      refine c_rs ?_ -- region 7
      refine s_assign h rfl _ rfl rfl (by decide) rfl (fun a h => ?_)
      refine l_end ?_
      obtain ⟨o33, hl34, hf⟩ := bsome hf
      refine c_fin (fun a w => ∃ (x39 : Int), x39 = o33 ∧ r64 x39 ∧ St 49 w0 (ownL ([] ++ [.sn S0])) [(2, .int .i64 a2), (8, .int .i64 x39)] [.sn S0] a w) ?_ ?_
      · refine wp_block ?_
        refine c_loop (fun m42 a w => ∃ (x35 : Int), ∃ (x37 : Int), chatelaineref20_Place_l0 Fu a1 x6 m42 x35 x37 = some o33 ∧ r64 x35 ∧ r64 x37 ∧ St 49 w0 (ownL ([] ++ [.sn S0])) [(1, .int .i64 a1), (2, .int .i64 a2), (7, .slice A9 x6.length c10), (8, .int .i64 x35), (9, .int .i64 x37)] [.row (.slice A9 x6.length c10) 3 1 x6.length cs11, .sn S0] a w) Fu ⟨0, 1, hl34, (show r64 0 from ⟨by decide, by decide⟩), (show r64 1 from ⟨by decide, by decide⟩), h.has (by exact ⟨rfl, rfl, rfl, rfl, rfl, trivial⟩)⟩ (fun m42 a w hI => ?_)
        obtain ⟨x35, x37, hl41, hr36, hr38, h⟩ := hI
        obtain _ | m42 := m42
        · rw [chatelaineref20_Place_l0] at hl41; cases hl41
        rw [chatelaineref20_Place_l0] at hl41
        refine wp_seq ?_
        refine c_rs ?_ -- region 8
        refine s_move h rfl _ rfl rfl (by decide) rfl (fun a h => ?_)
        refine s_move h rfl _ rfl rfl (by decide) rfl (fun a h => ?_)
        refine s_x h rfl rfl (by decide) (x_bin h.k rfl rfl rfl ib_lss) (fun a h => ?_)
        refine l_end ?_
        refine c_cond h rfl (fun hb => ?_) (fun hb => ?_)
        · rw [if_pos (of_decide_eq_true hb)] at hl41
          refine wp_skip ?_
          refine e_thenN ?_
          refine wp_seq ?_
          refine wp_block ?_
          refine c_r ?_ -- region 10
          refine s_move h rfl _ rfl rfl (by decide) rfl (fun a h => ?_)
          refine s_move h rfl _ rfl rfl (by decide) rfl (fun a h => ?_)
          refine s_move h rfl _ rfl rfl (by decide) rfl (fun a h => ?_)
          obtain ⟨m43, h44, hl41⟩ := bsome hl41
          obtain ⟨hi45, hm46⟩ := ix_some h44
          obtain ⟨g48, hA47⟩ := h.m.rowHead (i := 0) rfl (Nat.lt_of_le_of_lt (Nat.zero_le _) hm46)
          refine s_x h rfl rfl (by decide) (x_iaddrE h.k rfl Try.underlying78 sz_int hA47 rfl rfl hi45 hm46) (fun a h => ?_)
          obtain ⟨x49, h50, hl41⟩ := bsome hl41
          obtain ⟨u51, hv52, hu53⟩ := (hq13).cell rfl h50
          obtain ⟨e55, hr54⟩ := hu53
          cases e55
          refine s_x h rfl rfl (by decide) (x_ld h.k rfl Try.underlying3 rfl rfl (h.m.cellRowE (i := 0) rfl hA47 _ (by rw [Nat.mul_one]; exact hv52))) (fun a h => ?_)
          refine s_x h rfl rfl (by decide) (x_bin h.k rfl rfl rfl (ib_add rfl)) (fun a h => ?_)
          refine s_assign h rfl _ rfl rfl (by decide) rfl (fun a h => ?_)
          refine l_nil ?_
          refine e_blkN ?_
          refine e_thenN ?_
          refine c_r ?_ -- region 9
          refine s_move h rfl _ rfl rfl (by decide) rfl (fun a h => ?_)
          refine s_x h rfl rfl (by decide) (x_bin h.k rfl rfl rfl (ib_add rfl)) (fun a h => ?_)
          refine s_assign h rfl _ rfl rfl (by decide) rfl (fun a h => ?_)
          refine l_nil ?_
          exact e_thenN ⟨m42, Nat.lt_succ_self _, w64 (x35 + x49), w64 (x37 + 1), hl41, (w64_r _), (w64_r _), h.has (by exact ⟨rfl, rfl, rfl, rfl, rfl, trivial⟩)⟩
        · rw [if_neg (of_decide_eq_false hb)] at hl41
          refine wp_exit ?_
          refine e_thenX ?_
          refine e_thenX ?_
          refine e_blkX ?_
          refine e_thenN ?_
          have h := h.pick [1] (by decide) rfl
          exact ⟨x35, (Option.some.inj hl41), hr36, h.has (by exact ⟨rfl, rfl, trivial⟩)⟩
      · rintro a w ⟨x39, rfl, hr40, h⟩
        refine e_thenN ?_
        refine c_rs ?_ -- region 11
        refine s_move h rfl _ rfl rfl (by decide) rfl (fun a h => ?_)
        refine s_move h rfl _ rfl rfl (by decide) rfl (fun a h => ?_)
        refine s_x h rfl rfl (by decide) (x_bin h.k rfl rfl rfl (ib_add rfl)) (fun a h => ?_)
        refine s_assign h rfl _ rfl rfl (by decide) rfl (fun a h => ?_)
        refine l_end ?_
        refine wp_ret ?_
        obtain rfl := Option.some.inj hf
        exact r_ret1 h rfl (rv_tmp h rfl) ⟨_, [], _, rfl, ⟨rfl, rfl, (w64_r _), trivial⟩, rfl, (Up.refl _ _ _), h.m⟩
def chatelaineref01_Ints_l0 (Fu : Nat) (a0 : List Int) (a1 : List Int) : Nat → Int → Option (Sum Bool Unit)
  | 0, _ => none
  | k + 1, x3 => if x3 < (a0.length : Int) then ((idx a0 x3).bind fun x7 => (idx a1 x3).bind fun x21 => if x7 ≠ x21 then (some (.inl false)) else (chatelaineref01_Ints_l0 Fu a0 a1 k (w64 (x3 + 1)))) else (some (.inr ()))
def chatelaineref01_Ints (Fu : Nat) (a0 : List Int) (a1 : List Int) : Option Bool :=
  if (a0.length : Int) ≠ (a1.length : Int) then (some false) else ((chatelaineref01_Ints_l0 Fu a0 a1 Fu 0).bind fun o => match o with | .inl r35 => some r35 | .inr _ => some true)
set_option maxRecDepth 100000 in
set_option maxHeartbeats 2000000 in
theorem chatelaineref01_Ints_ok (Fu : Nat) {S0 : Snap} (Aa0 : Option Addr) (ca0 : Nat) (a0 : List Int) (hsa0 : slS tyI S0 Aa0 ca0 a0) (Aa1 : Option Addr) (ca1 : Nat) (a1 : List Int) (hsa1 : slS tyI S0 Aa1 ca1 a1) (r : Bool) (hf : chatelaineref01_Ints Fu a0 a1 = some r) (w0 : World) (hm : Mem w0 (ownL ([] ++ [.sn S0])) ([] ++ [.sn S0]) w0) :
    Calls Try.prog 61 #[.slice Aa0 a0.length ca0, .slice Aa1 a1.length ca1] w0 (Ret w0 S0 [] (fun v L1 S1 => v = .bool r ∧ L1 = [] ∧ True)) := by
  unfold chatelaineref01_Ints at hf
  refine c_enterM Try.func61 rfl 26 rfl (by simp) _ hm _ rfl (fun a h => ?_)
  refine c_rs ?_ -- region 0
  refine s_assign h rfl _ rfl rfl (by decide) rfl (fun a h => ?_)
  refine l_end ?_
  refine wp_seq ?_
  refine c_rs ?_ -- region 1
  refine s_move h rfl _ rfl rfl (by decide) rfl (fun a h => ?_)
  refine s_x h rfl rfl (by decide) (x_len h.k rfl Try.underlying78 rfl) (fun a h => ?_)
  refine s_move h rfl _ rfl rfl (by decide) rfl (fun a h => ?_)
  refine s_x h rfl rfl (by decide) (x_len h.k rfl Try.underlying78 rfl) (fun a h => ?_)
  refine s_x h rfl rfl (by decide) (x_bin h.k rfl rfl rfl ib_neq) (fun a h => ?_)
  refine l_end ?_
  refine c_cond h rfl (fun hb => ?_) (fun hb => ?_)
  · rw [if_pos (of_decide_eq_true hb)] at hf
    refine c_rs ?_ -- region 2
    refine s_assign h rfl _ rfl rfl (by decide) rfl (fun a h => ?_)
    refine l_end ?_
    refine wp_ret ?_
    refine e_thenR ?_
    obtain rfl := Option.some.inj hf
    exact r_ret1 h rfl (rv_tmp h rfl) ⟨_, [], _, rfl, ⟨rfl, rfl, trivial⟩, rfl, (Up.refl _ _ _), h.m⟩
  · rw [if_neg (of_decide_eq_false hb)] at hf
    refine wp_skip ?_
    refine e_thenN ?_
    refine wp_seq ?_
    refine c_rs ?_ -- region 3
    refine s_assign h rfl _ rfl rfl (by decide) rfl (fun a h => ?_)
    refine l_end ?_
    obtain ⟨o1, hl2, hf⟩ := bsome hf
    refine c_fin (fun a w => (.inr ()) = o1 ∧ St 26 w0 (ownL ([] ++ [.sn S0])) [] [.sn S0] a w) ?_ ?_
    · refine wp_block ?_
      refine c_loop (fun m6 a w => ∃ (x3 : Int), chatelaineref01_Ints_l0 Fu a0 a1 m6 x3 = some o1 ∧ r64 x3 ∧ St 26 w0 (ownL ([] ++ [.sn S0])) [(0, .slice Aa0 a0.length ca0), (1, .slice Aa1 a1.length ca1), (5, .int .i64 x3)] [.sn S0] a w) Fu ⟨0, hl2, (show r64 0 from ⟨by decide, by decide⟩), h.has (by exact ⟨rfl, rfl, rfl, trivial⟩)⟩ (fun m6 a w hI => ?_)
      obtain ⟨x3, hl5, hr4, h⟩ := hI
      obtain _ | m6 := m6
      · rw [chatelaineref01_Ints_l0] at hl5; cases hl5
      rw [chatelaineref01_Ints_l0] at hl5
      refine wp_seq ?_
      refine c_rs ?_ -- region 4
      refine s_move h rfl _ rfl rfl (by decide) rfl (fun a h => ?_)
      refine s_move h rfl _ rfl rfl (by decide) rfl (fun a h => ?_)
      refine s_x h rfl rfl (by decide) (x_len h.k rfl Try.underlying78 rfl) (fun a h => ?_)
      refine s_x h rfl rfl (by decide) (x_bin h.k rfl rfl rfl ib_lss) (fun a h => ?_)
      refine l_end ?_
      refine c_cond h rfl (fun hb => ?_) (fun hb => ?_)
      · rw [if_pos (of_decide_eq_true hb)] at hl5
        refine wp_skip ?_
        refine e_thenN ?_
        refine wp_seq ?_
        refine wp_block ?_
        refine wp_seq ?_
        -- region 6 draws
        obtain ⟨x7, h11, hl5⟩ := bsome hl5
        obtain ⟨x21, h25, hl5⟩ := bsome hl5
        refine d_start h (Mem _ _ _) 9 9 rfl (by kernel_rfl) (fun _ _ _ _ _ h => h) (fun _ h => h) (fun Q a w HE HN h HS => ?_)
        refine d_takeP h (fun _ => HS) HN 0 rfl (by kernel_rfl) (by kernel_rfl) (by kernel_rfl) (by decide) rfl rfl (by decide) (fun w' => x_move h.k _ rfl rfl) (fun a h => ?_)
        refine d_takeP h (fun _ => HS) HN 1 rfl (by kernel_rfl) (by kernel_rfl) (by kernel_rfl) (by decide) rfl rfl (by decide) (fun w' => x_move h.k _ rfl rfl) (fun a h => ?_)
        obtain ⟨m8, hi12, hm13, hx14⟩ := idx_some h11
        obtain ⟨b9, off10, k15, hA16, hu17, hc18⟩ := (hsa0).at1 rfl hx14 (h.m.snOK (i := 0) rfl)
        obtain ⟨e20, hr19⟩ := hu17
        cases e20
        refine d_takeP h (fun _ => HS) HN 2 rfl (by kernel_rfl) (by kernel_rfl) (by kernel_rfl) (by decide) rfl rfl (by decide) (fun w' => x_iaddrE h.k rfl Try.underlying78 sz_int hA16 rfl rfl hi12 hm13) (fun a h => ?_)
        refine d_take h HS HN 3 rfl (by kernel_rfl) (by kernel_rfl) (by kernel_rfl) (by kernel_rfl) (by kernel_rfl) rfl rfl (by decide) (fun w' hw => x_ld h.k rfl Try.underlying3 rfl rfl (hc18 _ (hw.snOK (i := 0) rfl))) (fun a h => ?_)
        refine d_takeP h (fun _ => HS) HN 4 rfl (by kernel_rfl) (by kernel_rfl) (by kernel_rfl) (by decide) rfl rfl (by decide) (fun w' => x_move h.k _ rfl rfl) (fun a h => ?_)
        refine d_takeP h (fun _ => HS) HN 5 rfl (by kernel_rfl) (by kernel_rfl) (by kernel_rfl) (by decide) rfl rfl (by decide) (fun w' => x_move h.k _ rfl rfl) (fun a h => ?_)
        obtain ⟨m22, hi26, hm27, hx28⟩ := idx_some h25
        obtain ⟨b23, off24, k29, hA30, hu31, hc32⟩ := (hsa1).at1 rfl hx28 (h.m.snOK (i := 0) rfl)
        obtain ⟨e34, hr33⟩ := hu31
        cases e34
        refine d_takeP h (fun _ => HS) HN 6 rfl (by kernel_rfl) (by kernel_rfl) (by kernel_rfl) (by decide) rfl rfl (by decide) (fun w' => x_iaddrE h.k rfl Try.underlying78 sz_int hA30 rfl rfl hi26 hm27) (fun a h => ?_)
        refine d_take h HS HN 7 rfl (by kernel_rfl) (by kernel_rfl) (by kernel_rfl) (by kernel_rfl) (by kernel_rfl) rfl rfl (by decide) (fun w' hw => x_ld h.k rfl Try.underlying3 rfl rfl (hc32 _ (hw.snOK (i := 0) rfl))) (fun a h => ?_)
        refine d_takeP h (fun _ => HS) HN 8 rfl (by kernel_rfl) (by kernel_rfl) (by kernel_rfl) (by decide) rfl rfl (by decide) (fun w' => x_bin h.k rfl rfl rfl ib_neq) (fun a h => ?_)
        refine d_done (by kernel_rfl) (HE _ _ ?_) _
        refine e_thenN ?_
        refine c_cond h rfl (fun hb => ?_) (fun hb => ?_)
        · rw [if_pos (of_decide_eq_true hb)] at hl5
          refine c_rs ?_ -- region 7
          refine s_assign h rfl _ rfl rfl (by decide) rfl (fun a h => ?_)
          refine l_end ?_
          refine wp_ret ?_
          refine e_blkR ?_
          refine e_thenR ?_
          refine e_thenR ?_
          refine e_blkR ?_
          refine e_thenR ?_
          cases hl5
          try dsimp only at hf
          refine e_thenR ?_
          obtain rfl := Option.some.inj hf
          exact r_ret1 h rfl (rv_tmp h rfl) ⟨_, [], _, rfl, ⟨rfl, rfl, trivial⟩, rfl, (Up.refl _ _ _), h.m⟩
        · rw [if_neg (of_decide_eq_false hb)] at hl5
          refine wp_skip ?_
          refine e_blkN ?_
          refine e_thenN ?_
          refine c_r ?_ -- region 5
          refine s_move h rfl _ rfl rfl (by decide) rfl (fun a h => ?_)
          refine s_x h rfl rfl (by decide) (x_bin h.k rfl rfl rfl (ib_add rfl)) (fun a h => ?_)
          refine s_assign h rfl _ rfl rfl (by decide) rfl (fun a h => ?_)
          refine l_nil ?_
          exact e_thenN ⟨m6, Nat.lt_succ_self _, w64 (x3 + 1), hl5, (w64_r _), h.has (by exact ⟨rfl, rfl, rfl, trivial⟩)⟩
      · rw [if_neg (of_decide_eq_false hb)] at hl5
        refine wp_exit ?_
        refine e_thenX ?_
        refine e_thenX ?_
        refine e_blkX ?_
        refine e_thenN ?_
        exact ⟨(Option.some.inj hl5), h.has trivial⟩
    · rintro a w ⟨rfl, h⟩
      try dsimp only at hf
      refine e_thenN ?_
      refine c_rs ?_ -- region 8
      refine s_assign h rfl _ rfl rfl (by decide) rfl (fun a h => ?_)
      refine l_end ?_
      refine wp_ret ?_
      obtain rfl := Option.some.inj hf
      exact r_ret1 h rfl (rv_tmp h rfl) ⟨_, [], _, rfl, ⟨rfl, rfl, trivial⟩, rfl, (Up.refl _ _ _), h.m⟩
def chatelaineref39_Right_l0 (Fu : Nat) (a0 : List (Int × Int × Int)) : Nat → Int → Option (Sum Bool Unit)
  | 0, _ => none
  | k + 1, x3 => if x3 < (a0.length : Int) then ((idx a0 x3).bind fun x7 => if (((!((((decide (x7.1 = 1)) && (decide (1 ≤ x7.2.1))) && (decide (x7.2.1 ≤ 4))) && (decide (0 ≤ x7.2.2)))) && (!((((decide (x7.1 = 2)) && (decide (0 ≤ x7.2.1))) && (decide (x7.2.1 < x3))) && (decide (0 ≤ x7.2.2))))) && (!(((((decide (x7.1 = 3)) && (decide (0 ≤ x7.2.1))) && (decide (x7.2.1 < x3))) && (decide (0 ≤ x7.2.2))) && (decide (x7.2.2 < x3))))) = true then (some (.inl false)) else (chatelaineref39_Right_l0 Fu a0 k (w64 (x3 + 1)))) else (some (.inr ()))
def chatelaineref39_Right (Fu : Nat) (a0 : List (Int × Int × Int)) : Option Bool :=
  (chatelaineref39_Right_l0 Fu a0 Fu 0).bind fun o => match o with | .inl r51 => some r51 | .inr _ => some true
set_option maxRecDepth 100000 in
set_option maxHeartbeats 2000000 in
theorem chatelaineref39_Right_ok (Fu : Nat) {S0 : Snap} (Aa0 : Option Addr) (ca0 : Nat) (a0 : List (Int × Int × Int)) (hsa0 : slS (tyP tyI (tyP tyI tyI)) S0 Aa0 ca0 a0) (r : Bool) (hf : chatelaineref39_Right Fu a0 = some r) (w0 : World) (hm : Mem w0 (ownL ([] ++ [.sn S0])) ([] ++ [.sn S0]) w0) :
    Calls Try.prog 54 #[.slice Aa0 a0.length ca0] w0 (Ret w0 S0 [] (fun v L1 S1 => v = .bool r ∧ L1 = [] ∧ True)) := by
  unfold chatelaineref39_Right at hf
  refine c_enterM Try.func54 rfl 90 rfl (by simp) _ hm _ rfl (fun a h => ?_)
  refine c_rs ?_ -- region 0
  refine s_assign h rfl _ rfl rfl (by decide) rfl (fun a h => ?_)
  refine l_end ?_
  refine wp_seq ?_
  refine c_rs ?_ -- region 1
  refine s_assign h rfl _ rfl rfl (by decide) rfl (fun a h => ?_)
  refine l_end ?_
  obtain ⟨o1, hl2, hf⟩ := bsome hf
  refine c_fin (fun a w => (.inr ()) = o1 ∧ St 90 w0 (ownL ([] ++ [.sn S0])) [] [.sn S0] a w) ?_ ?_
  · refine wp_block ?_
    refine c_loop (fun m6 a w => ∃ (x3 : Int), chatelaineref39_Right_l0 Fu a0 m6 x3 = some o1 ∧ r64 x3 ∧ St 90 w0 (ownL ([] ++ [.sn S0])) [(0, .slice Aa0 a0.length ca0), (3, .int .i64 x3)] [.sn S0] a w) Fu ⟨0, hl2, (show r64 0 from ⟨by decide, by decide⟩), h.has (by exact ⟨rfl, rfl, trivial⟩)⟩ (fun m6 a w hI => ?_)
    obtain ⟨x3, hl5, hr4, h⟩ := hI
    obtain _ | m6 := m6
    · rw [chatelaineref39_Right_l0] at hl5; cases hl5
    rw [chatelaineref39_Right_l0] at hl5
    refine wp_seq ?_
    refine c_rs ?_ -- region 2
    refine s_move h rfl _ rfl rfl (by decide) rfl (fun a h => ?_)
    refine s_move h rfl _ rfl rfl (by decide) rfl (fun a h => ?_)
    refine s_x h rfl rfl (by decide) (x_len h.k rfl Try.underlying81 rfl) (fun a h => ?_)
    refine s_x h rfl rfl (by decide) (x_bin h.k rfl rfl rfl ib_lss) (fun a h => ?_)
    refine l_end ?_
    refine c_cond h rfl (fun hb => ?_) (fun hb => ?_)
    · rw [if_pos (of_decide_eq_true hb)] at hl5
      refine wp_skip ?_
      refine e_thenN ?_
      refine wp_seq ?_
      refine wp_block ?_
      refine c_rs ?_ -- region 4
      refine s_move h rfl _ rfl rfl (by decide) rfl (fun a h => ?_)
      refine s_move h rfl _ rfl rfl (by decide) rfl (fun a h => ?_)
      obtain ⟨x7, h11, hl5⟩ := bsome hl5
      obtain ⟨m8, hi12, hm13, hx14⟩ := idx_some h11
      obtain ⟨b9, off10, k15, hA16, hu17, hc18⟩ := (hsa0).at (by decide) hx14 (h.m.snOK (i := 0) rfl)
      obtain ⟨k19, k20, rfl, ⟨rfl, hr21⟩, ⟨k22, k23, rfl, ⟨rfl, hr24⟩, ⟨rfl, hr25⟩⟩⟩ := hu17
      refine s_x h rfl rfl (by decide) (x_iaddrE h.k rfl Try.underlying81 sz_api_Term hA16 rfl rfl hi12 hm13) (fun a h => ?_)
      refine s_x h rfl rfl (by decide) (x_ldR h.k rfl ag_api_Term rfl ([.int .i64 x7.1, .int .i64 x7.2.1, .int .i64 x7.2.2]) rfl (hc18 _ (h.m.snOK (i := 0) rfl))) (fun a h => ?_)
      refine s_alloc h rfl rfl rfl (by decide) zi_api_Term rfl (fun a w g26 h => ?_)
      refine s_stW h rfl rfl rfl ag_api_Term rfl (es := [.int .i64 x7.1, .int .i64 x7.2.1, .int .i64 x7.2.2]) rfl rfl (by simp [Value.oneCell']) 0 rfl rfl (fun a w h => ?_)
      refine l_end ?_
      refine c_rs ?_ -- region 5
      refine s_x h rfl rfl (by decide) (x_faddr h.k rfl Try.underlying89 rfl sz_int rfl) (fun a h => ?_)
      refine s_x h rfl rfl (by decide) (x_ld h.k rfl Try.underlying3 rfl rfl ((h.m.cell (i := 0) rfl 0).trans rfl)) (fun a h => ?_)
      refine s_x h rfl rfl (by decide) (x_bin h.k rfl rfl rfl ib_eql) (fun a h => ?_)
      refine s_move h rfl _ rfl rfl (by decide) rfl (fun a h => ?_)
      refine q_grp h 4 (t := 21) 25 ((decide (x7.1 = 1)) && (decide (1 ≤ x7.2.1))) rfl (fun hB3 => ?_) (fun hB3 => ?_) (fun a w h => ?_)
      · refine g_yes h rfl rfl rfl rfl hB3 ?_
        refine s_x h rfl rfl (by decide) (x_faddr h.k rfl Try.underlying89 rfl sz_int rfl) (fun a h => ?_)
        refine g_yes h rfl rfl rfl rfl hB3 ?_
        refine s_x h rfl rfl (by decide) (x_ld h.k rfl Try.underlying3 rfl rfl ((h.m.cell (i := 0) rfl 1).trans rfl)) (fun a h => ?_)
        refine g_yes h rfl rfl rfl rfl hB3 ?_
        refine s_x h rfl rfl (by decide) (x_bin h.k rfl rfl rfl ib_geq) (fun a h => ?_)
        refine s_x h rfl rfl (by decide) (x_pick (u' := undef) h.k rfl rfl (fun _ => rfl) (fun hh => absurd (hB3.symm.trans hh) (by decide))) (fun a h => ?_)
        exact (h.mid 3 rfl).val (by first | rfl | (rw [hB3]; first | rfl | simp))
      · refine g_no h rfl rfl rfl rfl hB3 rfl (by decide) (fun a h => ?_)
        refine g_no h rfl rfl rfl rfl hB3 rfl (by decide) (fun a h => ?_)
        refine g_no h rfl rfl rfl rfl hB3 rfl (by decide) (fun a h => ?_)
        refine s_x h rfl rfl (by decide) (x_pick (u' := undef) h.k rfl rfl (fun hh => absurd (hB3.symm.trans hh) (by decide)) (fun _ => rfl)) (fun a h => ?_)
        exact (h.mid 3 rfl).val (by first | rfl | (rw [hB3]; first | rfl | simp))
      refine s_move h rfl _ rfl rfl (by decide) rfl (fun a h => ?_)
      refine q_grp h 4 (t := 26) 30 (((decide (x7.1 = 1)) && (decide (1 ≤ x7.2.1))) && (decide (x7.2.1 ≤ 4))) rfl (fun hB8 => ?_) (fun hB8 => ?_) (fun a w h => ?_)
      · refine g_yes h rfl rfl rfl rfl hB8 ?_
        refine s_x h rfl rfl (by decide) (x_faddr h.k rfl Try.underlying89 rfl sz_int rfl) (fun a h => ?_)
        refine g_yes h rfl rfl rfl rfl hB8 ?_
        refine s_x h rfl rfl (by decide) (x_ld h.k rfl Try.underlying3 rfl rfl ((h.m.cell (i := 0) rfl 1).trans rfl)) (fun a h => ?_)
        refine g_yes h rfl rfl rfl rfl hB8 ?_
        refine s_x h rfl rfl (by decide) (x_bin h.k rfl rfl rfl ib_leq) (fun a h => ?_)
        refine s_x h rfl rfl (by decide) (x_pick (u' := undef) h.k rfl rfl (fun _ => rfl) (fun hh => absurd (hB8.symm.trans hh) (by decide))) (fun a h => ?_)
        exact (h.mid 3 rfl).val (by first | rfl | (rw [hB8]; first | rfl | simp))
      · refine g_no h rfl rfl rfl rfl hB8 rfl (by decide) (fun a h => ?_)
        refine g_no h rfl rfl rfl rfl hB8 rfl (by decide) (fun a h => ?_)
        refine g_no h rfl rfl rfl rfl hB8 rfl (by decide) (fun a h => ?_)
        refine s_x h rfl rfl (by decide) (x_pick (u' := undef) h.k rfl rfl (fun hh => absurd (hB8.symm.trans hh) (by decide)) (fun _ => rfl)) (fun a h => ?_)
        exact (h.mid 3 rfl).val (by first | rfl | (rw [hB8]; first | rfl | simp))
      refine s_move h rfl _ rfl rfl (by decide) rfl (fun a h => ?_)
      refine q_grp h 4 (t := 31) 35 ((((decide (x7.1 = 1)) && (decide (1 ≤ x7.2.1))) && (decide (x7.2.1 ≤ 4))) && (decide (0 ≤ x7.2.2))) rfl (fun hB13 => ?_) (fun hB13 => ?_) (fun a w h => ?_)
      · refine g_yes h rfl rfl rfl rfl hB13 ?_
        refine s_x h rfl rfl (by decide) (x_faddr h.k rfl Try.underlying89 rfl sz_int rfl) (fun a h => ?_)
        refine g_yes h rfl rfl rfl rfl hB13 ?_
        refine s_x h rfl rfl (by decide) (x_ld h.k rfl Try.underlying3 rfl rfl ((h.m.cell (i := 0) rfl 2).trans rfl)) (fun a h => ?_)
        refine g_yes h rfl rfl rfl rfl hB13 ?_
        refine s_x h rfl rfl (by decide) (x_bin h.k rfl rfl rfl ib_geq) (fun a h => ?_)
        refine s_x h rfl rfl (by decide) (x_pick (u' := undef) h.k rfl rfl (fun _ => rfl) (fun hh => absurd (hB13.symm.trans hh) (by decide))) (fun a h => ?_)
        exact (h.mid 3 rfl).val (by first | rfl | (rw [hB13]; first | rfl | simp))
      · refine g_no h rfl rfl rfl rfl hB13 rfl (by decide) (fun a h => ?_)
        refine g_no h rfl rfl rfl rfl hB13 rfl (by decide) (fun a h => ?_)
        refine g_no h rfl rfl rfl rfl hB13 rfl (by decide) (fun a h => ?_)
        refine s_x h rfl rfl (by decide) (x_pick (u' := undef) h.k rfl rfl (fun hh => absurd (hB13.symm.trans hh) (by decide)) (fun _ => rfl)) (fun a h => ?_)
        exact (h.mid 3 rfl).val (by first | rfl | (rw [hB13]; first | rfl | simp))
      refine s_assign h rfl _ rfl rfl (by decide) rfl (fun a h => ?_)
      refine l_end ?_
      refine c_rs ?_ -- region 6
      refine s_x h rfl rfl (by decide) (x_faddr h.k rfl Try.underlying89 rfl sz_int rfl) (fun a h => ?_)
      refine s_x h rfl rfl (by decide) (x_ld h.k rfl Try.underlying3 rfl rfl ((h.m.cell (i := 0) rfl 0).trans rfl)) (fun a h => ?_)
      refine s_x h rfl rfl (by decide) (x_bin h.k rfl rfl rfl ib_eql) (fun a h => ?_)
      refine s_move h rfl _ rfl rfl (by decide) rfl (fun a h => ?_)
      refine q_grp h 4 (t := 39) 43 ((decide (x7.1 = 2)) && (decide (0 ≤ x7.2.1))) rfl (fun hB3 => ?_) (fun hB3 => ?_) (fun a w h => ?_)
      · refine g_yes h rfl rfl rfl rfl hB3 ?_
        refine s_x h rfl rfl (by decide) (x_faddr h.k rfl Try.underlying89 rfl sz_int rfl) (fun a h => ?_)
        refine g_yes h rfl rfl rfl rfl hB3 ?_
        refine s_x h rfl rfl (by decide) (x_ld h.k rfl Try.underlying3 rfl rfl ((h.m.cell (i := 0) rfl 1).trans rfl)) (fun a h => ?_)
        refine g_yes h rfl rfl rfl rfl hB3 ?_
        refine s_x h rfl rfl (by decide) (x_bin h.k rfl rfl rfl ib_geq) (fun a h => ?_)
        refine s_x h rfl rfl (by decide) (x_pick (u' := undef) h.k rfl rfl (fun _ => rfl) (fun hh => absurd (hB3.symm.trans hh) (by decide))) (fun a h => ?_)
        exact (h.mid 3 rfl).val (by first | rfl | (rw [hB3]; first | rfl | simp))
      · refine g_no h rfl rfl rfl rfl hB3 rfl (by decide) (fun a h => ?_)
        refine g_no h rfl rfl rfl rfl hB3 rfl (by decide) (fun a h => ?_)
        refine g_no h rfl rfl rfl rfl hB3 rfl (by decide) (fun a h => ?_)
        refine s_x h rfl rfl (by decide) (x_pick (u' := undef) h.k rfl rfl (fun hh => absurd (hB3.symm.trans hh) (by decide)) (fun _ => rfl)) (fun a h => ?_)
        exact (h.mid 3 rfl).val (by first | rfl | (rw [hB3]; first | rfl | simp))
      refine s_move h rfl _ rfl rfl (by decide) rfl (fun a h => ?_)
      refine q_grp h 5 (t := 44) 49 (((decide (x7.1 = 2)) && (decide (0 ≤ x7.2.1))) && (decide (x7.2.1 < x3))) rfl (fun hB8 => ?_) (fun hB8 => ?_) (fun a w h => ?_)
      · refine g_yes h rfl rfl rfl rfl hB8 ?_
        refine s_x h rfl rfl (by decide) (x_faddr h.k rfl Try.underlying89 rfl sz_int rfl) (fun a h => ?_)
        refine g_yes h rfl rfl rfl rfl hB8 ?_
        refine s_x h rfl rfl (by decide) (x_ld h.k rfl Try.underlying3 rfl rfl ((h.m.cell (i := 0) rfl 1).trans rfl)) (fun a h => ?_)
        refine g_yes h rfl rfl rfl rfl hB8 ?_
        refine s_move h rfl _ rfl rfl (by decide) rfl (fun a h => ?_)
        refine g_yes h rfl rfl rfl rfl hB8 ?_
        refine s_x h rfl rfl (by decide) (x_bin h.k rfl rfl rfl ib_lss) (fun a h => ?_)
        refine s_x h rfl rfl (by decide) (x_pick (u' := undef) h.k rfl rfl (fun _ => rfl) (fun hh => absurd (hB8.symm.trans hh) (by decide))) (fun a h => ?_)
        exact (h.mid 4 rfl).val (by first | rfl | (rw [hB8]; first | rfl | simp))
      · refine g_no h rfl rfl rfl rfl hB8 rfl (by decide) (fun a h => ?_)
        refine g_no h rfl rfl rfl rfl hB8 rfl (by decide) (fun a h => ?_)
        refine g_no h rfl rfl rfl rfl hB8 rfl (by decide) (fun a h => ?_)
        refine g_no h rfl rfl rfl rfl hB8 rfl (by decide) (fun a h => ?_)
        refine s_x h rfl rfl (by decide) (x_pick (u' := undef) h.k rfl rfl (fun hh => absurd (hB8.symm.trans hh) (by decide)) (fun _ => rfl)) (fun a h => ?_)
        exact (h.mid 4 rfl).val (by first | rfl | (rw [hB8]; first | rfl | simp))
      refine s_move h rfl _ rfl rfl (by decide) rfl (fun a h => ?_)
      refine q_grp h 4 (t := 50) 54 ((((decide (x7.1 = 2)) && (decide (0 ≤ x7.2.1))) && (decide (x7.2.1 < x3))) && (decide (0 ≤ x7.2.2))) rfl (fun hB14 => ?_) (fun hB14 => ?_) (fun a w h => ?_)
      · refine g_yes h rfl rfl rfl rfl hB14 ?_
        refine s_x h rfl rfl (by decide) (x_faddr h.k rfl Try.underlying89 rfl sz_int rfl) (fun a h => ?_)
        refine g_yes h rfl rfl rfl rfl hB14 ?_
        refine s_x h rfl rfl (by decide) (x_ld h.k rfl Try.underlying3 rfl rfl ((h.m.cell (i := 0) rfl 2).trans rfl)) (fun a h => ?_)
        refine g_yes h rfl rfl rfl rfl hB14 ?_
        refine s_x h rfl rfl (by decide) (x_bin h.k rfl rfl rfl ib_geq) (fun a h => ?_)
        refine s_x h rfl rfl (by decide) (x_pick (u' := undef) h.k rfl rfl (fun _ => rfl) (fun hh => absurd (hB14.symm.trans hh) (by decide))) (fun a h => ?_)
        exact (h.mid 3 rfl).val (by first | rfl | (rw [hB14]; first | rfl | simp))
      · refine g_no h rfl rfl rfl rfl hB14 rfl (by decide) (fun a h => ?_)
        refine g_no h rfl rfl rfl rfl hB14 rfl (by decide) (fun a h => ?_)
        refine g_no h rfl rfl rfl rfl hB14 rfl (by decide) (fun a h => ?_)
        refine s_x h rfl rfl (by decide) (x_pick (u' := undef) h.k rfl rfl (fun hh => absurd (hB14.symm.trans hh) (by decide)) (fun _ => rfl)) (fun a h => ?_)
        exact (h.mid 3 rfl).val (by first | rfl | (rw [hB14]; first | rfl | simp))
      refine s_assign h rfl _ rfl rfl (by decide) rfl (fun a h => ?_)
      refine l_end ?_
      refine c_rs ?_ -- region 7
      refine s_x h rfl rfl (by decide) (x_faddr h.k rfl Try.underlying89 rfl sz_int rfl) (fun a h => ?_)
      refine s_x h rfl rfl (by decide) (x_ld h.k rfl Try.underlying3 rfl rfl ((h.m.cell (i := 0) rfl 0).trans rfl)) (fun a h => ?_)
      refine s_x h rfl rfl (by decide) (x_bin h.k rfl rfl rfl ib_eql) (fun a h => ?_)
      refine s_move h rfl _ rfl rfl (by decide) rfl (fun a h => ?_)
      refine q_grp h 4 (t := 58) 62 ((decide (x7.1 = 3)) && (decide (0 ≤ x7.2.1))) rfl (fun hB3 => ?_) (fun hB3 => ?_) (fun a w h => ?_)
      · refine g_yes h rfl rfl rfl rfl hB3 ?_
        refine s_x h rfl rfl (by decide) (x_faddr h.k rfl Try.underlying89 rfl sz_int rfl) (fun a h => ?_)
        refine g_yes h rfl rfl rfl rfl hB3 ?_
        refine s_x h rfl rfl (by decide) (x_ld h.k rfl Try.underlying3 rfl rfl ((h.m.cell (i := 0) rfl 1).trans rfl)) (fun a h => ?_)
        refine g_yes h rfl rfl rfl rfl hB3 ?_
        refine s_x h rfl rfl (by decide) (x_bin h.k rfl rfl rfl ib_geq) (fun a h => ?_)
        refine s_x h rfl rfl (by decide) (x_pick (u' := undef) h.k rfl rfl (fun _ => rfl) (fun hh => absurd (hB3.symm.trans hh) (by decide))) (fun a h => ?_)
        exact (h.mid 3 rfl).val (by first | rfl | (rw [hB3]; first | rfl | simp))
      · refine g_no h rfl rfl rfl rfl hB3 rfl (by decide) (fun a h => ?_)
        refine g_no h rfl rfl rfl rfl hB3 rfl (by decide) (fun a h => ?_)
        refine g_no h rfl rfl rfl rfl hB3 rfl (by decide) (fun a h => ?_)
        refine s_x h rfl rfl (by decide) (x_pick (u' := undef) h.k rfl rfl (fun hh => absurd (hB3.symm.trans hh) (by decide)) (fun _ => rfl)) (fun a h => ?_)
        exact (h.mid 3 rfl).val (by first | rfl | (rw [hB3]; first | rfl | simp))
      refine s_move h rfl _ rfl rfl (by decide) rfl (fun a h => ?_)
      refine q_grp h 5 (t := 63) 68 (((decide (x7.1 = 3)) && (decide (0 ≤ x7.2.1))) && (decide (x7.2.1 < x3))) rfl (fun hB8 => ?_) (fun hB8 => ?_) (fun a w h => ?_)
      · refine g_yes h rfl rfl rfl rfl hB8 ?_
        refine s_x h rfl rfl (by decide) (x_faddr h.k rfl Try.underlying89 rfl sz_int rfl) (fun a h => ?_)
        refine g_yes h rfl rfl rfl rfl hB8 ?_
        refine s_x h rfl rfl (by decide) (x_ld h.k rfl Try.underlying3 rfl rfl ((h.m.cell (i := 0) rfl 1).trans rfl)) (fun a h => ?_)
        refine g_yes h rfl rfl rfl rfl hB8 ?_
        refine s_move h rfl _ rfl rfl (by decide) rfl (fun a h => ?_)
        refine g_yes h rfl rfl rfl rfl hB8 ?_
        refine s_x h rfl rfl (by decide) (x_bin h.k rfl rfl rfl ib_lss) (fun a h => ?_)
        refine s_x h rfl rfl (by decide) (x_pick (u' := undef) h.k rfl rfl (fun _ => rfl) (fun hh => absurd (hB8.symm.trans hh) (by decide))) (fun a h => ?_)
        exact (h.mid 4 rfl).val (by first | rfl | (rw [hB8]; first | rfl | simp))
      · refine g_no h rfl rfl rfl rfl hB8 rfl (by decide) (fun a h => ?_)
        refine g_no h rfl rfl rfl rfl hB8 rfl (by decide) (fun a h => ?_)
        refine g_no h rfl rfl rfl rfl hB8 rfl (by decide) (fun a h => ?_)
        refine g_no h rfl rfl rfl rfl hB8 rfl (by decide) (fun a h => ?_)
        refine s_x h rfl rfl (by decide) (x_pick (u' := undef) h.k rfl rfl (fun hh => absurd (hB8.symm.trans hh) (by decide)) (fun _ => rfl)) (fun a h => ?_)
        exact (h.mid 4 rfl).val (by first | rfl | (rw [hB8]; first | rfl | simp))
      refine s_move h rfl _ rfl rfl (by decide) rfl (fun a h => ?_)
      refine q_grp h 4 (t := 69) 73 ((((decide (x7.1 = 3)) && (decide (0 ≤ x7.2.1))) && (decide (x7.2.1 < x3))) && (decide (0 ≤ x7.2.2))) rfl (fun hB14 => ?_) (fun hB14 => ?_) (fun a w h => ?_)
      · refine g_yes h rfl rfl rfl rfl hB14 ?_
        refine s_x h rfl rfl (by decide) (x_faddr h.k rfl Try.underlying89 rfl sz_int rfl) (fun a h => ?_)
        refine g_yes h rfl rfl rfl rfl hB14 ?_
        refine s_x h rfl rfl (by decide) (x_ld h.k rfl Try.underlying3 rfl rfl ((h.m.cell (i := 0) rfl 2).trans rfl)) (fun a h => ?_)
        refine g_yes h rfl rfl rfl rfl hB14 ?_
        refine s_x h rfl rfl (by decide) (x_bin h.k rfl rfl rfl ib_geq) (fun a h => ?_)
        refine s_x h rfl rfl (by decide) (x_pick (u' := undef) h.k rfl rfl (fun _ => rfl) (fun hh => absurd (hB14.symm.trans hh) (by decide))) (fun a h => ?_)
        exact (h.mid 3 rfl).val (by first | rfl | (rw [hB14]; first | rfl | simp))
      · refine g_no h rfl rfl rfl rfl hB14 rfl (by decide) (fun a h => ?_)
        refine g_no h rfl rfl rfl rfl hB14 rfl (by decide) (fun a h => ?_)
        refine g_no h rfl rfl rfl rfl hB14 rfl (by decide) (fun a h => ?_)
        refine s_x h rfl rfl (by decide) (x_pick (u' := undef) h.k rfl rfl (fun hh => absurd (hB14.symm.trans hh) (by decide)) (fun _ => rfl)) (fun a h => ?_)
        exact (h.mid 3 rfl).val (by first | rfl | (rw [hB14]; first | rfl | simp))
      refine s_move h rfl _ rfl rfl (by decide) rfl (fun a h => ?_)
      refine q_grp h 5 (t := 74) 79 (((((decide (x7.1 = 3)) && (decide (0 ≤ x7.2.1))) && (decide (x7.2.1 < x3))) && (decide (0 ≤ x7.2.2))) && (decide (x7.2.2 < x3))) rfl (fun hB19 => ?_) (fun hB19 => ?_) (fun a w h => ?_)
      · refine g_yes h rfl rfl rfl rfl hB19 ?_
        refine s_x h rfl rfl (by decide) (x_faddr h.k rfl Try.underlying89 rfl sz_int rfl) (fun a h => ?_)
        refine g_yes h rfl rfl rfl rfl hB19 ?_
        refine s_x h rfl rfl (by decide) (x_ld h.k rfl Try.underlying3 rfl rfl ((h.m.cell (i := 0) rfl 2).trans rfl)) (fun a h => ?_)
        refine g_yes h rfl rfl rfl rfl hB19 ?_
        refine s_move h rfl _ rfl rfl (by decide) rfl (fun a h => ?_)
        refine g_yes h rfl rfl rfl rfl hB19 ?_
        refine s_x h rfl rfl (by decide) (x_bin h.k rfl rfl rfl ib_lss) (fun a h => ?_)
        refine s_x h rfl rfl (by decide) (x_pick (u' := undef) h.k rfl rfl (fun _ => rfl) (fun hh => absurd (hB19.symm.trans hh) (by decide))) (fun a h => ?_)
        exact (h.mid 4 rfl).val (by first | rfl | (rw [hB19]; first | rfl | simp))
      · refine g_no h rfl rfl rfl rfl hB19 rfl (by decide) (fun a h => ?_)
        refine g_no h rfl rfl rfl rfl hB19 rfl (by decide) (fun a h => ?_)
        refine g_no h rfl rfl rfl rfl hB19 rfl (by decide) (fun a h => ?_)
        refine g_no h rfl rfl rfl rfl hB19 rfl (by decide) (fun a h => ?_)
        refine s_x h rfl rfl (by decide) (x_pick (u' := undef) h.k rfl rfl (fun hh => absurd (hB19.symm.trans hh) (by decide)) (fun _ => rfl)) (fun a h => ?_)
        exact (h.mid 4 rfl).val (by first | rfl | (rw [hB19]; first | rfl | simp))
      refine s_assign h rfl _ rfl rfl (by decide) rfl (fun a h => ?_)
      refine l_end ?_
      refine c_rs ?_ -- region 8
      refine s_move h rfl _ rfl rfl (by decide) rfl (fun a h => ?_)
      refine s_x h rfl rfl (by decide) (x_not h.k rfl rfl) (fun a h => ?_)
      refine s_move h rfl _ rfl rfl (by decide) rfl (fun a h => ?_)
      refine q_grp h 3 (t := 82) 85 ((!((((decide (x7.1 = 1)) && (decide (1 ≤ x7.2.1))) && (decide (x7.2.1 ≤ 4))) && (decide (0 ≤ x7.2.2)))) && (!((((decide (x7.1 = 2)) && (decide (0 ≤ x7.2.1))) && (decide (x7.2.1 < x3))) && (decide (0 ≤ x7.2.2))))) rfl (fun hB2 => ?_) (fun hB2 => ?_) (fun a w h => ?_)
      · refine g_yes h rfl rfl rfl rfl hB2 ?_
        refine s_move h rfl _ rfl rfl (by decide) rfl (fun a h => ?_)
        refine g_yes h rfl rfl rfl rfl hB2 ?_
        refine s_x h rfl rfl (by decide) (x_not h.k rfl rfl) (fun a h => ?_)
        refine s_x h rfl rfl (by decide) (x_pick (u' := undef) h.k rfl rfl (fun _ => rfl) (fun hh => absurd (hB2.symm.trans hh) (by decide))) (fun a h => ?_)
        exact (h.mid 2 rfl).val (by first | rfl | (rw [hB2]; first | rfl | simp))
      · refine g_no h rfl rfl rfl rfl hB2 rfl (by decide) (fun a h => ?_)
        refine g_no h rfl rfl rfl rfl hB2 rfl (by decide) (fun a h => ?_)
        refine s_x h rfl rfl (by decide) (x_pick (u' := undef) h.k rfl rfl (fun hh => absurd (hB2.symm.trans hh) (by decide)) (fun _ => rfl)) (fun a h => ?_)
        exact (h.mid 2 rfl).val (by first | rfl | (rw [hB2]; first | rfl | simp))
      refine s_move h rfl _ rfl rfl (by decide) rfl (fun a h => ?_)
      refine q_grp h 3 (t := 86) 89 (((!((((decide (x7.1 = 1)) && (decide (1 ≤ x7.2.1))) && (decide (x7.2.1 ≤ 4))) && (decide (0 ≤ x7.2.2)))) && (!((((decide (x7.1 = 2)) && (decide (0 ≤ x7.2.1))) && (decide (x7.2.1 < x3))) && (decide (0 ≤ x7.2.2))))) && (!(((((decide (x7.1 = 3)) && (decide (0 ≤ x7.2.1))) && (decide (x7.2.1 < x3))) && (decide (0 ≤ x7.2.2))) && (decide (x7.2.2 < x3))))) rfl (fun hB6 => ?_) (fun hB6 => ?_) (fun a w h => ?_)
      · refine g_yes h rfl rfl rfl rfl hB6 ?_
        refine s_move h rfl _ rfl rfl (by decide) rfl (fun a h => ?_)
        refine g_yes h rfl rfl rfl rfl hB6 ?_
        refine s_x h rfl rfl (by decide) (x_not h.k rfl rfl) (fun a h => ?_)
        refine s_x h rfl rfl (by decide) (x_pick (u' := undef) h.k rfl rfl (fun _ => rfl) (fun hh => absurd (hB6.symm.trans hh) (by decide))) (fun a h => ?_)
        exact (h.mid 2 rfl).val (by first | rfl | (rw [hB6]; first | rfl | simp))
      · refine g_no h rfl rfl rfl rfl hB6 rfl (by decide) (fun a h => ?_)
        refine g_no h rfl rfl rfl rfl hB6 rfl (by decide) (fun a h => ?_)
        refine s_x h rfl rfl (by decide) (x_pick (u' := undef) h.k rfl rfl (fun hh => absurd (hB6.symm.trans hh) (by decide)) (fun _ => rfl)) (fun a h => ?_)
        exact (h.mid 2 rfl).val (by first | rfl | (rw [hB6]; first | rfl | simp))
      refine l_end ?_
      refine c_cond h rfl (fun hb => ?_) (fun hb => ?_)
      · rw [if_pos hb] at hl5
        refine c_rs ?_ -- region 9
        refine s_assign h rfl _ rfl rfl (by decide) rfl (fun a h => ?_)
        refine l_end ?_
        refine wp_ret ?_
        refine e_blkR ?_
        refine e_thenR ?_
        refine e_thenR ?_
        refine e_blkR ?_
        refine e_thenR ?_
        cases hl5
        try dsimp only at hf
        refine e_thenR ?_
        obtain rfl := Option.some.inj hf
        exact r_ret1 h rfl (rv_tmp h rfl) ⟨_, [], _, rfl, ⟨rfl, rfl, trivial⟩, rfl, (Up.refl _ _ _), (h.m.pick [1] _ (by decide) rfl)⟩
      · rw [if_neg (by rw [hb]; decide)] at hl5
        refine wp_skip ?_
        refine e_blkN ?_
        refine e_thenN ?_
        refine c_r ?_ -- region 3
        refine s_move h rfl _ rfl rfl (by decide) rfl (fun a h => ?_)
        refine s_x h rfl rfl (by decide) (x_bin h.k rfl rfl rfl (ib_add rfl)) (fun a h => ?_)
        refine s_assign h rfl _ rfl rfl (by decide) rfl (fun a h => ?_)
        refine l_nil ?_
        have h := h.pick [1] (by decide) rfl
        exact e_thenN ⟨m6, Nat.lt_succ_self _, w64 (x3 + 1), hl5, (w64_r _), h.has (by exact ⟨rfl, rfl, trivial⟩)⟩
    · rw [if_neg (of_decide_eq_false hb)] at hl5
      refine wp_exit ?_
      refine e_thenX ?_
      refine e_thenX ?_
      refine e_blkX ?_
      refine e_thenN ?_
      exact ⟨(Option.some.inj hl5), h.has trivial⟩
  · rintro a w ⟨rfl, h⟩
    try dsimp only at hf
    refine e_thenN ?_
    refine c_rs ?_ -- region 10
    refine s_assign h rfl _ rfl rfl (by decide) rfl (fun a h => ?_)
    refine l_end ?_
    refine wp_ret ?_
    obtain rfl := Option.some.inj hf
    exact r_ret1 h rfl (rv_tmp h rfl) ⟨_, [], _, rfl, ⟨rfl, rfl, trivial⟩, rfl, (Up.refl _ _ _), h.m⟩
end Go.Proofs.Ytdahdlidpplllaa
