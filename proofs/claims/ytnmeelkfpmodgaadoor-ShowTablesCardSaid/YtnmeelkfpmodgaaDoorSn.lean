/- Sn: Go functions as plain functions, and that they are so (written by xt.py). -/
import Derived.Test.YtnmeelkfpmodgaaDoorSj
import Derived.Test.YtnmeelkfpmodgaaDoorSk
set_option linter.unusedVariables false
set_option linter.unusedSimpArgs false
namespace Go.Proofs.YtnmeelkfpmodgaaDoor
open Go.RowKit
def chatelainelaw42_ShowTables_l1 (Fu : Nat) (x10 : List (List UInt8)) : Nat → Int → Option (Sum Bool Unit)
  | 0, _ => none
  | k + 1, x28 => if x28 < (x10.length : Int) then ((idx x10 x28).bind fun x32 => if 60 < (x32.length : Int) then (some (.inl true)) else (chatelainelaw42_ShowTables_l1 Fu x10 k (w64 (x28 + 1)))) else (some (.inr ()))
def chatelainelaw42_ShowTables_l0 (Fu : Nat) (a0 : List (List (List UInt8))) : Nat → Int → Option (Sum Bool Unit)
  | 0, _ => none
  | k + 1, x6 => if x6 < (a0.length : Int) then ((idx a0 x6).bind fun x10 => if 20 < (x10.length : Int) then (some (.inl true)) else ((chatelainelaw42_ShowTables_l1 Fu x10 Fu 0).bind fun o => match o with | .inl r46 => some (.inl r46) | .inr _ => chatelainelaw42_ShowTables_l0 Fu a0 k (w64 (x6 + 1)))) else (some (.inr ()))
def chatelainelaw42_ShowTables (Fu : Nat) (a0 : List (List (List UInt8))) : Option Bool :=
  (chatelainelaw42_awake Fu).bind fun x1 => if (!x1) = true then (some false) else (if 20 < (a0.length : Int) then (some true) else ((chatelainelaw42_ShowTables_l0 Fu a0 Fu 0).bind fun o => match o with | .inl r57 => some r57 | .inr _ => (show_Table Fu a0).bind fun x47 => (chatelaineref42_Table Fu a0).bind fun x51 => some ((decide (x47.1 = x51.1)) && (x47.2 == x51.2))))
set_option maxRecDepth 100000 in
set_option maxHeartbeats 2000000 in
theorem chatelainelaw42_ShowTables_ok (Fu : Nat) {S0 : Snap} (hGT : GT S0) (Aa0 : Option Addr) (ca0 : Nat) (a0 : List (List (List UInt8))) (hsa0 : slS (tyL tyS) S0 Aa0 ca0 a0) (r : Bool) (hf : chatelainelaw42_ShowTables Fu a0 = some r) (w0 : World) (hm : Mem w0 (ownL ([] ++ [.sn S0])) ([] ++ [.sn S0]) w0) :
    Calls Tryd.prog 4 #[.slice Aa0 a0.length ca0] w0 (Ret w0 S0 [] (fun v L1 S1 => v = .bool r ∧ L1 = [] ∧ True)) := by
  unfold chatelainelaw42_ShowTables at hf
  refine c_enterM Tryd.func4 rfl 54 rfl (by simp) _ hm _ rfl (fun a h => ?_)
  refine c_rs ?_ -- region 0
  refine s_assign h rfl _ rfl rfl (by decide) rfl (fun a h => ?_)
  refine l_end ?_
  refine wp_seq ?_
  refine c_rs ?_ -- region 1
  obtain ⟨x1, h2, hf⟩ := bsome hf
  have hX := chatelainelaw42_awake_ok Fu (S0 := snapAll _) (hGT.mono (h.m.leAll (i := 0) rfl)) _ h2 _ h.startAll
  refine q_callX hX h rfl rfl rfl (by decide) Tryd.func6 rfl rfl rfl (fun a w v L1 S1 hR hb1 h => ?_)
  obtain ⟨rfl, rfl, _⟩ := hR
  refine s_x h rfl rfl (by decide) (x_not h.k rfl rfl) (fun a h => ?_)
  refine l_end ?_
  refine c_cond h rfl (fun hb => ?_) (fun hb => ?_)
  · rw [if_pos hb] at hf
    refine c_rs ?_ -- region 2
    refine s_assign h rfl _ rfl rfl (by decide) rfl (fun a h => ?_)
    refine l_end ?_
    refine wp_ret ?_
    refine e_thenR ?_
    rw [← Option.some.inj hf]
    exact r_ret1 h rfl (rv_tmp h rfl) ⟨_, [], _, rfl, ⟨rfl, rfl, trivial⟩, rfl, (Up.refl _ _ _), h.m⟩
  · rw [if_neg (by rw [hb]; decide)] at hf
    refine wp_skip ?_
    refine e_thenN ?_
    refine wp_seq ?_
    refine c_rs ?_ -- region 3
    refine s_move h rfl _ rfl rfl (by decide) rfl (fun a h => ?_)
    refine s_x h rfl rfl (by decide) (x_len h.k rfl Tryd.underlying38 rfl) (fun a h => ?_)
    refine s_x h rfl rfl (by decide) (x_bin h.k rfl rfl rfl ib_gtr) (fun a h => ?_)
    refine l_end ?_
    refine c_cond h rfl (fun hb => ?_) (fun hb => ?_)
    · rw [if_pos (of_decide_eq_true hb)] at hf
      refine c_rs ?_ -- region 4
      refine s_assign h rfl _ rfl rfl (by decide) rfl (fun a h => ?_)
      refine l_end ?_
      refine wp_ret ?_
      refine e_thenR ?_
      rw [← Option.some.inj hf]
      exact r_ret1 h rfl (rv_tmp h rfl) ⟨_, [], _, rfl, ⟨rfl, rfl, trivial⟩, rfl, (Up.refl _ _ _), h.m⟩
    · rw [if_neg (of_decide_eq_false hb)] at hf
      refine wp_skip ?_
      refine e_thenN ?_
      refine wp_seq ?_
      refine c_rs ?_ -- region 5
      refine s_move h rfl _ rfl rfl (by decide) rfl (fun a h => ?_)
      refine s_x h rfl rfl (by decide) (x_len h.k rfl Tryd.underlying38 rfl) (fun a h => ?_)
      refine s_move h rfl _ rfl rfl (by decide) rfl (fun a h => ?_)
      refine l_end ?_
      obtain ⟨o4, hl5, hf⟩ := bsome hf
      refine c_fin (fun a w => (.inr ()) = o4 ∧ St 54 w0 (ownL ([] ++ [.sn S0])) [(0, .slice Aa0 a0.length ca0)] [.sn S0] a w) ?_ ?_
      · refine wp_block ?_
        refine c_loop (fun m9 a w => ∃ (x6 : Int), chatelainelaw42_ShowTables_l0 Fu a0 m9 x6 = some o4 ∧ r64 x6 ∧ St 54 w0 (ownL ([] ++ [.sn S0])) [(0, .slice Aa0 a0.length ca0), (16, .slice Aa0 a0.length ca0), (17, .int .i64 (a0.length : Int)), (18, .int .i64 x6)] [.sn S0] a w) Fu ⟨0, hl5, (show r64 0 from ⟨by decide, by decide⟩), h.has (by exact ⟨rfl, rfl, rfl, rfl, trivial⟩)⟩ (fun m9 a w hI => ?_)
        obtain ⟨x6, hl8, hr7, h⟩ := hI
        obtain _ | m9 := m9
        · rw [chatelainelaw42_ShowTables_l0] at hl8; cases hl8
        rw [chatelainelaw42_ShowTables_l0] at hl8
        refine c_rs ?_ -- region 6
        refine s_x h rfl rfl (by decide) (x_bin h.k rfl rfl rfl ib_lss) (fun a h => ?_)
        refine l_end ?_
        refine c_cs h rfl (fun hb => ?_) (fun hb => ?_)
        · rw [if_pos (of_decide_eq_true hb)] at hl8
          refine wp_skip ?_
          refine e_thenN ?_
          refine wp_seq ?_
          refine wp_block ?_
          refine c_rs ?_ -- region 7
          obtain ⟨x10, h14, hl8⟩ := bsome hl8
          obtain ⟨m11, hi15, hm16, hx17⟩ := idx_some h14
          obtain ⟨b12, off13, k18, hA19, hu20, hc21⟩ := (hsa0).at1 rfl hx17 (h.m.snOK (i := 0) rfl)
          obtain ⟨A22, c23, e25, hs24⟩ := hu20
          cases e25
          refine s_x h rfl rfl (by decide) (x_iaddrE h.k rfl Tryd.underlying38 sz_Sstring hA19 rfl rfl hi15 hm16) (fun a h => ?_)
          refine s_x h rfl rfl (by decide) (x_ld h.k rfl Tryd.underlying39 rfl rfl (hc21 _ (h.m.snOK (i := 0) rfl))) (fun a h => ?_)
          refine s_assign h rfl _ rfl rfl (by decide) rfl (fun a h => ?_)
          refine l_end ?_
          refine wp_seq ?_
          refine c_rs ?_ -- region 8
          refine s_move h rfl _ rfl rfl (by decide) rfl (fun a h => ?_)
          refine s_x h rfl rfl (by decide) (x_len h.k rfl Tryd.underlying39 rfl) (fun a h => ?_)
          refine s_x h rfl rfl (by decide) (x_bin h.k rfl rfl rfl ib_gtr) (fun a h => ?_)
          refine l_end ?_
          refine c_cond h rfl (fun hb => ?_) (fun hb => ?_)
          · rw [if_pos (of_decide_eq_true hb)] at hl8
            refine c_rs ?_ -- region 9
            refine s_assign h rfl _ rfl rfl (by decide) rfl (fun a h => ?_)
            refine l_end ?_
            refine wp_ret ?_
            refine e_thenR ?_
            refine e_blkR ?_
            refine e_thenR ?_
            refine e_thenR ?_
            refine e_blkR ?_
            refine e_thenR ?_
            cases hl8
            try dsimp only at hf
            refine e_thenR ?_
            rw [← Option.some.inj hf]
            exact r_ret1 h rfl (rv_tmp h rfl) ⟨_, [], _, rfl, ⟨rfl, rfl, trivial⟩, rfl, (Up.refl _ _ _), h.m⟩
          · rw [if_neg (of_decide_eq_false hb)] at hl8
            refine wp_skip ?_
            refine e_thenN ?_
            refine c_rs ?_ -- region 10
            refine s_move h rfl _ rfl rfl (by decide) rfl (fun a h => ?_)
            refine s_x h rfl rfl (by decide) (x_len h.k rfl Tryd.underlying39 rfl) (fun a h => ?_)
            refine s_move h rfl _ rfl rfl (by decide) rfl (fun a h => ?_)
            refine l_end ?_
            obtain ⟨o26, hl27, hl8⟩ := bsome hl8
            refine c_fin (fun a w => (.inr ()) = o26 ∧ St 54 w0 (ownL ([] ++ [.sn S0])) [(0, .slice Aa0 a0.length ca0), (16, .slice Aa0 a0.length ca0), (17, .int .i64 (a0.length : Int)), (18, .int .i64 x6)] [.sn S0] a w) ?_ ?_
            · refine wp_block ?_
              refine c_loop (fun m31 a w => ∃ (x28 : Int), chatelainelaw42_ShowTables_l1 Fu x10 m31 x28 = some o26 ∧ r64 x28 ∧ St 54 w0 (ownL ([] ++ [.sn S0])) [(0, .slice Aa0 a0.length ca0), (16, .slice Aa0 a0.length ca0), (17, .int .i64 (a0.length : Int)), (18, .int .i64 x6), (25, .slice A22 x10.length c23), (26, .int .i64 (x10.length : Int)), (27, .int .i64 x28)] [.sn S0] a w) Fu ⟨0, hl27, (show r64 0 from ⟨by decide, by decide⟩), h.has (by exact ⟨rfl, rfl, rfl, rfl, rfl, rfl, rfl, trivial⟩)⟩ (fun m31 a w hI => ?_)
              obtain ⟨x28, hl30, hr29, h⟩ := hI
              obtain _ | m31 := m31
              · rw [chatelainelaw42_ShowTables_l1] at hl30; cases hl30
              rw [chatelainelaw42_ShowTables_l1] at hl30
              refine c_rs ?_ -- region 11
              refine s_x h rfl rfl (by decide) (x_bin h.k rfl rfl rfl ib_lss) (fun a h => ?_)
              refine l_end ?_
              refine c_cs h rfl (fun hb => ?_) (fun hb => ?_)
              · rw [if_pos (of_decide_eq_true hb)] at hl30
                refine wp_skip ?_
                refine e_thenN ?_
                refine wp_seq ?_
                refine wp_block ?_
                refine c_rs ?_ -- region 12
                obtain ⟨x32, h36, hl30⟩ := bsome hl30
                obtain ⟨m33, hi37, hm38, hx39⟩ := idx_some h36
                obtain ⟨b34, off35, k40, hA41, hu42, hc43⟩ := (hs24).at1 rfl hx39 (h.m.snOK (i := 0) rfl)
                obtain ⟨e45, hr44⟩ := hu42
                cases e45
                refine s_x h rfl rfl (by decide) (x_iaddrE h.k rfl Tryd.underlying39 sz_string hA41 rfl rfl hi37 hm38) (fun a h => ?_)
                refine s_x h rfl rfl (by decide) (x_ld h.k rfl Tryd.underlying9 rfl rfl (hc43 _ (h.m.snOK (i := 0) rfl))) (fun a h => ?_)
                refine s_assign h rfl _ rfl rfl (by decide) rfl (fun a h => ?_)
                refine l_end ?_
                refine c_rs ?_ -- region 13
                refine s_move h rfl _ rfl rfl (by decide) rfl (fun a h => ?_)
                refine s_x h rfl rfl (by decide) (x_lenStr h.k rfl Tryd.underlying9 rfl) (fun a h => ?_)
                refine s_x h rfl rfl (by decide) (x_bin h.k rfl rfl rfl ib_gtr) (fun a h => ?_)
                refine l_end ?_
                refine c_cond h rfl (fun hb => ?_) (fun hb => ?_)
                · rw [if_pos (of_decide_eq_true hb)] at hl30
                  refine c_rs ?_ -- region 14
                  refine s_assign h rfl _ rfl rfl (by decide) rfl (fun a h => ?_)
                  refine l_end ?_
                  refine wp_ret ?_
                  refine e_blkR ?_
                  refine e_thenR ?_
                  refine e_thenR ?_
                  refine e_blkR ?_
                  refine e_thenR ?_
                  cases hl30
                  try dsimp only at hl8
                  refine e_blkR ?_
                  refine e_thenR ?_
                  refine e_thenR ?_
                  refine e_blkR ?_
                  refine e_thenR ?_
                  cases hl8
                  try dsimp only at hf
                  refine e_thenR ?_
                  rw [← Option.some.inj hf]
                  exact r_ret1 h rfl (rv_tmp h rfl) ⟨_, [], _, rfl, ⟨rfl, rfl, trivial⟩, rfl, (Up.refl _ _ _), h.m⟩
                · rw [if_neg (of_decide_eq_false hb)] at hl30
                  refine wp_skip ?_
                  refine e_blkN ?_
                  refine e_thenN ?_
                  refine c_r ?_ -- region 15
                  refine s_x h rfl rfl (by decide) (x_bin h.k rfl rfl rfl (ib_add rfl)) (fun a h => ?_)
                  refine s_move h rfl _ rfl rfl (by decide) rfl (fun a h => ?_)
                  refine l_nil ?_
                  exact e_thenN ⟨m31, Nat.lt_succ_self _, w64 (x28 + 1), hl30, (w64_r _), h.has (by exact ⟨rfl, rfl, rfl, rfl, rfl, rfl, rfl, trivial⟩)⟩
              · rw [if_neg (of_decide_eq_false hb)] at hl30
                refine wp_exit ?_
                refine e_thenX ?_
                refine e_thenX ?_
                refine e_blkX ?_
                refine e_thenN ?_
                exact ⟨(Option.some.inj hl30), h.has (by exact ⟨rfl, rfl, rfl, rfl, trivial⟩)⟩
            · rintro a w ⟨rfl, h⟩
              try dsimp only at hl8
              refine e_blkN ?_
              refine e_thenN ?_
              refine c_r ?_ -- region 16
              refine s_x h rfl rfl (by decide) (x_bin h.k rfl rfl rfl (ib_add rfl)) (fun a h => ?_)
              refine s_move h rfl _ rfl rfl (by decide) rfl (fun a h => ?_)
              refine l_nil ?_
              exact e_thenN ⟨m9, Nat.lt_succ_self _, w64 (x6 + 1), hl8, (w64_r _), h.has (by exact ⟨rfl, rfl, rfl, rfl, trivial⟩)⟩
        · rw [if_neg (of_decide_eq_false hb)] at hl8
          refine wp_exit ?_
          refine e_thenX ?_
          refine e_thenX ?_
          refine e_blkX ?_
          refine e_thenN ?_
          exact ⟨(Option.some.inj hl8), h.has (by exact ⟨rfl, trivial⟩)⟩
      · rintro a w ⟨rfl, h⟩
        try dsimp only at hf
        refine e_thenN ?_
        refine c_rs ?_ -- region 17
        refine s_move h rfl _ rfl rfl (by decide) rfl (fun a h => ?_)
        obtain ⟨x47, h48, hf⟩ := bsome hf
        have hX := show_Table_ok Fu (S0 := snapAll _) Aa0 ca0 a0 (hsa0.mono (h.m.leAll (i := 0) rfl)) _ h48 _ h.startAll
        refine q_callX hX h rfl rfl rfl (by decide) Tryd.func13 rfl rfl rfl (fun a w v L1 S1 hR hb1 h => ?_)
        obtain ⟨rfl, rfl, hr50, _⟩ := hR
        refine s_move h rfl _ rfl rfl (by decide) rfl (fun a h => ?_)
        refine s_x h rfl rfl (by decide) (x_ext h.k rfl rfl rfl) (fun a h => ?_)
        refine s_x h rfl rfl (by decide) (x_ext h.k rfl rfl rfl) (fun a h => ?_)
        refine s_assign h rfl _ rfl rfl (by decide) rfl (fun a h => ?_)
        refine s_assign h rfl _ rfl rfl (by decide) rfl (fun a h => ?_)
        refine l_end ?_
        refine c_rs ?_ -- region 18
        refine s_move h rfl _ rfl rfl (by decide) rfl (fun a h => ?_)
        obtain ⟨x51, h52, hf⟩ := bsome hf
        have hX := chatelaineref42_Table_ok Fu (S0 := snapAll _) Aa0 ca0 a0 (hsa0.mono (h.m.leAll (i := 0) rfl)) _ h52 _ h.startAll
        refine q_callX hX h rfl rfl rfl (by decide) Tryd.func14 rfl rfl rfl (fun a w v L1 S1 hR hb1 h => ?_)
        obtain ⟨rfl, rfl, hr54, _⟩ := hR
        refine s_move h rfl _ rfl rfl (by decide) rfl (fun a h => ?_)
        refine s_x h rfl rfl (by decide) (x_ext h.k rfl rfl rfl) (fun a h => ?_)
        refine s_x h rfl rfl (by decide) (x_ext h.k rfl rfl rfl) (fun a h => ?_)
        refine s_assign h rfl _ rfl rfl (by decide) rfl (fun a h => ?_)
        refine s_assign h rfl _ rfl rfl (by decide) rfl (fun a h => ?_)
        refine l_end ?_
        refine c_rs ?_ -- region 19
        refine s_move h rfl _ rfl rfl (by decide) rfl (fun a h => ?_)
        refine s_move h rfl _ rfl rfl (by decide) rfl (fun a h => ?_)
        refine s_x h rfl rfl (by decide) (x_eqlStr h.k rfl rfl rfl) (fun a h => ?_)
        refine s_move h rfl _ rfl rfl (by decide) rfl (fun a h => ?_)
        refine q_grp h 4 (t := 49) 53 ((decide (x47.1 = x51.1)) && (x47.2 == x51.2)) rfl (fun hB3 => ?_) (fun hB3 => ?_) (fun a w h => ?_)
        · refine g_yes h rfl rfl rfl rfl hB3 ?_
          refine s_move h rfl _ rfl rfl (by decide) rfl (fun a h => ?_)
          refine g_yes h rfl rfl rfl rfl hB3 ?_
          refine s_move h rfl _ rfl rfl (by decide) rfl (fun a h => ?_)
          refine g_yes h rfl rfl rfl rfl hB3 ?_
          refine s_x h rfl rfl (by decide) (x_eqlB h.k rfl Tryd.underlying4 rfl rfl) (fun a h => ?_)
          refine s_x h rfl rfl (by decide) (x_pick (u' := undef) h.k rfl rfl (fun _ => rfl) (fun hh => absurd (hB3.symm.trans hh) (by decide))) (fun a h => ?_)
          exact (h.mid 3 rfl).val (by first | rfl | (rw [hB3]; first | rfl | simp))
        · refine g_no h rfl rfl rfl rfl hB3 rfl (by decide) (fun a h => ?_)
          refine g_no h rfl rfl rfl rfl hB3 rfl (by decide) (fun a h => ?_)
          refine g_no h rfl rfl rfl rfl hB3 rfl (by decide) (fun a h => ?_)
          refine s_x h rfl rfl (by decide) (x_pick (u' := undef) h.k rfl rfl (fun hh => absurd (hB3.symm.trans hh) (by decide)) (fun _ => rfl)) (fun a h => ?_)
          exact (h.mid 3 rfl).val (by first | rfl | (rw [hB3]; first | rfl | simp))
        refine s_assign h rfl _ rfl rfl (by decide) rfl (fun a h => ?_)
        refine l_end ?_
        refine wp_ret ?_
        obtain rfl := Option.some.inj hf
        exact r_ret1 h rfl (rv_tmp h rfl) ⟨_, [], _, rfl, ⟨rfl, rfl, trivial⟩, rfl, (Up.refl _ _ _), h.m⟩
end Go.Proofs.YtnmeelkfpmodgaaDoor
