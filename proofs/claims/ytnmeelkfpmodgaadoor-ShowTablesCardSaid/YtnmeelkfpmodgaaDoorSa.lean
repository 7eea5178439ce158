/- Texts put together. -/
import Derived.Test.YtnmeelkfpmodgaaDoorGl
import Derived.Test.YtnmeelkfpmodgaaDoorRb
import Derived.Test.YtnmeelkfpmodgaaDoorPk
import Derived.Test.YtnmeelkfpmodgaaDoorPs
import Derived.Shelf.Strings.Cut
import Derived.Shelf.Strings.Split
import Derived.Test.YtnmeelkfpmodgaaDoorProg
import Derived.Test.YtnmeelkfpmodgaaDoorIt
import Derived.Test.YtnmeelkfpmodgaaDoorJn
import Derived.Test.YtnmeelkfpmodgaaDoorPe
set_option linter.unusedVariables false
set_option linter.unusedSimpArgs false
namespace Go.Proofs.YtnmeelkfpmodgaaDoor
open Go.RowKit
section
section
open Go.Shelf
end
end
section
def show_may (Fu : Nat) (a0 : Int × Int) : Option Bool :=
  some ((((decide (0 ≤ a0.1)) && (decide (1 ≤ a0.2))) && (decide (a0.2 ≤ 1048576))) && (decide (a0.1 ≤ w64 (1048576 - a0.2))))
set_option maxRecDepth 100000 in
set_option maxHeartbeats 2000000 in
theorem show_may_ok (Fu : Nat) {S0 : Snap} (csa0 : List Value) (a0 : Int × Int) (hsa0 : (tyP tyI tyI).rep S0 csa0 a0) (r : Bool) (hf : show_may Fu a0 = some r) (w0 : World) (hm : Mem w0 (ownL ([] ++ [.sn S0])) ([] ++ [.sn S0]) w0) :
    Calls Tryd.prog 18 #[.agg csa0.toArray] w0 (Ret w0 S0 [] (fun v L1 S1 => v = .bool r ∧ L1 = [] ∧ True)) := by
  unfold show_may at hf
  obtain ⟨k1, k2, rfl, ⟨rfl, hr3⟩, ⟨rfl, hr4⟩⟩ := hsa0
  refine c_enterM Tryd.func18 rfl 24 rfl (by simp) _ hm _ rfl (fun a h => ?_)
  refine c_rs ?_ -- region 0
  refine s_box h rfl rfl rfl (by decide) rfl (cs := [.int .i64 a0.1, .int .i64 a0.2]) (by rfl) (fun a w g5 h => ?_)
  refine s_assign h rfl _ rfl rfl (by decide) rfl (fun a h => ?_)
  refine l_end ?_
  refine c_rs ?_ -- region 1
  refine s_x h rfl rfl (by decide) (x_faddr h.k rfl Tryd.underlying46 rfl sz_int rfl) (fun a h => ?_)
  refine s_x h rfl rfl (by decide) (x_ld h.k rfl Tryd.underlying3 rfl rfl ((h.m.cell (i := 0) rfl 0).trans rfl)) (fun a h => ?_)
  refine s_x h rfl rfl (by decide) (x_bin h.k rfl rfl rfl ib_geq) (fun a h => ?_)
  refine s_move h rfl _ rfl rfl (by decide) rfl (fun a h => ?_)
  refine q_grp h 4 (t := 6) 10 ((decide (0 ≤ a0.1)) && (decide (1 ≤ a0.2))) rfl (fun hB3 => ?_) (fun hB3 => ?_) (fun a w h => ?_)
  · refine g_yes h rfl rfl rfl rfl hB3 ?_
    refine s_x h rfl rfl (by decide) (x_faddr h.k rfl Tryd.underlying46 rfl sz_int rfl) (fun a h => ?_)
    refine g_yes h rfl rfl rfl rfl hB3 ?_
    refine s_x h rfl rfl (by decide) (x_ld h.k rfl Tryd.underlying3 rfl rfl ((h.m.cell (i := 0) rfl 1).trans rfl)) (fun a h => ?_)
    refine g_yes h rfl rfl rfl rfl hB3 ?_
    refine s_x h rfl rfl (by decide) (x_bin h.k rfl rfl rfl ib_geq) (fun a h => ?_)
    refine s_x h rfl rfl (by decide) (x_pick (u' := undef) h.k rfl rfl (fun _ => rfl) (fun hh => absurd (hB3.symm.trans hh) (by decide))) (fun a h => ?_)
    exact (h.mid 3 rfl).val (by first | rfl | (rw [hB3]; first | rfl | simp))
  · refine g_no h rfl rfl rfl rfl hB3 rfl (by decide) (fun a h => ?_)
    refine g_no h rfl rfl rfl rfl hB3 rfl (by decide) (fun a h => ?_)
    refine g_no h rfl rfl rfl rfl hB3 rfl (by decide) (fun a h => ?_)
    refine s_x h rfl rfl (by decide) (x_pick (u' := undef) h.k rfl rfl (fun hh => absurd (hB3.symm.trans hh) (by decide)) (fun _ => rfl)) (fun a h => ?_)
    exact (h.mid 3 rfl).val (by first | rfl | (rw [hB3]; first | rfl | simp))
  refine s_move h rfl _ rfl rfl (by decide) rfl (fun a h => ?_)
  refine q_grp h 4 (t := 11) 15 (((decide (0 ≤ a0.1)) && (decide (1 ≤ a0.2))) && (decide (a0.2 ≤ 1048576))) rfl (fun hB8 => ?_) (fun hB8 => ?_) (fun a w h => ?_)
  · refine g_yes h rfl rfl rfl rfl hB8 ?_
    refine s_x h rfl rfl (by decide) (x_faddr h.k rfl Tryd.underlying46 rfl sz_int rfl) (fun a h => ?_)
    refine g_yes h rfl rfl rfl rfl hB8 ?_
    refine s_x h rfl rfl (by decide) (x_ld h.k rfl Tryd.underlying3 rfl rfl ((h.m.cell (i := 0) rfl 1).trans rfl)) (fun a h => ?_)
    refine g_yes h rfl rfl rfl rfl hB8 ?_
    refine s_x h rfl rfl (by decide) (x_bin h.k rfl rfl rfl ib_leq) (fun a h => ?_)
    refine s_x h rfl rfl (by decide) (x_pick (u' := undef) h.k rfl rfl (fun _ => rfl) (fun hh => absurd (hB8.symm.trans hh) (by decide))) (fun a h => ?_)
    exact (h.mid 3 rfl).val (by first | rfl | (rw [hB8]; first | rfl | simp))
  · refine g_no h rfl rfl rfl rfl hB8 rfl (by decide) (fun a h => ?_)
    refine g_no h rfl rfl rfl rfl hB8 rfl (by decide) (fun a h => ?_)
    refine g_no h rfl rfl rfl rfl hB8 rfl (by decide) (fun a h => ?_)
    refine s_x h rfl rfl (by decide) (x_pick (u' := undef) h.k rfl rfl (fun hh => absurd (hB8.symm.trans hh) (by decide)) (fun _ => rfl)) (fun a h => ?_)
    exact (h.mid 3 rfl).val (by first | rfl | (rw [hB8]; first | rfl | simp))
  refine s_move h rfl _ rfl rfl (by decide) rfl (fun a h => ?_)
  refine q_grp h 7 (t := 16) 23 ((((decide (0 ≤ a0.1)) && (decide (1 ≤ a0.2))) && (decide (a0.2 ≤ 1048576))) && (decide (a0.1 ≤ w64 (1048576 - a0.2)))) rfl (fun hB13 => ?_) (fun hB13 => ?_) (fun a w h => ?_)
  · refine g_yes h rfl rfl rfl rfl hB13 ?_
    refine s_x h rfl rfl (by decide) (x_faddr h.k rfl Tryd.underlying46 rfl sz_int rfl) (fun a h => ?_)
    refine g_yes h rfl rfl rfl rfl hB13 ?_
    refine s_x h rfl rfl (by decide) (x_ld h.k rfl Tryd.underlying3 rfl rfl ((h.m.cell (i := 0) rfl 0).trans rfl)) (fun a h => ?_)
    refine g_yes h rfl rfl rfl rfl hB13 ?_
    refine s_x h rfl rfl (by decide) (x_faddr h.k rfl Tryd.underlying46 rfl sz_int rfl) (fun a h => ?_)
    refine g_yes h rfl rfl rfl rfl hB13 ?_
    refine s_x h rfl rfl (by decide) (x_ld h.k rfl Tryd.underlying3 rfl rfl ((h.m.cell (i := 0) rfl 1).trans rfl)) (fun a h => ?_)
    refine g_yes h rfl rfl rfl rfl hB13 ?_
    refine s_x h rfl rfl (by decide) (x_bin h.k rfl rfl rfl (ib_sub rfl)) (fun a h => ?_)
    refine g_yes h rfl rfl rfl rfl hB13 ?_
    refine s_x h rfl rfl (by decide) (x_bin h.k rfl rfl rfl ib_leq) (fun a h => ?_)
    refine s_x h rfl rfl (by decide) (x_pick (u' := undef) h.k rfl rfl (fun _ => rfl) (fun hh => absurd (hB13.symm.trans hh) (by decide))) (fun a h => ?_)
    exact (h.mid 6 rfl).val (by first | rfl | (rw [hB13]; first | rfl | simp))
  · refine g_no h rfl rfl rfl rfl hB13 rfl (by decide) (fun a h => ?_)
    refine g_no h rfl rfl rfl rfl hB13 rfl (by decide) (fun a h => ?_)
    refine g_no h rfl rfl rfl rfl hB13 rfl (by decide) (fun a h => ?_)
    refine g_no h rfl rfl rfl rfl hB13 rfl (by decide) (fun a h => ?_)
    refine g_no h rfl rfl rfl rfl hB13 rfl (by decide) (fun a h => ?_)
    refine g_no h rfl rfl rfl rfl hB13 rfl (by decide) (fun a h => ?_)
    refine s_x h rfl rfl (by decide) (x_pick (u' := undef) h.k rfl rfl (fun hh => absurd (hB13.symm.trans hh) (by decide)) (fun _ => rfl)) (fun a h => ?_)
    exact (h.mid 6 rfl).val (by first | rfl | (rw [hB13]; first | rfl | simp))
  refine s_assign h rfl _ rfl rfl (by decide) rfl (fun a h => ?_)
  refine l_end ?_
  refine wp_ret ?_
  obtain rfl := Option.some.inj hf
  exact r_ret1 h rfl (rv_tmp h rfl) ⟨_, [], _, rfl, ⟨rfl, rfl, trivial⟩, rfl, (Up.refl _ _ _), (h.m.pick [1] _ (by decide) rfl)⟩
def show_Extents_l0 (Fu : Nat) (a0 : List (Int × Int)) : Nat → (List (List UInt8)) → Int → Option ((List (List UInt8)))
  | 0, _, _ => none
  | k + 1, x3, x8 => if x8 < (a0.length : Int) then (((idx a0 x8).bind fun x25 => (show_may Fu x25).bind fun x42 => if (!x42) = true then (some x3) else ((strconv_Itoa Fu x25.1).bind fun x45 => (if 1 < x25.2 then ((strconv_Itoa Fu (w64 ((w64 (x25.1 + x25.2)) - 1))).bind fun x53 => (sapp ([45] : List UInt8) x53).bind fun x57 => (sapp x45 x57).bind fun x59 => some x59) else (some x45)).bind fun x51 => (app 16 x3 ([x51])).bind fun x63 => some x63)).bind fun x20 => show_Extents_l0 Fu a0 k x20 (w64 (x8 + 1))) else (some x3)
def show_Extents (Fu : Nat) (a0 : List (Int × Int)) : Option ((List UInt8)) :=
  (show_Extents_l0 Fu a0 Fu ([]) 0).bind fun x10 => (strings_Join Fu x10 ([32] : List UInt8)).bind fun x71 => some x71
set_option maxRecDepth 100000 in
set_option maxHeartbeats 2000000 in
theorem show_Extents_ok (Fu : Nat) {S0 : Snap} (hGT : GT S0) (Aa0 : Option Addr) (ca0 : Nat) (a0 : List (Int × Int)) (hsa0 : slS (tyP tyI tyI) S0 Aa0 ca0 a0) (r : (List UInt8)) (hf : show_Extents Fu a0 = some r) (w0 : World) (hm : Mem w0 (ownL ([] ++ [.sn S0])) ([] ++ [.sn S0]) w0) :
    Calls Tryd.prog 9 #[.slice Aa0 a0.length ca0] w0 (Ret w0 S0 [] (fun v L1 S1 => v = .string (sb r) ∧ L1 = [] ∧ r.length ≤ maxLen ∧ True)) := by
  unfold show_Extents at hf
  refine c_enterM Tryd.func9 rfl 39 rfl (by simp) _ hm _ rfl (fun a h => ?_)
  refine c_rs ?_ -- region 0
  refine s_assign h rfl _ rfl rfl (by decide) rfl (fun a h => ?_)
  refine l_end ?_
  refine c_rs ?_ -- region 1
  refine s_assign h rfl _ rfl rfl (by decide) rfl (fun a h => ?_)
  refine l_end ?_
  refine wp_seq ?_
  refine c_rs ?_ -- region 2
  refine s_move h rfl _ rfl rfl (by decide) rfl (fun a h => ?_)
  refine s_x h rfl rfl (by decide) (x_len h.k rfl Tryd.underlying29 rfl) (fun a h => ?_)
  refine s_move h rfl _ rfl rfl (by decide) rfl (fun a h => ?_)
  refine l_end ?_
  obtain ⟨o1, hl2, hf⟩ := bsome hf
  refine c_fin (fun a w => ∃ (x10 : List (List UInt8)), ∃ (A11 : Option Addr), ∃ (c12 : Nat), ∃ (cs13 : List Value), x10 = o1 ∧ reps tyS S0 cs13 x10 ∧ St 39 w0 (ownL ([] ++ [.sn S0])) [(3, .slice A11 x10.length c12)] [.row (.slice A11 x10.length c12) 9 1 x10.length cs13, .sn S0] a w) ?_ ?_
  · refine wp_block ?_
    have h := h.mem (h.m.nilrow 9 1)
    refine c_loop (fun m16 a w => ∃ (x3 : List (List UInt8)), ∃ (A4 : Option Addr), ∃ (c5 : Nat), ∃ (cs6 : List Value), ∃ (x8 : Int), show_Extents_l0 Fu a0 m16 x3 x8 = some o1 ∧ reps tyS S0 cs6 x3 ∧ r64 x8 ∧ St 39 w0 (ownL ([] ++ [.sn S0])) [(3, .slice A4 x3.length c5), (7, .slice Aa0 a0.length ca0), (8, .int .i64 (a0.length : Int)), (9, .int .i64 x8)] [.row (.slice A4 x3.length c5) 9 1 x3.length cs6, .sn S0] a w) Fu ⟨[], none, 0, [], 0, hl2, (show reps tyS S0 [] [] from rfl), (show r64 0 from ⟨by decide, by decide⟩), h.has (by exact ⟨rfl, rfl, rfl, rfl, trivial⟩)⟩ (fun m16 a w hI => ?_)
    obtain ⟨x3, A4, c5, cs6, x8, hl15, hq7, hr9, h⟩ := hI
    obtain _ | m16 := m16
    · rw [show_Extents_l0] at hl15; cases hl15
    rw [show_Extents_l0] at hl15
    refine c_rs ?_ -- region 3
    refine s_x h rfl rfl (by decide) (x_bin h.k rfl rfl rfl ib_lss) (fun a h => ?_)
    refine l_end ?_
    refine c_cs h rfl (fun hb => ?_) (fun hb => ?_)
    · rw [if_pos (of_decide_eq_true hb)] at hl15
      refine wp_skip ?_
      refine e_thenN ?_
      obtain ⟨o18, hc19, hl15⟩ := bsome hl15
      refine c_cut (fun a w => ∃ (x20 : List (List UInt8)), ∃ (A21 : Option Addr), ∃ (c22 : Nat), ∃ (cs23 : List Value), x20 = o18 ∧ reps tyS S0 cs23 x20 ∧ St 39 w0 (ownL ([] ++ [.sn S0])) [(3, .slice A21 x20.length c22), (7, .slice Aa0 a0.length ca0), (8, .int .i64 (a0.length : Int)), (9, .int .i64 x8)] [.row (.slice A21 x20.length c22) 9 1 x20.length cs23, .sn S0] a w) ?_ ?_
      · refine wp_block ?_
        refine c_rs ?_ -- region 4
        obtain ⟨x25, h29, hc19⟩ := bsome hc19
        obtain ⟨m26, hi30, hm31, hx32⟩ := idx_some h29
        obtain ⟨b27, off28, k33, hA34, hu35, hc36⟩ := (hsa0).at (by decide) hx32 (h.m.snOK (i := 1) rfl)
        obtain ⟨k37, k38, rfl, ⟨rfl, hr39⟩, ⟨rfl, hr40⟩⟩ := hu35
        refine s_x h rfl rfl (by decide) (x_iaddrE h.k rfl Tryd.underlying29 sz_api_Extent hA34 rfl rfl hi30 hm31) (fun a h => ?_)
        refine s_x h rfl rfl (by decide) (x_ldR h.k rfl ag_api_Extent rfl ([.int .i64 x25.1, .int .i64 x25.2]) rfl (hc36 _ (h.m.snOK (i := 1) rfl))) (fun a h => ?_)
        refine s_alloc h rfl rfl rfl (by decide) zi_api_Extent rfl (fun a w g41 h => ?_)
        refine s_stW h rfl rfl rfl ag_api_Extent rfl (es := [.int .i64 x25.1, .int .i64 x25.2]) rfl rfl (by simp [Value.oneCell']) 0 rfl rfl (fun a w h => ?_)
        refine l_end ?_
        refine wp_seq ?_
        refine c_rs ?_ -- region 5
        refine s_x h rfl rfl (by decide) (x_ldR h.k rfl ag_api_Extent rfl ([.int .i64 x25.1, .int .i64 x25.2]) rfl (h.m.range0 (i := 0) rfl)) (fun a h => ?_)
        obtain ⟨x42, h43, hc19⟩ := bsome hc19
        have hX := show_may_ok Fu (S0 := snapAll _) ([.int .i64 x25.1, .int .i64 x25.2]) x25 ((tyP tyI tyI).mono (h.m.leAll (i := 2) rfl) (show (tyP tyI tyI).rep S0 ([.int .i64 x25.1, .int .i64 x25.2]) x25 from ⟨[.int .i64 x25.1], [.int .i64 x25.2], rfl, ⟨rfl, hr39⟩, ⟨rfl, hr40⟩⟩)) _ h43 _ h.startAll
        refine q_callX hX h rfl rfl rfl (by decide) Tryd.func18 rfl rfl rfl (fun a w v L1 S1 hR hb1 h => ?_)
        obtain ⟨rfl, rfl, _⟩ := hR
        refine s_x h rfl rfl (by decide) (x_not h.k rfl rfl) (fun a h => ?_)
        refine l_end ?_
        refine c_cond h rfl (fun hb => ?_) (fun hb => ?_)
        · rw [if_pos hb] at hc19
          refine wp_exit ?_
          refine e_thenX ?_
          refine e_blkX ?_
          refine e_thenN ?_
          have h := h.pick [1, 2] (by decide) rfl
          exact ⟨x3, A4, c5, cs6, (Option.some.inj hc19), hq7, h.has (by exact ⟨rfl, rfl, rfl, rfl, trivial⟩)⟩
        · rw [if_neg (by rw [hb]; decide)] at hc19
          refine wp_skip ?_
          refine e_thenN ?_
          refine c_rs ?_ -- region 6
          refine s_x h rfl rfl (by decide) (x_faddr h.k rfl Tryd.underlying46 rfl sz_int rfl) (fun a h => ?_)
          refine s_x h rfl rfl (by decide) (x_ld h.k rfl Tryd.underlying3 rfl rfl ((h.m.cell (i := 0) rfl 0).trans rfl)) (fun a h => ?_)
          obtain ⟨x45, h46, hc19⟩ := bsome hc19
          have hX := strconv_Itoa_ok Fu (S0 := snapAll _) (hGT.mono (h.m.leAll (i := 2) rfl)) x25.1 hr39 _ h46 _ h.startAll
          refine q_callX hX h rfl rfl rfl (by decide) Tryd.func19 rfl rfl rfl (fun a w v L1 S1 hR hb1 h => ?_)
          obtain ⟨rfl, rfl, hr48, _⟩ := hR
          refine s_assign h rfl _ rfl rfl (by decide) rfl (fun a h => ?_)
          refine l_end ?_
          obtain ⟨o49, hc50, hc19⟩ := bsome hc19
          refine c_cut (fun a w => ∃ (x51 : List UInt8), x51 = o49 ∧ x51.length ≤ maxLen ∧ St 39 w0 (ownL ([] ++ [.sn S0])) [(3, .slice A4 x3.length c5), (6, .string (sb x51)), (7, .slice Aa0 a0.length ca0), (8, .int .i64 (a0.length : Int)), (9, .int .i64 x8)] [.row (.slice A4 x3.length c5) 9 1 x3.length cs6, .sn S0] a w) ?_ ?_
          · refine c_rs ?_ -- region 7
            refine s_x h rfl rfl (by decide) (x_faddr h.k rfl Tryd.underlying46 rfl sz_int rfl) (fun a h => ?_)
            refine s_x h rfl rfl (by decide) (x_ld h.k rfl Tryd.underlying3 rfl rfl ((h.m.cell (i := 0) rfl 1).trans rfl)) (fun a h => ?_)
            refine s_x h rfl rfl (by decide) (x_bin h.k rfl rfl rfl ib_gtr) (fun a h => ?_)
            refine l_end ?_
            refine c_cond h rfl (fun hb => ?_) (fun hb => ?_)
            · rw [if_pos (of_decide_eq_true hb)] at hc50
              refine c_r ?_ -- region 8
              refine s_move h rfl _ rfl rfl (by decide) rfl (fun a h => ?_)
              refine s_x h rfl rfl (by decide) (x_faddr h.k rfl Tryd.underlying46 rfl sz_int rfl) (fun a h => ?_)
              refine s_x h rfl rfl (by decide) (x_ld h.k rfl Tryd.underlying3 rfl rfl ((h.m.cell (i := 0) rfl 0).trans rfl)) (fun a h => ?_)
              refine s_x h rfl rfl (by decide) (x_faddr h.k rfl Tryd.underlying46 rfl sz_int rfl) (fun a h => ?_)
              refine s_x h rfl rfl (by decide) (x_ld h.k rfl Tryd.underlying3 rfl rfl ((h.m.cell (i := 0) rfl 1).trans rfl)) (fun a h => ?_)
              refine s_x h rfl rfl (by decide) (x_bin h.k rfl rfl rfl (ib_add rfl)) (fun a h => ?_)
              refine s_x h rfl rfl (by decide) (x_bin h.k rfl rfl rfl (ib_sub rfl)) (fun a h => ?_)
              obtain ⟨x53, h54, hc50⟩ := bsome hc50
              have hX := strconv_Itoa_ok Fu (S0 := snapAll _) (hGT.mono (h.m.leAll (i := 2) rfl)) (w64 ((w64 (x25.1 + x25.2)) - 1)) (w64_r _) _ h54 _ h.startAll
              refine q_callX hX h rfl rfl rfl (by decide) Tryd.func19 rfl rfl rfl (fun a w v L1 S1 hR hb1 h => ?_)
              obtain ⟨rfl, rfl, hr56, _⟩ := hR
              obtain ⟨x57, h58, hc50⟩ := bsome hc50
              refine s_x h rfl rfl (by decide) (x_addS h.k rfl rfl rfl h58) (fun a h => ?_)
              obtain ⟨x59, h60, hc50⟩ := bsome hc50
              refine s_x h rfl rfl (by decide) (x_addS h.k rfl rfl rfl h60) (fun a h => ?_)
              refine s_assign h rfl _ rfl rfl (by decide) rfl (fun a h => ?_)
              refine l_nil ?_
              refine e_thenN ?_
              have h := h.pick [1, 2] (by decide) rfl
              exact ⟨x59, (Option.some.inj hc50), (sapp_some h60).2, h.has (by exact ⟨rfl, rfl, rfl, rfl, rfl, trivial⟩)⟩
            · rw [if_neg (of_decide_eq_false hb)] at hc50
              refine wp_skip ?_
              refine e_thenN ?_
              have h := h.pick [1, 2] (by decide) rfl
              exact ⟨x45, (Option.some.inj hc50), hr48, h.has (by exact ⟨rfl, rfl, rfl, rfl, rfl, trivial⟩)⟩
          · rintro a w ⟨x51, rfl, hr52, h⟩
            refine c_r ?_ -- region 9
            refine s_move h rfl _ rfl rfl (by decide) rfl (fun a h => ?_)
            refine s_move h rfl _ rfl rfl (by decide) rfl (fun a h => ?_)
            refine q_bslice (T := tyS) (S := S0) h rfl rfl rfl (by decide) Tryd.underlying39 zi_string (by decide) (by decide) (by decide) (by decide) [.string (sb x51)] rfl rfl (C := [[.string (sb x51)]]) rfl (xs := [x51]) ⟨[.string (sb x51)], _, rfl, ⟨rfl, hr52⟩, rfl⟩ (by intro c hc; simp only [List.mem_cons, List.not_mem_nil, or_false] at hc; subst hc; rfl) (fun a w A61 h => ?_)
            have hb62 : reps tyS S0 ([[.string (sb x51)]] : List (List Value)).flatten [x51] := ⟨[.string (sb x51)], _, rfl, ⟨rfl, hr52⟩, rfl⟩
            obtain ⟨x63, h64, hc19⟩ := bsome hc19
            refine q_append (T := tyS) (S := S0) h rfl rfl rfl (by decide) Tryd.underlying39 zb_string rfl (by decide) rfl 1 rfl hq7 rfl hb62 (h.m.rdRowA (i := 0) rfl) h64 (fun a w A65 c66 cs67 hq68 h => ?_)
            refine s_assign h rfl _ rfl rfl (by decide) rfl (fun a h => ?_)
            refine l_nil ?_
            refine e_blkN ?_
            refine e_thenN ?_
            have h := h.pick [1, 2] (by decide) rfl
            exact ⟨x63, A65, c66, cs67, (Option.some.inj hc19), hq68, h.has (by exact ⟨rfl, rfl, rfl, rfl, trivial⟩)⟩
      · rintro a w ⟨x20, A21, c22, cs23, rfl, hq24, h⟩
        refine c_r ?_ -- region 10
        refine s_x h rfl rfl (by decide) (x_bin h.k rfl rfl rfl (ib_add rfl)) (fun a h => ?_)
        refine s_move h rfl _ rfl rfl (by decide) rfl (fun a h => ?_)
        refine l_nil ?_
        exact e_thenN ⟨m16, Nat.lt_succ_self _, x20, A21, c22, cs23, w64 (x8 + 1), hl15, hq24, (w64_r _), h.has (by exact ⟨rfl, rfl, rfl, rfl, trivial⟩)⟩
    · rw [if_neg (of_decide_eq_false hb)] at hl15
      refine wp_exit ?_
      refine e_thenX ?_
      refine e_thenX ?_
      refine e_blkX ?_
      refine e_thenN ?_
      exact ⟨x3, A4, c5, cs6, (Option.some.inj hl15), hq7, h.has (by exact ⟨rfl, trivial⟩)⟩
  · rintro a w ⟨x10, A11, c12, cs13, rfl, hq14, h⟩
    refine e_thenN ?_
    refine c_rs ?_ -- region 11
    refine s_move h rfl _ rfl rfl (by decide) rfl (fun a h => ?_)
    obtain ⟨x71, h72, hf⟩ := bsome hf
    have hX := strings_Join_ok Fu (S0 := snapAll _) A11 c12 x10 (h.m.rowAll (i := 0) rfl (j := 1) rfl hq14) ([32] : List UInt8) (by decide) _ h72 _ h.startAll
    refine q_callX hX h rfl rfl rfl (by decide) Tryd.func20 rfl rfl rfl (fun a w v L1 S1 hR hb1 h => ?_)
    obtain ⟨rfl, rfl, hr74, _⟩ := hR
    refine s_assign h rfl _ rfl rfl (by decide) rfl (fun a h => ?_)
    refine l_end ?_
    refine wp_ret ?_
    rw [← Option.some.inj hf]
    exact r_ret1 h rfl (rv_tmp h rfl) ⟨_, [], _, rfl, ⟨rfl, rfl, hr74, trivial⟩, rfl, (Up.refl _ _ _), (h.m.pick [1] _ (by decide) rfl)⟩
end
end Go.Proofs.YtnmeelkfpmodgaaDoor
