/- Sj: Go functions as plain functions, and that they are so (written by xt.py). -/
import Derived.Test.YtnmeelkfpmodgaaDoorSd
import Derived.Test.YtnmeelkfpmodgaaDoorBd
import Derived.Test.YtnmeelkfpmodgaaDoorRg
import Derived.Test.YtnmeelkfpmodgaaDoorRe
set_option linter.unusedVariables false
set_option linter.unusedSimpArgs false
namespace Go.Proofs.YtnmeelkfpmodgaaDoor
open Go.RowKit
def show_plain_1 (Fu : Nat) (a0 : Int) : Option Bool :=
  some ((decide (a0 < 32)) || (decide (126 < a0)))
set_option maxRecDepth 100000 in
set_option maxHeartbeats 2000000 in
theorem show_plain_1_ok (Fu : Nat) {S0 : Snap} (a0 : Int) (hra0 : r32 a0) (r : Bool) (hf : show_plain_1 Fu a0 = some r) (w0 : World) (hm : Mem w0 (ownL ([] ++ [.sn S0])) ([] ++ [.sn S0]) w0) :
    Calls Tryd.prog 38 #[.int .i32 a0] w0 (Ret w0 S0 [] (fun v L1 S1 => v = .bool r ∧ L1 = [] ∧ True)) := by
  unfold show_plain_1 at hf
  refine c_enterM Tryd.func38 rfl 9 rfl (by simp) _ hm _ rfl (fun a h => ?_)
  refine c_rs ?_ -- region 0
  refine s_assign h rfl _ rfl rfl (by decide) rfl (fun a h => ?_)
  refine l_end ?_
  refine c_rs ?_ -- region 1
  refine s_move h rfl _ rfl rfl (by decide) rfl (fun a h => ?_)
  refine s_x h rfl rfl (by decide) (x_bin h.k rfl rfl rfl ib_lss) (fun a h => ?_)
  refine s_move h rfl _ rfl rfl (by decide) rfl (fun a h => ?_)
  refine q_grp h 3 (t := 5) 8 ((decide (a0 < 32)) || (decide (126 < a0))) rfl (fun hB2 => ?_) (fun hB2 => ?_) (fun a w h => ?_)
  · refine g_no h rfl rfl rfl rfl hB2 rfl (by decide) (fun a h => ?_)
    refine g_no h rfl rfl rfl rfl hB2 rfl (by decide) (fun a h => ?_)
    refine s_x h rfl rfl (by decide) (x_pick (u' := undef) h.k rfl rfl (fun _ => rfl) (fun hh => absurd (hB2.symm.trans hh) (by decide))) (fun a h => ?_)
    exact (h.mid 2 rfl).val (by first | rfl | (rw [hB2]; first | rfl | simp))
  · refine g_yes h rfl rfl rfl rfl hB2 ?_
    refine s_move h rfl _ rfl rfl (by decide) rfl (fun a h => ?_)
    refine g_yes h rfl rfl rfl rfl hB2 ?_
    refine s_x h rfl rfl (by decide) (x_bin h.k rfl rfl rfl ib_gtr) (fun a h => ?_)
    refine s_x h rfl rfl (by decide) (x_pick (u' := undef) h.k rfl rfl (fun hh => absurd (hB2.symm.trans hh) (by decide)) (fun _ => rfl)) (fun a h => ?_)
    exact (h.mid 2 rfl).val (by first | rfl | (rw [hB2]; first | rfl | simp))
  refine s_assign h rfl _ rfl rfl (by decide) rfl (fun a h => ?_)
  refine l_end ?_
  refine wp_ret ?_
  obtain rfl := Option.some.inj hf
  exact r_ret1 h rfl (rv_tmp h rfl) ⟨_, [], _, rfl, ⟨rfl, rfl, trivial⟩, rfl, (Up.refl _ _ _), h.m⟩
def strings_indexFunc_clo1_38_0_0_l0 (Fu : Nat) (a0 : List UInt8) (a2 : Bool) : Nat → Nat → Option (Sum Int Unit)
  | 0, _ => none
  | k + 1, x4 => (match rnx a0 x4 with | .inl _ => (some (.inr ())) | .inr y8 => ((show_plain_1 Fu y8.1).bind fun x9 => if (x9 == a2) = true then (some (.inl (x4 : Int))) else (strings_indexFunc_clo1_38_0_0_l0 Fu a0 a2 k y8.2)))
def strings_indexFunc_clo1_38_0_0 (Fu : Nat) (a0 : List UInt8) (a2 : Bool) : Option Int :=
  (strings_indexFunc_clo1_38_0_0_l0 Fu a0 a2 Fu 0).bind fun o => match o with | .inl r12 => some r12 | .inr _ => some (-1)
set_option maxRecDepth 100000 in
set_option maxHeartbeats 2000000 in
theorem strings_indexFunc_clo1_38_0_0_ok (Fu : Nat) {S0 : Snap} (a0 : List UInt8) (hra0 : a0.length ≤ maxLen) (a2 : Bool) (r : Int) (hf : strings_indexFunc_clo1_38_0_0 Fu a0 a2 = some r) (w0 : World) (hm : Mem w0 (ownL ([] ++ [.sn S0])) ([] ++ [.sn S0]) w0) :
    Calls Tryd.prog 61 #[.string (sb a0), .func (.func 38) [].toArray [].toArray, .bool a2] w0 (Ret w0 S0 [] (fun v L1 S1 => v = .int .i64 r ∧ L1 = [] ∧ r64 r ∧ True)) := by
  unfold strings_indexFunc_clo1_38_0_0 at hf
  refine c_enterM Tryd.func61 rfl 21 rfl (by simp) _ hm _ rfl (fun a h => ?_)
  refine c_rs ?_ -- region 0
  refine s_assign h rfl _ rfl rfl (by decide) rfl (fun a h => ?_)
  refine l_end ?_
  refine wp_seq ?_
  refine c_rs ?_ -- region 1
  refine s_move h rfl _ rfl rfl (by decide) rfl (fun a h => ?_)
  refine s_range h rfl rfl rfl (by decide) Tryd.underlying9 rfl (fun a w g1 h => ?_)
  refine l_end ?_
  obtain ⟨o2, hl3, hf⟩ := bsome hf
  refine c_fin (fun a w => (.inr ()) = o2 ∧ St 21 w0 (ownL ([] ++ [.sn S0])) [] [.sn S0] a w) ?_ ?_
  · refine wp_block ?_
    refine c_loop (fun m6 a w => ∃ (x4 : Nat), strings_indexFunc_clo1_38_0_0_l0 Fu a0 a2 m6 x4 = some o2 ∧ St 21 w0 (ownL ([] ++ [.sn S0])) [(1, .func (.func 38) [].toArray [].toArray), (2, .bool a2), (10, .pointer (some ⟨g1, 0, none⟩))] [.obj g1 (.stringIter (sb a0) x4), .sn S0] a w) Fu ⟨0, hl3, h.has (by exact ⟨rfl, rfl, rfl, trivial⟩)⟩ (fun m6 a w hI => ?_)
    obtain ⟨x4, hl5, h⟩ := hI
    obtain _ | m6 := m6
    · rw [strings_indexFunc_clo1_38_0_0_l0] at hl5; cases hl5
    rw [strings_indexFunc_clo1_38_0_0_l0] at hl5
    refine c_rs ?_ -- region 2
    refine s_next h rfl rfl rfl (by decide) rfl 0 rfl (fun hn7 a h => ?_) (fun y8 hn7 a w h => ?_)
    · rw [hn7] at hl5
      dsimp only at hl5
      refine s_x h rfl rfl (by decide) (x_ext h.k rfl rfl rfl) (fun a h => ?_)
      refine l_end ?_
      refine c_cs h rfl (fun hb => ?_) (fun hb => ?_)
      · exact absurd hb (by decide)
      · refine wp_exit ?_
        refine e_thenX ?_
        refine e_thenX ?_
        refine e_blkX ?_
        refine e_thenN ?_
        have h := h.pick [1] (by decide) rfl
        exact ⟨(Option.some.inj hl5), h.has trivial⟩
    · rw [hn7] at hl5
      dsimp only at hl5
      refine s_x h rfl rfl (by decide) (x_ext h.k rfl rfl rfl) (fun a h => ?_)
      refine l_end ?_
      refine c_cs h rfl (fun hb => ?_) (fun hb => ?_)
      · refine wp_skip ?_
        refine e_thenN ?_
        refine wp_block ?_
        refine c_rs ?_ -- region 3
        refine s_x h rfl rfl (by decide) (x_ext h.k rfl rfl rfl) (fun a h => ?_)
        refine s_x h rfl rfl (by decide) (x_ext h.k rfl rfl rfl) (fun a h => ?_)
        refine s_assign h rfl _ rfl rfl (by decide) rfl (fun a h => ?_)
        refine s_assign h rfl _ rfl rfl (by decide) rfl (fun a h => ?_)
        refine l_end ?_
        refine c_rs ?_ -- region 4
        refine s_move h rfl _ rfl rfl (by decide) rfl (fun a h => ?_)
        refine s_move h rfl _ rfl rfl (by decide) rfl (fun a h => ?_)
        obtain ⟨x9, h10, hl5⟩ := bsome hl5
        have hX := show_plain_1_ok Fu (S0 := snapAll _) y8.1 (rnx_r32 hn7) _ h10 _ h.startAll
        refine q_callXV hX h rfl rfl rfl (by decide) rfl Tryd.func38 rfl rfl [.int .i32 y8.1] rfl rfl (fun a w v L1 S1 hR hb1 h => ?_)
        obtain ⟨rfl, rfl, _⟩ := hR
        refine s_move h rfl _ rfl rfl (by decide) rfl (fun a h => ?_)
        refine s_x h rfl rfl (by decide) (x_eqlB h.k rfl Tryd.underlying4 rfl rfl) (fun a h => ?_)
        refine l_end ?_
        refine c_cond h rfl (fun hb => ?_) (fun hb => ?_)
        · rw [if_pos hb] at hl5
          refine c_rs ?_ -- region 5
          refine s_move h rfl _ rfl rfl (by decide) rfl (fun a h => ?_)
          refine s_assign h rfl _ rfl rfl (by decide) rfl (fun a h => ?_)
          refine l_end ?_
          refine wp_ret ?_
          refine e_blkR ?_
          refine e_thenR ?_
          refine e_blkR ?_
          refine e_thenR ?_
          cases hl5
          try dsimp only at hf
          refine e_thenR ?_
          obtain rfl := Option.some.inj hf
          exact r_ret1 h rfl (rv_tmp h rfl) ⟨_, [], _, rfl, ⟨rfl, rfl, (rnx_r64 hn7 hra0), trivial⟩, rfl, (Up.refl _ _ _), (h.m.pick [1] _ (by decide) rfl)⟩
        · rw [if_neg (by rw [hb]; decide)] at hl5
          refine wp_skip ?_
          refine e_blkN ?_
          exact e_thenN ⟨m6, Nat.lt_succ_self _, y8.2, hl5, h.has (by exact ⟨rfl, rfl, rfl, trivial⟩)⟩
      · exact absurd hb (by decide)
  · rintro a w ⟨rfl, h⟩
    try dsimp only at hf
    refine e_thenN ?_
    refine c_rs ?_ -- region 6
    refine s_assign h rfl _ rfl rfl (by decide) rfl (fun a h => ?_)
    refine l_end ?_
    refine wp_ret ?_
    obtain rfl := Option.some.inj hf
    exact r_ret1 h rfl (rv_tmp h rfl) ⟨_, [], _, rfl, ⟨rfl, rfl, (show r64 (-1) from ⟨by decide, by decide⟩), trivial⟩, rfl, (Up.refl _ _ _), h.m⟩
def strings_IndexFunc_clo1_38_0_0 (Fu : Nat) (a0 : List UInt8) : Option Int :=
  (strings_indexFunc_clo1_38_0_0 Fu a0 true).bind fun x1 => some x1
set_option maxRecDepth 100000 in
set_option maxHeartbeats 2000000 in
theorem strings_IndexFunc_clo1_38_0_0_ok (Fu : Nat) {S0 : Snap} (a0 : List UInt8) (hra0 : a0.length ≤ maxLen) (r : Int) (hf : strings_IndexFunc_clo1_38_0_0 Fu a0 = some r) (w0 : World) (hm : Mem w0 (ownL ([] ++ [.sn S0])) ([] ++ [.sn S0]) w0) :
    Calls Tryd.prog 48 #[.string (sb a0), .func (.func 38) [].toArray [].toArray] w0 (Ret w0 S0 [] (fun v L1 S1 => v = .int .i64 r ∧ L1 = [] ∧ r64 r ∧ True)) := by
  unfold strings_IndexFunc_clo1_38_0_0 at hf
  refine c_enterM Tryd.func48 rfl 8 rfl (by simp) _ hm _ rfl (fun a h => ?_)
  refine c_rs ?_ -- region 0
  refine s_assign h rfl _ rfl rfl (by decide) rfl (fun a h => ?_)
  refine l_end ?_
  refine c_rs ?_ -- region 1
  refine s_move h rfl _ rfl rfl (by decide) rfl (fun a h => ?_)
  refine s_move h rfl _ rfl rfl (by decide) rfl (fun a h => ?_)
  obtain ⟨x1, h2, hf⟩ := bsome hf
  have hX := strings_indexFunc_clo1_38_0_0_ok Fu (S0 := snapAll _) a0 hra0 true _ h2 _ h.startAll
  refine q_callX hX h rfl rfl rfl (by decide) Tryd.func61 rfl rfl rfl (fun a w v L1 S1 hR hb1 h => ?_)
  obtain ⟨rfl, rfl, hr4, _⟩ := hR
  refine s_assign h rfl _ rfl rfl (by decide) rfl (fun a h => ?_)
  refine l_end ?_
  refine wp_ret ?_
  rw [← Option.some.inj hf]
  exact r_ret1 h rfl (rv_tmp h rfl) ⟨_, [], _, rfl, ⟨rfl, rfl, hr4, trivial⟩, rfl, (Up.refl _ _ _), h.m⟩
def strings_ContainsFunc_clo1_38_0_0 (Fu : Nat) (a0 : List UInt8) : Option Bool :=
  (strings_IndexFunc_clo1_38_0_0 Fu a0).bind fun x1 => some (decide (0 ≤ x1))
set_option maxRecDepth 100000 in
set_option maxHeartbeats 2000000 in
theorem strings_ContainsFunc_clo1_38_0_0_ok (Fu : Nat) {S0 : Snap} (a0 : List UInt8) (hra0 : a0.length ≤ maxLen) (r : Bool) (hf : strings_ContainsFunc_clo1_38_0_0 Fu a0 = some r) (w0 : World) (hm : Mem w0 (ownL ([] ++ [.sn S0])) ([] ++ [.sn S0]) w0) :
    Calls Tryd.prog 37 #[.string (sb a0), .func (.func 38) [].toArray [].toArray] w0 (Ret w0 S0 [] (fun v L1 S1 => v = .bool r ∧ L1 = [] ∧ True)) := by
  unfold strings_ContainsFunc_clo1_38_0_0 at hf
  refine c_enterM Tryd.func37 rfl 9 rfl (by simp) _ hm _ rfl (fun a h => ?_)
  refine c_rs ?_ -- region 0
  refine s_assign h rfl _ rfl rfl (by decide) rfl (fun a h => ?_)
  refine l_end ?_
  refine c_rs ?_ -- region 1
  refine s_move h rfl _ rfl rfl (by decide) rfl (fun a h => ?_)
  refine s_move h rfl _ rfl rfl (by decide) rfl (fun a h => ?_)
  obtain ⟨x1, h2, hf⟩ := bsome hf
  have hX := strings_IndexFunc_clo1_38_0_0_ok Fu (S0 := snapAll _) a0 hra0 _ h2 _ h.startAll
  refine q_callX hX h rfl rfl rfl (by decide) Tryd.func48 rfl rfl rfl (fun a w v L1 S1 hR hb1 h => ?_)
  obtain ⟨rfl, rfl, hr4, _⟩ := hR
  refine s_x h rfl rfl (by decide) (x_bin h.k rfl rfl rfl ib_geq) (fun a h => ?_)
  refine s_assign h rfl _ rfl rfl (by decide) rfl (fun a h => ?_)
  refine l_end ?_
  refine wp_ret ?_
  obtain rfl := Option.some.inj hf
  exact r_ret1 h rfl (rv_tmp h rfl) ⟨_, [], _, rfl, ⟨rfl, rfl, trivial⟩, rfl, (Up.refl _ _ _), h.m⟩
def show_plain (Fu : Nat) (a0 : List UInt8) : Option Bool :=
  (strings_ContainsFunc_clo1_38_0_0 Fu a0).bind fun x1 => some (!x1)
set_option maxRecDepth 100000 in
set_option maxHeartbeats 2000000 in
theorem show_plain_ok (Fu : Nat) {S0 : Snap} (a0 : List UInt8) (hra0 : a0.length ≤ maxLen) (r : Bool) (hf : show_plain Fu a0 = some r) (w0 : World) (hm : Mem w0 (ownL ([] ++ [.sn S0])) ([] ++ [.sn S0]) w0) :
    Calls Tryd.prog 29 #[.string (sb a0)] w0 (Ret w0 S0 [] (fun v L1 S1 => v = .bool r ∧ L1 = [] ∧ True)) := by
  unfold show_plain at hf
  refine c_enterM Tryd.func29 rfl 6 rfl (by simp) _ hm _ rfl (fun a h => ?_)
  refine c_rs ?_ -- region 0
  refine s_assign h rfl _ rfl rfl (by decide) rfl (fun a h => ?_)
  refine l_end ?_
  refine c_rs ?_ -- region 1
  refine s_move h rfl _ rfl rfl (by decide) rfl (fun a h => ?_)
  obtain ⟨x1, h2, hf⟩ := bsome hf
  have hX := strings_ContainsFunc_clo1_38_0_0_ok Fu (S0 := snapAll _) a0 hra0 _ h2 _ h.startAll
  refine q_callX hX h rfl rfl rfl (by decide) Tryd.func37 rfl rfl rfl (fun a w v L1 S1 hR hb1 h => ?_)
  obtain ⟨rfl, rfl, _⟩ := hR
  refine s_x h rfl rfl (by decide) (x_not h.k rfl rfl) (fun a h => ?_)
  refine s_assign h rfl _ rfl rfl (by decide) rfl (fun a h => ?_)
  refine l_end ?_
  refine wp_ret ?_
  obtain rfl := Option.some.inj hf
  exact r_ret1 h rfl (rv_tmp h rfl) ⟨_, [], _, rfl, ⟨rfl, rfl, trivial⟩, rfl, (Up.refl _ _ _), h.m⟩
def show_Table_1 (Fu : Nat) (a0 : List UInt8) : Option Bool :=
  (show_plain Fu a0).bind fun x1 => some (!x1)
set_option maxRecDepth 100000 in
set_option maxHeartbeats 2000000 in
theorem show_Table_1_ok (Fu : Nat) {S0 : Snap} (a0 : List UInt8) (hra0 : a0.length ≤ maxLen) (r : Bool) (hf : show_Table_1 Fu a0 = some r) (w0 : World) (hm : Mem w0 (ownL ([] ++ [.sn S0])) ([] ++ [.sn S0]) w0) :
    Calls Tryd.prog 28 #[.string (sb a0)] w0 (Ret w0 S0 [] (fun v L1 S1 => v = .bool r ∧ L1 = [] ∧ True)) := by
  unfold show_Table_1 at hf
  refine c_enterM Tryd.func28 rfl 6 rfl (by simp) _ hm _ rfl (fun a h => ?_)
  refine c_rs ?_ -- region 0
  refine s_assign h rfl _ rfl rfl (by decide) rfl (fun a h => ?_)
  refine l_end ?_
  refine c_rs ?_ -- region 1
  refine s_move h rfl _ rfl rfl (by decide) rfl (fun a h => ?_)
  obtain ⟨x1, h2, hf⟩ := bsome hf
  have hX := show_plain_ok Fu (S0 := snapAll _) a0 hra0 _ h2 _ h.startAll
  refine q_callX hX h rfl rfl rfl (by decide) Tryd.func29 rfl rfl rfl (fun a w v L1 S1 hR hb1 h => ?_)
  obtain ⟨rfl, rfl, _⟩ := hR
  refine s_x h rfl rfl (by decide) (x_not h.k rfl rfl) (fun a h => ?_)
  refine s_assign h rfl _ rfl rfl (by decide) rfl (fun a h => ?_)
  refine l_end ?_
  refine wp_ret ?_
  obtain rfl := Option.some.inj hf
  exact r_ret1 h rfl (rv_tmp h rfl) ⟨_, [], _, rfl, ⟨rfl, rfl, trivial⟩, rfl, (Up.refl _ _ _), h.m⟩
def slices_IndexFunc___string_string_clo1_28_0_0_l0 (Fu : Nat) (a0 : List (List UInt8)) : Nat → Int → Option (Sum Int Unit)
  | 0, _ => none
  | k + 1, x3 => if x3 < (a0.length : Int) then ((idx a0 x3).bind fun x7 => (show_Table_1 Fu x7).bind fun x21 => if x21 = true then (some (.inl x3)) else (slices_IndexFunc___string_string_clo1_28_0_0_l0 Fu a0 k (w64 (x3 + 1)))) else (some (.inr ()))
def slices_IndexFunc___string_string_clo1_28_0_0 (Fu : Nat) (a0 : List (List UInt8)) : Option Int :=
  (slices_IndexFunc___string_string_clo1_28_0_0_l0 Fu a0 Fu 0).bind fun o => match o with | .inl r24 => some r24 | .inr _ => some (-1)
set_option maxRecDepth 100000 in
set_option maxHeartbeats 2000000 in
theorem slices_IndexFunc___string_string_clo1_28_0_0_ok (Fu : Nat) {S0 : Snap} (Aa0 : Option Addr) (ca0 : Nat) (a0 : List (List UInt8)) (hsa0 : slS tyS S0 Aa0 ca0 a0) (r : Int) (hf : slices_IndexFunc___string_string_clo1_28_0_0 Fu a0 = some r) (w0 : World) (hm : Mem w0 (ownL ([] ++ [.sn S0])) ([] ++ [.sn S0]) w0) :
    Calls Tryd.prog 36 #[.slice Aa0 a0.length ca0, .func (.func 28) [].toArray [].toArray] w0 (Ret w0 S0 [] (fun v L1 S1 => v = .int .i64 r ∧ L1 = [] ∧ r64 r ∧ True)) := by
  unfold slices_IndexFunc___string_string_clo1_28_0_0 at hf
  refine c_enterM Tryd.func36 rfl 19 rfl (by simp) _ hm _ rfl (fun a h => ?_)
  refine c_rs ?_ -- region 0
  refine s_assign h rfl _ rfl rfl (by decide) rfl (fun a h => ?_)
  refine l_end ?_
  refine wp_seq ?_
  refine c_rs ?_ -- region 1
  refine s_move h rfl _ rfl rfl (by decide) rfl (fun a h => ?_)
  refine s_x h rfl rfl (by decide) (x_len h.k rfl Tryd.underlying39 rfl) (fun a h => ?_)
  refine s_move h rfl _ rfl rfl (by decide) rfl (fun a h => ?_)
  refine l_end ?_
  obtain ⟨o1, hl2, hf⟩ := bsome hf
  refine c_fin (fun a w => (.inr ()) = o1 ∧ St 19 w0 (ownL ([] ++ [.sn S0])) [] [.sn S0] a w) ?_ ?_
  · refine wp_block ?_
    refine c_loop (fun m6 a w => ∃ (x3 : Int), slices_IndexFunc___string_string_clo1_28_0_0_l0 Fu a0 m6 x3 = some o1 ∧ r64 x3 ∧ St 19 w0 (ownL ([] ++ [.sn S0])) [(0, .slice Aa0 a0.length ca0), (1, .func (.func 28) [].toArray [].toArray), (7, .int .i64 (a0.length : Int)), (8, .int .i64 x3)] [.sn S0] a w) Fu ⟨0, hl2, (show r64 0 from ⟨by decide, by decide⟩), h.has (by exact ⟨rfl, rfl, rfl, rfl, trivial⟩)⟩ (fun m6 a w hI => ?_)
    obtain ⟨x3, hl5, hr4, h⟩ := hI
    obtain _ | m6 := m6
    · rw [slices_IndexFunc___string_string_clo1_28_0_0_l0] at hl5; cases hl5
    rw [slices_IndexFunc___string_string_clo1_28_0_0_l0] at hl5
    refine c_rs ?_ -- region 2
    refine s_x h rfl rfl (by decide) (x_bin h.k rfl rfl rfl ib_lss) (fun a h => ?_)
    refine l_end ?_
    refine c_cs h rfl (fun hb => ?_) (fun hb => ?_)
    · rw [if_pos (of_decide_eq_true hb)] at hl5
      refine wp_skip ?_
      refine e_thenN ?_
      refine wp_seq ?_
      refine wp_block ?_
      refine c_rs ?_ -- region 3
      refine s_move h rfl _ rfl rfl (by decide) rfl (fun a h => ?_)
      refine s_assign h rfl _ rfl rfl (by decide) rfl (fun a h => ?_)
      refine l_end ?_
      refine c_rs ?_ -- region 4
      refine s_move h rfl _ rfl rfl (by decide) rfl (fun a h => ?_)
      refine s_move h rfl _ rfl rfl (by decide) rfl (fun a h => ?_)
      refine s_move h rfl _ rfl rfl (by decide) rfl (fun a h => ?_)
      obtain ⟨x7, h11, hl5⟩ := bsome hl5
      obtain ⟨m8, hi12, hm13, hx14⟩ := idx_some h11
      obtain ⟨b9, off10, k15, hA16, hu17, hc18⟩ := (hsa0).at1 rfl hx14 (h.m.snOK (i := 0) rfl)
      obtain ⟨e20, hr19⟩ := hu17
      cases e20
      refine s_x h rfl rfl (by decide) (x_iaddrE h.k rfl Tryd.underlying39 sz_string hA16 rfl rfl hi12 hm13) (fun a h => ?_)
      refine s_x h rfl rfl (by decide) (x_ld h.k rfl Tryd.underlying9 rfl rfl (hc18 _ (h.m.snOK (i := 0) rfl))) (fun a h => ?_)
      obtain ⟨x21, h22, hl5⟩ := bsome hl5
      have hX := show_Table_1_ok Fu (S0 := snapAll _) x7 hr19 _ h22 _ h.startAll
      refine q_callXV hX h rfl rfl rfl (by decide) rfl Tryd.func28 rfl rfl [.string (sb x7)] rfl rfl (fun a w v L1 S1 hR hb1 h => ?_)
      obtain ⟨rfl, rfl, _⟩ := hR
      refine l_end ?_
      refine c_cond h rfl (fun hb => ?_) (fun hb => ?_)
      · rw [if_pos hb] at hl5
        refine c_rs ?_ -- region 5
        refine s_move h rfl _ rfl rfl (by decide) rfl (fun a h => ?_)
        refine s_assign h rfl _ rfl rfl (by decide) rfl (fun a h => ?_)
        refine l_end ?_
        refine wp_ret ?_
        refine e_blkR ?_
        refine e_thenR ?_
        refine e_thenR ?_
        refine e_blkR ?_
        refine e_thenR ?_
        cases hl5
        try dsimp only at hf
        refine e_thenR ?_
        rw [← Option.some.inj hf]
        exact r_ret1 h rfl (rv_tmp h rfl) ⟨_, [], _, rfl, ⟨rfl, rfl, hr4, trivial⟩, rfl, (Up.refl _ _ _), h.m⟩
      · rw [if_neg (by rw [hb]; decide)] at hl5
        refine wp_skip ?_
        refine e_blkN ?_
        refine e_thenN ?_
        refine c_r ?_ -- region 6
        refine s_x h rfl rfl (by decide) (x_bin h.k rfl rfl rfl (ib_add rfl)) (fun a h => ?_)
        refine s_move h rfl _ rfl rfl (by decide) rfl (fun a h => ?_)
        refine l_nil ?_
        exact e_thenN ⟨m6, Nat.lt_succ_self _, w64 (x3 + 1), hl5, (w64_r _), h.has (by exact ⟨rfl, rfl, rfl, rfl, trivial⟩)⟩
    · rw [if_neg (of_decide_eq_false hb)] at hl5
      refine wp_exit ?_
      refine e_thenX ?_
      refine e_thenX ?_
      refine e_blkX ?_
      refine e_thenN ?_
      exact ⟨(Option.some.inj hl5), h.has trivial⟩
  · rintro a w ⟨rfl, h⟩
    try dsimp only at hf
    refine e_thenN ?_
    refine c_rs ?_ -- region 7
    refine s_assign h rfl _ rfl rfl (by decide) rfl (fun a h => ?_)
    refine l_end ?_
    refine wp_ret ?_
    obtain rfl := Option.some.inj hf
    exact r_ret1 h rfl (rv_tmp h rfl) ⟨_, [], _, rfl, ⟨rfl, rfl, (show r64 (-1) from ⟨by decide, by decide⟩), trivial⟩, rfl, (Up.refl _ _ _), h.m⟩
def slices_ContainsFunc___string_string_clo1_28_0_0 (Fu : Nat) (a0 : List (List UInt8)) : Option Bool :=
  (slices_IndexFunc___string_string_clo1_28_0_0 Fu a0).bind fun x1 => some (decide (0 ≤ x1))
set_option maxRecDepth 100000 in
set_option maxHeartbeats 2000000 in
theorem slices_ContainsFunc___string_string_clo1_28_0_0_ok (Fu : Nat) {S0 : Snap} (Aa0 : Option Addr) (ca0 : Nat) (a0 : List (List UInt8)) (hsa0 : slS tyS S0 Aa0 ca0 a0) (r : Bool) (hf : slices_ContainsFunc___string_string_clo1_28_0_0 Fu a0 = some r) (w0 : World) (hm : Mem w0 (ownL ([] ++ [.sn S0])) ([] ++ [.sn S0]) w0) :
    Calls Tryd.prog 27 #[.slice Aa0 a0.length ca0, .func (.func 28) [].toArray [].toArray] w0 (Ret w0 S0 [] (fun v L1 S1 => v = .bool r ∧ L1 = [] ∧ True)) := by
  unfold slices_ContainsFunc___string_string_clo1_28_0_0 at hf
  refine c_enterM Tryd.func27 rfl 9 rfl (by simp) _ hm _ rfl (fun a h => ?_)
  refine c_rs ?_ -- region 0
  refine s_assign h rfl _ rfl rfl (by decide) rfl (fun a h => ?_)
  refine l_end ?_
  refine c_rs ?_ -- region 1
  refine s_move h rfl _ rfl rfl (by decide) rfl (fun a h => ?_)
  refine s_move h rfl _ rfl rfl (by decide) rfl (fun a h => ?_)
  obtain ⟨x1, h2, hf⟩ := bsome hf
  have hX := slices_IndexFunc___string_string_clo1_28_0_0_ok Fu (S0 := snapAll _) Aa0 ca0 a0 (hsa0.mono (h.m.leAll (i := 0) rfl)) _ h2 _ h.startAll
  refine q_callX hX h rfl rfl rfl (by decide) Tryd.func36 rfl rfl rfl (fun a w v L1 S1 hR hb1 h => ?_)
  obtain ⟨rfl, rfl, hr4, _⟩ := hR
  refine s_x h rfl rfl (by decide) (x_bin h.k rfl rfl rfl ib_geq) (fun a h => ?_)
  refine s_assign h rfl _ rfl rfl (by decide) rfl (fun a h => ?_)
  refine l_end ?_
  refine wp_ret ?_
  obtain rfl := Option.some.inj hf
  exact r_ret1 h rfl (rv_tmp h rfl) ⟨_, [], _, rfl, ⟨rfl, rfl, trivial⟩, rfl, (Up.refl _ _ _), h.m⟩
def show_Table_l1 (Fu : Nat) (x16 : List (List UInt8)) : Nat → Int → (List (Int × Int)) → Option ((List (Int × Int)))
  | 0, _, _ => none
  | k + 1, x40, x42 => if x40 < (x16.length : Int) then ((idx x16 x40).bind fun x52 => show_Table_l1 Fu x16 k (w64 (x40 + 1)) (aset x40 (mx ((aget x40 x42).getD 0) (x52.length : Int)) x42)) else (some x42)
def show_Table_l0 (Fu : Nat) (a0 : List (List (List UInt8))) : Nat → Int → (List (Int × Int)) → Option (Sum ((List UInt8) × Bool) ((List (Int × Int))))
  | 0, _, _ => none
  | k + 1, x4, x6 => if x4 < (a0.length : Int) then ((idx a0 x4).bind fun x16 => (if 1024 < (x16.length : Int) then some true else (slices_ContainsFunc___string_string_clo1_28_0_0 Fu x16).bind fun x35 => some x35).bind fun z33 => if z33 = true then (some (.inl (([] : List UInt8), false))) else ((show_Table_l1 Fu x16 Fu 0 x6).bind fun x46 => show_Table_l0 Fu a0 k (w64 (x4 + 1)) x46)) else (some (.inr x6))
def show_Table_l3 (Fu : Nat) (x10 : List (Int × Int)) (x99 : List (List UInt8)) : Nat → Int → (Bool × (List UInt8)) → Option ((Bool × (List UInt8)))
  | 0, _, _ => none
  | k + 1, x120, x122 => if x120 < (x99.length : Int) then (((idx x99 x120).bind fun x147 => (strings_Builder_WriteString Fu x122 x147).bind fun x161 => if x120 < w64 ((x99.length : Int) - 1) then ((strings_Repeat Fu ([32] : List UInt8) (w64 ((w64 (((aget x120 x10).getD 0) - (x147.length : Int))) + 1))).bind fun x177 => (strings_Builder_WriteString Fu x161.2 x177).bind fun x181 => some x181.2) else (some x161.2)).bind fun x142 => show_Table_l3 Fu x10 x99 k (w64 (x120 + 1)) x142) else (some x122)
def show_Table_l2 (Fu : Nat) (a0 : List (List (List UInt8))) (x10 : List (Int × Int)) : Nat → Int → (Bool × (List UInt8)) → Option ((Bool × (List UInt8)))
  | 0, _, _ => none
  | k + 1, x81, x83 => if x81 < (a0.length : Int) then ((idx a0 x81).bind fun x99 => (show_Table_l3 Fu x10 x99 Fu 0 x83).bind fun x130 => (strings_Builder_WriteByte Fu x130 (10 : UInt8)).bind fun x193 => show_Table_l2 Fu a0 x10 k (w64 (x81 + 1)) x193) else (some x83)
def show_Table (Fu : Nat) (a0 : List (List (List UInt8))) : Option ((List UInt8) × Bool) :=
  if 1024 < (a0.length : Int) then (some (([] : List UInt8), false)) else ((show_Table_l0 Fu a0 Fu 0 ([])).bind fun o => match o with | .inl r212 => some r212 | .inr x10 => (show_Table_l2 Fu a0 x10 Fu 0 (false, [])).bind fun x91 => (strings_Builder_String Fu x91).bind fun x204 => some (x204, true))
set_option maxRecDepth 100000 in
set_option maxHeartbeats 2000000 in
theorem show_Table_ok (Fu : Nat) {S0 : Snap} (Aa0 : Option Addr) (ca0 : Nat) (a0 : List (List (List UInt8))) (hsa0 : slS (tyL tyS) S0 Aa0 ca0 a0) (r : (List UInt8) × Bool) (hf : show_Table Fu a0 = some r) (w0 : World) (hm : Mem w0 (ownL ([] ++ [.sn S0])) ([] ++ [.sn S0]) w0) :
    Calls Tryd.prog 13 #[.slice Aa0 a0.length ca0] w0 (Ret w0 S0 [] (fun v L1 S1 => v = .tuple #[.string (sb r.1), .bool r.2] ∧ L1 = [] ∧ r.1.length ≤ maxLen ∧ True)) := by
  unfold show_Table at hf
  refine c_enterM Tryd.func13 rfl 81 rfl (by simp) _ hm _ rfl (fun a h => ?_)
  refine c_rs ?_ -- region 0
  refine s_assign h rfl _ rfl rfl (by decide) rfl (fun a h => ?_)
  refine s_assign h rfl _ rfl rfl (by decide) rfl (fun a h => ?_)
  refine l_end ?_
  refine wp_seq ?_
  refine c_rs ?_ -- region 1
  refine s_move h rfl _ rfl rfl (by decide) rfl (fun a h => ?_)
  refine s_x h rfl rfl (by decide) (x_len h.k rfl Tryd.underlying38 rfl) (fun a h => ?_)
  refine s_x h rfl rfl (by decide) (x_bin h.k rfl rfl rfl ib_gtr) (fun a h => ?_)
  refine l_end ?_
  refine c_cond h rfl (fun hb => ?_) (fun hb => ?_)
  · rw [if_pos (of_decide_eq_true hb)] at hf
    refine c_rs ?_ -- region 2
    refine s_assign h rfl _ rfl rfl (by decide) rfl (fun a h => ?_)
    refine s_assign h rfl _ rfl rfl (by decide) rfl (fun a h => ?_)
    refine l_end ?_
    refine wp_ret ?_
    refine e_thenR ?_
    obtain rfl := Option.some.inj hf
    exact r_ret2 h rfl (rv_tmp h rfl) (rv_tmp h rfl) ⟨_, [], _, rfl, ⟨rfl, rfl, (by decide), trivial⟩, rfl, (Up.refl _ _ _), h.m⟩
  · rw [if_neg (of_decide_eq_false hb)] at hf
    refine wp_skip ?_
    refine e_thenN ?_
    refine c_rs ?_ -- region 3
    refine s_makeMap h rfl rfl rfl (by decide) (fun a w g1 h => ?_)
    refine s_assign h rfl _ rfl rfl (by decide) rfl (fun a h => ?_)
    refine l_end ?_
    refine wp_seq ?_
    refine c_rs ?_ -- region 4
    refine s_move h rfl _ rfl rfl (by decide) rfl (fun a h => ?_)
    refine s_x h rfl rfl (by decide) (x_len h.k rfl Tryd.underlying38 rfl) (fun a h => ?_)
    refine s_move h rfl _ rfl rfl (by decide) rfl (fun a h => ?_)
    refine l_end ?_
    obtain ⟨o2, hl3, hf⟩ := bsome hf
    refine c_fin (fun a w => ∃ (x10 : List (Int × Int)), ∃ (es11 : Array MapEntry), ∃ (cl12 : Nat), (.inr x10) = o2 ∧ mpS keyI tyI false S0 es11 cl12 x10 ∧ St 81 w0 (ownL ([] ++ [.sn S0])) [(0, .slice Aa0 a0.length ca0), (4, .map (some g1))] [.obj g1 (.map es11 cl12), .sn S0] a w) ?_ ?_
    · refine wp_block ?_
      refine c_loop (fun m15 a w => ∃ (x4 : Int), ∃ (x6 : List (Int × Int)), ∃ (es7 : Array MapEntry), ∃ (cl8 : Nat), show_Table_l0 Fu a0 m15 x4 x6 = some o2 ∧ r64 x4 ∧ mpS keyI tyI false S0 es7 cl8 x6 ∧ St 81 w0 (ownL ([] ++ [.sn S0])) [(0, .slice Aa0 a0.length ca0), (4, .map (some g1)), (18, .slice Aa0 a0.length ca0), (19, .int .i64 (a0.length : Int)), (20, .int .i64 x4)] [.obj g1 (.map es7 cl8), .sn S0] a w) Fu ⟨0, [], #[], 0, hl3, (show r64 0 from ⟨by decide, by decide⟩), (mpS.nil _ _ _ _), h.has (by exact ⟨rfl, rfl, rfl, rfl, rfl, trivial⟩)⟩ (fun m15 a w hI => ?_)
      obtain ⟨x4, x6, es7, cl8, hl14, hr5, hm9, h⟩ := hI
      obtain _ | m15 := m15
      · rw [show_Table_l0] at hl14; cases hl14
      rw [show_Table_l0] at hl14
      refine c_rs ?_ -- region 5
      refine s_x h rfl rfl (by decide) (x_bin h.k rfl rfl rfl ib_lss) (fun a h => ?_)
      refine l_end ?_
      refine c_cs h rfl (fun hb => ?_) (fun hb => ?_)
      · rw [if_pos (of_decide_eq_true hb)] at hl14
        refine wp_skip ?_
        refine e_thenN ?_
        refine wp_seq ?_
        refine wp_block ?_
        refine c_rs ?_ -- region 6
        obtain ⟨x16, h20, hl14⟩ := bsome hl14
        obtain ⟨m17, hi21, hm22, hx23⟩ := idx_some h20
        obtain ⟨b18, off19, k24, hA25, hu26, hc27⟩ := (hsa0).at1 rfl hx23 (h.m.snOK (i := 1) rfl)
        obtain ⟨A28, c29, e31, hs30⟩ := hu26
        cases e31
        refine s_x h rfl rfl (by decide) (x_iaddrE h.k rfl Tryd.underlying38 sz_Sstring hA25 rfl rfl hi21 hm22) (fun a h => ?_)
        refine s_x h rfl rfl (by decide) (x_ld h.k rfl Tryd.underlying39 rfl rfl (hc27 _ (h.m.snOK (i := 1) rfl))) (fun a h => ?_)
        refine s_assign h rfl _ rfl rfl (by decide) rfl (fun a h => ?_)
        refine l_end ?_
        refine wp_seq ?_
        refine c_rs ?_ -- region 7
        refine s_move h rfl _ rfl rfl (by decide) rfl (fun a h => ?_)
        refine s_x h rfl rfl (by decide) (x_len h.k rfl Tryd.underlying39 rfl) (fun a h => ?_)
        refine s_x h rfl rfl (by decide) (x_bin h.k rfl rfl rfl ib_gtr) (fun a h => ?_)
        refine s_move h rfl _ rfl rfl (by decide) rfl (fun a h => ?_)
        obtain ⟨z33, hz32, hl14⟩ := bsome hl14
        refine q_grp h 3 (t := 27) 30 z33 rfl (fun hB3 => ?_) (fun hB3 => ?_) (fun a w h => ?_)
        · refine g_no h rfl rfl rfl rfl hB3 rfl (by decide) (fun a h => ?_)
          refine g_no h rfl rfl rfl rfl hB3 rfl (by decide) (fun a h => ?_)
          rw [if_pos (of_decide_eq_true hB3)] at hz32
          refine s_x h rfl rfl (by decide) (x_pick (u' := undef) h.k rfl rfl (fun _ => rfl) (fun hh => absurd (hB3.symm.trans hh) (by decide))) (fun a h => ?_)
          exact (h.mid 2 rfl).val (by rw [Option.some.inj hz32])
        · rw [if_neg (of_decide_eq_false hB3)] at hz32
          refine g_yes h rfl rfl rfl rfl hB3 ?_
          refine s_move h rfl _ rfl rfl (by decide) rfl (fun a h => ?_)
          refine g_yes h rfl rfl rfl rfl hB3 ?_
          obtain ⟨x35, h36, hz32⟩ := bsome hz32
          have hX := slices_ContainsFunc___string_string_clo1_28_0_0_ok Fu (S0 := snapAll _) A28 c29 x16 (hs30.mono (h.m.leAll (i := 1) rfl)) _ h36 _ h.startAll
          refine q_callX hX h rfl rfl rfl (by decide) Tryd.func27 rfl rfl rfl (fun a w v L1 S1 hR hb1 h => ?_)
          obtain ⟨rfl, rfl, _⟩ := hR
          refine s_x h rfl rfl (by decide) (x_pick (u' := undef) h.k rfl rfl (fun hh => absurd (hB3.symm.trans hh) (by decide)) (fun _ => rfl)) (fun a h => ?_)
          exact (h.mid 2 rfl).val (by rw [Option.some.inj hz32])
        refine l_end ?_
        refine c_cond h rfl (fun hb => ?_) (fun hb => ?_)
        · rw [if_pos hb] at hl14
          refine c_rs ?_ -- region 8
          refine s_assign h rfl _ rfl rfl (by decide) rfl (fun a h => ?_)
          refine s_assign h rfl _ rfl rfl (by decide) rfl (fun a h => ?_)
          refine l_end ?_
          refine wp_ret ?_
          refine e_thenR ?_
          refine e_blkR ?_
          refine e_thenR ?_
          refine e_thenR ?_
          refine e_blkR ?_
          refine e_thenR ?_
          cases hl14
          try dsimp only at hf
          refine e_thenR ?_
          obtain rfl := Option.some.inj hf
          exact r_ret2 h rfl (rv_tmp h rfl) (rv_tmp h rfl) ⟨_, [], _, rfl, ⟨rfl, rfl, (by decide), trivial⟩, rfl, (Up.refl _ _ _), (h.m.pick [1] _ (by decide) rfl)⟩
        · rw [if_neg (by rw [hb]; decide)] at hl14
          refine wp_skip ?_
          refine e_thenN ?_
          refine c_rs ?_ -- region 9
          refine s_move h rfl _ rfl rfl (by decide) rfl (fun a h => ?_)
          refine s_x h rfl rfl (by decide) (x_len h.k rfl Tryd.underlying39 rfl) (fun a h => ?_)
          refine s_move h rfl _ rfl rfl (by decide) rfl (fun a h => ?_)
          refine l_end ?_
          obtain ⟨o38, hl39, hl14⟩ := bsome hl14
          refine c_fin (fun a w => ∃ (x46 : List (Int × Int)), ∃ (es47 : Array MapEntry), ∃ (cl48 : Nat), x46 = o38 ∧ mpS keyI tyI false S0 es47 cl48 x46 ∧ St 81 w0 (ownL ([] ++ [.sn S0])) [(0, .slice Aa0 a0.length ca0), (4, .map (some g1)), (18, .slice Aa0 a0.length ca0), (19, .int .i64 (a0.length : Int)), (20, .int .i64 x4)] [.obj g1 (.map es47 cl48), .sn S0] a w) ?_ ?_
          · refine wp_block ?_
            refine c_loop (fun m51 a w => ∃ (x40 : Int), ∃ (x42 : List (Int × Int)), ∃ (es43 : Array MapEntry), ∃ (cl44 : Nat), show_Table_l1 Fu x16 m51 x40 x42 = some o38 ∧ r64 x40 ∧ mpS keyI tyI false S0 es43 cl44 x42 ∧ St 81 w0 (ownL ([] ++ [.sn S0])) [(0, .slice Aa0 a0.length ca0), (4, .map (some g1)), (18, .slice Aa0 a0.length ca0), (19, .int .i64 (a0.length : Int)), (20, .int .i64 x4), (31, .slice A28 x16.length c29), (32, .int .i64 (x16.length : Int)), (33, .int .i64 x40)] [.obj g1 (.map es43 cl44), .sn S0] a w) Fu ⟨0, x6, es7, cl8, hl39, (show r64 0 from ⟨by decide, by decide⟩), hm9, h.has (by exact ⟨rfl, rfl, rfl, rfl, rfl, rfl, rfl, rfl, trivial⟩)⟩ (fun m51 a w hI => ?_)
            obtain ⟨x40, x42, es43, cl44, hl50, hr41, hm45, h⟩ := hI
            obtain _ | m51 := m51
            · rw [show_Table_l1] at hl50; cases hl50
            rw [show_Table_l1] at hl50
            refine c_rs ?_ -- region 10
            refine s_x h rfl rfl (by decide) (x_bin h.k rfl rfl rfl ib_lss) (fun a h => ?_)
            refine l_end ?_
            refine c_cs h rfl (fun hb => ?_) (fun hb => ?_)
            · rw [if_pos (of_decide_eq_true hb)] at hl50
              refine wp_skip ?_
              refine e_thenN ?_
              refine wp_seq ?_
              refine wp_block ?_
              refine c_rs ?_ -- region 11
              refine s_move h rfl _ rfl rfl (by decide) rfl (fun a h => ?_)
              obtain ⟨x52, h56, hl50⟩ := bsome hl50
              obtain ⟨m53, hi57, hm58, hx59⟩ := idx_some h56
              obtain ⟨b54, off55, k60, hA61, hu62, hc63⟩ := (hs30).at1 rfl hx59 (h.m.snOK (i := 1) rfl)
              obtain ⟨e65, hr64⟩ := hu62
              cases e65
              refine s_x h rfl rfl (by decide) (x_iaddrE h.k rfl Tryd.underlying39 sz_string hA61 rfl rfl hi57 hm58) (fun a h => ?_)
              refine s_x h rfl rfl (by decide) (x_ld h.k rfl Tryd.underlying9 rfl rfl (hc63 _ (h.m.snOK (i := 1) rfl))) (fun a h => ?_)
              refine s_assign h rfl _ rfl rfl (by decide) rfl (fun a h => ?_)
              refine s_assign h rfl _ rfl rfl (by decide) rfl (fun a h => ?_)
              refine l_end ?_
              refine c_r ?_ -- region 12
              refine s_move h rfl _ rfl rfl (by decide) rfl (fun a h => ?_)
              refine s_move h rfl _ rfl rfl (by decide) rfl (fun a h => ?_)
              refine s_move h rfl _ rfl rfl (by decide) rfl (fun a h => ?_)
              refine s_move h rfl _ rfl rfl (by decide) rfl (fun a h => ?_)
              obtain ⟨u66, hu67, hl68⟩ := mpS.look hm45 x40 (z := .int .i64 0) (z0 := 0) ⟨rfl, (show r64 0 from ⟨by decide, by decide⟩)⟩
              obtain ⟨e70, hr69⟩ := hu67
              cases e70
              refine s_x h rfl rfl (by decide) (x_lookE h.k rfl Tryd.underlying65 rfl (h.m.ok 0 _ rfl) hl68 hr41 rfl (zro zi_int _)) (fun a h => ?_)
              refine s_move h rfl _ rfl rfl (by decide) rfl (fun a h => ?_)
              refine s_x h rfl rfl (by decide) (x_lenStr h.k rfl Tryd.underlying9 rfl) (fun a h => ?_)
              refine s_x h rfl rfl (by decide) (x_mx h.k rfl rfl rfl) (fun a h => ?_)
              refine q_mapSet (T := tyI) (row := false) h rfl rfl rfl Tryd.underlying65 rfl 0 rfl keyI hm45 (x := x40) hr41 rfl (v := .int .i64 (mx ((aget x40 x42).getD 0) (x52.length : Int))) (q := mx ((aget x40 x42).getD 0) (x52.length : Int)) rfl ⟨rfl, (mx_r hr69 (len_r hr64))⟩ (fun a w es71 cl72 hm73 h => ?_)
              refine l_nil ?_
              refine e_blkN ?_
              refine e_thenN ?_
              refine c_r ?_ -- region 13
              refine s_x h rfl rfl (by decide) (x_bin h.k rfl rfl rfl (ib_add rfl)) (fun a h => ?_)
              refine s_move h rfl _ rfl rfl (by decide) rfl (fun a h => ?_)
              refine l_nil ?_
              exact e_thenN ⟨m51, Nat.lt_succ_self _, w64 (x40 + 1), (aset x40 (mx ((aget x40 x42).getD 0) (x52.length : Int)) x42), es71, cl72, hl50, (w64_r _), hm73, h.has (by exact ⟨rfl, rfl, rfl, rfl, rfl, rfl, rfl, rfl, trivial⟩)⟩
            · rw [if_neg (of_decide_eq_false hb)] at hl50
              refine wp_exit ?_
              refine e_thenX ?_
              refine e_thenX ?_
              refine e_blkX ?_
              refine e_thenN ?_
              exact ⟨x42, es43, cl44, (Option.some.inj hl50), hm45, h.has (by exact ⟨rfl, rfl, rfl, rfl, rfl, trivial⟩)⟩
          · rintro a w ⟨x46, es47, cl48, rfl, hm49, h⟩
            refine e_blkN ?_
            refine e_thenN ?_
            refine c_r ?_ -- region 14
            refine s_x h rfl rfl (by decide) (x_bin h.k rfl rfl rfl (ib_add rfl)) (fun a h => ?_)
            refine s_move h rfl _ rfl rfl (by decide) rfl (fun a h => ?_)
            refine l_nil ?_
            exact e_thenN ⟨m15, Nat.lt_succ_self _, w64 (x4 + 1), x46, es47, cl48, hl14, (w64_r _), hm49, h.has (by exact ⟨rfl, rfl, rfl, rfl, rfl, trivial⟩)⟩
      · rw [if_neg (of_decide_eq_false hb)] at hl14
        refine wp_exit ?_
        refine e_thenX ?_
        refine e_thenX ?_
        refine e_blkX ?_
        refine e_thenN ?_
        exact ⟨x6, es7, cl8, (Option.some.inj hl14), hm9, h.has (by exact ⟨rfl, rfl, trivial⟩)⟩
    · rintro a w ⟨x10, es11, cl12, rfl, hm13, h⟩
      try dsimp only at hf
      refine e_thenN ?_
      refine c_rs ?_ -- region 15
      refine s_alloc h rfl rfl rfl (by decide) zi_strings_Builder rfl (fun a w g75 h => ?_)
      refine l_end ?_
      refine wp_seq ?_
      refine c_rs ?_ -- region 16
      refine s_move h rfl _ rfl rfl (by decide) rfl (fun a h => ?_)
      refine s_x h rfl rfl (by decide) (x_len h.k rfl Tryd.underlying38 rfl) (fun a h => ?_)
      refine s_move h rfl _ rfl rfl (by decide) rfl (fun a h => ?_)
      refine l_end ?_
      obtain ⟨o76, hl77, hf⟩ := bsome hf
      refine c_fin (fun a w => ∃ (S88 : Snap), ∃ (x91 : Bool × (List UInt8)), ∃ (A92 : Option Addr), ∃ (c93 : Nat), ∃ (cs94 : List Value), x91 = o76 ∧ Snap.le S0 S88 ∧ Up (ownL ([] ++ [.sn S0])) w0 S0 S88 ∧ reps ty8 S88 cs94 x91.2 ∧ St 81 w0 (ownL ([] ++ [.sn S0])) [(9, .pointer (some ⟨g75, 0, none⟩))] [.box g75 54 ([.pointer (selfA x91.1 g75), .slice A92 x91.2.length c93]), .row (.slice A92 x91.2.length c93) 5 1 x91.2.length cs94, .sn S88] a w) ?_ ?_
      · refine wp_block ?_
        have h := h.mem (h.m.nilrow 5 1)
        have h := h.pick [2, 1, 0, 3] (by decide) rfl
        refine c_loop (fun m97 a w => ∃ (S78 : Snap), ∃ (x81 : Int), ∃ (x83 : Bool × (List UInt8)), ∃ (A84 : Option Addr), ∃ (c85 : Nat), ∃ (cs86 : List Value), show_Table_l2 Fu a0 x10 m97 x81 x83 = some o76 ∧ Snap.le S0 S78 ∧ Up (ownL ([] ++ [.sn S0])) w0 S0 S78 ∧ r64 x81 ∧ reps ty8 S78 cs86 x83.2 ∧ St 81 w0 (ownL ([] ++ [.sn S0])) [(4, .map (some g1)), (9, .pointer (some ⟨g75, 0, none⟩)), (48, .slice Aa0 a0.length ca0), (49, .int .i64 (a0.length : Int)), (50, .int .i64 x81)] [.obj g1 (.map es11 cl12), .box g75 54 ([.pointer (selfA x83.1 g75), .slice A84 x83.2.length c85]), .row (.slice A84 x83.2.length c85) 5 1 x83.2.length cs86, .sn S78] a w) Fu ⟨S0, 0, (false, []), none, 0, [], hl77, (Snap.le.refl _), (Up.refl _ _ _), (show r64 0 from ⟨by decide, by decide⟩), (show reps ty8 S0 [] [] from rfl), h.has (by exact ⟨rfl, rfl, rfl, rfl, rfl, trivial⟩)⟩ (fun m97 a w hI => ?_)
        obtain ⟨S78, x81, x83, A84, c85, cs86, hl96, le79, up80, hr82, hq87, h⟩ := hI
        obtain _ | m97 := m97
        · rw [show_Table_l2] at hl96; cases hl96
        rw [show_Table_l2] at hl96
        refine c_rs ?_ -- region 17
        refine s_x h rfl rfl (by decide) (x_bin h.k rfl rfl rfl ib_lss) (fun a h => ?_)
        refine l_end ?_
        refine c_cs h rfl (fun hb => ?_) (fun hb => ?_)
        · rw [if_pos (of_decide_eq_true hb)] at hl96
          refine wp_skip ?_
          refine e_thenN ?_
          refine wp_seq ?_
          refine wp_block ?_
          refine c_rs ?_ -- region 18
          obtain ⟨x99, h103, hl96⟩ := bsome hl96
          obtain ⟨m100, hi104, hm105, hx106⟩ := idx_some h103
          obtain ⟨b101, off102, k107, hA108, hu109, hc110⟩ := ((hsa0.mono le79)).at1 rfl hx106 (h.m.snOK (i := 3) rfl)
          obtain ⟨A111, c112, e114, hs113⟩ := hu109
          cases e114
          refine s_x h rfl rfl (by decide) (x_iaddrE h.k rfl Tryd.underlying38 sz_Sstring hA108 rfl rfl hi104 hm105) (fun a h => ?_)
          refine s_x h rfl rfl (by decide) (x_ld h.k rfl Tryd.underlying39 rfl rfl (hc110 _ (h.m.snOK (i := 3) rfl))) (fun a h => ?_)
          refine s_assign h rfl _ rfl rfl (by decide) rfl (fun a h => ?_)
          refine l_end ?_
          refine wp_seq ?_
          refine c_rs ?_ -- region 19
          refine s_move h rfl _ rfl rfl (by decide) rfl (fun a h => ?_)
          refine s_x h rfl rfl (by decide) (x_len h.k rfl Tryd.underlying39 rfl) (fun a h => ?_)
          refine s_move h rfl _ rfl rfl (by decide) rfl (fun a h => ?_)
          refine l_end ?_
          obtain ⟨o115, hl116, hl96⟩ := bsome hl96
          refine c_fin (fun a w => ∃ (S127 : Snap), ∃ (x130 : Bool × (List UInt8)), ∃ (A131 : Option Addr), ∃ (c132 : Nat), ∃ (cs133 : List Value), x130 = o115 ∧ Snap.le S78 S127 ∧ Up (ownL ([] ++ [.sn S0])) w0 S0 S127 ∧ reps ty8 S127 cs133 x130.2 ∧ St 81 w0 (ownL ([] ++ [.sn S0])) [(4, .map (some g1)), (9, .pointer (some ⟨g75, 0, none⟩)), (48, .slice Aa0 a0.length ca0), (49, .int .i64 (a0.length : Int)), (50, .int .i64 x81)] [.obj g1 (.map es11 cl12), .box g75 54 ([.pointer (selfA x130.1 g75), .slice A131 x130.2.length c132]), .row (.slice A131 x130.2.length c132) 5 1 x130.2.length cs133, .sn S127] a w) ?_ ?_
          · refine wp_block ?_
            refine c_loop (fun m136 a w => ∃ (S117 : Snap), ∃ (x120 : Int), ∃ (x122 : Bool × (List UInt8)), ∃ (A123 : Option Addr), ∃ (c124 : Nat), ∃ (cs125 : List Value), show_Table_l3 Fu x10 x99 m136 x120 x122 = some o115 ∧ Snap.le S78 S117 ∧ Up (ownL ([] ++ [.sn S0])) w0 S0 S117 ∧ r64 x120 ∧ reps ty8 S117 cs125 x122.2 ∧ St 81 w0 (ownL ([] ++ [.sn S0])) [(4, .map (some g1)), (9, .pointer (some ⟨g75, 0, none⟩)), (11, .slice A111 x99.length c112), (48, .slice Aa0 a0.length ca0), (49, .int .i64 (a0.length : Int)), (50, .int .i64 x81), (54, .slice A111 x99.length c112), (55, .int .i64 (x99.length : Int)), (56, .int .i64 x120)] [.obj g1 (.map es11 cl12), .box g75 54 ([.pointer (selfA x122.1 g75), .slice A123 x122.2.length c124]), .row (.slice A123 x122.2.length c124) 5 1 x122.2.length cs125, .sn S117] a w) Fu ⟨S78, 0, x83, A84, c85, cs86, hl116, (Snap.le.refl _), up80, (show r64 0 from ⟨by decide, by decide⟩), hq87, h.has (by exact ⟨rfl, rfl, rfl, rfl, rfl, rfl, rfl, rfl, rfl, trivial⟩)⟩ (fun m136 a w hI => ?_)
            obtain ⟨S117, x120, x122, A123, c124, cs125, hl135, le118, up119, hr121, hq126, h⟩ := hI
            obtain _ | m136 := m136
            · rw [show_Table_l3] at hl135; cases hl135
            rw [show_Table_l3] at hl135
            refine c_rs ?_ -- region 20
            refine s_x h rfl rfl (by decide) (x_bin h.k rfl rfl rfl ib_lss) (fun a h => ?_)
            refine l_end ?_
            refine c_cs h rfl (fun hb => ?_) (fun hb => ?_)
            · rw [if_pos (of_decide_eq_true hb)] at hl135
              refine wp_skip ?_
              refine e_thenN ?_
              obtain ⟨o137, hc138, hl135⟩ := bsome hl135
              refine c_cut (fun a w => ∃ (S139 : Snap), ∃ (x142 : Bool × (List UInt8)), ∃ (A143 : Option Addr), ∃ (c144 : Nat), ∃ (cs145 : List Value), x142 = o137 ∧ Snap.le S117 S139 ∧ Up (ownL ([] ++ [.sn S0])) w0 S0 S139 ∧ reps ty8 S139 cs145 x142.2 ∧ St 81 w0 (ownL ([] ++ [.sn S0])) [(4, .map (some g1)), (9, .pointer (some ⟨g75, 0, none⟩)), (11, .slice A111 x99.length c112), (48, .slice Aa0 a0.length ca0), (49, .int .i64 (a0.length : Int)), (50, .int .i64 x81), (54, .slice A111 x99.length c112), (55, .int .i64 (x99.length : Int)), (56, .int .i64 x120)] [.obj g1 (.map es11 cl12), .box g75 54 ([.pointer (selfA x142.1 g75), .slice A143 x142.2.length c144]), .row (.slice A143 x142.2.length c144) 5 1 x142.2.length cs145, .sn S139] a w) ?_ ?_
              · refine wp_block ?_
                refine c_rs ?_ -- region 21
                refine s_move h rfl _ rfl rfl (by decide) rfl (fun a h => ?_)
                obtain ⟨x147, h151, hc138⟩ := bsome hc138
                obtain ⟨m148, hi152, hm153, hx154⟩ := idx_some h151
                obtain ⟨b149, off150, k155, hA156, hu157, hc158⟩ := ((hs113.mono le118)).at1 rfl hx154 (h.m.snOK (i := 3) rfl)
                obtain ⟨e160, hr159⟩ := hu157
                cases e160
                refine s_x h rfl rfl (by decide) (x_iaddrE h.k rfl Tryd.underlying39 sz_string hA156 rfl rfl hi152 hm153) (fun a h => ?_)
                refine s_x h rfl rfl (by decide) (x_ld h.k rfl Tryd.underlying9 rfl rfl (hc158 _ (h.m.snOK (i := 3) rfl))) (fun a h => ?_)
                refine s_assign h rfl _ rfl rfl (by decide) rfl (fun a h => ?_)
                refine s_assign h rfl _ rfl rfl (by decide) rfl (fun a h => ?_)
                refine l_end ?_
                refine c_rs ?_ -- region 22
                refine s_move h rfl _ rfl rfl (by decide) rfl (fun a h => ?_)
                obtain ⟨x161, h162, hc138⟩ := bsome hc138
                have h := h.pick [1, 2, 3, 0] (by decide) rfl
                have hX := strings_Builder_WriteString_ok Fu (S0 := S117) x122 g75 A123 c124 cs125 hq126 x147 hr159 _ h162 _ (h.sub (Ls := [.box g75 54 ([.pointer (selfA x122.1 g75), .slice A123 x122.2.length c124]), .row (.slice A123 x122.2.length c124) 5 1 x122.2.length cs125]))
                refine q_callY (Ls := [.box g75 54 ([.pointer (selfA x122.1 g75), .slice A123 x122.2.length c124]), .row (.slice A123 x122.2.length c124) 5 1 x122.2.length cs125]) hX h up119 rfl rfl rfl (by decide) Tryd.func24 rfl rfl rfl (fun a w v L1 S164 hR le166 up165 h => ?_)
                obtain ⟨A168, c169, cs170, rfl, rfl, hr167, hq171, _⟩ := hR
                refine l_end ?_
                refine c_rs ?_ -- region 23
                refine s_move h rfl _ rfl rfl (by decide) rfl (fun a h => ?_)
                refine s_move h rfl _ rfl rfl (by decide) rfl (fun a h => ?_)
                refine s_x h rfl rfl (by decide) (x_len h.k rfl Tryd.underlying39 rfl) (fun a h => ?_)
                refine s_x h rfl rfl (by decide) (x_bin h.k rfl rfl rfl (ib_sub rfl)) (fun a h => ?_)
                refine s_x h rfl rfl (by decide) (x_bin h.k rfl rfl rfl ib_lss) (fun a h => ?_)
                refine l_end ?_
                refine c_cond h rfl (fun hb => ?_) (fun hb => ?_)
                · rw [if_pos (of_decide_eq_true hb)] at hc138
                  refine c_r ?_ -- region 24
                  refine s_move h rfl _ rfl rfl (by decide) rfl (fun a h => ?_)
                  refine s_move h rfl _ rfl rfl (by decide) rfl (fun a h => ?_)
                  obtain ⟨u172, hu173, hl174⟩ := mpS.look (hm13.mono ((le79.trans le118).trans le166)) x120 (z := .int .i64 0) (z0 := 0) ⟨rfl, (show r64 0 from ⟨by decide, by decide⟩)⟩
                  obtain ⟨e176, hr175⟩ := hu173
                  cases e176
                  refine s_x h rfl rfl (by decide) (x_lookE h.k rfl Tryd.underlying65 rfl (h.m.ok 3 _ rfl) hl174 hr121 rfl (zro zi_int _)) (fun a h => ?_)
                  refine s_move h rfl _ rfl rfl (by decide) rfl (fun a h => ?_)
                  refine s_x h rfl rfl (by decide) (x_lenStr h.k rfl Tryd.underlying9 rfl) (fun a h => ?_)
                  refine s_x h rfl rfl (by decide) (x_bin h.k rfl rfl rfl (ib_sub rfl)) (fun a h => ?_)
                  refine s_x h rfl rfl (by decide) (x_bin h.k rfl rfl rfl (ib_add rfl)) (fun a h => ?_)
                  obtain ⟨x177, h178, hc138⟩ := bsome hc138
                  have hX := strings_Repeat_ok Fu (S0 := snapAll _) ([32] : List UInt8) (by decide) (w64 ((w64 (((aget x120 x10).getD 0) - (x147.length : Int))) + 1)) (w64_r _) _ h178 _ h.startAll
                  refine q_callX hX h rfl rfl rfl (by decide) Tryd.func30 rfl rfl rfl (fun a w v L1 S1 hR hb1 h => ?_)
                  obtain ⟨rfl, rfl, hr180, _⟩ := hR
                  obtain ⟨x181, h182, hc138⟩ := bsome hc138
                  have hX := strings_Builder_WriteString_ok Fu (S0 := S164) x161.2 g75 A168 c169 cs170 hq171 x177 hr180 _ h182 _ (h.sub (Ls := [.box g75 54 ([.pointer (selfA x161.2.1 g75), .slice A168 x161.2.2.length c169]), .row (.slice A168 x161.2.2.length c169) 5 1 x161.2.2.length cs170]))
                  refine q_callY (Ls := [.box g75 54 ([.pointer (selfA x161.2.1 g75), .slice A168 x161.2.2.length c169]), .row (.slice A168 x161.2.2.length c169) 5 1 x161.2.2.length cs170]) hX h up165 rfl rfl rfl (by decide) Tryd.func24 rfl rfl rfl (fun a w v L1 S184 hR le186 up185 h => ?_)
                  obtain ⟨A188, c189, cs190, rfl, rfl, hr187, hq191, _⟩ := hR
                  refine l_nil ?_
                  refine e_blkN ?_
                  refine e_thenN ?_
                  have h := h.pick [3, 0, 1, 2] (by decide) rfl
                  exact ⟨S184, x181.2, A188, c189, cs190, (Option.some.inj hc138), (le166.trans le186), up185, hq191, h.has (by exact ⟨rfl, rfl, rfl, rfl, rfl, rfl, rfl, rfl, rfl, trivial⟩)⟩
                · rw [if_neg (of_decide_eq_false hb)] at hc138
                  refine wp_skip ?_
                  refine e_blkN ?_
                  refine e_thenN ?_
                  have h := h.pick [3, 0, 1, 2] (by decide) rfl
                  exact ⟨S164, x161.2, A168, c169, cs170, (Option.some.inj hc138), le166, up165, hq171, h.has (by exact ⟨rfl, rfl, rfl, rfl, rfl, rfl, rfl, rfl, rfl, trivial⟩)⟩
              · rintro a w ⟨S139, x142, A143, c144, cs145, rfl, le140, up141, hq146, h⟩
                refine c_r ?_ -- region 25
                refine s_x h rfl rfl (by decide) (x_bin h.k rfl rfl rfl (ib_add rfl)) (fun a h => ?_)
                refine s_move h rfl _ rfl rfl (by decide) rfl (fun a h => ?_)
                refine l_nil ?_
                exact e_thenN ⟨m136, Nat.lt_succ_self _, S139, w64 (x120 + 1), x142, A143, c144, cs145, hl135, (le118.trans le140), up141, (w64_r _), hq146, h.has (by exact ⟨rfl, rfl, rfl, rfl, rfl, rfl, rfl, rfl, rfl, trivial⟩)⟩
            · rw [if_neg (of_decide_eq_false hb)] at hl135
              refine wp_exit ?_
              refine e_thenX ?_
              refine e_thenX ?_
              refine e_blkX ?_
              refine e_thenN ?_
              exact ⟨S117, x122, A123, c124, cs125, (Option.some.inj hl135), le118, up119, hq126, h.has (by exact ⟨rfl, rfl, rfl, rfl, rfl, trivial⟩)⟩
          · rintro a w ⟨S127, x130, A131, c132, cs133, rfl, le128, up129, hq134, h⟩
            refine e_thenN ?_
            refine c_r ?_ -- region 26
            obtain ⟨x193, h194, hl96⟩ := bsome hl96
            have h := h.pick [1, 2, 3, 0] (by decide) rfl
            have hX := strings_Builder_WriteByte_ok Fu (S0 := S127) x130 g75 A131 c132 cs133 hq134 (10 : UInt8) _ h194 _ (h.sub (Ls := [.box g75 54 ([.pointer (selfA x130.1 g75), .slice A131 x130.2.length c132]), .row (.slice A131 x130.2.length c132) 5 1 x130.2.length cs133]))
            refine q_callY (Ls := [.box g75 54 ([.pointer (selfA x130.1 g75), .slice A131 x130.2.length c132]), .row (.slice A131 x130.2.length c132) 5 1 x130.2.length cs133]) hX h up129 rfl rfl rfl (by decide) Tryd.func25 rfl rfl rfl (fun a w v L1 S196 hR le198 up197 h => ?_)
            obtain ⟨A199, c200, cs201, rfl, rfl, hq202, _⟩ := hR
            refine l_nil ?_
            refine e_blkN ?_
            refine e_thenN ?_
            refine c_r ?_ -- region 27
            refine s_x h rfl rfl (by decide) (x_bin h.k rfl rfl rfl (ib_add rfl)) (fun a h => ?_)
            refine s_move h rfl _ rfl rfl (by decide) rfl (fun a h => ?_)
            refine l_nil ?_
            have h := h.pick [3, 0, 1, 2] (by decide) rfl
            exact e_thenN ⟨m97, Nat.lt_succ_self _, S196, w64 (x81 + 1), x193, A199, c200, cs201, hl96, ((le79.trans le128).trans le198), up197, (w64_r _), hq202, h.has (by exact ⟨rfl, rfl, rfl, rfl, rfl, trivial⟩)⟩
        · rw [if_neg (of_decide_eq_false hb)] at hl96
          refine wp_exit ?_
          refine e_thenX ?_
          refine e_thenX ?_
          refine e_blkX ?_
          refine e_thenN ?_
          have h := h.pick [1, 2, 3] (by decide) rfl
          exact ⟨S78, x83, A84, c85, cs86, (Option.some.inj hl96), le79, up80, hq87, h.has (by exact ⟨rfl, trivial⟩)⟩
      · rintro a w ⟨S88, x91, A92, c93, cs94, rfl, le89, up90, hq95, h⟩
        refine e_thenN ?_
        refine c_rs ?_ -- region 28
        obtain ⟨x204, h205, hf⟩ := bsome hf
        have hX := strings_Builder_String_ok Fu (S0 := S88) x91 g75 A92 c93 cs94 hq95 _ h205 _ (h.sub (Ls := [.box g75 54 ([.pointer (selfA x91.1 g75), .slice A92 x91.2.length c93]), .row (.slice A92 x91.2.length c93) 5 1 x91.2.length cs94]))
        refine q_callY (Ls := [.box g75 54 ([.pointer (selfA x91.1 g75), .slice A92 x91.2.length c93]), .row (.slice A92 x91.2.length c93) 5 1 x91.2.length cs94]) hX h up90 rfl rfl rfl (by decide) Tryd.func26 rfl rfl rfl (fun a w v L1 S207 hR le209 up208 h => ?_)
        obtain ⟨rfl, rfl, hr210, _⟩ := hR
        refine s_assign h rfl _ rfl rfl (by decide) rfl (fun a h => ?_)
        refine s_assign h rfl _ rfl rfl (by decide) rfl (fun a h => ?_)
        refine l_end ?_
        refine wp_ret ?_
        obtain rfl := Option.some.inj hf
        exact r_ret2 h rfl (rv_tmp h rfl) (rv_tmp h rfl) ⟨_, [], _, rfl, ⟨rfl, rfl, hr210, trivial⟩, rfl, up208, h.m⟩
end Go.Proofs.YtnmeelkfpmodgaaDoor
