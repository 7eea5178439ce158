/- Ka: Go functions as plain functions, and that they are so (written by xt.py). -/
import Derived.Test.YtohgmggdfmjgnaaHm
import Derived.Test.YtohgmggdfmjgnaaWp
import Derived.Test.YtohgmggdfmjgnaaEw
import Derived.Test.YtohgmggdfmjgnaaHi
import Derived.Test.YtohgmggdfmjgnaaFi
set_option linter.unusedVariables false
set_option linter.unusedSimpArgs false
namespace Go.Proofs.Ytohgmggdfmjgnaa
open Go.RowKit
def keytree_fresh (Fu : Nat) (a0 : List UInt8) (a1 : Int) (a2 : Int) : Option ((List UInt8)) :=
  (kdf_Number Fu a1).bind fun x1 => (kdf_Number Fu a2).bind fun x9 => (kdf_Derive Fu a0 ([110, 111, 100, 101] : List UInt8) 32 ([x1, x9])).bind fun x31 => some x31.1
set_option maxRecDepth 100000 in
set_option maxHeartbeats 2000000 in
theorem keytree_fresh_ok (Fu : Nat) {S0 : Snap} (Aa0 : Option Addr) (ca0 : Nat) (a0 : List UInt8) (hsa0 : slS ty8 S0 Aa0 ca0 a0) (a1 : Int) (hra1 : r64 a1) (a2 : Int) (hra2 : r64 a2) (r : (List UInt8)) (hf : keytree_fresh Fu a0 a1 a2 = some r) (w0 : World) (hm : Mem w0 (ownL ([] ++ [.sn S0])) ([] ++ [.sn S0]) w0) :
    Calls Try.prog 25 #[.slice Aa0 a0.length ca0, .int .i64 a1, .int .i64 a2] w0 (Ret w0 S0 [] (fun v L1 S1 => ∃ (A41 : Option Addr), ∃ (c42 : Nat), v = .slice A41 r.length c42 ∧ L1 = [] ∧ slS ty8 S1 A41 c42 r ∧ True)) := by
  unfold keytree_fresh at hf
  refine c_enterM Try.func25 rfl 20 rfl (by simp) _ hm _ rfl (fun a h => ?_)
  refine c_rs ?_
  refine sAV h (fun a h => ?_)
  refine l_end ?_
  refine c_rs ?_
  refine sMV h (fun a h => ?_)
  refine sMV h (fun a h => ?_)
  obtain ⟨x1, h2, hf⟩ := bsome hf
  have hX := kdf_Number_ok Fu (S0 := snapAll _) a1 hra1 _ h2 _ h.startAll
  refine q_callX hX h rfl rfl rfl (by decide) Try.func46 rfl rfl rfl (fun a w v L1 S1 hR hb1 h => ?_)
  obtain ⟨A4, c5, cs6, rfl, rfl, hq7, _⟩ := hR
  have hq8 := hq7.fl (S' := S0) fl_8
  refine sMV h (fun a h => ?_)
  obtain ⟨x9, h10, hf⟩ := bsome hf
  have hX := kdf_Number_ok Fu (S0 := snapAll _) a2 hra2 _ h10 _ h.startAll
  refine q_callX hX h rfl rfl rfl (by decide) Try.func46 rfl rfl rfl (fun a w v L1 S1 hR hb1 h => ?_)
  obtain ⟨A12, c13, cs14, rfl, rfl, hq15, _⟩ := hR
  have hq16 := hq15.fl (S' := S0) fl_8
  have h := h.pick [1, 2, 0] (by decide) rfl
  obtain ⟨S17, le18, up19, hs20, h⟩ := q_freeze (T := ty8) h (Up.refl _ _ _) hq8
  have h := h.pick [1, 0] (by decide) rfl
  obtain ⟨S21, le22, up23, hs24, h⟩ := q_freeze (T := ty8) h up19 (hq16.mono le18)
  refine q_bslice (T := tyL ty8) (S := S21) h rfl rfl rfl (by decide) Try.underlying24 zi_Suint8 (by decide) (by decide) (by decide) (by decide) [.slice A4 x1.length c5, .slice A12 x9.length c13] rfl rfl (C := [[.slice A4 x1.length c5], [.slice A12 x9.length c13]]) rfl (xs := [x1, x9]) ⟨[.slice A4 x1.length c5], _, rfl, ⟨_, _, rfl, (hs20.mono le22)⟩, ⟨[.slice A12 x9.length c13], _, rfl, ⟨_, _, rfl, hs24⟩, rfl⟩⟩ (by simp only [List.mem_cons, List.not_mem_nil, or_false]; rintro c (rfl | rfl) <;> rfl) (fun a w A25 h => ?_)
  have hb26 : reps (tyL ty8) S21 ([[.slice A4 x1.length c5], [.slice A12 x9.length c13]] : List (List Value)).flatten [x1, x9] := ⟨[.slice A4 x1.length c5], _, rfl, ⟨_, _, rfl, (hs20.mono le22)⟩, ⟨[.slice A12 x9.length c13], _, rfl, ⟨_, _, rfl, hs24⟩, rfl⟩⟩
  obtain ⟨S27, le28, up29, hs30, h⟩ := q_freeze (T := tyL ty8) h up23 hb26
  obtain ⟨x31, h32, hf⟩ := bsome hf
  have hX := kdf_Derive_ok Fu (S0 := S27) Aa0 ca0 a0 (hsa0.mono ((le18.trans le22).trans le28)) ([110, 111, 100, 101] : List UInt8) (by decide) 32 (show r64 32 from ⟨by decide, by decide⟩) A25 2 ([x1, x9]) hs30 _ h32 _ (h.sub (Ls := []))
  refine q_callY (Ls := []) hX h up29 rfl rfl rfl (by decide) Try.func45 rfl rfl rfl (fun a w v L1 S34 hR le36 up35 h => ?_)
  obtain ⟨A37, c38, rfl, rfl, hs39, hr40, _⟩ := hR
  refine sMV h (fun a h => ?_)
  refine sX h (x_ext h.k rfl rfl rfl) (fun a h => ?_)
  refine sX h (x_ext h.k rfl rfl rfl) (fun a h => ?_)
  refine sAV h (fun a h => ?_)
  refine sAV h (fun a h => ?_)
  refine l_end ?_
  refine c_rs ?_
  refine sMV h (fun a h => ?_)
  refine sAV h (fun a h => ?_)
  refine l_end ?_
  refine wp_ret ?_
  obtain rfl := Option.some.inj hf
  exact r_ret1 h rfl (rv_tmp h rfl) ⟨_, [], _, rfl, ⟨A37, c38, rfl, rfl, hs39, trivial⟩, rfl, up35, h.m⟩
def keytree_Right_1 (Fu : Nat) (a0 : List UInt8) : Option Bool :=
  some (decide ((a0.length : Int) ≠ 40))
set_option maxRecDepth 100000 in
set_option maxHeartbeats 2000000 in
theorem keytree_Right_1_ok (Fu : Nat) {S0 : Snap} (Aa0 : Option Addr) (ca0 : Nat) (a0 : List UInt8) (hsa0 : slS ty8 S0 Aa0 ca0 a0) (r : Bool) (hf : keytree_Right_1 Fu a0 = some r) (w0 : World) (hm : Mem w0 (ownL ([] ++ [.sn S0])) ([] ++ [.sn S0]) w0) :
    Calls Try.prog 28 #[.slice Aa0 a0.length ca0] w0 (Ret w0 S0 [] (fun v L1 S1 => v = .bool r ∧ L1 = [] ∧ True)) := by
  unfold keytree_Right_1 at hf
  refine c_enterM Try.func28 rfl 6 rfl (by simp) _ hm _ rfl (fun a h => ?_)
  refine c_rs ?_
  refine sAV h (fun a h => ?_)
  refine l_end ?_
  refine c_rs ?_
  refine sMV h (fun a h => ?_)
  refine sX h (x_len h.k rfl Try.underlying22 rfl) (fun a h => ?_)
  refine sX h (x_bin h.k rfl rfl rfl ib_neq) (fun a h => ?_)
  refine sAV h (fun a h => ?_)
  refine l_end ?_
  refine wp_ret ?_
  obtain rfl := Option.some.inj hf
  exact r_ret1 h rfl (rv_tmp h rfl) ⟨_, [], _, rfl, ⟨rfl, rfl, trivial⟩, rfl, (Up.refl _ _ _), h.m⟩
def slices_IndexFunc_____byte___byte_clo1_28_0_0_l0 (Fu : Nat) (a0 : List (List UInt8)) : Nat → Int → Option (Sum Int Unit)
  | 0, _ => none
  | k + 1, x3 => if x3 < (a0.length : Int) then ((idx a0 x3).bind fun x7 => (keytree_Right_1 Fu x7).bind fun x23 => if x23 = true then (some (.inl x3)) else (slices_IndexFunc_____byte___byte_clo1_28_0_0_l0 Fu a0 k (w64 (x3 + 1)))) else (some (.inr ()))
def slices_IndexFunc_____byte___byte_clo1_28_0_0 (Fu : Nat) (a0 : List (List UInt8)) : Option Int :=
  (slices_IndexFunc_____byte___byte_clo1_28_0_0_l0 Fu a0 Fu 0).bind fun o => match o with | .inl r26 => some r26 | .inr _ => some (-1)
set_option maxRecDepth 100000 in
set_option maxHeartbeats 2000000 in
theorem slices_IndexFunc_____byte___byte_clo1_28_0_0_ok (Fu : Nat) {S0 : Snap} (Aa0 : Option Addr) (ca0 : Nat) (a0 : List (List UInt8)) (hsa0 : slS (tyL ty8) S0 Aa0 ca0 a0) (r : Int) (hf : slices_IndexFunc_____byte___byte_clo1_28_0_0 Fu a0 = some r) (w0 : World) (hm : Mem w0 (ownL ([] ++ [.sn S0])) ([] ++ [.sn S0]) w0) :
    Calls Try.prog 49 #[.slice Aa0 a0.length ca0, .func (.func 28) [].toArray [].toArray] w0 (Ret w0 S0 [] (fun v L1 S1 => v = .int .i64 r ∧ L1 = [] ∧ r64 r ∧ True)) := by
  unfold slices_IndexFunc_____byte___byte_clo1_28_0_0 at hf
  refine c_enterM Try.func49 rfl 19 rfl (by simp) _ hm _ rfl (fun a h => ?_)
  refine c_rs ?_
  refine sAV h (fun a h => ?_)
  refine l_end ?_
  refine wp_seq ?_
  refine c_rs ?_
  refine sMV h (fun a h => ?_)
  refine sX h (x_len h.k rfl Try.underlying24 rfl) (fun a h => ?_)
  refine sMV h (fun a h => ?_)
  refine l_end ?_
  obtain ⟨o1, hl2, hf⟩ := bsome hf
  refine c_fin (fun a w => (.inr ()) = o1 ∧ St 19 w0 (ownL ([] ++ [.sn S0])) [] [.sn S0] a w) ?_ ?_
  · refine wp_block ?_
    refine c_loop (fun m6 a w => ∃ (x3 : Int), slices_IndexFunc_____byte___byte_clo1_28_0_0_l0 Fu a0 m6 x3 = some o1 ∧ r64 x3 ∧ St 19 w0 (ownL ([] ++ [.sn S0])) [(0, .slice Aa0 a0.length ca0), (1, .func (.func 28) [].toArray [].toArray), (7, .int .i64 (a0.length : Int)), (8, .int .i64 x3)] [.sn S0] a w) Fu ⟨0, hl2, (show r64 0 from ⟨by decide, by decide⟩), h.has (by exact ⟨rfl, rfl, rfl, rfl, trivial⟩)⟩ (fun m6 a w hI => ?_)
    obtain ⟨x3, hl5, hr4, h⟩ := hI
    obtain _ | m6 := m6
    · rw [slices_IndexFunc_____byte___byte_clo1_28_0_0_l0] at hl5; cases hl5
    rw [slices_IndexFunc_____byte___byte_clo1_28_0_0_l0] at hl5
    refine c_rs ?_
    refine sX h (x_bin h.k rfl rfl rfl ib_lss) (fun a h => ?_)
    refine l_end ?_
    refine c_cs h rfl (fun hb => ?_) (fun hb => ?_)
    · rw [if_pos (of_decide_eq_true hb)] at hl5
      refine wp_skip ?_
      refine e_thenN ?_
      refine wp_seq ?_
      refine wp_block ?_
      refine c_rs ?_
      refine sMV h (fun a h => ?_)
      refine sAV h (fun a h => ?_)
      refine l_end ?_
      refine c_rs ?_
      refine sMV h (fun a h => ?_)
      refine sMV h (fun a h => ?_)
      refine sMV h (fun a h => ?_)
      obtain ⟨x7, h11, hl5⟩ := bsome hl5
      obtain ⟨m8, hi12, hm13, hx14⟩ := idx_some h11
      obtain ⟨b9, off10, k15, hA16, hu17, hc18⟩ := (hsa0).at1 rfl hx14 (h.m.snOK (i := 0) rfl)
      obtain ⟨A19, c20, e22, hs21⟩ := hu17
      cases e22
      refine sX h (x_iaddrE h.k rfl Try.underlying24 sz_Suint8 hA16 rfl rfl hi12 hm13) (fun a h => ?_)
      refine sX h (x_ld h.k rfl Try.underlying22 rfl rfl (hc18 _ (h.m.snOK (i := 0) rfl))) (fun a h => ?_)
      obtain ⟨x23, h24, hl5⟩ := bsome hl5
      have hX := keytree_Right_1_ok Fu (S0 := snapAll _) A19 c20 x7 (hs21.mono (h.m.leAll (i := 0) rfl)) _ h24 _ h.startAll
      refine q_callXV hX h rfl rfl rfl (by decide) rfl Try.func28 rfl rfl [.slice A19 x7.length c20] rfl rfl (fun a w v L1 S1 hR hb1 h => ?_)
      obtain ⟨rfl, rfl, _⟩ := hR
      refine l_end ?_
      refine c_cond h rfl (fun hb => ?_) (fun hb => ?_)
      · rw [if_pos hb] at hl5
        refine c_rs ?_
        refine sMV h (fun a h => ?_)
        refine sAV h (fun a h => ?_)
        refine l_end ?_
        refine wp_ret ?_
        refine e_blkR ?_
        refine e_thenR ?_
        refine e_thenR ?_
        refine e_blkR ?_
        refine e_thenR ?_
        cases hl5
        try dsimp only at hf
        refine e_thenR ?_
        rw [← Option.some.inj hf]
        exact r_ret1 h rfl (rv_tmp h rfl) ⟨_, [], _, rfl, ⟨rfl, rfl, hr4, trivial⟩, rfl, (Up.refl _ _ _), h.m⟩
      · rw [if_neg (by rw [hb]; decide)] at hl5
        refine wp_skip ?_
        refine e_blkN ?_
        refine e_thenN ?_
        refine c_r ?_
        refine sX h (x_bin h.k rfl rfl rfl (ib_add rfl)) (fun a h => ?_)
        refine sMV h (fun a h => ?_)
        refine l_nil ?_
        exact e_thenN ⟨m6, Nat.lt_succ_self _, w64 (x3 + 1), hl5, (w64_r _), h.has (by exact ⟨rfl, rfl, rfl, rfl, trivial⟩)⟩
    · rw [if_neg (of_decide_eq_false hb)] at hl5
      refine wp_exit ?_
      refine e_thenX ?_
      refine e_thenX ?_
      refine e_blkX ?_
      refine e_thenN ?_
      exact ⟨(Option.some.inj hl5), h.has trivial⟩
  · rintro a w ⟨rfl, h⟩
    try dsimp only at hf
    refine e_thenN ?_
    refine c_rs ?_
    refine sAV h (fun a h => ?_)
    refine l_end ?_
    refine wp_ret ?_
    obtain rfl := Option.some.inj hf
    exact r_ret1 h rfl (rv_tmp h rfl) ⟨_, [], _, rfl, ⟨rfl, rfl, (show r64 (-1) from ⟨by decide, by decide⟩), trivial⟩, rfl, (Up.refl _ _ _), h.m⟩
def slices_ContainsFunc_____byte___byte_clo1_28_0_0 (Fu : Nat) (a0 : List (List UInt8)) : Option Bool :=
  (slices_IndexFunc_____byte___byte_clo1_28_0_0 Fu a0).bind fun x1 => some (decide (0 ≤ x1))
set_option maxRecDepth 100000 in
set_option maxHeartbeats 2000000 in
theorem slices_ContainsFunc_____byte___byte_clo1_28_0_0_ok (Fu : Nat) {S0 : Snap} (Aa0 : Option Addr) (ca0 : Nat) (a0 : List (List UInt8)) (hsa0 : slS (tyL ty8) S0 Aa0 ca0 a0) (r : Bool) (hf : slices_ContainsFunc_____byte___byte_clo1_28_0_0 Fu a0 = some r) (w0 : World) (hm : Mem w0 (ownL ([] ++ [.sn S0])) ([] ++ [.sn S0]) w0) :
    Calls Try.prog 27 #[.slice Aa0 a0.length ca0, .func (.func 28) [].toArray [].toArray] w0 (Ret w0 S0 [] (fun v L1 S1 => v = .bool r ∧ L1 = [] ∧ True)) := by
  unfold slices_ContainsFunc_____byte___byte_clo1_28_0_0 at hf
  refine c_enterM Try.func27 rfl 9 rfl (by simp) _ hm _ rfl (fun a h => ?_)
  refine c_rs ?_
  refine sAV h (fun a h => ?_)
  refine l_end ?_
  refine c_rs ?_
  refine sMV h (fun a h => ?_)
  refine sMV h (fun a h => ?_)
  obtain ⟨x1, h2, hf⟩ := bsome hf
  have hX := slices_IndexFunc_____byte___byte_clo1_28_0_0_ok Fu (S0 := snapAll _) Aa0 ca0 a0 (hsa0.mono (h.m.leAll (i := 0) rfl)) _ h2 _ h.startAll
  refine q_callX hX h rfl rfl rfl (by decide) Try.func49 rfl rfl rfl (fun a w v L1 S1 hR hb1 h => ?_)
  obtain ⟨rfl, rfl, hr4, _⟩ := hR
  refine sX h (x_bin h.k rfl rfl rfl ib_geq) (fun a h => ?_)
  refine sAV h (fun a h => ?_)
  refine l_end ?_
  refine wp_ret ?_
  obtain rfl := Option.some.inj hf
  exact r_ret1 h rfl (rv_tmp h rfl) ⟨_, [], _, rfl, ⟨rfl, rfl, trivial⟩, rfl, (Up.refl _ _ _), h.m⟩
def keytree_Right (Fu : Nat) (a0 : Int) (a1 : List (List UInt8)) : Option Bool :=
  (path_Depth Fu a0).bind fun x1 => (if 0 < x1 then (path_Total Fu a0).bind fun x8 => some (decide ((a1.length : Int) = x8)) else some false).bind fun z6 => (if z6 = true then (slices_ContainsFunc_____byte___byte_clo1_28_0_0 Fu a1).bind fun x15 => some (!x15) else some false).bind fun z13 => some z13
set_option maxRecDepth 100000 in
set_option maxHeartbeats 2000000 in
theorem keytree_Right_ok (Fu : Nat) {S0 : Snap} (a0 : Int) (hra0 : r64 a0) (Aa1 : Option Addr) (ca1 : Nat) (a1 : List (List UInt8)) (hsa1 : slS (tyL ty8) S0 Aa1 ca1 a1) (r : Bool) (hf : keytree_Right Fu a0 a1 = some r) (w0 : World) (hm : Mem w0 (ownL ([] ++ [.sn S0])) ([] ++ [.sn S0]) w0) :
    Calls Try.prog 10 #[.int .i64 a0, .slice Aa1 a1.length ca1] w0 (Ret w0 S0 [] (fun v L1 S1 => v = .bool r ∧ L1 = [] ∧ True)) := by
  unfold keytree_Right at hf
  refine c_enterM Try.func10 rfl 20 rfl (by simp) _ hm _ rfl (fun a h => ?_)
  refine c_rs ?_
  refine sAV h (fun a h => ?_)
  refine l_end ?_
  refine c_rs ?_
  refine sMV h (fun a h => ?_)
  obtain ⟨x1, h2, hf⟩ := bsome hf
  have hX := path_Depth_ok Fu (S0 := snapAll _) a0 hra0 _ h2 _ h.startAll
  refine q_callX hX h rfl rfl rfl (by decide) Try.func21 rfl rfl rfl (fun a w v L1 S1 hR hb1 h => ?_)
  obtain ⟨rfl, rfl, hr4, _⟩ := hR
  refine sX h (x_bin h.k rfl rfl rfl ib_gtr) (fun a h => ?_)
  refine sMV h (fun a h => ?_)
  obtain ⟨z6, hz5, hf⟩ := bsome hf
  refine q_grp h 6 (t := 8) 14 z6 rfl (fun hB3 => ?_) (fun hB3 => ?_) (fun a w h => ?_)
  · rw [if_pos (of_decide_eq_true hB3)] at hz5
    refine g_yes h rfl rfl rfl rfl hB3 ?_
    refine sMV h (fun a h => ?_)
    refine g_yes h rfl rfl rfl rfl hB3 ?_
    refine sX h (x_len h.k rfl Try.underlying24 rfl) (fun a h => ?_)
    refine g_yes h rfl rfl rfl rfl hB3 ?_
    refine sMV h (fun a h => ?_)
    refine g_yes h rfl rfl rfl rfl hB3 ?_
    obtain ⟨x8, h9, hz5⟩ := bsome hz5
    have hX := path_Total_ok Fu (S0 := snapAll _) a0 hra0 _ h9 _ h.startAll
    refine q_callX hX h rfl rfl rfl (by decide) Try.func26 rfl rfl rfl (fun a w v L1 S1 hR hb1 h => ?_)
    obtain ⟨rfl, rfl, hr11, _⟩ := hR
    refine g_yes h rfl rfl rfl rfl hB3 ?_
    refine sX h (x_bin h.k rfl rfl rfl ib_eql) (fun a h => ?_)
    refine sX h (x_pick (u' := undef) h.k rfl rfl (fun _ => rfl) (fun hh => absurd (hB3.symm.trans hh) (by decide))) (fun a h => ?_)
    exact (h.mid 5 rfl).val (by rw [Option.some.inj hz5])
  · refine g_no h rfl rfl rfl rfl hB3 rfl (by decide) (fun a h => ?_)
    refine g_no h rfl rfl rfl rfl hB3 rfl (by decide) (fun a h => ?_)
    refine g_no h rfl rfl rfl rfl hB3 rfl (by decide) (fun a h => ?_)
    refine g_no h rfl rfl rfl rfl hB3 rfl (by decide) (fun a h => ?_)
    refine g_no h rfl rfl rfl rfl hB3 rfl (by decide) (fun a h => ?_)
    rw [if_neg (of_decide_eq_false hB3)] at hz5
    refine sX h (x_pick (u' := undef) h.k rfl rfl (fun hh => absurd (hB3.symm.trans hh) (by decide)) (fun _ => rfl)) (fun a h => ?_)
    exact (h.mid 5 rfl).val (by rw [Option.some.inj hz5])
  refine sMV h (fun a h => ?_)
  obtain ⟨z13, hz12, hf⟩ := bsome hf
  refine q_grp h 4 (t := 15) 19 z13 rfl (fun hB10 => ?_) (fun hB10 => ?_) (fun a w h => ?_)
  · rw [if_pos hB10] at hz12
    refine g_yes h rfl rfl rfl rfl hB10 ?_
    refine sMV h (fun a h => ?_)
    refine g_yes h rfl rfl rfl rfl hB10 ?_
    obtain ⟨x15, h16, hz12⟩ := bsome hz12
    have hX := slices_ContainsFunc_____byte___byte_clo1_28_0_0_ok Fu (S0 := snapAll _) Aa1 ca1 a1 (hsa1.mono (h.m.leAll (i := 0) rfl)) _ h16 _ h.startAll
    refine q_callX hX h rfl rfl rfl (by decide) Try.func27 rfl rfl rfl (fun a w v L1 S1 hR hb1 h => ?_)
    obtain ⟨rfl, rfl, _⟩ := hR
    refine g_yes h rfl rfl rfl rfl hB10 ?_
    refine sX h (x_not h.k rfl rfl) (fun a h => ?_)
    refine sX h (x_pick (u' := undef) h.k rfl rfl (fun _ => rfl) (fun hh => absurd (hB10.symm.trans hh) (by decide))) (fun a h => ?_)
    exact (h.mid 3 rfl).val (by rw [Option.some.inj hz12])
  · refine g_no h rfl rfl rfl rfl hB10 rfl (by decide) (fun a h => ?_)
    refine g_no h rfl rfl rfl rfl hB10 rfl (by decide) (fun a h => ?_)
    refine g_no h rfl rfl rfl rfl hB10 rfl (by decide) (fun a h => ?_)
    rw [if_neg (by rw [hB10]; decide)] at hz12
    refine sX h (x_pick (u' := undef) h.k rfl rfl (fun hh => absurd (hB10.symm.trans hh) (by decide)) (fun _ => rfl)) (fun a h => ?_)
    exact (h.mid 3 rfl).val (by rw [Option.some.inj hz12])
  refine sAV h (fun a h => ?_)
  refine l_end ?_
  refine wp_ret ?_
  rw [← Option.some.inj hf]
  exact r_ret1 h rfl (rv_tmp h rfl) ⟨_, [], _, rfl, ⟨rfl, rfl, trivial⟩, rfl, (Up.refl _ _ _), h.m⟩
def keytree_keys_1 (Fu : Nat) (a0 : List UInt8) : Option Bool :=
  some (decide ((a0.length : Int) ≠ 32))
set_option maxRecDepth 100000 in
set_option maxHeartbeats 2000000 in
theorem keytree_keys_1_ok (Fu : Nat) {S0 : Snap} (Aa0 : Option Addr) (ca0 : Nat) (a0 : List UInt8) (hsa0 : slS ty8 S0 Aa0 ca0 a0) (r : Bool) (hf : keytree_keys_1 Fu a0 = some r) (w0 : World) (hm : Mem w0 (ownL ([] ++ [.sn S0])) ([] ++ [.sn S0]) w0) :
    Calls Try.prog 43 #[.slice Aa0 a0.length ca0] w0 (Ret w0 S0 [] (fun v L1 S1 => v = .bool r ∧ L1 = [] ∧ True)) := by
  unfold keytree_keys_1 at hf
  refine c_enterM Try.func43 rfl 6 rfl (by simp) _ hm _ rfl (fun a h => ?_)
  refine c_rs ?_
  refine sAV h (fun a h => ?_)
  refine l_end ?_
  refine c_rs ?_
  refine sMV h (fun a h => ?_)
  refine sX h (x_len h.k rfl Try.underlying22 rfl) (fun a h => ?_)
  refine sX h (x_bin h.k rfl rfl rfl ib_neq) (fun a h => ?_)
  refine sAV h (fun a h => ?_)
  refine l_end ?_
  refine wp_ret ?_
  obtain rfl := Option.some.inj hf
  exact r_ret1 h rfl (rv_tmp h rfl) ⟨_, [], _, rfl, ⟨rfl, rfl, trivial⟩, rfl, (Up.refl _ _ _), h.m⟩
def slices_IndexFunc_____byte___byte_clo1_43_0_0_l0 (Fu : Nat) (a0 : List (List UInt8)) : Nat → Int → Option (Sum Int Unit)
  | 0, _ => none
  | k + 1, x3 => if x3 < (a0.length : Int) then ((idx a0 x3).bind fun x7 => (keytree_keys_1 Fu x7).bind fun x23 => if x23 = true then (some (.inl x3)) else (slices_IndexFunc_____byte___byte_clo1_43_0_0_l0 Fu a0 k (w64 (x3 + 1)))) else (some (.inr ()))
def slices_IndexFunc_____byte___byte_clo1_43_0_0 (Fu : Nat) (a0 : List (List UInt8)) : Option Int :=
  (slices_IndexFunc_____byte___byte_clo1_43_0_0_l0 Fu a0 Fu 0).bind fun o => match o with | .inl r26 => some r26 | .inr _ => some (-1)
set_option maxRecDepth 100000 in
set_option maxHeartbeats 2000000 in
theorem slices_IndexFunc_____byte___byte_clo1_43_0_0_ok (Fu : Nat) {S0 : Snap} (Aa0 : Option Addr) (ca0 : Nat) (a0 : List (List UInt8)) (hsa0 : slS (tyL ty8) S0 Aa0 ca0 a0) (r : Int) (hf : slices_IndexFunc_____byte___byte_clo1_43_0_0 Fu a0 = some r) (w0 : World) (hm : Mem w0 (ownL ([] ++ [.sn S0])) ([] ++ [.sn S0]) w0) :
    Calls Try.prog 49 #[.slice Aa0 a0.length ca0, .func (.func 43) [].toArray [].toArray] w0 (Ret w0 S0 [] (fun v L1 S1 => v = .int .i64 r ∧ L1 = [] ∧ r64 r ∧ True)) := by
  unfold slices_IndexFunc_____byte___byte_clo1_43_0_0 at hf
  refine c_enterM Try.func49 rfl 19 rfl (by simp) _ hm _ rfl (fun a h => ?_)
  refine c_rs ?_
  refine sAV h (fun a h => ?_)
  refine l_end ?_
  refine wp_seq ?_
  refine c_rs ?_
  refine sMV h (fun a h => ?_)
  refine sX h (x_len h.k rfl Try.underlying24 rfl) (fun a h => ?_)
  refine sMV h (fun a h => ?_)
  refine l_end ?_
  obtain ⟨o1, hl2, hf⟩ := bsome hf
  refine c_fin (fun a w => (.inr ()) = o1 ∧ St 19 w0 (ownL ([] ++ [.sn S0])) [] [.sn S0] a w) ?_ ?_
  · refine wp_block ?_
    refine c_loop (fun m6 a w => ∃ (x3 : Int), slices_IndexFunc_____byte___byte_clo1_43_0_0_l0 Fu a0 m6 x3 = some o1 ∧ r64 x3 ∧ St 19 w0 (ownL ([] ++ [.sn S0])) [(0, .slice Aa0 a0.length ca0), (1, .func (.func 43) [].toArray [].toArray), (7, .int .i64 (a0.length : Int)), (8, .int .i64 x3)] [.sn S0] a w) Fu ⟨0, hl2, (show r64 0 from ⟨by decide, by decide⟩), h.has (by exact ⟨rfl, rfl, rfl, rfl, trivial⟩)⟩ (fun m6 a w hI => ?_)
    obtain ⟨x3, hl5, hr4, h⟩ := hI
    obtain _ | m6 := m6
    · rw [slices_IndexFunc_____byte___byte_clo1_43_0_0_l0] at hl5; cases hl5
    rw [slices_IndexFunc_____byte___byte_clo1_43_0_0_l0] at hl5
    refine c_rs ?_
    refine sX h (x_bin h.k rfl rfl rfl ib_lss) (fun a h => ?_)
    refine l_end ?_
    refine c_cs h rfl (fun hb => ?_) (fun hb => ?_)
    · rw [if_pos (of_decide_eq_true hb)] at hl5
      refine wp_skip ?_
      refine e_thenN ?_
      refine wp_seq ?_
      refine wp_block ?_
      refine c_rs ?_
      refine sMV h (fun a h => ?_)
      refine sAV h (fun a h => ?_)
      refine l_end ?_
      refine c_rs ?_
      refine sMV h (fun a h => ?_)
      refine sMV h (fun a h => ?_)
      refine sMV h (fun a h => ?_)
      obtain ⟨x7, h11, hl5⟩ := bsome hl5
      obtain ⟨m8, hi12, hm13, hx14⟩ := idx_some h11
      obtain ⟨b9, off10, k15, hA16, hu17, hc18⟩ := (hsa0).at1 rfl hx14 (h.m.snOK (i := 0) rfl)
      obtain ⟨A19, c20, e22, hs21⟩ := hu17
      cases e22
      refine sX h (x_iaddrE h.k rfl Try.underlying24 sz_Suint8 hA16 rfl rfl hi12 hm13) (fun a h => ?_)
      refine sX h (x_ld h.k rfl Try.underlying22 rfl rfl (hc18 _ (h.m.snOK (i := 0) rfl))) (fun a h => ?_)
      obtain ⟨x23, h24, hl5⟩ := bsome hl5
      have hX := keytree_keys_1_ok Fu (S0 := snapAll _) A19 c20 x7 (hs21.mono (h.m.leAll (i := 0) rfl)) _ h24 _ h.startAll
      refine q_callXV hX h rfl rfl rfl (by decide) rfl Try.func43 rfl rfl [.slice A19 x7.length c20] rfl rfl (fun a w v L1 S1 hR hb1 h => ?_)
      obtain ⟨rfl, rfl, _⟩ := hR
      refine l_end ?_
      refine c_cond h rfl (fun hb => ?_) (fun hb => ?_)
      · rw [if_pos hb] at hl5
        refine c_rs ?_
        refine sMV h (fun a h => ?_)
        refine sAV h (fun a h => ?_)
        refine l_end ?_
        refine wp_ret ?_
        refine e_blkR ?_
        refine e_thenR ?_
        refine e_thenR ?_
        refine e_blkR ?_
        refine e_thenR ?_
        cases hl5
        try dsimp only at hf
        refine e_thenR ?_
        rw [← Option.some.inj hf]
        exact r_ret1 h rfl (rv_tmp h rfl) ⟨_, [], _, rfl, ⟨rfl, rfl, hr4, trivial⟩, rfl, (Up.refl _ _ _), h.m⟩
      · rw [if_neg (by rw [hb]; decide)] at hl5
        refine wp_skip ?_
        refine e_blkN ?_
        refine e_thenN ?_
        refine c_r ?_
        refine sX h (x_bin h.k rfl rfl rfl (ib_add rfl)) (fun a h => ?_)
        refine sMV h (fun a h => ?_)
        refine l_nil ?_
        exact e_thenN ⟨m6, Nat.lt_succ_self _, w64 (x3 + 1), hl5, (w64_r _), h.has (by exact ⟨rfl, rfl, rfl, rfl, trivial⟩)⟩
    · rw [if_neg (of_decide_eq_false hb)] at hl5
      refine wp_exit ?_
      refine e_thenX ?_
      refine e_thenX ?_
      refine e_blkX ?_
      refine e_thenN ?_
      exact ⟨(Option.some.inj hl5), h.has trivial⟩
  · rintro a w ⟨rfl, h⟩
    try dsimp only at hf
    refine e_thenN ?_
    refine c_rs ?_
    refine sAV h (fun a h => ?_)
    refine l_end ?_
    refine wp_ret ?_
    obtain rfl := Option.some.inj hf
    exact r_ret1 h rfl (rv_tmp h rfl) ⟨_, [], _, rfl, ⟨rfl, rfl, (show r64 (-1) from ⟨by decide, by decide⟩), trivial⟩, rfl, (Up.refl _ _ _), h.m⟩
def slices_ContainsFunc_____byte___byte_clo1_43_0_0 (Fu : Nat) (a0 : List (List UInt8)) : Option Bool :=
  (slices_IndexFunc_____byte___byte_clo1_43_0_0 Fu a0).bind fun x1 => some (decide (0 ≤ x1))
set_option maxRecDepth 100000 in
set_option maxHeartbeats 2000000 in
theorem slices_ContainsFunc_____byte___byte_clo1_43_0_0_ok (Fu : Nat) {S0 : Snap} (Aa0 : Option Addr) (ca0 : Nat) (a0 : List (List UInt8)) (hsa0 : slS (tyL ty8) S0 Aa0 ca0 a0) (r : Bool) (hf : slices_ContainsFunc_____byte___byte_clo1_43_0_0 Fu a0 = some r) (w0 : World) (hm : Mem w0 (ownL ([] ++ [.sn S0])) ([] ++ [.sn S0]) w0) :
    Calls Try.prog 27 #[.slice Aa0 a0.length ca0, .func (.func 43) [].toArray [].toArray] w0 (Ret w0 S0 [] (fun v L1 S1 => v = .bool r ∧ L1 = [] ∧ True)) := by
  unfold slices_ContainsFunc_____byte___byte_clo1_43_0_0 at hf
  refine c_enterM Try.func27 rfl 9 rfl (by simp) _ hm _ rfl (fun a h => ?_)
  refine c_rs ?_
  refine sAV h (fun a h => ?_)
  refine l_end ?_
  refine c_rs ?_
  refine sMV h (fun a h => ?_)
  refine sMV h (fun a h => ?_)
  obtain ⟨x1, h2, hf⟩ := bsome hf
  have hX := slices_IndexFunc_____byte___byte_clo1_43_0_0_ok Fu (S0 := snapAll _) Aa0 ca0 a0 (hsa0.mono (h.m.leAll (i := 0) rfl)) _ h2 _ h.startAll
  refine q_callX hX h rfl rfl rfl (by decide) Try.func49 rfl rfl rfl (fun a w v L1 S1 hR hb1 h => ?_)
  obtain ⟨rfl, rfl, hr4, _⟩ := hR
  refine sX h (x_bin h.k rfl rfl rfl ib_geq) (fun a h => ?_)
  refine sAV h (fun a h => ?_)
  refine l_end ?_
  refine wp_ret ?_
  obtain rfl := Option.some.inj hf
  exact r_ret1 h rfl (rv_tmp h rfl) ⟨_, [], _, rfl, ⟨rfl, rfl, trivial⟩, rfl, (Up.refl _ _ _), h.m⟩
def keytree_keys (Fu : Nat) (a0 : List UInt8) (a1 : List (List UInt8)) : Option Bool :=
  (if 0 < (a0.length : Int) then (slices_ContainsFunc_____byte___byte_clo1_43_0_0 Fu a1).bind fun x4 => some (!x4) else some false).bind fun z2 => some z2
set_option maxRecDepth 100000 in
set_option maxHeartbeats 2000000 in
theorem keytree_keys_ok (Fu : Nat) {S0 : Snap} (Aa0 : Option Addr) (ca0 : Nat) (a0 : List UInt8) (hsa0 : slS ty8 S0 Aa0 ca0 a0) (Aa1 : Option Addr) (ca1 : Nat) (a1 : List (List UInt8)) (hsa1 : slS (tyL ty8) S0 Aa1 ca1 a1) (r : Bool) (hf : keytree_keys Fu a0 a1 = some r) (w0 : World) (hm : Mem w0 (ownL ([] ++ [.sn S0])) ([] ++ [.sn S0]) w0) :
    Calls Try.prog 22 #[.slice Aa0 a0.length ca0, .slice Aa1 a1.length ca1] w0 (Ret w0 S0 [] (fun v L1 S1 => v = .bool r ∧ L1 = [] ∧ True)) := by
  unfold keytree_keys at hf
  refine c_enterM Try.func22 rfl 13 rfl (by simp) _ hm _ rfl (fun a h => ?_)
  refine c_rs ?_
  refine sAV h (fun a h => ?_)
  refine l_end ?_
  refine c_rs ?_
  refine sMV h (fun a h => ?_)
  refine sX h (x_len h.k rfl Try.underlying22 rfl) (fun a h => ?_)
  refine sX h (x_bin h.k rfl rfl rfl ib_gtr) (fun a h => ?_)
  refine sMV h (fun a h => ?_)
  obtain ⟨z2, hz1, hf⟩ := bsome hf
  refine q_grp h 4 (t := 8) 12 z2 rfl (fun hB3 => ?_) (fun hB3 => ?_) (fun a w h => ?_)
  · rw [if_pos (of_decide_eq_true hB3)] at hz1
    refine g_yes h rfl rfl rfl rfl hB3 ?_
    refine sMV h (fun a h => ?_)
    refine g_yes h rfl rfl rfl rfl hB3 ?_
    obtain ⟨x4, h5, hz1⟩ := bsome hz1
    have hX := slices_ContainsFunc_____byte___byte_clo1_43_0_0_ok Fu (S0 := snapAll _) Aa1 ca1 a1 (hsa1.mono (h.m.leAll (i := 0) rfl)) _ h5 _ h.startAll
    refine q_callX hX h rfl rfl rfl (by decide) Try.func27 rfl rfl rfl (fun a w v L1 S1 hR hb1 h => ?_)
    obtain ⟨rfl, rfl, _⟩ := hR
    refine g_yes h rfl rfl rfl rfl hB3 ?_
    refine sX h (x_not h.k rfl rfl) (fun a h => ?_)
    refine sX h (x_pick (u' := undef) h.k rfl rfl (fun _ => rfl) (fun hh => absurd (hB3.symm.trans hh) (by decide))) (fun a h => ?_)
    exact (h.mid 3 rfl).val (by rw [Option.some.inj hz1])
  · refine g_no h rfl rfl rfl rfl hB3 rfl (by decide) (fun a h => ?_)
    refine g_no h rfl rfl rfl rfl hB3 rfl (by decide) (fun a h => ?_)
    refine g_no h rfl rfl rfl rfl hB3 rfl (by decide) (fun a h => ?_)
    rw [if_neg (of_decide_eq_false hB3)] at hz1
    refine sX h (x_pick (u' := undef) h.k rfl rfl (fun hh => absurd (hB3.symm.trans hh) (by decide)) (fun _ => rfl)) (fun a h => ?_)
    exact (h.mid 3 rfl).val (by rw [Option.some.inj hz1])
  refine sAV h (fun a h => ?_)
  refine l_end ?_
  refine wp_ret ?_
  rw [← Option.some.inj hf]
  exact r_ret1 h rfl (rv_tmp h rfl) ⟨_, [], _, rfl, ⟨rfl, rfl, trivial⟩, rfl, (Up.refl _ _ _), h.m⟩
def keytree_Leaf_l0 (Fu : Nat) (a2 : List (List UInt8)) (x20 : (List Int)) : Nat → (List UInt8) → Int → Option (Sum ((List UInt8) × Int) ((List UInt8)))
  | 0, _, _ => none
  | k + 1, x34, x38 => if x38 < (x20.length : Int) then ((ix x20.length x38).bind fun m49 => (x20[m49]?).bind fun x55 => (idx a2 x55).bind fun x62 => (wrap_Unwrap Fu x34 x62).bind fun x78 => if x78.2 ≠ 0 then (some (.inl ([], x78.2))) else (keytree_Leaf_l0 Fu a2 x20 k x78.1 (w64 (x38 + 1)))) else (some (.inr x34))
def keytree_Leaf (Fu : Nat) (a0 : List UInt8) (a1 : Int) (a2 : List (List UInt8)) (a3 : Int) : Option ((List UInt8) × Int) :=
  (keytree_Right Fu a1 a2).bind fun x1 => if (((!x1) || (decide (a3 < 0))) || (decide (a1 ≤ a3))) = true then (some ([], 2)) else (if (a0.length : Int) ≠ 32 then (some ([], 20)) else ((slices_Clone___byte_byte Fu a0).bind fun x8 => (path_Path Fu a1 a3).bind fun x20 => (keytree_Leaf_l0 Fu a2 x20 Fu x8 0).bind fun o => match o with | .inl r88 => some r88 | .inr x43 => some (x43, 0)))
set_option maxRecDepth 100000 in
set_option maxHeartbeats 2000000 in
theorem keytree_Leaf_ok (Fu : Nat) {S0 : Snap} (Aa0 : Option Addr) (ca0 : Nat) (a0 : List UInt8) (hsa0 : slS ty8 S0 Aa0 ca0 a0) (a1 : Int) (hra1 : r64 a1) (Aa2 : Option Addr) (ca2 : Nat) (a2 : List (List UInt8)) (hsa2 : slS (tyL ty8) S0 Aa2 ca2 a2) (a3 : Int) (hra3 : r64 a3) (r : (List UInt8) × Int) (hf : keytree_Leaf Fu a0 a1 a2 a3 = some r) (w0 : World) (hm : Mem w0 (ownL ([] ++ [.sn S0])) ([] ++ [.sn S0]) w0) :
    Calls Try.prog 12 #[.slice Aa0 a0.length ca0, .int .i64 a1, .slice Aa2 a2.length ca2, .int .i64 a3] w0 (Ret w0 S0 [] (fun v L1 S1 => ∃ (A89 : Option Addr), ∃ (c90 : Nat), v = .tuple #[.slice A89 r.1.length c90, .int .i64 r.2] ∧ L1 = [] ∧ slS ty8 S1 A89 c90 r.1 ∧ r64 r.2 ∧ True)) := by
  unfold keytree_Leaf at hf
  refine c_enterM Try.func12 rfl 56 rfl (by simp) _ hm _ rfl (fun a h => ?_)
  refine c_rs ?_
  refine sAV h (fun a h => ?_)
  refine sAV h (fun a h => ?_)
  refine l_end ?_
  refine wp_seq ?_
  refine c_rs ?_
  refine sMV h (fun a h => ?_)
  refine sMV h (fun a h => ?_)
  obtain ⟨x1, h2, hf⟩ := bsome hf
  have hX := keytree_Right_ok Fu (S0 := snapAll _) a1 hra1 Aa2 ca2 a2 (hsa2.mono (h.m.leAll (i := 0) rfl)) _ h2 _ h.startAll
  refine q_callX hX h rfl rfl rfl (by decide) Try.func10 rfl rfl rfl (fun a w v L1 S1 hR hb1 h => ?_)
  obtain ⟨rfl, rfl, _⟩ := hR
  refine sX h (x_not h.k rfl rfl) (fun a h => ?_)
  refine sMV h (fun a h => ?_)
  refine q_grp h 3 (t := 19) 22 ((!x1) || (decide (a3 < 0))) rfl (fun hB4 => ?_) (fun hB4 => ?_) (fun a w h => ?_)
  · refine g_no h rfl rfl rfl rfl hB4 rfl (by decide) (fun a h => ?_)
    refine g_no h rfl rfl rfl rfl hB4 rfl (by decide) (fun a h => ?_)
    refine sX h (x_pick (u' := undef) h.k rfl rfl (fun _ => rfl) (fun hh => absurd (hB4.symm.trans hh) (by decide))) (fun a h => ?_)
    exact (h.mid 2 rfl).val (by first | rfl | (rw [hB4]; first | rfl | simp))
  · refine g_yes h rfl rfl rfl rfl hB4 ?_
    refine sMV h (fun a h => ?_)
    refine g_yes h rfl rfl rfl rfl hB4 ?_
    refine sX h (x_bin h.k rfl rfl rfl ib_lss) (fun a h => ?_)
    refine sX h (x_pick (u' := undef) h.k rfl rfl (fun hh => absurd (hB4.symm.trans hh) (by decide)) (fun _ => rfl)) (fun a h => ?_)
    exact (h.mid 2 rfl).val (by first | rfl | (rw [hB4]; first | rfl | simp))
  refine sMV h (fun a h => ?_)
  refine q_grp h 4 (t := 23) 27 (((!x1) || (decide (a3 < 0))) || (decide (a1 ≤ a3))) rfl (fun hB8 => ?_) (fun hB8 => ?_) (fun a w h => ?_)
  · refine g_no h rfl rfl rfl rfl hB8 rfl (by decide) (fun a h => ?_)
    refine g_no h rfl rfl rfl rfl hB8 rfl (by decide) (fun a h => ?_)
    refine g_no h rfl rfl rfl rfl hB8 rfl (by decide) (fun a h => ?_)
    refine sX h (x_pick (u' := undef) h.k rfl rfl (fun _ => rfl) (fun hh => absurd (hB8.symm.trans hh) (by decide))) (fun a h => ?_)
    exact (h.mid 3 rfl).val (by first | rfl | (rw [hB8]; first | rfl | simp))
  · refine g_yes h rfl rfl rfl rfl hB8 ?_
    refine sMV h (fun a h => ?_)
    refine g_yes h rfl rfl rfl rfl hB8 ?_
    refine sMV h (fun a h => ?_)
    refine g_yes h rfl rfl rfl rfl hB8 ?_
    refine sX h (x_bin h.k rfl rfl rfl ib_geq) (fun a h => ?_)
    refine sX h (x_pick (u' := undef) h.k rfl rfl (fun hh => absurd (hB8.symm.trans hh) (by decide)) (fun _ => rfl)) (fun a h => ?_)
    exact (h.mid 3 rfl).val (by first | rfl | (rw [hB8]; first | rfl | simp))
  refine l_end ?_
  refine c_cond h rfl (fun hb => ?_) (fun hb => ?_)
  · rw [if_pos hb] at hf
    refine c_rs ?_
    refine sAV h (fun a h => ?_)
    refine sAV h (fun a h => ?_)
    refine l_end ?_
    refine wp_ret ?_
    refine e_thenR ?_
    obtain rfl := Option.some.inj hf
    exact r_ret2 h rfl (rv_tmp h rfl) (rv_tmp h rfl) ⟨_, [], _, rfl, ⟨none, 0, rfl, rfl, (slS.nil ty8 S0), (show r64 2 from ⟨by decide, by decide⟩), trivial⟩, rfl, (Up.refl _ _ _), h.m⟩
  · rw [if_neg (by rw [hb]; decide)] at hf
    refine wp_skip ?_
    refine e_thenN ?_
    refine wp_seq ?_
    refine c_rs ?_
    refine sMV h (fun a h => ?_)
    refine sX h (x_len h.k rfl Try.underlying22 rfl) (fun a h => ?_)
    refine sX h (x_bin h.k rfl rfl rfl ib_neq) (fun a h => ?_)
    refine l_end ?_
    refine c_cond h rfl (fun hb => ?_) (fun hb => ?_)
    · rw [if_pos (of_decide_eq_true hb)] at hf
      refine c_rs ?_
      refine sAV h (fun a h => ?_)
      refine sAV h (fun a h => ?_)
      refine l_end ?_
      refine wp_ret ?_
      refine e_thenR ?_
      obtain rfl := Option.some.inj hf
      exact r_ret2 h rfl (rv_tmp h rfl) (rv_tmp h rfl) ⟨_, [], _, rfl, ⟨none, 0, rfl, rfl, (slS.nil ty8 S0), (show r64 20 from ⟨by decide, by decide⟩), trivial⟩, rfl, (Up.refl _ _ _), h.m⟩
    · rw [if_neg (of_decide_eq_false hb)] at hf
      refine wp_skip ?_
      refine e_thenN ?_
      refine c_rs ?_
      refine sMV h (fun a h => ?_)
      obtain ⟨x8, h9, hf⟩ := bsome hf
      have hX := slices_Clone___byte_byte_ok Fu (S0 := snapAll _) Aa0 ca0 a0 (hsa0.mono (h.m.leAll (i := 0) rfl)) _ h9 _ h.startAll
      refine q_callX hX h rfl rfl rfl (by decide) Try.func30 rfl rfl rfl (fun a w v L1 S1 hR hb1 h => ?_)
      obtain ⟨A11, c12, cs13, rfl, rfl, hq14, _⟩ := hR
      have hq15 := hq14.fl (S' := S0) fl_8
      obtain ⟨S16, le17, up18, hs19, h⟩ := q_freeze (T := ty8) h (Up.refl _ _ _) hq15
      refine sAV h (fun a h => ?_)
      refine l_end ?_
      refine wp_seq ?_
      refine c_rs ?_
      refine sMV h (fun a h => ?_)
      refine sMV h (fun a h => ?_)
      obtain ⟨x20, h21, hf⟩ := bsome hf
      have hX := path_Path_ok Fu (S0 := snapAll _) a1 hra1 a3 hra3 _ h21 _ h.startAll
      refine q_callX hX h rfl rfl rfl (by decide) Try.func31 rfl rfl rfl (fun a w v L1 S1 hR hb1 h => ?_)
      obtain ⟨A23, c24, cs25, rfl, rfl, hq26, _⟩ := hR
      have hq27 := hq26.fl (S' := S16) fl_I
      have hr28 : r64 (x20.length : Int) := len_r (h.m.rowLen (i := 0) rfl)
      refine sX h (x_len h.k rfl Try.underlying51 rfl) (fun a h => ?_)
      refine sMV h (fun a h => ?_)
      refine l_end ?_
      obtain ⟨o29, hl30, hf⟩ := bsome hf
      refine c_fin (fun a w => ∃ (S40 : Snap), ∃ (x43 : List UInt8), ∃ (A44 : Option Addr), ∃ (c45 : Nat), (.inr x43) = o29 ∧ Snap.le S16 S40 ∧ Up (ownL ([] ++ [.sn S0])) w0 S0 S40 ∧ slS ty8 S40 A44 c45 x43 ∧ St 56 w0 (ownL ([] ++ [.sn S0])) [(10, .slice A44 x43.length c45)] [.sn S40] a w) ?_ ?_
      · refine wp_block ?_
        refine c_loop (fun m48 a w => ∃ (S31 : Snap), ∃ (x34 : List UInt8), ∃ (A35 : Option Addr), ∃ (c36 : Nat), ∃ (x38 : Int), keytree_Leaf_l0 Fu a2 x20 m48 x34 x38 = some o29 ∧ Snap.le S16 S31 ∧ Up (ownL ([] ++ [.sn S0])) w0 S0 S31 ∧ slS ty8 S31 A35 c36 x34 ∧ r64 x38 ∧ St 56 w0 (ownL ([] ++ [.sn S0])) [(2, .slice Aa2 a2.length ca2), (10, .slice A35 x34.length c36), (35, .slice A23 x20.length c24), (36, .int .i64 (x20.length : Int)), (37, .int .i64 x38)] [.row (.slice A23 x20.length c24) 3 1 x20.length cs25, .sn S31] a w) Fu ⟨S16, x8, A11, c12, 0, hl30, (Snap.le.refl _), up18, hs19, (show r64 0 from ⟨by decide, by decide⟩), h.has (by exact ⟨rfl, rfl, rfl, rfl, rfl, trivial⟩)⟩ (fun m48 a w hI => ?_)
        obtain ⟨S31, x34, A35, c36, x38, hl47, le32, up33, hs37, hr39, h⟩ := hI
        obtain _ | m48 := m48
        · rw [keytree_Leaf_l0] at hl47; cases hl47
        rw [keytree_Leaf_l0] at hl47
        refine c_rs ?_
        refine sX h (x_bin h.k rfl rfl rfl ib_lss) (fun a h => ?_)
        refine l_end ?_
        refine c_cs h rfl (fun hb => ?_) (fun hb => ?_)
        · rw [if_pos (of_decide_eq_true hb)] at hl47
          refine wp_skip ?_
          refine e_thenN ?_
          refine wp_seq ?_
          refine wp_block ?_
          refine c_rs ?_
          obtain ⟨m49, h50, hl47⟩ := bsome hl47
          obtain ⟨hi51, hm52⟩ := ix_some h50
          obtain ⟨g54, hA53⟩ := h.m.rowHead (i := 0) rfl (Nat.lt_of_le_of_lt (Nat.zero_le _) hm52)
          refine sX h (x_iaddrE h.k rfl Try.underlying51 sz_int hA53 rfl rfl hi51 hm52) (fun a h => ?_)
          obtain ⟨x55, h56, hl47⟩ := bsome hl47
          obtain ⟨u57, hv58, hu59⟩ := ((hq27.mono le32)).cell rfl h56
          obtain ⟨e61, hr60⟩ := hu59
          cases e61
          refine sX h (x_ld h.k rfl Try.underlying3 rfl rfl (h.m.cellRowE (i := 0) rfl hA53 _ (by rw [Nat.mul_one]; exact hv58))) (fun a h => ?_)
          refine sAV h (fun a h => ?_)
          refine l_end ?_
          refine c_rs ?_
          refine sMV h (fun a h => ?_)
          refine sMV h (fun a h => ?_)
          refine sMV h (fun a h => ?_)
          obtain ⟨x62, h66, hl47⟩ := bsome hl47
          obtain ⟨m63, hi67, hm68, hx69⟩ := idx_some h66
          obtain ⟨b64, off65, k70, hA71, hu72, hc73⟩ := ((hsa2.mono (le17.trans le32))).at1 rfl hx69 (h.m.snOK (i := 1) rfl)
          obtain ⟨A74, c75, e77, hs76⟩ := hu72
          cases e77
          refine sX h (x_iaddrE h.k rfl Try.underlying24 sz_Suint8 hA71 rfl rfl hi67 hm68) (fun a h => ?_)
          refine sX h (x_ld h.k rfl Try.underlying22 rfl rfl (hc73 _ (h.m.snOK (i := 1) rfl))) (fun a h => ?_)
          obtain ⟨x78, h79, hl47⟩ := bsome hl47
          have h := h.pick [1, 0] (by decide) rfl
          have hX := wrap_Unwrap_ok Fu (S0 := S31) A35 c36 x34 hs37 A74 c75 x62 hs76 _ h79 _ (h.sub (Ls := []))
          refine q_callY (Ls := []) hX h up33 rfl rfl rfl (by decide) Try.func32 rfl rfl rfl (fun a w v L1 S81 hR le83 up82 h => ?_)
          obtain ⟨A84, c85, rfl, rfl, hs86, hr87, _⟩ := hR
          refine sMV h (fun a h => ?_)
          refine sX h (x_ext h.k rfl rfl rfl) (fun a h => ?_)
          refine sX h (x_ext h.k rfl rfl rfl) (fun a h => ?_)
          refine sAV h (fun a h => ?_)
          refine sAV h (fun a h => ?_)
          refine l_end ?_
          refine wp_seq ?_
          refine c_rs ?_
          refine sMV h (fun a h => ?_)
          refine sX h (x_bin h.k rfl rfl rfl ib_neq) (fun a h => ?_)
          refine l_end ?_
          refine c_cond h rfl (fun hb => ?_) (fun hb => ?_)
          · rw [if_pos (of_decide_eq_true hb)] at hl47
            refine c_rs ?_
            refine sMV h (fun a h => ?_)
            refine sAV h (fun a h => ?_)
            refine sAV h (fun a h => ?_)
            refine l_end ?_
            refine wp_ret ?_
            refine e_thenR ?_
            refine e_blkR ?_
            refine e_thenR ?_
            refine e_thenR ?_
            refine e_blkR ?_
            refine e_thenR ?_
            cases hl47
            try dsimp only at hf
            refine e_thenR ?_
            obtain rfl := Option.some.inj hf
            exact r_ret2 h rfl (rv_tmp h rfl) (rv_tmp h rfl) ⟨_, [], _, rfl, ⟨none, 0, rfl, rfl, (slS.nil ty8 S81), hr87, trivial⟩, rfl, up82, (h.m.pick [0] _ (by decide) rfl)⟩
          · rw [if_neg (of_decide_eq_false hb)] at hl47
            refine wp_skip ?_
            refine e_thenN ?_
            refine c_r ?_
            refine sMV h (fun a h => ?_)
            refine sAV h (fun a h => ?_)
            refine l_nil ?_
            refine e_blkN ?_
            refine e_thenN ?_
            refine c_r ?_
            refine sX h (x_bin h.k rfl rfl rfl (ib_add rfl)) (fun a h => ?_)
            refine sMV h (fun a h => ?_)
            refine l_nil ?_
            have h := h.pick [1, 0] (by decide) rfl
            exact e_thenN ⟨m48, Nat.lt_succ_self _, S81, x78.1, A84, c85, w64 (x38 + 1), hl47, (le32.trans le83), up82, hs86, (w64_r _), h.has (by exact ⟨rfl, rfl, rfl, rfl, rfl, trivial⟩)⟩
        · rw [if_neg (of_decide_eq_false hb)] at hl47
          refine wp_exit ?_
          refine e_thenX ?_
          refine e_thenX ?_
          refine e_blkX ?_
          refine e_thenN ?_
          have h := h.pick [1] (by decide) rfl
          exact ⟨S31, x34, A35, c36, (Option.some.inj hl47), le32, up33, hs37, h.has (by exact ⟨rfl, trivial⟩)⟩
      · rintro a w ⟨S40, x43, A44, c45, rfl, le41, up42, hs46, h⟩
        try dsimp only at hf
        refine e_thenN ?_
        refine c_rs ?_
        refine sMV h (fun a h => ?_)
        refine sAV h (fun a h => ?_)
        refine sAV h (fun a h => ?_)
        refine l_end ?_
        refine wp_ret ?_
        obtain rfl := Option.some.inj hf
        exact r_ret2 h rfl (rv_tmp h rfl) (rv_tmp h rfl) ⟨_, [], _, rfl, ⟨A44, c45, rfl, rfl, hs46, (show r64 0 from ⟨by decide, by decide⟩), trivial⟩, rfl, up42, h.m⟩
end Go.Proofs.Ytohgmggdfmjgnaa
