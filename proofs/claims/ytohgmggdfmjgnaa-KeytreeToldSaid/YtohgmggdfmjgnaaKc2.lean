/- Kc2: Go functions as plain functions, and that they are so (written by xt.py). -/
import Derived.Test.YtohgmggdfmjgnaaHn
import Derived.Test.YtohgmggdfmjgnaaEa
import Derived.Test.YtohgmggdfmjgnaaHi
set_option linter.unusedVariables false
set_option linter.unusedSimpArgs false
namespace Go.Proofs.Ytohgmggdfmjgnaa
open Go.RowKit
def chatelainelaw21_fresh (Fu : Nat) (a0 : List UInt8) (a1 : Int) (a2 : Int) : Option ((List UInt8)) :=
  (chatelaineref01_Put64 Fu (u64I a1)).bind fun x1 => (chatelaineref01_Put64 Fu (u64I a2)).bind fun x9 => (chatelaineref08_Derive Fu a0 ([110, 111, 100, 101] : List UInt8) 32 ([x1, x9])).bind fun x31 => some x31.1
set_option maxRecDepth 100000 in
set_option maxHeartbeats 2000000 in
theorem chatelainelaw21_fresh_ok (Fu : Nat) {S0 : Snap} (Aa0 : Option Addr) (ca0 : Nat) (a0 : List UInt8) (hsa0 : slS ty8 S0 Aa0 ca0 a0) (a1 : Int) (hra1 : r64 a1) (a2 : Int) (hra2 : r64 a2) (r : (List UInt8)) (hf : chatelainelaw21_fresh Fu a0 a1 a2 = some r) (w0 : World) (hm : Mem w0 (ownL ([] ++ [.sn S0])) ([] ++ [.sn S0]) w0) :
    Calls Try.prog 14 #[.slice Aa0 a0.length ca0, .int .i64 a1, .int .i64 a2] w0 (Ret w0 S0 [] (fun v L1 S1 => ∃ (A41 : Option Addr), ∃ (c42 : Nat), v = .slice A41 r.length c42 ∧ L1 = [] ∧ slS ty8 S1 A41 c42 r ∧ True)) := by
  unfold chatelainelaw21_fresh at hf
  refine c_enterM Try.func14 rfl 22 rfl (by simp) _ hm _ rfl (fun a h => ?_)
  refine c_rs ?_
  refine sAV h (fun a h => ?_)
  refine l_end ?_
  refine c_rs ?_
  refine sMV h (fun a h => ?_)
  refine sMV h (fun a h => ?_)
  refine sX h (x_convE h.k rfl Try.underlying3 Try.underlying59 rfl (u64I_wrap _)) (fun a h => ?_)
  obtain ⟨x1, h2, hf⟩ := bsome hf
  have hX := chatelaineref01_Put64_ok Fu (S0 := snapAll _) (u64I a1) _ h2 _ h.startAll
  refine q_callX hX h rfl rfl rfl (by decide) Try.func34 rfl rfl rfl (fun a w v L1 S1 hR hb1 h => ?_)
  obtain ⟨A4, c5, cs6, rfl, rfl, hq7, _⟩ := hR
  have hq8 := hq7.fl (S' := S0) fl_8
  refine sMV h (fun a h => ?_)
  refine sX h (x_convE h.k rfl Try.underlying3 Try.underlying59 rfl (u64I_wrap _)) (fun a h => ?_)
  obtain ⟨x9, h10, hf⟩ := bsome hf
  have hX := chatelaineref01_Put64_ok Fu (S0 := snapAll _) (u64I a2) _ h10 _ h.startAll
  refine q_callX hX h rfl rfl rfl (by decide) Try.func34 rfl rfl rfl (fun a w v L1 S1 hR hb1 h => ?_)
  obtain ⟨A12, c13, cs14, rfl, rfl, hq15, _⟩ := hR
  have hq16 := hq15.fl (S' := S0) fl_8
  have h := h.pick [1, 2, 0] (by decide) rfl
  obtain ⟨S17, le18, up19, hs20, h⟩ := q_freeze (T := ty8) h (Up.refl _ _ _) hq8
  have h := h.pick [1, 0] (by decide) rfl
  obtain ⟨S21, le22, up23, hs24, h⟩ := q_freeze (T := ty8) h up19 (hq16.mono le18)
  refine q_bslice (T := tyL ty8) (S := S21) h rfl rfl rfl (by decide) Try.underlying24 zi_Suint8 (by decide) (by decide) (by decide) (by decide) [.slice A4 x1.length c5, .slice A12 x9.length c13] rfl rfl (C := [[.slice A4 x1.length c5], [.slice A12 x9.length c13]]) rfl (xs := [x1, x9]) ⟨[.slice A4 x1.length c5], _, rfl, ⟨_, _, rfl, (hs20.mono le22)⟩, ⟨[.slice A12 x9.length c13], _, rfl, ⟨_, _, rfl, hs24⟩, rfl⟩⟩ (by simp only [List.mem_cons, List.not_mem_nil, or_false]; rintro c (rfl | rfl) <;> rfl) (fun a w A25 h => ?_)
  have hb26 : reps (tyL ty8) S21 ([[.slice A4 x1.length c5], [.slice A12 x9.length c13]] : List (List Value)).flatten [x1, x9] := ⟨[.slice A4 x1.length c5], _, rfl, ⟨_, _, rfl, (hs20.mono le22)⟩, ⟨[.slice A12 x9.length c13], _, rfl, ⟨_, _, rfl, hs24⟩, rfl⟩⟩
  obtain ⟨S27, le28, up29, hs30, h⟩ := q_freeze (T := tyL ty8) h up23 hb26
  obtain ⟨x31, h32, hf⟩ := bsome hf
  have hX := chatelaineref08_Derive_ok Fu (S0 := S27) Aa0 ca0 a0 (hsa0.mono ((le18.trans le22).trans le28)) ([110, 111, 100, 101] : List UInt8) (by decide) 32 (show r64 32 from ⟨by decide, by decide⟩) A25 2 ([x1, x9]) hs30 _ h32 _ (h.sub (Ls := []))
  refine q_callY (Ls := []) hX h up29 rfl rfl rfl (by decide) Try.func33 rfl rfl rfl (fun a w v L1 S34 hR le36 up35 h => ?_)
  obtain ⟨A37, c38, rfl, rfl, hs39, hr40, _⟩ := hR
  refine sMV h (fun a h => ?_)
  refine sX h (x_ext h.k rfl rfl rfl) (fun a h => ?_)
  refine sX h (x_ext h.k rfl rfl rfl) (fun a h => ?_)
  refine sAV h (fun a h => ?_)
  refine sAV h (fun a h => ?_)
  refine l_end ?_
  refine c_rs ?_
  refine sMV h (fun a h => ?_)
  refine sAV h (fun a h => ?_)
  refine l_end ?_
  refine wp_ret ?_
  obtain rfl := Option.some.inj hf
  exact r_ret1 h rfl (rv_tmp h rfl) ⟨_, [], _, rfl, ⟨A37, c38, rfl, rfl, hs39, trivial⟩, rfl, up35, h.m⟩
def chatelainelaw21_depth (Fu : Nat) (a0 : Int) : Option Int :=
  (chatelaineref20_Counts Fu a0).bind fun x1 => some (w64 ((x1.length : Int) - 1))
set_option maxRecDepth 100000 in
set_option maxHeartbeats 2000000 in
theorem chatelainelaw21_depth_ok (Fu : Nat) {S0 : Snap} (a0 : Int) (hra0 : r64 a0) (r : Int) (hf : chatelainelaw21_depth Fu a0 = some r) (w0 : World) (hm : Mem w0 (ownL ([] ++ [.sn S0])) ([] ++ [.sn S0]) w0) :
    Calls Try.prog 15 #[.int .i64 a0] w0 (Ret w0 S0 [] (fun v L1 S1 => v = .int .i64 r ∧ L1 = [] ∧ r64 r ∧ True)) := by
  unfold chatelainelaw21_depth at hf
  refine c_enterM Try.func15 rfl 7 rfl (by simp) _ hm _ rfl (fun a h => ?_)
  refine c_rs ?_
  refine sAV h (fun a h => ?_)
  refine l_end ?_
  refine c_rs ?_
  refine sMV h (fun a h => ?_)
  obtain ⟨x1, h2, hf⟩ := bsome hf
  have hX := chatelaineref20_Counts_ok Fu (S0 := snapAll _) a0 hra0 _ h2 _ h.startAll
  refine q_callX hX h rfl rfl rfl (by decide) Try.func29 rfl rfl rfl (fun a w v L1 S1 hR hb1 h => ?_)
  obtain ⟨A4, c5, cs6, rfl, rfl, hq7, _⟩ := hR
  have hq8 := hq7.fl (S' := S0) fl_I
  have hr9 : r64 (x1.length : Int) := len_r (h.m.rowLen (i := 0) rfl)
  refine sX h (x_len h.k rfl Try.underlying51 rfl) (fun a h => ?_)
  refine sX h (x_bin h.k rfl rfl rfl (ib_sub rfl)) (fun a h => ?_)
  refine sAV h (fun a h => ?_)
  refine l_end ?_
  refine wp_ret ?_
  obtain rfl := Option.some.inj hf
  exact r_ret1 h rfl (rv_tmp h rfl) ⟨_, [], _, rfl, ⟨rfl, rfl, (w64_r _), trivial⟩, rfl, (Up.refl _ _ _), (h.m.pick [1] _ (by decide) rfl)⟩
def chatelainelaw21_right_l0 (Fu : Nat) (x4 : (List Int)) : Nat → Int → Int → Option Int
  | 0, _, _ => none
  | k + 1, x15, x17 => if x17 < (x4.length : Int) then ((ix x4.length x17).bind fun m23 => (x4[m23]?).bind fun x29 => chatelainelaw21_right_l0 Fu x4 k (w64 (x15 + x29)) (w64 (x17 + 1))) else (some x15)
def chatelainelaw21_right_l1 (Fu : Nat) (a1 : List (List UInt8)) : Nat → Int → Option (Sum Bool Unit)
  | 0, _ => none
  | k + 1, x38 => if x38 < (a1.length : Int) then ((idx a1 x38).bind fun x42 => if (x42.length : Int) ≠ 40 then (some (.inl false)) else (chatelainelaw21_right_l1 Fu a1 k (w64 (x38 + 1)))) else (some (.inr ()))
def chatelainelaw21_right (Fu : Nat) (a0 : Int) (a1 : List (List UInt8)) : Option Bool :=
  (chatelaineref20_May Fu a0).bind fun x1 => if (!x1) = true then (some false) else ((chatelaineref20_Counts Fu a0).bind fun x4 => (chatelainelaw21_right_l0 Fu x4 Fu (-1) 0).bind fun x19 => (chatelainelaw21_right_l1 Fu a1 Fu 0).bind fun o => match o with | .inl r58 => some r58 | .inr _ => some (decide ((a1.length : Int) = x19)))
set_option maxRecDepth 100000 in
set_option maxHeartbeats 2000000 in
theorem chatelainelaw21_right_ok (Fu : Nat) {S0 : Snap} (a0 : Int) (hra0 : r64 a0) (Aa1 : Option Addr) (ca1 : Nat) (a1 : List (List UInt8)) (hsa1 : slS (tyL ty8) S0 Aa1 ca1 a1) (r : Bool) (hf : chatelainelaw21_right Fu a0 a1 = some r) (w0 : World) (hm : Mem w0 (ownL ([] ++ [.sn S0])) ([] ++ [.sn S0]) w0) :
    Calls Try.prog 11 #[.int .i64 a0, .slice Aa1 a1.length ca1] w0 (Ret w0 S0 [] (fun v L1 S1 => v = .bool r ∧ L1 = [] ∧ True)) := by
  unfold chatelainelaw21_right at hf
  refine c_enterM Try.func11 rfl 38 rfl (by simp) _ hm _ rfl (fun a h => ?_)
  refine c_rs ?_
  refine sAV h (fun a h => ?_)
  refine l_end ?_
  refine wp_seq ?_
  refine c_rs ?_
  refine sMV h (fun a h => ?_)
  obtain ⟨x1, h2, hf⟩ := bsome hf
  have hX := chatelaineref20_May_ok Fu (S0 := snapAll _) a0 hra0 _ h2 _ h.startAll
  refine q_callX hX h rfl rfl rfl (by decide) Try.func9 rfl rfl rfl (fun a w v L1 S1 hR hb1 h => ?_)
  obtain ⟨rfl, rfl, _⟩ := hR
  refine sX h (x_not h.k rfl rfl) (fun a h => ?_)
  refine l_end ?_
  refine c_cond h rfl (fun hb => ?_) (fun hb => ?_)
  · rw [if_pos hb] at hf
    refine c_rs ?_
    refine sAV h (fun a h => ?_)
    refine l_end ?_
    refine wp_ret ?_
    refine e_thenR ?_
    rw [← Option.some.inj hf]
    exact r_ret1 h rfl (rv_tmp h rfl) ⟨_, [], _, rfl, ⟨rfl, rfl, trivial⟩, rfl, (Up.refl _ _ _), h.m⟩
  · rw [if_neg (by rw [hb]; decide)] at hf
    refine wp_skip ?_
    refine e_thenN ?_
    refine c_rs ?_
    refine sAV h (fun a h => ?_)
    refine l_end ?_
    refine wp_seq ?_
    refine c_rs ?_
    refine sMV h (fun a h => ?_)
    obtain ⟨x4, h5, hf⟩ := bsome hf
    have hX := chatelaineref20_Counts_ok Fu (S0 := snapAll _) a0 hra0 _ h5 _ h.startAll
    refine q_callX hX h rfl rfl rfl (by decide) Try.func29 rfl rfl rfl (fun a w v L1 S1 hR hb1 h => ?_)
    obtain ⟨A7, c8, cs9, rfl, rfl, hq10, _⟩ := hR
    have hq11 := hq10.fl (S' := S0) fl_I
    have hr12 : r64 (x4.length : Int) := len_r (h.m.rowLen (i := 0) rfl)
    refine sX h (x_len h.k rfl Try.underlying51 rfl) (fun a h => ?_)
    refine sMV h (fun a h => ?_)
    refine l_end ?_
    obtain ⟨o13, hl14, hf⟩ := bsome hf
    refine c_fin (fun a w => ∃ (x19 : Int), x19 = o13 ∧ r64 x19 ∧ St 38 w0 (ownL ([] ++ [.sn S0])) [(1, .slice Aa1 a1.length ca1), (5, .int .i64 x19)] [.sn S0] a w) ?_ ?_
    · refine wp_block ?_
      refine c_loop (fun m22 a w => ∃ (x15 : Int), ∃ (x17 : Int), chatelainelaw21_right_l0 Fu x4 m22 x15 x17 = some o13 ∧ r64 x15 ∧ r64 x17 ∧ St 38 w0 (ownL ([] ++ [.sn S0])) [(1, .slice Aa1 a1.length ca1), (5, .int .i64 x15), (14, .slice A7 x4.length c8), (15, .int .i64 (x4.length : Int)), (16, .int .i64 x17)] [.row (.slice A7 x4.length c8) 3 1 x4.length cs9, .sn S0] a w) Fu ⟨(-1), 0, hl14, (show r64 (-1) from ⟨by decide, by decide⟩), (show r64 0 from ⟨by decide, by decide⟩), h.has (by exact ⟨rfl, rfl, rfl, rfl, rfl, trivial⟩)⟩ (fun m22 a w hI => ?_)
      obtain ⟨x15, x17, hl21, hr16, hr18, h⟩ := hI
      obtain _ | m22 := m22
      · rw [chatelainelaw21_right_l0] at hl21; cases hl21
      rw [chatelainelaw21_right_l0] at hl21
      refine c_rs ?_
      refine sX h (x_bin h.k rfl rfl rfl ib_lss) (fun a h => ?_)
      refine l_end ?_
      refine c_cs h rfl (fun hb => ?_) (fun hb => ?_)
      · rw [if_pos (of_decide_eq_true hb)] at hl21
        refine wp_skip ?_
        refine e_thenN ?_
        refine wp_seq ?_
        refine wp_block ?_
        refine c_rs ?_
        obtain ⟨m23, h24, hl21⟩ := bsome hl21
        obtain ⟨hi25, hm26⟩ := ix_some h24
        obtain ⟨g28, hA27⟩ := h.m.rowHead (i := 0) rfl (Nat.lt_of_le_of_lt (Nat.zero_le _) hm26)
        refine sX h (x_iaddrE h.k rfl Try.underlying51 sz_int hA27 rfl rfl hi25 hm26) (fun a h => ?_)
        obtain ⟨x29, h30, hl21⟩ := bsome hl21
        obtain ⟨u31, hv32, hu33⟩ := (hq11).cell rfl h30
        obtain ⟨e35, hr34⟩ := hu33
        cases e35
        refine sX h (x_ld h.k rfl Try.underlying3 rfl rfl (h.m.cellRowE (i := 0) rfl hA27 _ (by rw [Nat.mul_one]; exact hv32))) (fun a h => ?_)
        refine sAV h (fun a h => ?_)
        refine l_end ?_
        refine c_r ?_
        refine sMV h (fun a h => ?_)
        refine sMV h (fun a h => ?_)
        refine sX h (x_bin h.k rfl rfl rfl (ib_add rfl)) (fun a h => ?_)
        refine sAV h (fun a h => ?_)
        refine l_nil ?_
        refine e_blkN ?_
        refine e_thenN ?_
        refine c_r ?_
        refine sX h (x_bin h.k rfl rfl rfl (ib_add rfl)) (fun a h => ?_)
        refine sMV h (fun a h => ?_)
        refine l_nil ?_
        exact e_thenN ⟨m22, Nat.lt_succ_self _, w64 (x15 + x29), w64 (x17 + 1), hl21, (w64_r _), (w64_r _), h.has (by exact ⟨rfl, rfl, rfl, rfl, rfl, trivial⟩)⟩
      · rw [if_neg (of_decide_eq_false hb)] at hl21
        refine wp_exit ?_
        refine e_thenX ?_
        refine e_thenX ?_
        refine e_blkX ?_
        refine e_thenN ?_
        have h := h.pick [1] (by decide) rfl
        exact ⟨x15, (Option.some.inj hl21), hr16, h.has (by exact ⟨rfl, rfl, trivial⟩)⟩
    · rintro a w ⟨x19, rfl, hr20, h⟩
      refine e_thenN ?_
      refine wp_seq ?_
      refine c_rs ?_
      refine sMV h (fun a h => ?_)
      refine sX h (x_len h.k rfl Try.underlying24 rfl) (fun a h => ?_)
      refine sMV h (fun a h => ?_)
      refine l_end ?_
      obtain ⟨o36, hl37, hf⟩ := bsome hf
      refine c_fin (fun a w => (.inr ()) = o36 ∧ St 38 w0 (ownL ([] ++ [.sn S0])) [(1, .slice Aa1 a1.length ca1), (5, .int .i64 x19)] [.sn S0] a w) ?_ ?_
      · refine wp_block ?_
        refine c_loop (fun m41 a w => ∃ (x38 : Int), chatelainelaw21_right_l1 Fu a1 m41 x38 = some o36 ∧ r64 x38 ∧ St 38 w0 (ownL ([] ++ [.sn S0])) [(1, .slice Aa1 a1.length ca1), (5, .int .i64 x19), (24, .slice Aa1 a1.length ca1), (25, .int .i64 (a1.length : Int)), (26, .int .i64 x38)] [.sn S0] a w) Fu ⟨0, hl37, (show r64 0 from ⟨by decide, by decide⟩), h.has (by exact ⟨rfl, rfl, rfl, rfl, rfl, trivial⟩)⟩ (fun m41 a w hI => ?_)
        obtain ⟨x38, hl40, hr39, h⟩ := hI
        obtain _ | m41 := m41
        · rw [chatelainelaw21_right_l1] at hl40; cases hl40
        rw [chatelainelaw21_right_l1] at hl40
        refine c_rs ?_
        refine sX h (x_bin h.k rfl rfl rfl ib_lss) (fun a h => ?_)
        refine l_end ?_
        refine c_cs h rfl (fun hb => ?_) (fun hb => ?_)
        · rw [if_pos (of_decide_eq_true hb)] at hl40
          refine wp_skip ?_
          refine e_thenN ?_
          refine wp_seq ?_
          refine wp_block ?_
          refine c_rs ?_
          obtain ⟨x42, h46, hl40⟩ := bsome hl40
          obtain ⟨m43, hi47, hm48, hx49⟩ := idx_some h46
          obtain ⟨b44, off45, k50, hA51, hu52, hc53⟩ := (hsa1).at1 rfl hx49 (h.m.snOK (i := 0) rfl)
          obtain ⟨A54, c55, e57, hs56⟩ := hu52
          cases e57
          refine sX h (x_iaddrE h.k rfl Try.underlying24 sz_Suint8 hA51 rfl rfl hi47 hm48) (fun a h => ?_)
          refine sX h (x_ld h.k rfl Try.underlying22 rfl rfl (hc53 _ (h.m.snOK (i := 0) rfl))) (fun a h => ?_)
          refine sAV h (fun a h => ?_)
          refine l_end ?_
          refine c_rs ?_
          refine sMV h (fun a h => ?_)
          refine sX h (x_len h.k rfl Try.underlying22 rfl) (fun a h => ?_)
          refine sX h (x_bin h.k rfl rfl rfl ib_neq) (fun a h => ?_)
          refine l_end ?_
          refine c_cond h rfl (fun hb => ?_) (fun hb => ?_)
          · rw [if_pos (of_decide_eq_true hb)] at hl40
            refine c_rs ?_
            refine sAV h (fun a h => ?_)
            refine l_end ?_
            refine wp_ret ?_
            refine e_blkR ?_
            refine e_thenR ?_
            refine e_thenR ?_
            refine e_blkR ?_
            refine e_thenR ?_
            cases hl40
            try dsimp only at hf
            refine e_thenR ?_
            rw [← Option.some.inj hf]
            exact r_ret1 h rfl (rv_tmp h rfl) ⟨_, [], _, rfl, ⟨rfl, rfl, trivial⟩, rfl, (Up.refl _ _ _), h.m⟩
          · rw [if_neg (of_decide_eq_false hb)] at hl40
            refine wp_skip ?_
            refine e_blkN ?_
            refine e_thenN ?_
            refine c_r ?_
            refine sX h (x_bin h.k rfl rfl rfl (ib_add rfl)) (fun a h => ?_)
            refine sMV h (fun a h => ?_)
            refine l_nil ?_
            exact e_thenN ⟨m41, Nat.lt_succ_self _, w64 (x38 + 1), hl40, (w64_r _), h.has (by exact ⟨rfl, rfl, rfl, rfl, rfl, trivial⟩)⟩
        · rw [if_neg (of_decide_eq_false hb)] at hl40
          refine wp_exit ?_
          refine e_thenX ?_
          refine e_thenX ?_
          refine e_blkX ?_
          refine e_thenN ?_
          exact ⟨(Option.some.inj hl40), h.has (by exact ⟨rfl, rfl, trivial⟩)⟩
      · rintro a w ⟨rfl, h⟩
        try dsimp only at hf
        refine e_thenN ?_
        refine c_rs ?_
        refine sMV h (fun a h => ?_)
        refine sX h (x_len h.k rfl Try.underlying24 rfl) (fun a h => ?_)
        refine sMV h (fun a h => ?_)
        refine sX h (x_bin h.k rfl rfl rfl ib_eql) (fun a h => ?_)
        refine sAV h (fun a h => ?_)
        refine l_end ?_
        refine wp_ret ?_
        obtain rfl := Option.some.inj hf
        exact r_ret1 h rfl (rv_tmp h rfl) ⟨_, [], _, rfl, ⟨rfl, rfl, trivial⟩, rfl, (Up.refl _ _ _), h.m⟩
def chatelainelaw21_some_l0 (Fu : Nat) (a0 : UInt8) : Nat → Int → Int → (List UInt8) → Option ((List UInt8))
  | 0, _, _, _ => none
  | k + 1, x9, x11, x13 => if x11 < x9 then ((ix x13.length x11).bind fun m25 => chatelainelaw21_some_l0 Fu a0 k x9 (w64 (x11 + 1)) (x13.set m25 (a0 + (i8 x11)))) else (some x13)
def chatelainelaw21_some (Fu : Nat) (a0 : UInt8) : Option ((List UInt8)) :=
  (mkN 1 32).bind fun n1 => (chatelainelaw21_some_l0 Fu a0 Fu ((List.replicate n1 ((0 : UInt8) : UInt8)).length : Int) 0 (List.replicate n1 ((0 : UInt8) : UInt8))).bind fun x18 => some x18
set_option maxRecDepth 100000 in
set_option maxHeartbeats 2000000 in
theorem chatelainelaw21_some_ok (Fu : Nat) {S0 : Snap} (a0 : UInt8) (r : (List UInt8)) (hf : chatelainelaw21_some Fu a0 = some r) (w0 : World) (hm : Mem w0 (ownL ([] ++ [.sn S0])) ([] ++ [.sn S0]) w0) :
    Calls Try.prog 16 #[.int .u8 (a0.toNat : Int)] w0 (Ret w0 S0 [] (fun v L1 S1 => ∃ (A35 : Option Addr), ∃ (c36 : Nat), ∃ (cs37 : List Value), v = .slice A35 r.length c36 ∧ L1 = [.row (.slice A35 r.length c36) 5 1 r.length cs37] ∧ reps ty8 S1 cs37 r ∧ True)) := by
  unfold chatelainelaw21_some at hf
  refine c_enterM Try.func16 rfl 20 rfl (by simp) _ hm _ rfl (fun a h => ?_)
  refine c_rs ?_
  refine sAV h (fun a h => ?_)
  refine l_end ?_
  refine c_rs ?_
  obtain ⟨n1, h2, hf⟩ := bsome hf
  refine q_make (T := ty8) (S := S0) h rfl rfl rfl (by decide) Try.underlying22 zb_uint8 rfl rfl (q := (0 : UInt8)) rfl rfl rfl h2 (fun a w A3 cs4 hq5 h => ?_)
  refine sAV h (fun a h => ?_)
  refine l_end ?_
  refine wp_seq ?_
  refine c_rs ?_
  refine sMV h (fun a h => ?_)
  have hr6 : r64 ((List.replicate n1 ((0 : UInt8) : UInt8)).length : Int) := len_r (h.m.rowLen (i := 0) rfl)
  refine sX h (x_len h.k rfl Try.underlying22 rfl) (fun a h => ?_)
  refine sMV h (fun a h => ?_)
  refine l_end ?_
  obtain ⟨o7, hl8, hf⟩ := bsome hf
  refine c_fin (fun a w => ∃ (x18 : List UInt8), ∃ (A19 : Option Addr), ∃ (c20 : Nat), ∃ (cs21 : List Value), x18 = o7 ∧ reps ty8 S0 cs21 x18 ∧ St 20 w0 (ownL ([] ++ [.sn S0])) [(3, .slice A19 x18.length c20)] [.row (.slice A19 x18.length c20) 5 1 x18.length cs21, .sn S0] a w) ?_ ?_
  · refine wp_block ?_
    refine c_loop (fun m24 a w => ∃ (x9 : Int), ∃ (x11 : Int), ∃ (x13 : List UInt8), ∃ (A14 : Option Addr), ∃ (c15 : Nat), ∃ (cs16 : List Value), chatelainelaw21_some_l0 Fu a0 m24 x9 x11 x13 = some o7 ∧ r64 x9 ∧ r64 x11 ∧ reps ty8 S0 cs16 x13 ∧ St 20 w0 (ownL ([] ++ [.sn S0])) [(0, .int .u8 (a0.toNat : Int)), (3, .slice A14 x13.length c15), (7, .int .i64 x9), (8, .int .i64 x11)] [.row (.slice A14 x13.length c15) 5 1 x13.length cs16, .sn S0] a w) Fu ⟨((List.replicate n1 ((0 : UInt8) : UInt8)).length : Int), 0, (List.replicate n1 ((0 : UInt8) : UInt8)), A3, n1, cs4, hl8, hr6, (show r64 0 from ⟨by decide, by decide⟩), hq5, h.has (by exact ⟨rfl, rfl, rfl, rfl, trivial⟩)⟩ (fun m24 a w hI => ?_)
    obtain ⟨x9, x11, x13, A14, c15, cs16, hl23, hr10, hr12, hq17, h⟩ := hI
    obtain _ | m24 := m24
    · rw [chatelainelaw21_some_l0] at hl23; cases hl23
    rw [chatelainelaw21_some_l0] at hl23
    refine c_rs ?_
    refine sX h (x_bin h.k rfl rfl rfl ib_lss) (fun a h => ?_)
    refine l_end ?_
    refine c_cs h rfl (fun hb => ?_) (fun hb => ?_)
    · rw [if_pos (of_decide_eq_true hb)] at hl23
      refine wp_skip ?_
      refine e_thenN ?_
      refine wp_seq ?_
      refine wp_block ?_
      refine c_rs ?_
      refine sMV h (fun a h => ?_)
      refine sAV h (fun a h => ?_)
      refine l_end ?_
      refine c_r ?_
      refine sMV h (fun a h => ?_)
      refine sMV h (fun a h => ?_)
      refine sMV h (fun a h => ?_)
      refine sMV h (fun a h => ?_)
      refine sX h (x_convE h.k rfl Try.underlying3 Try.underlying5 rfl (i8_wrap _).symm) (fun a h => ?_)
      refine sX h (x_bin h.k rfl rfl rfl (ib_add (u8_add a0 (i8 x11)))) (fun a h => ?_)
      obtain ⟨m25, h26, hl23⟩ := bsome hl23
      obtain ⟨hi27, hm28⟩ := ix_some h26
      obtain ⟨g30, hA29⟩ := h.m.rowHead (i := 0) rfl (Nat.lt_of_le_of_lt (Nat.zero_le _) hm28)
      refine sX h (x_iaddrE h.k rfl Try.underlying22 sz_uint8 hA29 rfl rfl hi27 hm28) (fun a h => ?_)
      refine q_setRow (T := ty8) (q := (a0 + (i8 x11))) h rfl rfl rfl sz_uint8 hA29 rfl rfl 0 rfl rfl hq17 rfl (by first | exact hm28 | simpa using hm28) (fun a w cs31 hq32 h => ?_)
      have hl33 : x13.length = (x13.set m25 (a0 + (i8 x11))).length := by simp only [List.length_set]
      rw [hl33] at h
      refine l_nil ?_
      refine e_blkN ?_
      refine e_thenN ?_
      refine c_r ?_
      refine sX h (x_bin h.k rfl rfl rfl (ib_add rfl)) (fun a h => ?_)
      refine sMV h (fun a h => ?_)
      refine l_nil ?_
      exact e_thenN ⟨m24, Nat.lt_succ_self _, x9, w64 (x11 + 1), (x13.set m25 (a0 + (i8 x11))), A14, c15, cs31, hl23, hr10, (w64_r _), hq32, h.has (by exact ⟨rfl, rfl, rfl, rfl, trivial⟩)⟩
    · rw [if_neg (of_decide_eq_false hb)] at hl23
      refine wp_exit ?_
      refine e_thenX ?_
      refine e_thenX ?_
      refine e_blkX ?_
      refine e_thenN ?_
      exact ⟨x13, A14, c15, cs16, (Option.some.inj hl23), hq17, h.has (by exact ⟨rfl, trivial⟩)⟩
  · rintro a w ⟨x18, A19, c20, cs21, rfl, hq22, h⟩
    refine e_thenN ?_
    refine c_rs ?_
    refine sMV h (fun a h => ?_)
    refine sAV h (fun a h => ?_)
    refine l_end ?_
    refine wp_ret ?_
    rw [← Option.some.inj hf]
    exact r_ret1 h rfl (rv_tmp h rfl) ⟨_, [.row (.slice A19 x18.length c20) 5 1 x18.length cs21], _, rfl, ⟨A19, c20, cs21, rfl, rfl, hq22, trivial⟩, rfl, (Up.refl _ _ _), h.m⟩
end Go.Proofs.Ytohgmggdfmjgnaa
