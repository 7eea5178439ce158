/- Hn: Go functions as plain functions, and that they are so (written by xt.py). -/
import Derived.Test.YtohgmggdfmjgnaaPs
import Derived.Test.YtohgmggdfmjgnaaHi
set_option linter.unusedVariables false
set_option linter.unusedSimpArgs false
namespace Go.Proofs.Ytohgmggdfmjgnaa
open Go.RowKit
def chatelaineref06_flip (Fu : Nat) (a0 : UInt8) (a1 : UInt8) : Option UInt8 :=
  some (a0 ^^^ a1)
set_option maxRecDepth 100000 in
set_option maxHeartbeats 2000000 in
theorem chatelaineref06_flip_ok (Fu : Nat) {S0 : Snap} (a0 : UInt8) (a1 : UInt8) (r : UInt8) (hf : chatelaineref06_flip Fu a0 a1 = some r) (w0 : World) (hm : Mem w0 (ownL ([] ++ [.sn S0])) ([] ++ [.sn S0]) w0) :
    Calls Try.prog 92 #[.int .u8 (a0.toNat : Int), .int .u8 (a1.toNat : Int)] w0 (Ret w0 S0 [] (fun v L1 S1 => v = .int .u8 (r.toNat : Int) ∧ L1 = [] ∧ True)) := by
  unfold chatelaineref06_flip at hf
  refine c_enterM Try.func92 rfl 8 rfl (by simp) _ hm _ rfl (fun a h => ?_)
  refine c_rs ?_
  refine sAV h (fun a h => ?_)
  refine l_end ?_
  refine c_rs ?_
  refine sMV h (fun a h => ?_)
  refine sMV h (fun a h => ?_)
  refine sX h (x_bin h.k rfl rfl rfl (ib_xor (u8_xor_ a0 a1))) (fun a h => ?_)
  refine sAV h (fun a h => ?_)
  refine l_end ?_
  refine wp_ret ?_
  obtain rfl := Option.some.inj hf
  exact r_ret1 h rfl (rv_tmp h rfl) ⟨_, [], _, rfl, ⟨rfl, rfl, trivial⟩, rfl, (Up.refl _ _ _), h.m⟩
def chatelaineref06_Key_l0 (Fu : Nat) (x10 : (List UInt8)) : Nat → (List UInt8) → Int → Option ((List UInt8))
  | 0, _, _ => none
  | k + 1, x21, x26 => if x26 < 32 then ((ix 32 x26).bind fun m36 => (x10[m36]?).bind fun x40 => (app 1 x21 ([x40])).bind fun x47 => chatelaineref06_Key_l0 Fu x10 k x47 (w64 (x26 + 1))) else (some x21)
def chatelaineref06_Key_l1 (Fu : Nat) (a1 : UInt8) (x6 : List UInt8) : Nat → (List UInt8) → Int → Option ((List UInt8))
  | 0, _, _ => none
  | k + 1, x60, x65 => if x65 < 64 then ((if x65 < (x6.length : Int) then ((idx x6 x65).bind fun x82 => (chatelaineref06_flip Fu x82 a1).bind fun x94 => (app 1 x60 ([x94])).bind fun x99 => some x99) else ((app 1 x60 ([a1])).bind fun x107 => some x107)).bind fun x77 => chatelaineref06_Key_l1 Fu a1 x6 k x77 (w64 (x65 + 1))) else (some x60)
def chatelaineref06_Key (Fu : Nat) (a0 : List UInt8) (a1 : UInt8) : Option ((List UInt8)) :=
  (if 64 < (a0.length : Int) then ((chatelaineref05_Sum Fu a0).bind fun x10 => (chatelaineref06_Key_l0 Fu x10 Fu ([]) 0).bind fun x28 => some x28) else (some a0)).bind fun x6 => (chatelaineref06_Key_l1 Fu a1 x6 Fu ([]) 0).bind fun x67 => some x67
set_option maxRecDepth 100000 in
set_option maxHeartbeats 2000000 in
theorem chatelaineref06_Key_ok (Fu : Nat) {S0 : Snap} (Aa0 : Option Addr) (ca0 : Nat) (a0 : List UInt8) (hsa0 : slS ty8 S0 Aa0 ca0 a0) (a1 : UInt8) (r : (List UInt8)) (hf : chatelaineref06_Key Fu a0 a1 = some r) (w0 : World) (hm : Mem w0 (ownL ([] ++ [.sn S0])) ([] ++ [.sn S0]) w0) :
    Calls Try.prog 78 #[.slice Aa0 a0.length ca0, .int .u8 (a1.toNat : Int)] w0 (Ret w0 S0 [] (fun v L1 S1 => ∃ (A116 : Option Addr), ∃ (c117 : Nat), ∃ (cs118 : List Value), v = .slice A116 r.length c117 ∧ L1 = [.row (.slice A116 r.length c117) 5 1 r.length cs118] ∧ reps ty8 S1 cs118 r ∧ True)) := by
  unfold chatelaineref06_Key at hf
  refine c_enterM Try.func78 rfl 48 rfl (by simp) _ hm _ rfl (fun a h => ?_)
  refine c_rs ?_
  refine sAV h (fun a h => ?_)
  refine l_end ?_
  refine c_rs ?_
  refine sMV h (fun a h => ?_)
  refine sAV h (fun a h => ?_)
  refine l_end ?_
  obtain ⟨o1, hc2, hf⟩ := bsome hf
  refine c_cut (fun a w => ∃ (S3 : Snap), ∃ (x6 : List UInt8), ∃ (A7 : Option Addr), ∃ (c8 : Nat), x6 = o1 ∧ Snap.le S0 S3 ∧ Up (ownL ([] ++ [.sn S0])) w0 S0 S3 ∧ slS ty8 S3 A7 c8 x6 ∧ St 48 w0 (ownL ([] ++ [.sn S0])) [(1, .int .u8 (a1.toNat : Int)), (5, .slice A7 x6.length c8)] [.sn S3] a w) ?_ ?_
  · refine c_rs ?_
    refine sMV h (fun a h => ?_)
    refine sX h (x_len h.k rfl Try.underlying22 rfl) (fun a h => ?_)
    refine sX h (x_bin h.k rfl rfl rfl ib_gtr) (fun a h => ?_)
    refine l_end ?_
    refine c_cond h rfl (fun hb => ?_) (fun hb => ?_)
    · rw [if_pos (of_decide_eq_true hb)] at hc2
      refine c_rs ?_
      refine sMV h (fun a h => ?_)
      obtain ⟨x10, h11, hc2⟩ := bsome hc2
      have hX := chatelaineref05_Sum_ok Fu (S0 := snapAll _) Aa0 ca0 a0 (hsa0.mono (h.m.leAll (i := 0) rfl)) _ h11 _ h.startAll
      refine q_callX hX h rfl rfl rfl (by decide) Try.func79 rfl rfl rfl (fun a w v L1 S1 hR hb1 h => ?_)
      obtain ⟨k13, rfl, rfl, hv14, _⟩ := hR
      obtain ⟨hs15, hl16⟩ := hv14
      have hq17 := hs15.fl (S' := S0) fl_8
      refine s_alloc h rfl rfl rfl (by decide) zi_A32_uint8 rfl (fun a w g18 h => ?_)
      refine s_stW h rfl rfl rfl ag_A32_uint8 rfl (es := k13) rfl ((hq17).len.trans (by rw [hl16]; rfl)) (hq17).one 0 rfl (by first | rfl | simp_all) (fun a w h => ?_)
      refine l_end ?_
      refine c_rs ?_
      refine sAV h (fun a h => ?_)
      refine l_end ?_
      refine c_rs ?_
      refine sAV h (fun a h => ?_)
      refine l_end ?_
      obtain ⟨o19, hl20, hc2⟩ := bsome hc2
      refine c_fin (fun a w => ∃ (x28 : List UInt8), ∃ (A29 : Option Addr), ∃ (c30 : Nat), ∃ (cs31 : List Value), x28 = o19 ∧ reps ty8 S0 cs31 x28 ∧ St 48 w0 (ownL ([] ++ [.sn S0])) [(1, .int .u8 (a1.toNat : Int)), (5, .slice A29 x28.length c30)] [.row (.slice A29 x28.length c30) 5 1 x28.length cs31, .sn S0] a w) ?_ ?_
      · refine wp_block ?_
        have h := h.mem (h.m.nilrow 5 1)
        refine c_loop (fun m34 a w => ∃ (x21 : List UInt8), ∃ (A22 : Option Addr), ∃ (c23 : Nat), ∃ (cs24 : List Value), ∃ (x26 : Int), chatelaineref06_Key_l0 Fu x10 m34 x21 x26 = some o19 ∧ reps ty8 S0 cs24 x21 ∧ r64 x26 ∧ St 48 w0 (ownL ([] ++ [.sn S0])) [(1, .int .u8 (a1.toNat : Int)), (5, .slice A22 x21.length c23), (6, .pointer (some ⟨g18, 0, none⟩)), (7, .int .i64 x26)] [.row (.slice A22 x21.length c23) 5 1 x21.length cs24, .box g18 84 k13, .sn S0] a w) Fu ⟨[], none, 0, [], 0, hl20, (show reps ty8 S0 [] [] from rfl), (show r64 0 from ⟨by decide, by decide⟩), h.has (by exact ⟨rfl, rfl, rfl, rfl, trivial⟩)⟩ (fun m34 a w hI => ?_)
        obtain ⟨x21, A22, c23, cs24, x26, hl33, hq25, hr27, h⟩ := hI
        obtain _ | m34 := m34
        · rw [chatelaineref06_Key_l0] at hl33; cases hl33
        rw [chatelaineref06_Key_l0] at hl33
        refine wp_seq ?_
        refine c_rs ?_
        refine sMV h (fun a h => ?_)
        refine sX h (x_bin h.k rfl rfl rfl ib_lss) (fun a h => ?_)
        refine l_end ?_
        refine c_cond h rfl (fun hb => ?_) (fun hb => ?_)
        · rw [if_pos (of_decide_eq_true hb)] at hl33
          refine wp_skip ?_
          refine e_thenN ?_
          refine wp_seq ?_
          refine wp_block ?_
          refine c_r ?_
          refine sMV h (fun a h => ?_)
          refine sMV h (fun a h => ?_)
          obtain ⟨m36, h37, hl33⟩ := bsome hl33
          obtain ⟨hi38, hm39⟩ := ix_some h37
          refine sX h (x_iaddrA h.k rfl Try.underlying84 sz_uint8 rfl rfl hi38 hm39 rfl) (fun a h => ?_)
          obtain ⟨x40, h41, hl33⟩ := bsome hl33
          obtain ⟨u42, hv43, hu44⟩ := (hq17).cell rfl h41
          cases hu44
          refine sX h (x_ld h.k rfl Try.underlying5 rfl rfl ((h.m.cell (i := 1) rfl _).trans (by rw [Nat.zero_add, Nat.mul_one]; exact hv43))) (fun a h => ?_)
          refine q_bslice (T := ty8) (S := S0) h rfl rfl rfl (by decide) Try.underlying22 zi_uint8 (by decide) (by decide) (by decide) (by decide) [.int .u8 (x40.toNat : Int)] rfl rfl (C := [[.int .u8 (x40.toNat : Int)]]) rfl (xs := [x40]) ⟨[.int .u8 (x40.toNat : Int)], _, rfl, rfl, rfl⟩ (by intro c hc; simp only [List.mem_cons, List.not_mem_nil, or_false] at hc; subst hc; rfl) (fun a w A45 h => ?_)
          have hb46 : reps ty8 S0 ([[.int .u8 (x40.toNat : Int)]] : List (List Value)).flatten [x40] := ⟨[.int .u8 (x40.toNat : Int)], _, rfl, rfl, rfl⟩
          obtain ⟨x47, h48, hl33⟩ := bsome hl33
          refine q_append (T := ty8) (S := S0) h rfl rfl rfl (by decide) Try.underlying22 zb_uint8 rfl (by decide) rfl 1 rfl hq25 rfl hb46 (h.m.rdRowA (i := 0) rfl) h48 (fun a w A49 c50 cs51 hq52 h => ?_)
          refine sAV h (fun a h => ?_)
          refine l_nil ?_
          refine e_blkN ?_
          refine e_thenN ?_
          refine c_r ?_
          refine sMV h (fun a h => ?_)
          refine sX h (x_bin h.k rfl rfl rfl (ib_add rfl)) (fun a h => ?_)
          refine sAV h (fun a h => ?_)
          refine l_nil ?_
          have h := h.pick [1, 2, 3] (by decide) rfl
          exact e_thenN ⟨m34, Nat.lt_succ_self _, x47, A49, c50, cs51, w64 (x26 + 1), hl33, hq52, (w64_r _), h.has (by exact ⟨rfl, rfl, rfl, rfl, trivial⟩)⟩
        · rw [if_neg (of_decide_eq_false hb)] at hl33
          refine wp_exit ?_
          refine e_thenX ?_
          refine e_thenX ?_
          refine e_blkX ?_
          refine e_thenN ?_
          have h := h.pick [0, 2] (by decide) rfl
          exact ⟨x21, A22, c23, cs24, (Option.some.inj hl33), hq25, h.has (by exact ⟨rfl, rfl, trivial⟩)⟩
      · rintro a w ⟨x28, A29, c30, cs31, rfl, hq32, h⟩
        refine e_thenN ?_
        obtain ⟨S53, le54, up55, hs56, h⟩ := q_freeze (T := ty8) h (Up.refl _ _ _) hq32
        exact ⟨S53, x28, A29, c30, (Option.some.inj hc2), le54, up55, hs56, h.has (by exact ⟨rfl, rfl, trivial⟩)⟩
    · rw [if_neg (of_decide_eq_false hb)] at hc2
      refine wp_skip ?_
      refine e_thenN ?_
      exact ⟨S0, a0, Aa0, ca0, (Option.some.inj hc2), (Snap.le.refl _), (Up.refl _ _ _), hsa0, h.has (by exact ⟨rfl, rfl, trivial⟩)⟩
  · rintro a w ⟨S3, x6, A7, c8, rfl, le4, up5, hs9, h⟩
    refine c_rs ?_
    refine sAV h (fun a h => ?_)
    refine l_end ?_
    refine wp_seq ?_
    refine c_rs ?_
    refine sAV h (fun a h => ?_)
    refine l_end ?_
    obtain ⟨o58, hl59, hf⟩ := bsome hf
    refine c_fin (fun a w => ∃ (x67 : List UInt8), ∃ (A68 : Option Addr), ∃ (c69 : Nat), ∃ (cs70 : List Value), x67 = o58 ∧ reps ty8 S3 cs70 x67 ∧ St 48 w0 (ownL ([] ++ [.sn S0])) [(8, .slice A68 x67.length c69)] [.row (.slice A68 x67.length c69) 5 1 x67.length cs70, .sn S3] a w) ?_ ?_
    · refine wp_block ?_
      have h := h.mem (h.m.nilrow 5 1)
      refine c_loop (fun m73 a w => ∃ (x60 : List UInt8), ∃ (A61 : Option Addr), ∃ (c62 : Nat), ∃ (cs63 : List Value), ∃ (x65 : Int), chatelaineref06_Key_l1 Fu a1 x6 m73 x60 x65 = some o58 ∧ reps ty8 S3 cs63 x60 ∧ r64 x65 ∧ St 48 w0 (ownL ([] ++ [.sn S0])) [(1, .int .u8 (a1.toNat : Int)), (5, .slice A7 x6.length c8), (8, .slice A61 x60.length c62), (9, .int .i64 x65)] [.row (.slice A61 x60.length c62) 5 1 x60.length cs63, .sn S3] a w) Fu ⟨[], none, 0, [], 0, hl59, (show reps ty8 S3 [] [] from rfl), (show r64 0 from ⟨by decide, by decide⟩), h.has (by exact ⟨rfl, rfl, rfl, rfl, trivial⟩)⟩ (fun m73 a w hI => ?_)
      obtain ⟨x60, A61, c62, cs63, x65, hl72, hq64, hr66, h⟩ := hI
      obtain _ | m73 := m73
      · rw [chatelaineref06_Key_l1] at hl72; cases hl72
      rw [chatelaineref06_Key_l1] at hl72
      refine wp_seq ?_
      refine c_rs ?_
      refine sMV h (fun a h => ?_)
      refine sX h (x_bin h.k rfl rfl rfl ib_lss) (fun a h => ?_)
      refine l_end ?_
      refine c_cond h rfl (fun hb => ?_) (fun hb => ?_)
      · rw [if_pos (of_decide_eq_true hb)] at hl72
        refine wp_skip ?_
        refine e_thenN ?_
        obtain ⟨o75, hc76, hl72⟩ := bsome hl72
        refine c_cut (fun a w => ∃ (x77 : List UInt8), ∃ (A78 : Option Addr), ∃ (c79 : Nat), ∃ (cs80 : List Value), x77 = o75 ∧ reps ty8 S3 cs80 x77 ∧ St 48 w0 (ownL ([] ++ [.sn S0])) [(1, .int .u8 (a1.toNat : Int)), (5, .slice A7 x6.length c8), (8, .slice A78 x77.length c79), (9, .int .i64 x65)] [.row (.slice A78 x77.length c79) 5 1 x77.length cs80, .sn S3] a w) ?_ ?_
        · refine wp_block ?_
          refine c_rs ?_
          refine sMV h (fun a h => ?_)
          refine sMV h (fun a h => ?_)
          refine sX h (x_len h.k rfl Try.underlying22 rfl) (fun a h => ?_)
          refine sX h (x_bin h.k rfl rfl rfl ib_lss) (fun a h => ?_)
          refine l_end ?_
          refine c_cond h rfl (fun hb => ?_) (fun hb => ?_)
          · rw [if_pos (of_decide_eq_true hb)] at hc76
            refine c_r ?_
            refine sMV h (fun a h => ?_)
            refine sMV h (fun a h => ?_)
            refine sMV h (fun a h => ?_)
            obtain ⟨x82, h86, hc76⟩ := bsome hc76
            obtain ⟨m83, hi87, hm88, hx89⟩ := idx_some h86
            obtain ⟨b84, off85, k90, hA91, hu92, hc93⟩ := (hs9).at1 rfl hx89 (h.m.snOK (i := 1) rfl)
            cases hu92
            refine sX h (x_iaddrE h.k rfl Try.underlying22 sz_uint8 hA91 rfl rfl hi87 hm88) (fun a h => ?_)
            refine sX h (x_ld h.k rfl Try.underlying5 rfl rfl (hc93 _ (h.m.snOK (i := 1) rfl))) (fun a h => ?_)
            refine sMV h (fun a h => ?_)
            obtain ⟨x94, h95, hc76⟩ := bsome hc76
            have hX := chatelaineref06_flip_ok Fu (S0 := snapAll _) x82 a1 _ h95 _ h.startAll
            refine q_callX hX h rfl rfl rfl (by decide) Try.func92 rfl rfl rfl (fun a w v L1 S1 hR hb1 h => ?_)
            obtain ⟨rfl, rfl, _⟩ := hR
            refine q_bslice (T := ty8) (S := S3) h rfl rfl rfl (by decide) Try.underlying22 zi_uint8 (by decide) (by decide) (by decide) (by decide) [.int .u8 (x94.toNat : Int)] rfl rfl (C := [[.int .u8 (x94.toNat : Int)]]) rfl (xs := [x94]) ⟨[.int .u8 (x94.toNat : Int)], _, rfl, rfl, rfl⟩ (by intro c hc; simp only [List.mem_cons, List.not_mem_nil, or_false] at hc; subst hc; rfl) (fun a w A97 h => ?_)
            have hb98 : reps ty8 S3 ([[.int .u8 (x94.toNat : Int)]] : List (List Value)).flatten [x94] := ⟨[.int .u8 (x94.toNat : Int)], _, rfl, rfl, rfl⟩
            obtain ⟨x99, h100, hc76⟩ := bsome hc76
            refine q_append (T := ty8) (S := S3) h rfl rfl rfl (by decide) Try.underlying22 zb_uint8 rfl (by decide) rfl 1 rfl hq64 rfl hb98 (h.m.rdRowA (i := 0) rfl) h100 (fun a w A101 c102 cs103 hq104 h => ?_)
            refine sAV h (fun a h => ?_)
            refine l_nil ?_
            refine e_blkN ?_
            refine e_thenN ?_
            have h := h.pick [1, 2] (by decide) rfl
            exact ⟨x99, A101, c102, cs103, (Option.some.inj hc76), hq104, h.has (by exact ⟨rfl, rfl, rfl, rfl, trivial⟩)⟩
          · rw [if_neg (of_decide_eq_false hb)] at hc76
            refine c_r ?_
            refine sMV h (fun a h => ?_)
            refine sMV h (fun a h => ?_)
            refine q_bslice (T := ty8) (S := S3) h rfl rfl rfl (by decide) Try.underlying22 zi_uint8 (by decide) (by decide) (by decide) (by decide) [.int .u8 (a1.toNat : Int)] rfl rfl (C := [[.int .u8 (a1.toNat : Int)]]) rfl (xs := [a1]) ⟨[.int .u8 (a1.toNat : Int)], _, rfl, rfl, rfl⟩ (by intro c hc; simp only [List.mem_cons, List.not_mem_nil, or_false] at hc; subst hc; rfl) (fun a w A105 h => ?_)
            have hb106 : reps ty8 S3 ([[.int .u8 (a1.toNat : Int)]] : List (List Value)).flatten [a1] := ⟨[.int .u8 (a1.toNat : Int)], _, rfl, rfl, rfl⟩
            obtain ⟨x107, h108, hc76⟩ := bsome hc76
            refine q_append (T := ty8) (S := S3) h rfl rfl rfl (by decide) Try.underlying22 zb_uint8 rfl (by decide) rfl 1 rfl hq64 rfl hb106 (h.m.rdRowA (i := 0) rfl) h108 (fun a w A109 c110 cs111 hq112 h => ?_)
            refine sAV h (fun a h => ?_)
            refine l_nil ?_
            refine e_blkN ?_
            refine e_thenN ?_
            have h := h.pick [1, 2] (by decide) rfl
            exact ⟨x107, A109, c110, cs111, (Option.some.inj hc76), hq112, h.has (by exact ⟨rfl, rfl, rfl, rfl, trivial⟩)⟩
        · rintro a w ⟨x77, A78, c79, cs80, rfl, hq81, h⟩
          refine c_r ?_
          refine sMV h (fun a h => ?_)
          refine sX h (x_bin h.k rfl rfl rfl (ib_add rfl)) (fun a h => ?_)
          refine sAV h (fun a h => ?_)
          refine l_nil ?_
          exact e_thenN ⟨m73, Nat.lt_succ_self _, x77, A78, c79, cs80, w64 (x65 + 1), hl72, hq81, (w64_r _), h.has (by exact ⟨rfl, rfl, rfl, rfl, trivial⟩)⟩
      · rw [if_neg (of_decide_eq_false hb)] at hl72
        refine wp_exit ?_
        refine e_thenX ?_
        refine e_thenX ?_
        refine e_blkX ?_
        refine e_thenN ?_
        exact ⟨x60, A61, c62, cs63, (Option.some.inj hl72), hq64, h.has (by exact ⟨rfl, trivial⟩)⟩
    · rintro a w ⟨x67, A68, c69, cs70, rfl, hq71, h⟩
      refine e_thenN ?_
      refine c_rs ?_
      refine sMV h (fun a h => ?_)
      refine sAV h (fun a h => ?_)
      refine l_end ?_
      refine wp_ret ?_
      rw [← Option.some.inj hf]
      exact r_ret1 h rfl (rv_tmp h rfl) ⟨_, [.row (.slice A68 x67.length c69) 5 1 x67.length cs70], _, rfl, ⟨A68, c69, cs70, rfl, rfl, hq71, trivial⟩, rfl, up5, h.m⟩
def chatelaineref06_Tag (Fu : Nat) (a0 : List UInt8) (a1 : List UInt8) : Option ((List UInt8)) :=
  (chatelaineref06_Key Fu a0 (54 : UInt8)).bind fun x2 => (app 1 x2 a1).bind fun x10 => (chatelaineref06_Key Fu a0 (92 : UInt8)).bind fun x19 => (chatelaineref05_Sum Fu x10).bind fun x27 => (chatelaineref06_List Fu x27).bind fun x35 => (app 1 x19 x35).bind fun x43 => (chatelaineref05_Sum Fu x43).bind fun x49 => some x49
set_option maxRecDepth 100000 in
set_option maxHeartbeats 2000000 in
theorem chatelaineref06_Tag_ok (Fu : Nat) {S0 : Snap} (Aa0 : Option Addr) (ca0 : Nat) (a0 : List UInt8) (hsa0 : slS ty8 S0 Aa0 ca0 a0) (Aa1 : Option Addr) (ca1 : Nat) (a1 : List UInt8) (hsa1 : slS ty8 S0 Aa1 ca1 a1) (r : (List UInt8)) (hf : chatelaineref06_Tag Fu a0 a1 = some r) (w0 : World) (hm : Mem w0 (ownL ([] ++ [.sn S0])) ([] ++ [.sn S0]) w0) :
    Calls Try.prog 58 #[.slice Aa0 a0.length ca0, .slice Aa1 a1.length ca1] w0 (Ret w0 S0 [] (fun v L1 S1 => ∃ (k57 : List Value), v = .agg k57.toArray ∧ L1 = [] ∧ (tyA 32 ty8).rep S1 k57 r ∧ True)) := by
  unfold chatelaineref06_Tag at hf
  refine c_enterM Try.func58 rfl 21 rfl (by simp) _ hm _ rfl (fun a h => ?_)
  refine c_rs ?_
  refine s_alloc h rfl rfl rfl (by decide) zi_A32_uint8 rfl (fun a w g1 h => ?_)
  refine l_end ?_
  refine c_rs ?_
  refine sMV h (fun a h => ?_)
  obtain ⟨x2, h3, hf⟩ := bsome hf
  have hX := chatelaineref06_Key_ok Fu (S0 := snapAll _) Aa0 ca0 a0 (hsa0.mono (h.m.leAll (i := 1) rfl)) (54 : UInt8) _ h3 _ h.startAll
  refine q_callX hX h rfl rfl rfl (by decide) Try.func78 rfl rfl rfl (fun a w v L1 S1 hR hb1 h => ?_)
  obtain ⟨A5, c6, cs7, rfl, rfl, hq8, _⟩ := hR
  have hq9 := hq8.fl (S' := S0) fl_8
  refine sAV h (fun a h => ?_)
  refine l_end ?_
  refine c_rs ?_
  refine sMV h (fun a h => ?_)
  refine sMV h (fun a h => ?_)
  obtain ⟨x10, h11, hf⟩ := bsome hf
  obtain ⟨_, _, vs12, hrd13, hrp14⟩ := id hsa1
  refine q_append (T := ty8) (S := S0) h rfl rfl rfl (by decide) Try.underlying22 zb_uint8 rfl (by decide) rfl 0 rfl hq9 rfl hrp14 (hrd13 _ (h.m.snOK (i := 2) rfl)) h11 (fun a w A15 c16 cs17 hq18 h => ?_)
  refine sAV h (fun a h => ?_)
  refine l_end ?_
  refine c_rs ?_
  refine sMV h (fun a h => ?_)
  obtain ⟨x19, h20, hf⟩ := bsome hf
  have hX := chatelaineref06_Key_ok Fu (S0 := snapAll _) Aa0 ca0 a0 (hsa0.mono (h.m.leAll (i := 2) rfl)) (92 : UInt8) _ h20 _ h.startAll
  refine q_callX hX h rfl rfl rfl (by decide) Try.func78 rfl rfl rfl (fun a w v L1 S1 hR hb1 h => ?_)
  obtain ⟨A22, c23, cs24, rfl, rfl, hq25, _⟩ := hR
  have hq26 := hq25.fl (S' := S0) fl_8
  refine sAV h (fun a h => ?_)
  refine l_end ?_
  refine c_rs ?_
  refine sMV h (fun a h => ?_)
  refine sMV h (fun a h => ?_)
  obtain ⟨x27, h28, hf⟩ := bsome hf
  have hX := chatelaineref05_Sum_ok Fu (S0 := snapAll _) A15 c16 x10 (h.m.rowAll (i := 1) rfl (j := 3) rfl hq18) _ h28 _ h.startAll
  refine q_callX hX h rfl rfl rfl (by decide) Try.func79 rfl rfl rfl (fun a w v L1 S1 hR hb1 h => ?_)
  obtain ⟨k30, rfl, rfl, hv31, _⟩ := hR
  obtain ⟨hs32, hl33⟩ := hv31
  have hq34 := hs32.fl (S' := S0) fl_8
  obtain ⟨x35, h36, hf⟩ := bsome hf
  have hX := chatelaineref06_List_ok Fu (S0 := snapAll _) k30 x27 ((tyA 32 ty8).mono (h.m.leAll (i := 3) rfl) (show (tyA 32 ty8).rep S0 k30 x27 from ⟨hq34, hl33⟩)) _ h36 _ h.startAll
  refine q_callX hX h rfl rfl rfl (by decide) Try.func57 rfl rfl rfl (fun a w v L1 S1 hR hb1 h => ?_)
  obtain ⟨A38, c39, cs40, rfl, rfl, hq41, _⟩ := hR
  have hq42 := hq41.fl (S' := S0) fl_8
  obtain ⟨x43, h44, hf⟩ := bsome hf
  refine q_append (T := ty8) (S := S0) h rfl rfl rfl (by decide) Try.underlying22 zb_uint8 rfl (by decide) rfl 1 rfl hq26 rfl hq42 (h.m.rdRowA (i := 0) rfl) h44 (fun a w A45 c46 cs47 hq48 h => ?_)
  refine sAV h (fun a h => ?_)
  refine l_end ?_
  refine c_rs ?_
  refine sMV h (fun a h => ?_)
  obtain ⟨x49, h50, hf⟩ := bsome hf
  have hX := chatelaineref05_Sum_ok Fu (S0 := snapAll _) A45 c46 x43 (h.m.rowAll (i := 1) rfl (j := 4) rfl hq48) _ h50 _ h.startAll
  refine q_callX hX h rfl rfl rfl (by decide) Try.func79 rfl rfl rfl (fun a w v L1 S1 hR hb1 h => ?_)
  obtain ⟨k52, rfl, rfl, hv53, _⟩ := hR
  obtain ⟨hs54, hl55⟩ := hv53
  have hq56 := hs54.fl (S' := S0) fl_8
  refine s_stW h rfl rfl rfl ag_A32_uint8 rfl (es := k52) rfl ((hq56).len.trans (by rw [hl55]; rfl)) (hq56).one 3 rfl (by first | rfl | simp_all) (fun a w h => ?_)
  refine l_end ?_
  refine wp_ret ?_
  rw [← Option.some.inj hf]
  exact r_ret1 h rfl (rv_cellA h rfl 3 rfl ag_A32_uint8 ((hq56).len.trans (by rw [hl55]; rfl))) ⟨_, [], _, rfl, ⟨k52, rfl, rfl, ⟨hq56, hl55⟩, trivial⟩, rfl, (Up.refl _ _ _), (h.m.pick [4] _ (by decide) rfl)⟩
def chatelaineref08_Derive_l0 (Fu : Nat) (a1 : List UInt8) : Nat → (List UInt8) → Int → Option (Sum ((List UInt8) × Int) ((List UInt8)))
  | 0, _, _ => none
  | k + 1, x5, x10 => if x10 < (a1.length : Int) then ((idx a1 x10).bind fun x21 => if (x21.toNat : Int) = 0 then (some (.inl ([], 3))) else ((idx a1 x10).bind fun x27 => (app 1 x5 ([x27])).bind fun x34 => chatelaineref08_Derive_l0 Fu a1 k x34 (w64 (x10 + 1)))) else (some (.inr x5))
def chatelaineref08_Derive_l2 (Fu : Nat) (a3 : List (List UInt8)) : Nat → Int → (List UInt8) → Option ((List UInt8))
  | 0, _, _ => none
  | k + 1, x76, x78 => if x76 < (a3.length : Int) then ((idx a3 x76).bind fun x90 => (chatelaineref01_Put64 Fu (u64I (x90.length : Int))).bind fun x106 => (app 1 x78 x106).bind fun x114 => (idx a3 x76).bind fun x120 => (app 1 x114 x120).bind fun x136 => chatelaineref08_Derive_l2 Fu a3 k (w64 (x76 + 1)) x136) else (some x78)
def chatelaineref08_Derive_l1 (Fu : Nat) (a0 : List UInt8) (a2 : Int) (a3 : List (List UInt8)) (x12 : List UInt8) : Nat → (List UInt8) → Int → Option ((List UInt8))
  | 0, _, _ => none
  | k + 1, x42, x47 => if (x42.length : Int) < a2 then ((app 1 ([i8 x47]) x12).bind fun x60 => (app 1 x60 ([(0 : UInt8)])).bind fun x68 => (chatelaineref08_Derive_l2 Fu a3 Fu 0 x68).bind fun x83 => (app 1 x83 ([i8 (w64 (Int.tdiv a2 256)), i8 (Int.tmod a2 256)])).bind fun x147 => (chatelaineref06_Tag Fu a0 x147).bind fun x153 => (chatelaineref06_List Fu x153).bind fun x161 => (app 1 x42 x161).bind fun x169 => chatelaineref08_Derive_l1 Fu a0 a2 a3 x12 k x169 (w64 (x47 + 1))) else (some x42)
def chatelaineref08_Derive (Fu : Nat) (a0 : List UInt8) (a1 : List UInt8) (a2 : Int) (a3 : List (List UInt8)) : Option ((List UInt8) × Int) :=
  if (a0.length : Int) = 0 then (some ([], 20)) else (if ((decide (a2 < 1)) || (decide (128 < a2))) = true then (some ([], 2)) else (if 64 < (a1.length : Int) then (some ([], 3)) else ((chatelaineref08_Derive_l0 Fu a1 Fu ([]) 0).bind fun o => match o with | .inl r191 => some r191 | .inr x12 => (chatelaineref08_Derive_l1 Fu a0 a2 a3 x12 Fu ([]) 1).bind fun x49 => (sub x49 0 a2).bind fun x180 => some (x180, 0))))
set_option maxRecDepth 100000 in
set_option maxHeartbeats 2000000 in
theorem chatelaineref08_Derive_ok (Fu : Nat) {S0 : Snap} (Aa0 : Option Addr) (ca0 : Nat) (a0 : List UInt8) (hsa0 : slS ty8 S0 Aa0 ca0 a0) (a1 : List UInt8) (hra1 : a1.length ≤ maxLen) (a2 : Int) (hra2 : r64 a2) (Aa3 : Option Addr) (ca3 : Nat) (a3 : List (List UInt8)) (hsa3 : slS (tyL ty8) S0 Aa3 ca3 a3) (r : (List UInt8) × Int) (hf : chatelaineref08_Derive Fu a0 a1 a2 a3 = some r) (w0 : World) (hm : Mem w0 (ownL ([] ++ [.sn S0])) ([] ++ [.sn S0]) w0) :
    Calls Try.prog 33 #[.slice Aa0 a0.length ca0, .string (sb a1), .int .i64 a2, .slice Aa3 a3.length ca3] w0 (Ret w0 S0 [] (fun v L1 S1 => ∃ (A192 : Option Addr), ∃ (c193 : Nat), v = .tuple #[.slice A192 r.1.length c193, .int .i64 r.2] ∧ L1 = [] ∧ slS ty8 S1 A192 c193 r.1 ∧ r64 r.2 ∧ True)) := by
  unfold chatelaineref08_Derive at hf
  refine c_enterM Try.func33 rfl 98 rfl (by simp) _ hm _ rfl (fun a h => ?_)
  refine c_rs ?_
  refine sAV h (fun a h => ?_)
  refine sAV h (fun a h => ?_)
  refine l_end ?_
  refine wp_seq ?_
  refine c_rs ?_
  refine sMV h (fun a h => ?_)
  refine sX h (x_len h.k rfl Try.underlying22 rfl) (fun a h => ?_)
  refine sX h (x_bin h.k rfl rfl rfl ib_eql) (fun a h => ?_)
  refine l_end ?_
  refine c_cond h rfl (fun hb => ?_) (fun hb => ?_)
  · rw [if_pos (of_decide_eq_true hb)] at hf
    refine c_rs ?_
    refine sAV h (fun a h => ?_)
    refine sAV h (fun a h => ?_)
    refine l_end ?_
    refine wp_ret ?_
    refine e_thenR ?_
    obtain rfl := Option.some.inj hf
    exact r_ret2 h rfl (rv_tmp h rfl) (rv_tmp h rfl) ⟨_, [], _, rfl, ⟨none, 0, rfl, rfl, (slS.nil ty8 S0), (show r64 20 from ⟨by decide, by decide⟩), trivial⟩, rfl, (Up.refl _ _ _), h.m⟩
  · rw [if_neg (of_decide_eq_false hb)] at hf
    refine wp_skip ?_
    refine e_thenN ?_
    refine wp_seq ?_
    refine c_rs ?_
    refine sMV h (fun a h => ?_)
    refine sX h (x_bin h.k rfl rfl rfl ib_lss) (fun a h => ?_)
    refine sMV h (fun a h => ?_)
    refine q_grp h 3 (t := 21) 24 ((decide (a2 < 1)) || (decide (128 < a2))) rfl (fun hB2 => ?_) (fun hB2 => ?_) (fun a w h => ?_)
    · refine g_no h rfl rfl rfl rfl hB2 rfl (by decide) (fun a h => ?_)
      refine g_no h rfl rfl rfl rfl hB2 rfl (by decide) (fun a h => ?_)
      refine sX h (x_pick (u' := undef) h.k rfl rfl (fun _ => rfl) (fun hh => absurd (hB2.symm.trans hh) (by decide))) (fun a h => ?_)
      exact (h.mid 2 rfl).val (by first | rfl | (rw [hB2]; first | rfl | simp))
    · refine g_yes h rfl rfl rfl rfl hB2 ?_
      refine sMV h (fun a h => ?_)
      refine g_yes h rfl rfl rfl rfl hB2 ?_
      refine sX h (x_bin h.k rfl rfl rfl ib_gtr) (fun a h => ?_)
      refine sX h (x_pick (u' := undef) h.k rfl rfl (fun hh => absurd (hB2.symm.trans hh) (by decide)) (fun _ => rfl)) (fun a h => ?_)
      exact (h.mid 2 rfl).val (by first | rfl | (rw [hB2]; first | rfl | simp))
    refine l_end ?_
    refine c_cond h rfl (fun hb => ?_) (fun hb => ?_)
    · rw [if_pos hb] at hf
      refine c_rs ?_
      refine sAV h (fun a h => ?_)
      refine sAV h (fun a h => ?_)
      refine l_end ?_
      refine wp_ret ?_
      refine e_thenR ?_
      obtain rfl := Option.some.inj hf
      exact r_ret2 h rfl (rv_tmp h rfl) (rv_tmp h rfl) ⟨_, [], _, rfl, ⟨none, 0, rfl, rfl, (slS.nil ty8 S0), (show r64 2 from ⟨by decide, by decide⟩), trivial⟩, rfl, (Up.refl _ _ _), h.m⟩
    · rw [if_neg (by rw [hb]; decide)] at hf
      refine wp_skip ?_
      refine e_thenN ?_
      refine wp_seq ?_
      refine c_rs ?_
      refine sMV h (fun a h => ?_)
      refine sX h (x_lenStr h.k rfl Try.underlying9 rfl) (fun a h => ?_)
      refine sX h (x_bin h.k rfl rfl rfl ib_gtr) (fun a h => ?_)
      refine l_end ?_
      refine c_cond h rfl (fun hb => ?_) (fun hb => ?_)
      · rw [if_pos (of_decide_eq_true hb)] at hf
        refine c_rs ?_
        refine sAV h (fun a h => ?_)
        refine sAV h (fun a h => ?_)
        refine l_end ?_
        refine wp_ret ?_
        refine e_thenR ?_
        obtain rfl := Option.some.inj hf
        exact r_ret2 h rfl (rv_tmp h rfl) (rv_tmp h rfl) ⟨_, [], _, rfl, ⟨none, 0, rfl, rfl, (slS.nil ty8 S0), (show r64 3 from ⟨by decide, by decide⟩), trivial⟩, rfl, (Up.refl _ _ _), h.m⟩
      · rw [if_neg (of_decide_eq_false hb)] at hf
        refine wp_skip ?_
        refine e_thenN ?_
        refine c_rs ?_
        refine sAV h (fun a h => ?_)
        refine l_end ?_
        refine wp_seq ?_
        refine c_rs ?_
        refine sAV h (fun a h => ?_)
        refine l_end ?_
        obtain ⟨o3, hl4, hf⟩ := bsome hf
        refine c_fin (fun a w => ∃ (x12 : List UInt8), ∃ (A13 : Option Addr), ∃ (c14 : Nat), ∃ (cs15 : List Value), (.inr x12) = o3 ∧ reps ty8 S0 cs15 x12 ∧ St 98 w0 (ownL ([] ++ [.sn S0])) [(0, .slice Aa0 a0.length ca0), (2, .int .i64 a2), (3, .slice Aa3 a3.length ca3), (10, .slice A13 x12.length c14)] [.row (.slice A13 x12.length c14) 5 1 x12.length cs15, .sn S0] a w) ?_ ?_
        · refine wp_block ?_
          have h := h.mem (h.m.nilrow 5 1)
          refine c_loop (fun m18 a w => ∃ (x5 : List UInt8), ∃ (A6 : Option Addr), ∃ (c7 : Nat), ∃ (cs8 : List Value), ∃ (x10 : Int), chatelaineref08_Derive_l0 Fu a1 m18 x5 x10 = some o3 ∧ reps ty8 S0 cs8 x5 ∧ r64 x10 ∧ St 98 w0 (ownL ([] ++ [.sn S0])) [(0, .slice Aa0 a0.length ca0), (1, .string (sb a1)), (2, .int .i64 a2), (3, .slice Aa3 a3.length ca3), (10, .slice A6 x5.length c7), (11, .int .i64 x10)] [.row (.slice A6 x5.length c7) 5 1 x5.length cs8, .sn S0] a w) Fu ⟨[], none, 0, [], 0, hl4, (show reps ty8 S0 [] [] from rfl), (show r64 0 from ⟨by decide, by decide⟩), h.has (by exact ⟨rfl, rfl, rfl, rfl, rfl, rfl, trivial⟩)⟩ (fun m18 a w hI => ?_)
          obtain ⟨x5, A6, c7, cs8, x10, hl17, hq9, hr11, h⟩ := hI
          obtain _ | m18 := m18
          · rw [chatelaineref08_Derive_l0] at hl17; cases hl17
          rw [chatelaineref08_Derive_l0] at hl17
          refine wp_seq ?_
          refine c_rs ?_
          refine sMV h (fun a h => ?_)
          refine sMV h (fun a h => ?_)
          refine sX h (x_lenStr h.k rfl Try.underlying9 rfl) (fun a h => ?_)
          refine sX h (x_bin h.k rfl rfl rfl ib_lss) (fun a h => ?_)
          refine l_end ?_
          refine c_cond h rfl (fun hb => ?_) (fun hb => ?_)
          · rw [if_pos (of_decide_eq_true hb)] at hl17
            refine wp_skip ?_
            refine e_thenN ?_
            refine wp_seq ?_
            refine wp_block ?_
            refine wp_seq ?_
            refine c_rs ?_
            refine sMV h (fun a h => ?_)
            refine sMV h (fun a h => ?_)
            obtain ⟨x21, h22, hl17⟩ := bsome hl17
            obtain ⟨m20, hi23, hm24, hx25⟩ := idx_some h22
            refine sX h (x_indexStr h.k rfl Try.underlying9 rfl rfl hi23 hx25) (fun a h => ?_)
            refine sX h (x_bin h.k rfl rfl rfl ib_eql) (fun a h => ?_)
            refine l_end ?_
            refine c_cond h rfl (fun hb => ?_) (fun hb => ?_)
            · rw [if_pos (of_decide_eq_true hb)] at hl17
              refine c_rs ?_
              refine sAV h (fun a h => ?_)
              refine sAV h (fun a h => ?_)
              refine l_end ?_
              refine wp_ret ?_
              refine e_thenR ?_
              refine e_blkR ?_
              refine e_thenR ?_
              refine e_thenR ?_
              refine e_blkR ?_
              refine e_thenR ?_
              cases hl17
              try dsimp only at hf
              refine e_thenR ?_
              obtain rfl := Option.some.inj hf
              exact r_ret2 h rfl (rv_tmp h rfl) (rv_tmp h rfl) ⟨_, [], _, rfl, ⟨none, 0, rfl, rfl, (slS.nil ty8 S0), (show r64 3 from ⟨by decide, by decide⟩), trivial⟩, rfl, (Up.refl _ _ _), (h.m.pick [1] _ (by decide) rfl)⟩
            · rw [if_neg (of_decide_eq_false hb)] at hl17
              refine wp_skip ?_
              refine e_thenN ?_
              refine c_r ?_
              refine sMV h (fun a h => ?_)
              refine sMV h (fun a h => ?_)
              refine sMV h (fun a h => ?_)
              obtain ⟨x27, h28, hl17⟩ := bsome hl17
              obtain ⟨m26, hi29, hm30, hx31⟩ := idx_some h28
              refine sX h (x_indexStr h.k rfl Try.underlying9 rfl rfl hi29 hx31) (fun a h => ?_)
              refine q_bslice (T := ty8) (S := S0) h rfl rfl rfl (by decide) Try.underlying22 zi_uint8 (by decide) (by decide) (by decide) (by decide) [.int .u8 (x27.toNat : Int)] rfl rfl (C := [[.int .u8 (x27.toNat : Int)]]) rfl (xs := [x27]) ⟨[.int .u8 (x27.toNat : Int)], _, rfl, rfl, rfl⟩ (by intro c hc; simp only [List.mem_cons, List.not_mem_nil, or_false] at hc; subst hc; rfl) (fun a w A32 h => ?_)
              have hb33 : reps ty8 S0 ([[.int .u8 (x27.toNat : Int)]] : List (List Value)).flatten [x27] := ⟨[.int .u8 (x27.toNat : Int)], _, rfl, rfl, rfl⟩
              obtain ⟨x34, h35, hl17⟩ := bsome hl17
              refine q_append (T := ty8) (S := S0) h rfl rfl rfl (by decide) Try.underlying22 zb_uint8 rfl (by decide) rfl 1 rfl hq9 rfl hb33 (h.m.rdRowA (i := 0) rfl) h35 (fun a w A36 c37 cs38 hq39 h => ?_)
              refine sAV h (fun a h => ?_)
              refine l_nil ?_
              refine e_blkN ?_
              refine e_thenN ?_
              refine c_r ?_
              refine sMV h (fun a h => ?_)
              refine sX h (x_bin h.k rfl rfl rfl (ib_add rfl)) (fun a h => ?_)
              refine sAV h (fun a h => ?_)
              refine l_nil ?_
              have h := h.pick [1, 2] (by decide) rfl
              exact e_thenN ⟨m18, Nat.lt_succ_self _, x34, A36, c37, cs38, w64 (x10 + 1), hl17, hq39, (w64_r _), h.has (by exact ⟨rfl, rfl, rfl, rfl, rfl, rfl, trivial⟩)⟩
          · rw [if_neg (of_decide_eq_false hb)] at hl17
            refine wp_exit ?_
            refine e_thenX ?_
            refine e_thenX ?_
            refine e_blkX ?_
            refine e_thenN ?_
            exact ⟨x5, A6, c7, cs8, (Option.some.inj hl17), hq9, h.has (by exact ⟨rfl, rfl, rfl, rfl, trivial⟩)⟩
        · rintro a w ⟨x12, A13, c14, cs15, rfl, hq16, h⟩
          try dsimp only at hf
          refine e_thenN ?_
          refine c_rs ?_
          refine sAV h (fun a h => ?_)
          refine l_end ?_
          refine wp_seq ?_
          refine c_rs ?_
          refine sAV h (fun a h => ?_)
          refine l_end ?_
          obtain ⟨o40, hl41, hf⟩ := bsome hf
          refine c_fin (fun a w => ∃ (x49 : List UInt8), ∃ (A50 : Option Addr), ∃ (c51 : Nat), ∃ (cs52 : List Value), x49 = o40 ∧ reps ty8 S0 cs52 x49 ∧ St 98 w0 (ownL ([] ++ [.sn S0])) [(2, .int .i64 a2), (12, .slice A50 x49.length c51)] [.row (.slice A50 x49.length c51) 5 1 x49.length cs52, .sn S0] a w) ?_ ?_
          · refine wp_block ?_
            have h := h.mem (h.m.nilrow 5 1)
            have h := h.pick [1, 0, 2] (by decide) rfl
            refine c_loop (fun m55 a w => ∃ (x42 : List UInt8), ∃ (A43 : Option Addr), ∃ (c44 : Nat), ∃ (cs45 : List Value), ∃ (x47 : Int), chatelaineref08_Derive_l1 Fu a0 a2 a3 x12 m55 x42 x47 = some o40 ∧ reps ty8 S0 cs45 x42 ∧ r64 x47 ∧ St 98 w0 (ownL ([] ++ [.sn S0])) [(0, .slice Aa0 a0.length ca0), (2, .int .i64 a2), (3, .slice Aa3 a3.length ca3), (10, .slice A13 x12.length c14), (12, .slice A43 x42.length c44), (13, .int .i64 x47)] [.row (.slice A13 x12.length c14) 5 1 x12.length cs15, .row (.slice A43 x42.length c44) 5 1 x42.length cs45, .sn S0] a w) Fu ⟨[], none, 0, [], 1, hl41, (show reps ty8 S0 [] [] from rfl), (show r64 1 from ⟨by decide, by decide⟩), h.has (by exact ⟨rfl, rfl, rfl, rfl, rfl, rfl, trivial⟩)⟩ (fun m55 a w hI => ?_)
            obtain ⟨x42, A43, c44, cs45, x47, hl54, hq46, hr48, h⟩ := hI
            obtain _ | m55 := m55
            · rw [chatelaineref08_Derive_l1] at hl54; cases hl54
            rw [chatelaineref08_Derive_l1] at hl54
            refine wp_seq ?_
            refine c_rs ?_
            refine sMV h (fun a h => ?_)
            have hr57 : r64 (x42.length : Int) := len_r (h.m.rowLen (i := 1) rfl)
            refine sX h (x_len h.k rfl Try.underlying22 rfl) (fun a h => ?_)
            refine sMV h (fun a h => ?_)
            refine sX h (x_bin h.k rfl rfl rfl ib_lss) (fun a h => ?_)
            refine l_end ?_
            refine c_cond h rfl (fun hb => ?_) (fun hb => ?_)
            · rw [if_pos (of_decide_eq_true hb)] at hl54
              refine wp_skip ?_
              refine e_thenN ?_
              refine wp_seq ?_
              refine wp_block ?_
              refine c_rs ?_
              refine sMV h (fun a h => ?_)
              refine sX h (x_convE h.k rfl Try.underlying3 Try.underlying5 rfl (i8_wrap _).symm) (fun a h => ?_)
              refine q_bslice (T := ty8) (S := S0) h rfl rfl rfl (by decide) Try.underlying22 zi_uint8 (by decide) (by decide) (by decide) (by decide) [.int .u8 ((i8 x47).toNat : Int)] rfl rfl (C := [[.int .u8 ((i8 x47).toNat : Int)]]) rfl (xs := [i8 x47]) ⟨[.int .u8 ((i8 x47).toNat : Int)], _, rfl, rfl, rfl⟩ (by intro c hc; simp only [List.mem_cons, List.not_mem_nil, or_false] at hc; subst hc; rfl) (fun a w A58 h => ?_)
              have hb59 : reps ty8 S0 ([[.int .u8 ((i8 x47).toNat : Int)]] : List (List Value)).flatten [i8 x47] := ⟨[.int .u8 ((i8 x47).toNat : Int)], _, rfl, rfl, rfl⟩
              refine sAV h (fun a h => ?_)
              refine l_end ?_
              refine c_rs ?_
              refine sMV h (fun a h => ?_)
              refine sMV h (fun a h => ?_)
              obtain ⟨x60, h61, hl54⟩ := bsome hl54
              refine q_append (T := ty8) (S := S0) h rfl rfl rfl (by decide) Try.underlying22 zb_uint8 rfl (by decide) rfl 0 rfl hb59 rfl hq16 (h.m.rdRowA (i := 1) rfl) h61 (fun a w A62 c63 cs64 hq65 h => ?_)
              refine sAV h (fun a h => ?_)
              refine l_end ?_
              refine c_rs ?_
              refine sMV h (fun a h => ?_)
              refine q_bslice (T := ty8) (S := S0) h rfl rfl rfl (by decide) Try.underlying22 zi_uint8 (by decide) (by decide) (by decide) (by decide) [.int .u8 0] rfl rfl (C := [[.int .u8 0]]) rfl (xs := [(0 : UInt8)]) ⟨[.int .u8 0], _, rfl, rfl, rfl⟩ (by intro c hc; simp only [List.mem_cons, List.not_mem_nil, or_false] at hc; subst hc; rfl) (fun a w A66 h => ?_)
              have hb67 : reps ty8 S0 ([[.int .u8 0]] : List (List Value)).flatten [(0 : UInt8)] := ⟨[.int .u8 0], _, rfl, rfl, rfl⟩
              obtain ⟨x68, h69, hl54⟩ := bsome hl54
              refine q_append (T := ty8) (S := S0) h rfl rfl rfl (by decide) Try.underlying22 zb_uint8 rfl (by decide) rfl 1 rfl hq65 rfl hb67 (h.m.rdRowA (i := 0) rfl) h69 (fun a w A70 c71 cs72 hq73 h => ?_)
              refine sAV h (fun a h => ?_)
              refine l_end ?_
              refine wp_seq ?_
              refine c_rs ?_
              refine sAV h (fun a h => ?_)
              refine l_end ?_
              obtain ⟨o74, hl75, hl54⟩ := bsome hl54
              refine c_fin (fun a w => ∃ (x83 : List UInt8), ∃ (A84 : Option Addr), ∃ (c85 : Nat), ∃ (cs86 : List Value), x83 = o74 ∧ reps ty8 S0 cs86 x83 ∧ St 98 w0 (ownL ([] ++ [.sn S0])) [(0, .slice Aa0 a0.length ca0), (2, .int .i64 a2), (3, .slice Aa3 a3.length ca3), (10, .slice A13 x12.length c14), (12, .slice A43 x42.length c44), (13, .int .i64 x47), (14, .slice A84 x83.length c85)] [.row (.slice A13 x12.length c14) 5 1 x12.length cs15, .row (.slice A43 x42.length c44) 5 1 x42.length cs45, .row (.slice A84 x83.length c85) 5 1 x83.length cs86, .sn S0] a w) ?_ ?_
              · refine wp_block ?_
                have h := h.pick [2, 3, 1, 4] (by decide) rfl
                refine c_loop (fun m89 a w => ∃ (x76 : Int), ∃ (x78 : List UInt8), ∃ (A79 : Option Addr), ∃ (c80 : Nat), ∃ (cs81 : List Value), chatelaineref08_Derive_l2 Fu a3 m89 x76 x78 = some o74 ∧ r64 x76 ∧ reps ty8 S0 cs81 x78 ∧ St 98 w0 (ownL ([] ++ [.sn S0])) [(0, .slice Aa0 a0.length ca0), (2, .int .i64 a2), (3, .slice Aa3 a3.length ca3), (10, .slice A13 x12.length c14), (12, .slice A43 x42.length c44), (13, .int .i64 x47), (14, .slice A79 x78.length c80), (15, .int .i64 x76)] [.row (.slice A13 x12.length c14) 5 1 x12.length cs15, .row (.slice A43 x42.length c44) 5 1 x42.length cs45, .row (.slice A79 x78.length c80) 5 1 x78.length cs81, .sn S0] a w) Fu ⟨0, x68, A70, c71, cs72, hl75, (show r64 0 from ⟨by decide, by decide⟩), hq73, h.has (by exact ⟨rfl, rfl, rfl, rfl, rfl, rfl, rfl, rfl, trivial⟩)⟩ (fun m89 a w hI => ?_)
                obtain ⟨x76, x78, A79, c80, cs81, hl88, hr77, hq82, h⟩ := hI
                obtain _ | m89 := m89
                · rw [chatelaineref08_Derive_l2] at hl88; cases hl88
                rw [chatelaineref08_Derive_l2] at hl88
                refine wp_seq ?_
                refine c_rs ?_
                refine sMV h (fun a h => ?_)
                refine sMV h (fun a h => ?_)
                refine sX h (x_len h.k rfl Try.underlying24 rfl) (fun a h => ?_)
                refine sX h (x_bin h.k rfl rfl rfl ib_lss) (fun a h => ?_)
                refine l_end ?_
                refine c_cond h rfl (fun hb => ?_) (fun hb => ?_)
                · rw [if_pos (of_decide_eq_true hb)] at hl88
                  refine wp_skip ?_
                  refine e_thenN ?_
                  refine wp_seq ?_
                  refine wp_block ?_
                  refine c_rs ?_
                  refine sMV h (fun a h => ?_)
                  refine sMV h (fun a h => ?_)
                  refine sMV h (fun a h => ?_)
                  obtain ⟨x90, h94, hl88⟩ := bsome hl88
                  obtain ⟨m91, hi95, hm96, hx97⟩ := idx_some h94
                  obtain ⟨b92, off93, k98, hA99, hu100, hc101⟩ := (hsa3).at1 rfl hx97 (h.m.snOK (i := 3) rfl)
                  obtain ⟨A102, c103, e105, hs104⟩ := hu100
                  cases e105
                  refine sX h (x_iaddrE h.k rfl Try.underlying24 sz_Suint8 hA99 rfl rfl hi95 hm96) (fun a h => ?_)
                  refine sX h (x_ld h.k rfl Try.underlying22 rfl rfl (hc101 _ (h.m.snOK (i := 3) rfl))) (fun a h => ?_)
                  refine sX h (x_len h.k rfl Try.underlying22 rfl) (fun a h => ?_)
                  refine sX h (x_convE h.k rfl Try.underlying3 Try.underlying59 rfl (u64I_wrap _)) (fun a h => ?_)
                  obtain ⟨x106, h107, hl88⟩ := bsome hl88
                  have hX := chatelaineref01_Put64_ok Fu (S0 := snapAll _) (u64I (x90.length : Int)) _ h107 _ h.startAll
                  refine q_callX hX h rfl rfl rfl (by decide) Try.func34 rfl rfl rfl (fun a w v L1 S1 hR hb1 h => ?_)
                  obtain ⟨A109, c110, cs111, rfl, rfl, hq112, _⟩ := hR
                  have hq113 := hq112.fl (S' := S0) fl_8
                  obtain ⟨x114, h115, hl88⟩ := bsome hl88
                  refine q_append (T := ty8) (S := S0) h rfl rfl rfl (by decide) Try.underlying22 zb_uint8 rfl (by decide) rfl 3 rfl hq82 rfl hq113 (h.m.rdRowA (i := 0) rfl) h115 (fun a w A116 c117 cs118 hq119 h => ?_)
                  refine sAV h (fun a h => ?_)
                  refine l_end ?_
                  refine c_r ?_
                  refine sMV h (fun a h => ?_)
                  refine sMV h (fun a h => ?_)
                  refine sMV h (fun a h => ?_)
                  obtain ⟨x120, h124, hl88⟩ := bsome hl88
                  obtain ⟨m121, hi125, hm126, hx127⟩ := idx_some h124
                  obtain ⟨b122, off123, k128, hA129, hu130, hc131⟩ := (hsa3).at1 rfl hx127 (h.m.snOK (i := 4) rfl)
                  obtain ⟨A132, c133, e135, hs134⟩ := hu130
                  cases e135
                  refine sX h (x_iaddrE h.k rfl Try.underlying24 sz_Suint8 hA129 rfl rfl hi125 hm126) (fun a h => ?_)
                  refine sX h (x_ld h.k rfl Try.underlying22 rfl rfl (hc131 _ (h.m.snOK (i := 4) rfl))) (fun a h => ?_)
                  obtain ⟨x136, h137, hl88⟩ := bsome hl88
                  obtain ⟨_, _, vs138, hrd139, hrp140⟩ := id hs134
                  refine q_append (T := ty8) (S := S0) h rfl rfl rfl (by decide) Try.underlying22 zb_uint8 rfl (by decide) rfl 3 rfl hq119 rfl hrp140 (hrd139 _ (h.m.snOK (i := 4) rfl)) h137 (fun a w A141 c142 cs143 hq144 h => ?_)
                  refine sAV h (fun a h => ?_)
                  refine l_nil ?_
                  refine e_blkN ?_
                  refine e_thenN ?_
                  refine c_r ?_
                  refine sMV h (fun a h => ?_)
                  refine sX h (x_bin h.k rfl rfl rfl (ib_add rfl)) (fun a h => ?_)
                  refine sAV h (fun a h => ?_)
                  refine l_nil ?_
                  have h := h.pick [1, 2, 3, 4] (by decide) rfl
                  exact e_thenN ⟨m89, Nat.lt_succ_self _, w64 (x76 + 1), x136, A141, c142, cs143, hl88, (w64_r _), hq144, h.has (by exact ⟨rfl, rfl, rfl, rfl, rfl, rfl, rfl, rfl, trivial⟩)⟩
                · rw [if_neg (of_decide_eq_false hb)] at hl88
                  refine wp_exit ?_
                  refine e_thenX ?_
                  refine e_thenX ?_
                  refine e_blkX ?_
                  refine e_thenN ?_
                  exact ⟨x78, A79, c80, cs81, (Option.some.inj hl88), hq82, h.has (by exact ⟨rfl, rfl, rfl, rfl, rfl, rfl, rfl, trivial⟩)⟩
              · rintro a w ⟨x83, A84, c85, cs86, rfl, hq87, h⟩
                refine e_thenN ?_
                refine c_rs ?_
                refine sMV h (fun a h => ?_)
                refine sMV h (fun a h => ?_)
                refine sX h (x_bin h.k rfl rfl rfl (ib_quow (by decide))) (fun a h => ?_)
                refine sX h (x_convE h.k rfl Try.underlying3 Try.underlying5 rfl (i8_wrap _).symm) (fun a h => ?_)
                refine sMV h (fun a h => ?_)
                refine sX h (x_bin h.k rfl rfl rfl (ib_remw (by decide))) (fun a h => ?_)
                refine sX h (x_convE h.k rfl Try.underlying3 Try.underlying5 rfl (i8_wrap _).symm) (fun a h => ?_)
                refine q_bslice (T := ty8) (S := S0) h rfl rfl rfl (by decide) Try.underlying22 zi_uint8 (by decide) (by decide) (by decide) (by decide) [.int .u8 ((i8 (w64 (Int.tdiv a2 256))).toNat : Int), .int .u8 ((i8 (Int.tmod a2 256)).toNat : Int)] rfl rfl (C := [[.int .u8 ((i8 (w64 (Int.tdiv a2 256))).toNat : Int)], [.int .u8 ((i8 (Int.tmod a2 256)).toNat : Int)]]) rfl (xs := [i8 (w64 (Int.tdiv a2 256)), i8 (Int.tmod a2 256)]) ⟨[.int .u8 ((i8 (w64 (Int.tdiv a2 256))).toNat : Int)], _, rfl, rfl, ⟨[.int .u8 ((i8 (Int.tmod a2 256)).toNat : Int)], _, rfl, rfl, rfl⟩⟩ (by simp only [List.mem_cons, List.not_mem_nil, or_false]; rintro c (rfl | rfl) <;> rfl) (fun a w A145 h => ?_)
                have hb146 : reps ty8 S0 ([[.int .u8 ((i8 (w64 (Int.tdiv a2 256))).toNat : Int)], [.int .u8 ((i8 (Int.tmod a2 256)).toNat : Int)]] : List (List Value)).flatten [i8 (w64 (Int.tdiv a2 256)), i8 (Int.tmod a2 256)] := ⟨[.int .u8 ((i8 (w64 (Int.tdiv a2 256))).toNat : Int)], _, rfl, rfl, ⟨[.int .u8 ((i8 (Int.tmod a2 256)).toNat : Int)], _, rfl, rfl, rfl⟩⟩
                obtain ⟨x147, h148, hl54⟩ := bsome hl54
                refine q_append (T := ty8) (S := S0) h rfl rfl rfl (by decide) Try.underlying22 zb_uint8 rfl (by decide) rfl 3 rfl hq87 rfl hb146 (h.m.rdRowA (i := 0) rfl) h148 (fun a w A149 c150 cs151 hq152 h => ?_)
                refine sAV h (fun a h => ?_)
                refine l_end ?_
                refine c_r ?_
                refine sMV h (fun a h => ?_)
                refine sMV h (fun a h => ?_)
                refine sMV h (fun a h => ?_)
                obtain ⟨x153, h154, hl54⟩ := bsome hl54
                have hX := chatelaineref06_Tag_ok Fu (S0 := snapAll _) Aa0 ca0 a0 (hsa0.mono (h.m.leAll (i := 4) rfl)) A149 c150 x147 (h.m.rowAll (i := 3) rfl (j := 4) rfl hq152) _ h154 _ h.startAll
                refine q_callX hX h rfl rfl rfl (by decide) Try.func58 rfl rfl rfl (fun a w v L1 S1 hR hb1 h => ?_)
                obtain ⟨k156, rfl, rfl, hv157, _⟩ := hR
                obtain ⟨hs158, hl159⟩ := hv157
                have hq160 := hs158.fl (S' := S0) fl_8
                obtain ⟨x161, h162, hl54⟩ := bsome hl54
                have hX := chatelaineref06_List_ok Fu (S0 := snapAll _) k156 x153 ((tyA 32 ty8).mono (h.m.leAll (i := 4) rfl) (show (tyA 32 ty8).rep S0 k156 x153 from ⟨hq160, hl159⟩)) _ h162 _ h.startAll
                refine q_callX hX h rfl rfl rfl (by decide) Try.func57 rfl rfl rfl (fun a w v L1 S1 hR hb1 h => ?_)
                obtain ⟨A164, c165, cs166, rfl, rfl, hq167, _⟩ := hR
                have hq168 := hq167.fl (S' := S0) fl_8
                obtain ⟨x169, h170, hl54⟩ := bsome hl54
                refine q_append (T := ty8) (S := S0) h rfl rfl rfl (by decide) Try.underlying22 zb_uint8 rfl (by decide) rfl 3 rfl hq46 rfl hq168 (h.m.rdRowA (i := 0) rfl) h170 (fun a w A171 c172 cs173 hq174 h => ?_)
                refine sAV h (fun a h => ?_)
                refine l_nil ?_
                refine e_blkN ?_
                refine e_thenN ?_
                refine c_r ?_
                refine sMV h (fun a h => ?_)
                refine sX h (x_bin h.k rfl rfl rfl (ib_add rfl)) (fun a h => ?_)
                refine sAV h (fun a h => ?_)
                refine l_nil ?_
                have h := h.pick [2, 3, 5] (by decide) rfl
                exact e_thenN ⟨m55, Nat.lt_succ_self _, x169, A171, c172, cs173, w64 (x47 + 1), hl54, hq174, (w64_r _), h.has (by exact ⟨rfl, rfl, rfl, rfl, rfl, rfl, trivial⟩)⟩
            · rw [if_neg (of_decide_eq_false hb)] at hl54
              refine wp_exit ?_
              refine e_thenX ?_
              refine e_thenX ?_
              refine e_blkX ?_
              refine e_thenN ?_
              have h := h.pick [1, 2] (by decide) rfl
              exact ⟨x42, A43, c44, cs45, (Option.some.inj hl54), hq46, h.has (by exact ⟨rfl, rfl, trivial⟩)⟩
          · rintro a w ⟨x49, A50, c51, cs52, rfl, hq53, h⟩
            refine e_thenN ?_
            refine c_rs ?_
            refine sMV h (fun a h => ?_)
            refine sMV h (fun a h => ?_)
            obtain ⟨S176, le177, up178, hs179, h⟩ := q_freeze (T := ty8) h (Up.refl _ _ _) hq53
            obtain ⟨x180, h181, hf⟩ := bsome hf
            obtain ⟨m182, n183, hi184, hi185, hm186, hm187, hr188⟩ := sub_some h181
            have hs189 := slS.sub (hs179) hm186 hm187 (Nat.le_trans hm187 (hs179).1) (Nat.le_refl _) hr188
            refine sX h (x_sliceE h.k rfl Try.underlying22 sz_uint8 rfl c51 hr188 (bd_none (by omega)) (bd_some rfl hi185) (bd_none rfl) (by intro hh; cases hh) hm186 hm187 (Nat.le_trans hm187 (hs179).1) (Nat.le_refl _)) (fun a h => ?_)
            refine sAV h (fun a h => ?_)
            refine sAV h (fun a h => ?_)
            refine l_end ?_
            refine wp_ret ?_
            obtain rfl := Option.some.inj hf
            exact r_ret2 h rfl (rv_tmp h rfl) (rv_tmp h rfl) ⟨_, [], _, rfl, ⟨(sA A50 c51 m182 1), (c51 - m182), rfl, rfl, hs189, (show r64 0 from ⟨by decide, by decide⟩), trivial⟩, rfl, up178, h.m⟩
end Go.Proofs.Ytohgmggdfmjgnaa
