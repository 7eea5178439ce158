/- Kd2: Go functions as plain functions, and that they are so (written by xt.py). -/
import Derived.Test.YtohgmggdfmjgnaaKb2
import Derived.Test.YtohgmggdfmjgnaaKc2
import Derived.Test.YtohgmggdfmjgnaaU6
set_option linter.unusedVariables false
set_option linter.unusedSimpArgs false
namespace Go.Proofs.Ytohgmggdfmjgnaa
open Go.RowKit
def chatelainelaw21_awake (Fu : Nat) : Option Bool :=
  (chatelainelaw21_some Fu (1 : UInt8)).bind fun x1 => (keytree_Make Fu x1 ([(2 : UInt8)]) 5).bind fun x19 => (if ((decide (x19.2 = 0)) && (decide ((x19.1.length : Int) = 7))) = true then (keytree_Right Fu 5 x19.1).bind fun x36 => some x36 else some false).bind fun z34 => some z34
set_option maxRecDepth 100000 in
set_option maxHeartbeats 2000000 in
theorem chatelainelaw21_awake_ok (Fu : Nat) {S0 : Snap}  (r : Bool) (hf : chatelainelaw21_awake Fu = some r) (w0 : World) (hm : Mem w0 (ownL ([] ++ [.sn S0])) ([] ++ [.sn S0]) w0) :
    Calls Try.prog 7 #[] w0 (Ret w0 S0 [] (fun v L1 S1 => v = .bool r ∧ L1 = [] ∧ True)) := by
  unfold chatelainelaw21_awake at hf
  refine c_enterM Try.func7 rfl 20 rfl (by simp) _ hm _ rfl (fun a h => ?_)
  refine c_rs ?_
  refine sAV h (fun a h => ?_)
  refine l_end ?_
  refine c_rs ?_
  obtain ⟨x1, h2, hf⟩ := bsome hf
  have hX := chatelainelaw21_some_ok Fu (S0 := snapAll _) (1 : UInt8) _ h2 _ h.startAll
  refine q_callX hX h rfl rfl rfl (by decide) Try.func16 rfl rfl rfl (fun a w v L1 S1 hR hb1 h => ?_)
  obtain ⟨A4, c5, cs6, rfl, rfl, hq7, _⟩ := hR
  have hq8 := hq7.fl (S' := S0) fl_8
  refine q_bslice (T := ty8) (S := S0) h rfl rfl rfl (by decide) Try.underlying22 zi_uint8 (by decide) (by decide) (by decide) (by decide) [.int .u8 2] rfl rfl (C := [[.int .u8 2]]) rfl (xs := [(2 : UInt8)]) ⟨[.int .u8 2], _, rfl, rfl, rfl⟩ (by intro c hc; simp only [List.mem_cons, List.not_mem_nil, or_false] at hc; subst hc; rfl) (fun a w A9 h => ?_)
  have hb10 : reps ty8 S0 ([[.int .u8 2]] : List (List Value)).flatten [(2 : UInt8)] := ⟨[.int .u8 2], _, rfl, rfl, rfl⟩
  have h := h.pick [1, 2, 0] (by decide) rfl
  obtain ⟨S11, le12, up13, hs14, h⟩ := q_freeze (T := ty8) h (Up.refl _ _ _) hq8
  have h := h.pick [1, 0] (by decide) rfl
  obtain ⟨S15, le16, up17, hs18, h⟩ := q_freeze (T := ty8) h up13 (hb10.mono le12)
  obtain ⟨x19, h20, hf⟩ := bsome hf
  have hX := keytree_Make_ok Fu (S0 := S15) A4 c5 x1 (hs14.mono le16) A9 1 ([(2 : UInt8)]) hs18 5 (show r64 5 from ⟨by decide, by decide⟩) _ h20 _ (h.sub (Ls := []))
  refine q_callY (Ls := []) hX h up17 rfl rfl rfl (by decide) Try.func8 rfl rfl rfl (fun a w v L1 S22 hR le24 up23 h => ?_)
  obtain ⟨A25, c26, cs27, rfl, rfl, hq28, hr29, _⟩ := hR
  refine sMV h (fun a h => ?_)
  refine sX h (x_ext h.k rfl rfl rfl) (fun a h => ?_)
  refine sX h (x_ext h.k rfl rfl rfl) (fun a h => ?_)
  refine sAV h (fun a h => ?_)
  refine sAV h (fun a h => ?_)
  refine l_end ?_
  refine c_rs ?_
  refine sMV h (fun a h => ?_)
  refine sX h (x_bin h.k rfl rfl rfl ib_eql) (fun a h => ?_)
  refine sMV h (fun a h => ?_)
  refine q_grp h 4 (t := 11) 15 ((decide (x19.2 = 0)) && (decide ((x19.1.length : Int) = 7))) rfl (fun hB2 => ?_) (fun hB2 => ?_) (fun a w h => ?_)
  · refine g_yes h rfl rfl rfl rfl hB2 ?_
    refine sMV h (fun a h => ?_)
    refine g_yes h rfl rfl rfl rfl hB2 ?_
    have hr32 : r64 (x19.1.length : Int) := len_r (h.m.rowLen (i := 0) rfl)
    refine sX h (x_len h.k rfl Try.underlying24 rfl) (fun a h => ?_)
    refine g_yes h rfl rfl rfl rfl hB2 ?_
    refine sX h (x_bin h.k rfl rfl rfl ib_eql) (fun a h => ?_)
    refine sX h (x_pick (u' := undef) h.k rfl rfl (fun _ => rfl) (fun hh => absurd (hB2.symm.trans hh) (by decide))) (fun a h => ?_)
    exact (h.mid 3 rfl).val (by first | rfl | (rw [hB2]; first | rfl | simp))
  · refine g_no h rfl rfl rfl rfl hB2 rfl (by decide) (fun a h => ?_)
    refine g_no h rfl rfl rfl rfl hB2 rfl (by decide) (fun a h => ?_)
    refine g_no h rfl rfl rfl rfl hB2 rfl (by decide) (fun a h => ?_)
    refine sX h (x_pick (u' := undef) h.k rfl rfl (fun hh => absurd (hB2.symm.trans hh) (by decide)) (fun _ => rfl)) (fun a h => ?_)
    exact (h.mid 3 rfl).val (by first | rfl | (rw [hB2]; first | rfl | simp))
  refine sMV h (fun a h => ?_)
  obtain ⟨z34, hz33, hf⟩ := bsome hf
  refine q_grp h 3 (t := 16) 19 z34 rfl (fun hB7 => ?_) (fun hB7 => ?_) (fun a w h => ?_)
  · rw [if_pos hB7] at hz33
    refine g_yes h rfl rfl rfl rfl hB7 ?_
    refine sMV h (fun a h => ?_)
    refine g_yes h rfl rfl rfl rfl hB7 ?_
    obtain ⟨x36, h37, hz33⟩ := bsome hz33
    have hX := keytree_Right_ok Fu (S0 := snapAll _) 5 (show r64 5 from ⟨by decide, by decide⟩) A25 c26 x19.1 (h.m.rowAll (i := 0) rfl (j := 1) rfl hq28) _ h37 _ h.startAll
    refine q_callX hX h rfl rfl rfl (by decide) Try.func10 rfl rfl rfl (fun a w v L1 S1 hR hb1 h => ?_)
    obtain ⟨rfl, rfl, _⟩ := hR
    refine sX h (x_pick (u' := undef) h.k rfl rfl (fun _ => rfl) (fun hh => absurd (hB7.symm.trans hh) (by decide))) (fun a h => ?_)
    exact (h.mid 2 rfl).val (by rw [Option.some.inj hz33])
  · refine g_no h rfl rfl rfl rfl hB7 rfl (by decide) (fun a h => ?_)
    refine g_no h rfl rfl rfl rfl hB7 rfl (by decide) (fun a h => ?_)
    rw [if_neg (by rw [hB7]; decide)] at hz33
    refine sX h (x_pick (u' := undef) h.k rfl rfl (fun hh => absurd (hB7.symm.trans hh) (by decide)) (fun _ => rfl)) (fun a h => ?_)
    exact (h.mid 2 rfl).val (by rw [Option.some.inj hz33])
  refine sAV h (fun a h => ?_)
  refine l_end ?_
  refine wp_ret ?_
  rw [← Option.some.inj hf]
  exact r_ret1 h rfl (rv_tmp h rfl) ⟨_, [], _, rfl, ⟨rfl, rfl, trivial⟩, rfl, up23, (h.m.pick [1] _ (by decide) rfl)⟩
def chatelainelaw21_KeytreeTold_l0 (Fu : Nat) (a1 : List (List UInt8)) : Nat → Int → Option (Sum Bool Unit)
  | 0, _ => none
  | k + 1, x11 => if x11 < (a1.length : Int) then ((idx a1 x11).bind fun x15 => if 100 < (x15.length : Int) then (some (.inl true)) else (chatelainelaw21_KeytreeTold_l0 Fu a1 k (w64 (x11 + 1)))) else (some (.inr ()))
def chatelainelaw21_KeytreeTold_l2 (Fu : Nat) (a0 : Int) (x84 : Int) : Nat → Bool → Int → Int → Option Bool
  | 0, _, _, _ => none
  | k + 1, x213, x214, x216 => if 1 ≤ x214 then ((if x213 = true then some true else (chatelaineref20_Place Fu a0 x214 x216).bind fun x224 => some (decide (x224 = x84))).bind fun z222 => chatelainelaw21_KeytreeTold_l2 Fu a0 x84 k z222 (w64 (x214 - 1)) (w64 (Int.tdiv x216 4))) else (some x213)
def chatelainelaw21_KeytreeTold_l1 (Fu : Nat) (a0 : Int) (x84 : Int) (x87 : List (List UInt8)) (x113 : List UInt8) (m122 : Nat) (x149 : UInt8) (m154 : Nat) : Nat → Int → Option (Sum Bool Unit)
  | 0, _ => none
  | k + 1, x178 => if x178 < a0 then ((chatelainelaw21_some Fu (1 : UInt8)).bind fun x185 => (keytree_Leaf Fu x185 a0 (x87.set m122 (x113.set m154 (x149 ^^^ (1 : UInt8)))) x178).bind fun x197 => (chatelainelaw21_depth Fu a0).bind fun x207 => (chatelainelaw21_KeytreeTold_l2 Fu a0 x84 Fu false x207 x178).bind fun x218 => (if (!x218) = true then (if x197.2 ≠ 0 then some true else (chatelainelaw21_depth Fu a0).bind fun x246 => (chatelainelaw21_fresh Fu ([(3 : UInt8)]) x246 x178).bind fun x254 => (chatelaineref01_Same Fu x197.1 x254).bind fun x263 => some (!x263)).bind fun x241 => some x241 else some false).bind fun x233 => if (x233 || ((decide (x197.2 ≠ 0)) && ((decide (x197.2 ≠ 21)) || (decide (0 < (x197.1.length : Int)))))) = true then (some (.inl false)) else (chatelainelaw21_KeytreeTold_l1 Fu a0 x84 x87 x113 m122 x149 m154 k (w64 (x178 + 1)))) else (some (.inr ()))
def chatelainelaw21_KeytreeTold (Fu : Nat) (a0 : Int) (a1 : List (List UInt8)) (a2 : List UInt16) : Option Bool :=
  (chatelainelaw21_awake Fu).bind fun x4 => if (!x4) = true then (some false) else (if ((decide (20 < a0)) || (decide (60 < (a1.length : Int)))) = true then (some true) else ((chatelainelaw21_KeytreeTold_l0 Fu a1 Fu 0).bind fun o => match o with | .inl r274 => some r274 | .inr _ => (keytree_Right Fu a0 a1).bind fun x31 => (chatelainelaw21_right Fu a0 a1).bind fun x34 => if (!(x31 == x34)) = true then (some false) else ((chatelaineref20_May Fu a0).bind fun x37 => if (!x37) = true then (some true) else ((chatelainelaw21_some Fu (1 : UInt8)).bind fun x40 => (keytree_Make Fu x40 ([(3 : UInt8)]) a0).bind fun x58 => if ((decide (x58.2 ≠ 0)) || (decide ((x58.1.length : Int) = 0))) = true then (some false) else ((ix 2 0).bind fun m75 => (a2[m75]?).bind fun x79 => (remI (x79.toNat : Int) (x58.1.length : Int)).bind fun x84 => (app 24 ([]) x58.1).bind fun x87 => (idx x58.1 x84).bind fun x97 => (app 1 ([]) x97).bind fun x113 => (ix x87.length x84).bind fun m122 => (ix x87.length x84).bind fun m128 => (ix 2 1).bind fun m134 => (a2[m134]?).bind fun x138 => (ix x113.length (Int.tmod (x138.toNat : Int) 40)).bind fun m143 => (x113[m143]?).bind fun x149 => (ix x113.length (Int.tmod (x138.toNat : Int) 40)).bind fun m154 => (chatelainelaw21_KeytreeTold_l1 Fu a0 x84 x87 x113 m122 x149 m154 Fu 0).bind fun o => match o with | .inl r273 => some r273 | .inr _ => some true)))))
set_option maxRecDepth 100000 in
set_option maxHeartbeats 2000000 in
theorem chatelainelaw21_KeytreeTold_ok (Fu : Nat) {S0 : Snap} (a0 : Int) (hra0 : r64 a0) (Aa1 : Option Addr) (ca1 : Nat) (a1 : List (List UInt8)) (hsa1 : slS (tyL ty8) S0 Aa1 ca1 a1) (csa2 : List Value) (a2 : List UInt16) (hsa2 : (tyA 2 ty16).rep S0 csa2 a2) (r : Bool) (hf : chatelainelaw21_KeytreeTold Fu a0 a1 a2 = some r) (w0 : World) (hm : Mem w0 (ownL ([] ++ [.sn S0])) ([] ++ [.sn S0]) w0) :
    Calls Try.prog 4 #[.int .i64 a0, .slice Aa1 a1.length ca1, .agg csa2.toArray] w0 (Ret w0 S0 [] (fun v L1 S1 => v = .bool r ∧ L1 = [] ∧ True)) := by
  unfold chatelainelaw21_KeytreeTold at hf
  obtain ⟨hs1, hl2⟩ := hsa2
  refine c_enterM Try.func4 rfl 152 rfl (by simp) _ hm _ rfl (fun a h => ?_)
  refine c_rs ?_
  refine s_box h rfl rfl rfl (by decide) rfl (cs := csa2) (by rfl) (fun a w g3 h => ?_)
  refine sAV h (fun a h => ?_)
  refine l_end ?_
  refine wp_seq ?_
  refine c_rs ?_
  obtain ⟨x4, h5, hf⟩ := bsome hf
  have hX := chatelainelaw21_awake_ok Fu (S0 := snapAll _)  _ h5 _ h.startAll
  refine q_callX hX h rfl rfl rfl (by decide) Try.func7 rfl rfl rfl (fun a w v L1 S1 hR hb1 h => ?_)
  obtain ⟨rfl, rfl, _⟩ := hR
  refine sX h (x_not h.k rfl rfl) (fun a h => ?_)
  refine l_end ?_
  refine c_cond h rfl (fun hb => ?_) (fun hb => ?_)
  · rw [if_pos hb] at hf
    refine c_rs ?_
    refine sAV h (fun a h => ?_)
    refine l_end ?_
    refine wp_ret ?_
    refine e_thenR ?_
    rw [← Option.some.inj hf]
    exact r_ret1 h rfl (rv_tmp h rfl) ⟨_, [], _, rfl, ⟨rfl, rfl, trivial⟩, rfl, (Up.refl _ _ _), (h.m.pick [1] _ (by decide) rfl)⟩
  · rw [if_neg (by rw [hb]; decide)] at hf
    refine wp_skip ?_
    refine e_thenN ?_
    refine wp_seq ?_
    refine c_rs ?_
    refine sMV h (fun a h => ?_)
    refine sX h (x_bin h.k rfl rfl rfl ib_gtr) (fun a h => ?_)
    refine sMV h (fun a h => ?_)
    refine q_grp h 4 (t := 23) 27 ((decide (20 < a0)) || (decide (60 < (a1.length : Int)))) rfl (fun hB2 => ?_) (fun hB2 => ?_) (fun a w h => ?_)
    · refine g_no h rfl rfl rfl rfl hB2 rfl (by decide) (fun a h => ?_)
      refine g_no h rfl rfl rfl rfl hB2 rfl (by decide) (fun a h => ?_)
      refine g_no h rfl rfl rfl rfl hB2 rfl (by decide) (fun a h => ?_)
      refine sX h (x_pick (u' := undef) h.k rfl rfl (fun _ => rfl) (fun hh => absurd (hB2.symm.trans hh) (by decide))) (fun a h => ?_)
      exact (h.mid 3 rfl).val (by first | rfl | (rw [hB2]; first | rfl | simp))
    · refine g_yes h rfl rfl rfl rfl hB2 ?_
      refine sMV h (fun a h => ?_)
      refine g_yes h rfl rfl rfl rfl hB2 ?_
      refine sX h (x_len h.k rfl Try.underlying24 rfl) (fun a h => ?_)
      refine g_yes h rfl rfl rfl rfl hB2 ?_
      refine sX h (x_bin h.k rfl rfl rfl ib_gtr) (fun a h => ?_)
      refine sX h (x_pick (u' := undef) h.k rfl rfl (fun hh => absurd (hB2.symm.trans hh) (by decide)) (fun _ => rfl)) (fun a h => ?_)
      exact (h.mid 3 rfl).val (by first | rfl | (rw [hB2]; first | rfl | simp))
    refine l_end ?_
    refine c_cond h rfl (fun hb => ?_) (fun hb => ?_)
    · rw [if_pos hb] at hf
      refine c_rs ?_
      refine sAV h (fun a h => ?_)
      refine l_end ?_
      refine wp_ret ?_
      refine e_thenR ?_
      rw [← Option.some.inj hf]
      exact r_ret1 h rfl (rv_tmp h rfl) ⟨_, [], _, rfl, ⟨rfl, rfl, trivial⟩, rfl, (Up.refl _ _ _), (h.m.pick [1] _ (by decide) rfl)⟩
    · rw [if_neg (by rw [hb]; decide)] at hf
      refine wp_skip ?_
      refine e_thenN ?_
      refine wp_seq ?_
      refine c_rs ?_
      refine sMV h (fun a h => ?_)
      refine sX h (x_len h.k rfl Try.underlying24 rfl) (fun a h => ?_)
      refine sMV h (fun a h => ?_)
      refine l_end ?_
      obtain ⟨o9, hl10, hf⟩ := bsome hf
      refine c_fin (fun a w => (.inr ()) = o9 ∧ St 152 w0 (ownL ([] ++ [.sn S0])) [(0, .int .i64 a0), (1, .slice Aa1 a1.length ca1), (5, .pointer (some ⟨g3, 0, none⟩))] [.box g3 37 csa2, .sn S0] a w) ?_ ?_
      · refine wp_block ?_
        refine c_loop (fun m14 a w => ∃ (x11 : Int), chatelainelaw21_KeytreeTold_l0 Fu a1 m14 x11 = some o9 ∧ r64 x11 ∧ St 152 w0 (ownL ([] ++ [.sn S0])) [(0, .int .i64 a0), (1, .slice Aa1 a1.length ca1), (5, .pointer (some ⟨g3, 0, none⟩)), (28, .slice Aa1 a1.length ca1), (29, .int .i64 (a1.length : Int)), (30, .int .i64 x11)] [.box g3 37 csa2, .sn S0] a w) Fu ⟨0, hl10, (show r64 0 from ⟨by decide, by decide⟩), h.has (by exact ⟨rfl, rfl, rfl, rfl, rfl, rfl, trivial⟩)⟩ (fun m14 a w hI => ?_)
        obtain ⟨x11, hl13, hr12, h⟩ := hI
        obtain _ | m14 := m14
        · rw [chatelainelaw21_KeytreeTold_l0] at hl13; cases hl13
        rw [chatelainelaw21_KeytreeTold_l0] at hl13
        refine c_rs ?_
        refine sX h (x_bin h.k rfl rfl rfl ib_lss) (fun a h => ?_)
        refine l_end ?_
        refine c_cs h rfl (fun hb => ?_) (fun hb => ?_)
        · rw [if_pos (of_decide_eq_true hb)] at hl13
          refine wp_skip ?_
          refine e_thenN ?_
          refine wp_seq ?_
          refine wp_block ?_
          refine c_rs ?_
          obtain ⟨x15, h19, hl13⟩ := bsome hl13
          obtain ⟨m16, hi20, hm21, hx22⟩ := idx_some h19
          obtain ⟨b17, off18, k23, hA24, hu25, hc26⟩ := (hsa1).at1 rfl hx22 (h.m.snOK (i := 1) rfl)
          obtain ⟨A27, c28, e30, hs29⟩ := hu25
          cases e30
          refine sX h (x_iaddrE h.k rfl Try.underlying24 sz_Suint8 hA24 rfl rfl hi20 hm21) (fun a h => ?_)
          refine sX h (x_ld h.k rfl Try.underlying22 rfl rfl (hc26 _ (h.m.snOK (i := 1) rfl))) (fun a h => ?_)
          refine sAV h (fun a h => ?_)
          refine l_end ?_
          refine c_rs ?_
          refine sMV h (fun a h => ?_)
          refine sX h (x_len h.k rfl Try.underlying22 rfl) (fun a h => ?_)
          refine sX h (x_bin h.k rfl rfl rfl ib_gtr) (fun a h => ?_)
          refine l_end ?_
          refine c_cond h rfl (fun hb => ?_) (fun hb => ?_)
          · rw [if_pos (of_decide_eq_true hb)] at hl13
            refine c_rs ?_
            refine sAV h (fun a h => ?_)
            refine l_end ?_
            refine wp_ret ?_
            refine e_blkR ?_
            refine e_thenR ?_
            refine e_thenR ?_
            refine e_blkR ?_
            refine e_thenR ?_
            cases hl13
            try dsimp only at hf
            refine e_thenR ?_
            rw [← Option.some.inj hf]
            exact r_ret1 h rfl (rv_tmp h rfl) ⟨_, [], _, rfl, ⟨rfl, rfl, trivial⟩, rfl, (Up.refl _ _ _), (h.m.pick [1] _ (by decide) rfl)⟩
          · rw [if_neg (of_decide_eq_false hb)] at hl13
            refine wp_skip ?_
            refine e_blkN ?_
            refine e_thenN ?_
            refine c_r ?_
            refine sX h (x_bin h.k rfl rfl rfl (ib_add rfl)) (fun a h => ?_)
            refine sMV h (fun a h => ?_)
            refine l_nil ?_
            exact e_thenN ⟨m14, Nat.lt_succ_self _, w64 (x11 + 1), hl13, (w64_r _), h.has (by exact ⟨rfl, rfl, rfl, rfl, rfl, rfl, trivial⟩)⟩
        · rw [if_neg (of_decide_eq_false hb)] at hl13
          refine wp_exit ?_
          refine e_thenX ?_
          refine e_thenX ?_
          refine e_blkX ?_
          refine e_thenN ?_
          exact ⟨(Option.some.inj hl13), h.has (by exact ⟨rfl, rfl, rfl, trivial⟩)⟩
      · rintro a w ⟨rfl, h⟩
        try dsimp only at hf
        refine e_thenN ?_
        refine wp_seq ?_
        refine c_rs ?_
        refine sMV h (fun a h => ?_)
        refine sMV h (fun a h => ?_)
        obtain ⟨x31, h32, hf⟩ := bsome hf
        have hX := keytree_Right_ok Fu (S0 := snapAll _) a0 hra0 Aa1 ca1 a1 (hsa1.mono (h.m.leAll (i := 1) rfl)) _ h32 _ h.startAll
        refine q_callX hX h rfl rfl rfl (by decide) Try.func10 rfl rfl rfl (fun a w v L1 S1 hR hb1 h => ?_)
        obtain ⟨rfl, rfl, _⟩ := hR
        refine sMV h (fun a h => ?_)
        refine sMV h (fun a h => ?_)
        obtain ⟨x34, h35, hf⟩ := bsome hf
        have hX := chatelainelaw21_right_ok Fu (S0 := snapAll _) a0 hra0 Aa1 ca1 a1 (hsa1.mono (h.m.leAll (i := 1) rfl)) _ h35 _ h.startAll
        refine q_callX hX h rfl rfl rfl (by decide) Try.func11 rfl rfl rfl (fun a w v L1 S1 hR hb1 h => ?_)
        obtain ⟨rfl, rfl, _⟩ := hR
        refine sX h (x_neqB h.k rfl Try.underlying4 rfl rfl) (fun a h => ?_)
        refine l_end ?_
        refine c_cond h rfl (fun hb => ?_) (fun hb => ?_)
        · rw [if_pos hb] at hf
          refine c_rs ?_
          refine sAV h (fun a h => ?_)
          refine l_end ?_
          refine wp_ret ?_
          refine e_thenR ?_
          rw [← Option.some.inj hf]
          exact r_ret1 h rfl (rv_tmp h rfl) ⟨_, [], _, rfl, ⟨rfl, rfl, trivial⟩, rfl, (Up.refl _ _ _), (h.m.pick [1] _ (by decide) rfl)⟩
        · rw [if_neg (by rw [hb]; decide)] at hf
          refine wp_skip ?_
          refine e_thenN ?_
          refine wp_seq ?_
          refine c_rs ?_
          refine sMV h (fun a h => ?_)
          obtain ⟨x37, h38, hf⟩ := bsome hf
          have hX := chatelaineref20_May_ok Fu (S0 := snapAll _) a0 hra0 _ h38 _ h.startAll
          refine q_callX hX h rfl rfl rfl (by decide) Try.func9 rfl rfl rfl (fun a w v L1 S1 hR hb1 h => ?_)
          obtain ⟨rfl, rfl, _⟩ := hR
          refine sX h (x_not h.k rfl rfl) (fun a h => ?_)
          refine l_end ?_
          refine c_cond h rfl (fun hb => ?_) (fun hb => ?_)
          · rw [if_pos hb] at hf
            refine c_rs ?_
            refine sAV h (fun a h => ?_)
            refine l_end ?_
            refine wp_ret ?_
            refine e_thenR ?_
            rw [← Option.some.inj hf]
            exact r_ret1 h rfl (rv_tmp h rfl) ⟨_, [], _, rfl, ⟨rfl, rfl, trivial⟩, rfl, (Up.refl _ _ _), (h.m.pick [1] _ (by decide) rfl)⟩
          · rw [if_neg (by rw [hb]; decide)] at hf
            refine wp_skip ?_
            refine e_thenN ?_
            refine c_rs ?_
            obtain ⟨x40, h41, hf⟩ := bsome hf
            have hX := chatelainelaw21_some_ok Fu (S0 := snapAll _) (1 : UInt8) _ h41 _ h.startAll
            refine q_callX hX h rfl rfl rfl (by decide) Try.func16 rfl rfl rfl (fun a w v L1 S1 hR hb1 h => ?_)
            obtain ⟨A43, c44, cs45, rfl, rfl, hq46, _⟩ := hR
            have hq47 := hq46.fl (S' := S0) fl_8
            refine q_bslice (T := ty8) (S := S0) h rfl rfl rfl (by decide) Try.underlying22 zi_uint8 (by decide) (by decide) (by decide) (by decide) [.int .u8 3] rfl rfl (C := [[.int .u8 3]]) rfl (xs := [(3 : UInt8)]) ⟨[.int .u8 3], _, rfl, rfl, rfl⟩ (by intro c hc; simp only [List.mem_cons, List.not_mem_nil, or_false] at hc; subst hc; rfl) (fun a w A48 h => ?_)
            have hb49 : reps ty8 S0 ([[.int .u8 3]] : List (List Value)).flatten [(3 : UInt8)] := ⟨[.int .u8 3], _, rfl, rfl, rfl⟩
            refine sMV h (fun a h => ?_)
            have h := h.pick [1, 3, 0, 2] (by decide) rfl
            obtain ⟨S50, le51, up52, hs53, h⟩ := q_freeze (T := ty8) h (Up.refl _ _ _) hq47
            have h := h.pick [1, 0, 2] (by decide) rfl
            obtain ⟨S54, le55, up56, hs57, h⟩ := q_freeze (T := ty8) h up52 (hb49.mono le51)
            obtain ⟨x58, h59, hf⟩ := bsome hf
            have hX := keytree_Make_ok Fu (S0 := S54) A43 c44 x40 (hs53.mono le55) A48 1 ([(3 : UInt8)]) hs57 a0 hra0 _ h59 _ (h.sub (Ls := []))
            refine q_callY (Ls := []) hX h up56 rfl rfl rfl (by decide) Try.func8 rfl rfl rfl (fun a w v L1 S61 hR le63 up62 h => ?_)
            obtain ⟨A64, c65, cs66, rfl, rfl, hq67, hr68, _⟩ := hR
            refine sMV h (fun a h => ?_)
            refine sX h (x_ext h.k rfl rfl rfl) (fun a h => ?_)
            refine sX h (x_ext h.k rfl rfl rfl) (fun a h => ?_)
            obtain ⟨S69, le70, up71, hs72, h⟩ := q_freeze (T := tyL ty8) h up62 hq67
            refine sAV h (fun a h => ?_)
            refine sAV h (fun a h => ?_)
            refine l_end ?_
            refine wp_seq ?_
            refine c_rs ?_
            refine sMV h (fun a h => ?_)
            refine sX h (x_bin h.k rfl rfl rfl ib_neq) (fun a h => ?_)
            refine sMV h (fun a h => ?_)
            refine q_grp h 4 (t := 57) 61 ((decide (x58.2 ≠ 0)) || (decide ((x58.1.length : Int) = 0))) rfl (fun hB2 => ?_) (fun hB2 => ?_) (fun a w h => ?_)
            · refine g_no h rfl rfl rfl rfl hB2 rfl (by decide) (fun a h => ?_)
              refine g_no h rfl rfl rfl rfl hB2 rfl (by decide) (fun a h => ?_)
              refine g_no h rfl rfl rfl rfl hB2 rfl (by decide) (fun a h => ?_)
              refine sX h (x_pick (u' := undef) h.k rfl rfl (fun _ => rfl) (fun hh => absurd (hB2.symm.trans hh) (by decide))) (fun a h => ?_)
              exact (h.mid 3 rfl).val (by first | rfl | (rw [hB2]; first | rfl | simp))
            · refine g_yes h rfl rfl rfl rfl hB2 ?_
              refine sMV h (fun a h => ?_)
              refine g_yes h rfl rfl rfl rfl hB2 ?_
              refine sX h (x_len h.k rfl Try.underlying24 rfl) (fun a h => ?_)
              refine g_yes h rfl rfl rfl rfl hB2 ?_
              refine sX h (x_bin h.k rfl rfl rfl ib_eql) (fun a h => ?_)
              refine sX h (x_pick (u' := undef) h.k rfl rfl (fun hh => absurd (hB2.symm.trans hh) (by decide)) (fun _ => rfl)) (fun a h => ?_)
              exact (h.mid 3 rfl).val (by first | rfl | (rw [hB2]; first | rfl | simp))
            refine l_end ?_
            refine c_cond h rfl (fun hb => ?_) (fun hb => ?_)
            · rw [if_pos hb] at hf
              refine c_rs ?_
              refine sAV h (fun a h => ?_)
              refine l_end ?_
              refine wp_ret ?_
              refine e_thenR ?_
              rw [← Option.some.inj hf]
              exact r_ret1 h rfl (rv_tmp h rfl) ⟨_, [], _, rfl, ⟨rfl, rfl, trivial⟩, rfl, up71, (h.m.pick [0] _ (by decide) rfl)⟩
            · rw [if_neg (by rw [hb]; decide)] at hf
              refine wp_skip ?_
              refine e_thenN ?_
              refine c_rs ?_
              obtain ⟨m75, h76, hf⟩ := bsome hf
              obtain ⟨hi77, hm78⟩ := ix_some h76
              refine sX h (x_iaddrA h.k rfl Try.underlying37 sz_uint16 rfl rfl hi77 hm78 rfl) (fun a h => ?_)
              obtain ⟨x79, h80, hf⟩ := bsome hf
              obtain ⟨u81, hv82, hu83⟩ := ((hs1.mono (((le51.trans le55).trans le63).trans le70))).cell rfl h80
              cases hu83
              refine sX h (x_ld h.k rfl Try.underlying36 rfl rfl ((h.m.cell (i := 1) rfl _).trans (by rw [Nat.zero_add, Nat.mul_one]; exact hv82))) (fun a h => ?_)
              refine sX h (x_convE h.k rfl Try.underlying36 Try.underlying3 rfl (nw64 (u16_r _))) (fun a h => ?_)
              refine sMV h (fun a h => ?_)
              refine sX h (x_len h.k rfl Try.underlying24 rfl) (fun a h => ?_)
              obtain ⟨x84, h85, hf⟩ := bsome hf
              refine sX h (x_bin h.k rfl rfl rfl (ib_rem_ h85)) (fun a h => ?_)
              refine sAV h (fun a h => ?_)
              refine l_end ?_
              refine c_rs ?_
              refine q_bslice0 h rfl rfl rfl (by decide) Try.underlying24 sz_Suint8 (fun a w A86 h => ?_)
              refine sMV h (fun a h => ?_)
              obtain ⟨x87, h88, hf⟩ := bsome hf
              obtain ⟨_, _, vs89, hrd90, hrp91⟩ := id hs72
              refine q_append (T := tyL ty8) (S := S69) h rfl rfl rfl (by decide) Try.underlying24 zb_Suint8 rfl (by decide) rfl 0 rfl (show reps (tyL ty8) S69 [] [] from rfl) rfl hrp91 (hrd90 _ (h.m.snOK (i := 1) rfl)) h88 (fun a w A92 c93 cs94 hq95 h => ?_)
              refine sAV h (fun a h => ?_)
              refine l_end ?_
              refine c_rs ?_
              refine sMV h (fun a h => ?_)
              refine sMV h (fun a h => ?_)
              refine q_bslice0 h rfl rfl rfl (by decide) Try.underlying22 sz_uint8 (fun a w A96 h => ?_)
              refine sMV h (fun a h => ?_)
              refine sMV h (fun a h => ?_)
              obtain ⟨x97, h101, hf⟩ := bsome hf
              obtain ⟨m98, hi102, hm103, hx104⟩ := idx_some h101
              obtain ⟨b99, off100, k105, hA106, hu107, hc108⟩ := (hs72).at1 rfl hx104 (h.m.snOK (i := 2) rfl)
              obtain ⟨A109, c110, e112, hs111⟩ := hu107
              cases e112
              refine sX h (x_iaddrE h.k rfl Try.underlying24 sz_Suint8 hA106 rfl rfl hi102 hm103) (fun a h => ?_)
              refine sX h (x_ld h.k rfl Try.underlying22 rfl rfl (hc108 _ (h.m.snOK (i := 2) rfl))) (fun a h => ?_)
              obtain ⟨x113, h114, hf⟩ := bsome hf
              obtain ⟨_, _, vs115, hrd116, hrp117⟩ := id hs111
              refine q_append (T := ty8) (S := S69) h rfl rfl rfl (by decide) Try.underlying22 zb_uint8 rfl (by decide) rfl 0 rfl (show reps ty8 S69 [] [] from rfl) rfl hrp117 (hrd116 _ (h.m.snOK (i := 2) rfl)) h114 (fun a w A118 c119 cs120 hq121 h => ?_)
              obtain ⟨m122, h123, hf⟩ := bsome hf
              obtain ⟨hi124, hm125⟩ := ix_some h123
              obtain ⟨g127, hA126⟩ := h.m.rowHead (i := 1) rfl (Nat.lt_of_le_of_lt (Nat.zero_le _) hm125)
              refine sX h (x_iaddrE h.k rfl Try.underlying24 sz_Suint8 hA126 rfl rfl hi124 hm125) (fun a h => ?_)
              refine q_strRaw h rfl rfl rfl sz_Suint8 hA126 rfl (v := .slice A118 x113.length c119) rfl 1 rfl rfl (by have := (hq95).len; rw [this, show (tyL ty8).sz = 1 from rfl, Nat.mul_one]; exact hm125) (fun a w h => ?_)
              refine l_end ?_
              refine wp_seq ?_
              -- region 21 draws
              obtain ⟨m128, h129, hf⟩ := bsome hf
              obtain ⟨m134, h135, hf⟩ := bsome hf
              obtain ⟨x138, h139, hf⟩ := bsome hf
              obtain ⟨m143, h144, hf⟩ := bsome hf
              obtain ⟨x149, h150, hf⟩ := bsome hf
              obtain ⟨m154, h155, hf⟩ := bsome hf
              refine d_start h (Mem _ _ _) 12 13 rfl (by kernel_rfl) (fun _ _ _ _ _ h => h) (fun _ h => h) (fun Q a w HE HN h HS => ?_)
              refine d_takeP h (fun _ => HS) HN 0 rfl (by kernel_rfl) (by kernel_rfl) (by kernel_rfl) (by decide) rfl rfl (by decide) (fun w' => x_move h.k _ rfl rfl) (fun a h => ?_)
              refine d_takeP h (fun _ => HS) HN 1 rfl (by kernel_rfl) (by kernel_rfl) (by kernel_rfl) (by decide) rfl rfl (by decide) (fun w' => x_move h.k _ rfl rfl) (fun a h => ?_)
              obtain ⟨hi130, hm131⟩ := ix_some h129
              obtain ⟨g133, hA132⟩ := h.m.rowHead (i := 1) rfl (Nat.lt_of_le_of_lt (Nat.zero_le _) hm131)
              refine d_takeP h (fun _ => HS) HN 2 rfl (by kernel_rfl) (by kernel_rfl) (by kernel_rfl) (by decide) rfl rfl (by decide) (fun w' => x_iaddrE h.k rfl Try.underlying24 sz_Suint8 hA132 rfl rfl hi130 hm131) (fun a h => ?_)
              refine d_take h HS HN 3 rfl (by kernel_rfl) (by kernel_rfl) (by kernel_rfl) (by kernel_rfl) (by kernel_rfl) rfl rfl (by decide) (fun w' hw => x_ld h.k rfl Try.underlying22 rfl rfl (hw.cellRowE (i := 1) rfl hA132 _ (by rw [Nat.mul_one, show m128 = m122 from by have := hi130; have := hi124; omega]; exact List.getElem?_set_self (by have := (hq95).len; rw [this, show (tyL ty8).sz = 1 from rfl, Nat.mul_one]; exact hm125)))) (fun a h => ?_)
              obtain ⟨hi136, hm137⟩ := ix_some h135
              refine d_takeP h (fun _ => HS) HN 4 rfl (by kernel_rfl) (by kernel_rfl) (by kernel_rfl) (by decide) rfl rfl (by decide) (fun w' => x_iaddrA h.k rfl Try.underlying37 sz_uint16 rfl rfl hi136 hm137 rfl) (fun a h => ?_)
              obtain ⟨u140, hv141, hu142⟩ := ((hs1.mono (((le51.trans le55).trans le63).trans le70))).cell rfl h139
              cases hu142
              refine d_take h HS HN 5 rfl (by kernel_rfl) (by kernel_rfl) (by kernel_rfl) (by kernel_rfl) (by kernel_rfl) rfl rfl (by decide) (fun w' hw => x_ld h.k rfl Try.underlying36 rfl rfl ((hw.cell (i := 3) rfl _).trans (by rw [Nat.zero_add, Nat.mul_one]; exact hv141))) (fun a h => ?_)
              refine d_takeP h (fun _ => HS) HN 6 rfl (by kernel_rfl) (by kernel_rfl) (by kernel_rfl) (by decide) rfl rfl (by decide) (fun w' => x_convE h.k rfl Try.underlying36 Try.underlying3 rfl (nw64 (u16_r _))) (fun a h => ?_)
              refine d_takeP h (fun _ => HS) HN 7 rfl (by kernel_rfl) (by kernel_rfl) (by kernel_rfl) (by decide) rfl rfl (by decide) (fun w' => x_bin h.k rfl rfl rfl (ib_remw (by decide))) (fun a h => ?_)
              obtain ⟨hi145, hm146⟩ := ix_some h144
              obtain ⟨g148, hA147⟩ := h.m.rowHead (i := 0) rfl (Nat.lt_of_le_of_lt (Nat.zero_le _) hm146)
              refine d_takeP h (fun _ => HS) HN 8 rfl (by kernel_rfl) (by kernel_rfl) (by kernel_rfl) (by decide) rfl rfl (by decide) (fun w' => x_iaddrE h.k rfl Try.underlying22 sz_uint8 hA147 rfl rfl hi145 hm146) (fun a h => ?_)
              obtain ⟨u151, hv152, hu153⟩ := (hq121).cell rfl h150
              cases hu153
              refine d_take h HS HN 9 rfl (by kernel_rfl) (by kernel_rfl) (by kernel_rfl) (by kernel_rfl) (by kernel_rfl) rfl rfl (by decide) (fun w' hw => x_ld h.k rfl Try.underlying5 rfl rfl (hw.cellRowE (i := 0) rfl hA147 _ (by rw [Nat.mul_one]; exact hv152))) (fun a h => ?_)
              refine d_takeP h (fun _ => HS) HN 10 rfl (by kernel_rfl) (by kernel_rfl) (by kernel_rfl) (by decide) rfl rfl (by decide) (fun w' => x_bin h.k rfl rfl rfl (ib_xor (u8_xor_ x149 (1 : UInt8)))) (fun a h => ?_)
              obtain ⟨hi156, hm157⟩ := ix_some h155
              obtain ⟨g159, hA158⟩ := h.m.rowHead (i := 0) rfl (Nat.lt_of_le_of_lt (Nat.zero_le _) hm157)
              refine d_takeP h (fun _ => HS) HN 11 rfl (by kernel_rfl) (by kernel_rfl) (by kernel_rfl) (by decide) rfl rfl (by decide) (fun w' => x_iaddrE h.k rfl Try.underlying22 sz_uint8 hA158 rfl rfl hi156 hm157) (fun a h => ?_)
              refine d_alone 12 rfl (by kernel_rfl) (fun K hK => ?_)
              refine q_setRow (T := ty8) (q := (x149 ^^^ (1 : UInt8))) h rfl rfl rfl sz_uint8 hA158 rfl rfl 0 rfl rfl hq121 rfl (by first | exact hm157 | simpa using hm157) (fun a w cs160 hq161 h => ?_)
              have hl162 : x113.length = (x113.set m154 (x149 ^^^ (1 : UInt8))).length := by simp only [List.length_set]
              rw [hl162] at h
              refine hK _ _ (fun hne _ => absurd rfl hne) ?_
              clear hK
              refine d_done (by kernel_rfl) (HE _ _ ?_) _
              refine e_thenN ?_
              refine wp_seq ?_
              refine c_rs ?_
              refine sMV h (fun a h => ?_)
              refine sMV h (fun a h => ?_)
              refine l_end ?_
              have h := h.pick [0, 2, 1, 3] (by decide) rfl
              obtain ⟨S163, le164, up165, hs166, h⟩ := q_freeze (T := ty8) h up71 hq161
              have hq167 : reps (tyL ty8) S163 (cs94.set m122 (.slice A118 (x113.set m154 (x149 ^^^ (1 : UInt8))).length c119)) (x87.set m122 (x113.set m154 (x149 ^^^ (1 : UInt8)))) := reps.set1 rfl (hq95.mono le164) hm125 ⟨_, _, rfl, hs166⟩
              have hl168 : x87.length = (x87.set m122 (x113.set m154 (x149 ^^^ (1 : UInt8)))).length := by simp only [List.length_set]
              rw [hl168] at h
              have h := h.pick [1, 0, 2] (by decide) rfl
              obtain ⟨S169, le170, up171, hs172, h⟩ := q_freeze (T := tyL ty8) h up165 hq167
              obtain ⟨o173, hl174, hf⟩ := bsome hf
              refine c_fin (fun a w => ∃ (S180 : Snap), (.inr ()) = o173 ∧ Snap.le S169 S180 ∧ Up (ownL ([] ++ [.sn S0])) w0 S0 S180 ∧ St 152 w0 (ownL ([] ++ [.sn S0])) [] [.sn S180] a w) ?_ ?_
              · refine wp_block ?_
                have h := h.pick [0] (by decide) rfl
                refine c_loop (fun m184 a w => ∃ (S175 : Snap), ∃ (x178 : Int), chatelainelaw21_KeytreeTold_l1 Fu a0 x84 x87 x113 m122 x149 m154 m184 x178 = some o173 ∧ Snap.le S169 S175 ∧ Up (ownL ([] ++ [.sn S0])) w0 S0 S175 ∧ r64 x178 ∧ St 152 w0 (ownL ([] ++ [.sn S0])) [(0, .int .i64 a0), (11, .int .i64 x84), (12, .slice A92 (x87.set m122 (x113.set m154 (x149 ^^^ (1 : UInt8)))).length c93), (92, .int .i64 a0), (93, .int .i64 x178)] [.sn S175] a w) Fu ⟨S169, 0, hl174, (Snap.le.refl _), up171, (show r64 0 from ⟨by decide, by decide⟩), h.has (by exact ⟨rfl, rfl, rfl, rfl, rfl, trivial⟩)⟩ (fun m184 a w hI => ?_)
                obtain ⟨S175, x178, hl183, le176, up177, hr179, h⟩ := hI
                obtain _ | m184 := m184
                · rw [chatelainelaw21_KeytreeTold_l1] at hl183; cases hl183
                rw [chatelainelaw21_KeytreeTold_l1] at hl183
                refine c_rs ?_
                refine sX h (x_bin h.k rfl rfl rfl ib_lss) (fun a h => ?_)
                refine l_end ?_
                refine c_cs h rfl (fun hb => ?_) (fun hb => ?_)
                · rw [if_pos (of_decide_eq_true hb)] at hl183
                  refine wp_skip ?_
                  refine e_thenN ?_
                  refine wp_seq ?_
                  refine wp_block ?_
                  refine c_rs ?_
                  refine sMV h (fun a h => ?_)
                  refine sAV h (fun a h => ?_)
                  refine l_end ?_
                  refine c_rs ?_
                  obtain ⟨x185, h186, hl183⟩ := bsome hl183
                  have hX := chatelainelaw21_some_ok Fu (S0 := snapAll _) (1 : UInt8) _ h186 _ h.startAll
                  refine q_callX hX h rfl rfl rfl (by decide) Try.func16 rfl rfl rfl (fun a w v L1 S1 hR hb1 h => ?_)
                  obtain ⟨A188, c189, cs190, rfl, rfl, hq191, _⟩ := hR
                  have hq192 := hq191.fl (S' := S175) fl_8
                  refine sMV h (fun a h => ?_)
                  refine sMV h (fun a h => ?_)
                  refine sMV h (fun a h => ?_)
                  obtain ⟨S193, le194, up195, hs196, h⟩ := q_freeze (T := ty8) h up177 hq192
                  obtain ⟨x197, h198, hl183⟩ := bsome hl183
                  have hX := keytree_Leaf_ok Fu (S0 := S193) A188 c189 x185 hs196 a0 hra0 A92 c93 (x87.set m122 (x113.set m154 (x149 ^^^ (1 : UInt8)))) (hs172.mono (le176.trans le194)) x178 hr179 _ h198 _ (h.sub (Ls := []))
                  refine q_callY (Ls := []) hX h up195 rfl rfl rfl (by decide) Try.func12 rfl rfl rfl (fun a w v L1 S200 hR le202 up201 h => ?_)
                  obtain ⟨A203, c204, rfl, rfl, hs205, hr206, _⟩ := hR
                  refine sMV h (fun a h => ?_)
                  refine sX h (x_ext h.k rfl rfl rfl) (fun a h => ?_)
                  refine sX h (x_ext h.k rfl rfl rfl) (fun a h => ?_)
                  refine sAV h (fun a h => ?_)
                  refine sAV h (fun a h => ?_)
                  refine l_end ?_
                  refine c_rs ?_
                  refine sAV h (fun a h => ?_)
                  refine l_end ?_
                  refine wp_seq ?_
                  refine c_rs ?_
                  refine sMV h (fun a h => ?_)
                  obtain ⟨x207, h208, hl183⟩ := bsome hl183
                  have hX := chatelainelaw21_depth_ok Fu (S0 := snapAll _) a0 hra0 _ h208 _ h.startAll
                  refine q_callX hX h rfl rfl rfl (by decide) Try.func15 rfl rfl rfl (fun a w v L1 S1 hR hb1 h => ?_)
                  obtain ⟨rfl, rfl, hr210, _⟩ := hR
                  refine sMV h (fun a h => ?_)
                  refine sAV h (fun a h => ?_)
                  refine sAV h (fun a h => ?_)
                  refine l_end ?_
                  obtain ⟨o211, hl212, hl183⟩ := bsome hl183
                  refine c_fin (fun a w => ∃ (x218 : Bool), x218 = o211 ∧ St 152 w0 (ownL ([] ++ [.sn S0])) [(0, .int .i64 a0), (11, .int .i64 x84), (12, .slice A92 (x87.set m122 (x113.set m154 (x149 ^^^ (1 : UInt8)))).length c93), (13, .int .i64 x178), (14, .slice A203 x197.1.length c204), (15, .int .i64 x197.2), (16, .bool x218), (92, .int .i64 a0), (93, .int .i64 x178)] [.sn S200] a w) ?_ ?_
                  · refine wp_block ?_
                    refine c_loop (fun m220 a w => ∃ (x213 : Bool), ∃ (x214 : Int), ∃ (x216 : Int), chatelainelaw21_KeytreeTold_l2 Fu a0 x84 m220 x213 x214 x216 = some o211 ∧ r64 x214 ∧ r64 x216 ∧ St 152 w0 (ownL ([] ++ [.sn S0])) [(0, .int .i64 a0), (11, .int .i64 x84), (12, .slice A92 (x87.set m122 (x113.set m154 (x149 ^^^ (1 : UInt8)))).length c93), (13, .int .i64 x178), (14, .slice A203 x197.1.length c204), (15, .int .i64 x197.2), (16, .bool x213), (17, .int .i64 x214), (18, .int .i64 x216), (92, .int .i64 a0), (93, .int .i64 x178)] [.sn S200] a w) Fu ⟨false, x207, x178, hl212, hr210, hr179, h.has (by exact ⟨rfl, rfl, rfl, rfl, rfl, rfl, rfl, rfl, rfl, rfl, rfl, trivial⟩)⟩ (fun m220 a w hI => ?_)
                    obtain ⟨x213, x214, x216, hl219, hr215, hr217, h⟩ := hI
                    obtain _ | m220 := m220
                    · rw [chatelainelaw21_KeytreeTold_l2] at hl219; cases hl219
                    rw [chatelainelaw21_KeytreeTold_l2] at hl219
                    refine wp_seq ?_
                    refine c_rs ?_
                    refine sMV h (fun a h => ?_)
                    refine sX h (x_bin h.k rfl rfl rfl ib_geq) (fun a h => ?_)
                    refine l_end ?_
                    refine c_cond h rfl (fun hb => ?_) (fun hb => ?_)
                    · rw [if_pos (of_decide_eq_true hb)] at hl219
                      refine wp_skip ?_
                      refine e_thenN ?_
                      refine wp_seq ?_
                      refine wp_block ?_
                      refine c_r ?_
                      refine sMV h (fun a h => ?_)
                      refine sMV h (fun a h => ?_)
                      obtain ⟨z222, hz221, hl219⟩ := bsome hl219
                      refine q_grp h 7 (t := 114) 121 z222 rfl (fun hB1 => ?_) (fun hB1 => ?_) (fun a w h => ?_)
                      · refine g_no h rfl rfl rfl rfl hB1 rfl (by decide) (fun a h => ?_)
                        refine g_no h rfl rfl rfl rfl hB1 rfl (by decide) (fun a h => ?_)
                        refine g_no h rfl rfl rfl rfl hB1 rfl (by decide) (fun a h => ?_)
                        refine g_no h rfl rfl rfl rfl hB1 rfl (by decide) (fun a h => ?_)
                        refine g_no h rfl rfl rfl rfl hB1 rfl (by decide) (fun a h => ?_)
                        refine g_no h rfl rfl rfl rfl hB1 rfl (by decide) (fun a h => ?_)
                        rw [if_pos hB1] at hz221
                        refine sX h (x_pick (u' := undef) h.k rfl rfl (fun _ => rfl) (fun hh => absurd (hB1.symm.trans hh) (by decide))) (fun a h => ?_)
                        exact (h.mid 6 rfl).val (by rw [Option.some.inj hz221])
                      · rw [if_neg (by rw [hB1]; decide)] at hz221
                        refine g_yes h rfl rfl rfl rfl hB1 ?_
                        refine sMV h (fun a h => ?_)
                        refine g_yes h rfl rfl rfl rfl hB1 ?_
                        refine sMV h (fun a h => ?_)
                        refine g_yes h rfl rfl rfl rfl hB1 ?_
                        refine sMV h (fun a h => ?_)
                        refine g_yes h rfl rfl rfl rfl hB1 ?_
                        obtain ⟨x224, h225, hz221⟩ := bsome hz221
                        have hX := chatelaineref20_Place_ok Fu (S0 := snapAll _) a0 hra0 x214 hr215 x216 hr217 _ h225 _ h.startAll
                        refine q_callX hX h rfl rfl rfl (by decide) Try.func17 rfl rfl rfl (fun a w v L1 S1 hR hb1 h => ?_)
                        obtain ⟨rfl, rfl, hr227, _⟩ := hR
                        refine g_yes h rfl rfl rfl rfl hB1 ?_
                        refine sMV h (fun a h => ?_)
                        refine g_yes h rfl rfl rfl rfl hB1 ?_
                        refine sX h (x_bin h.k rfl rfl rfl ib_eql) (fun a h => ?_)
                        refine sX h (x_pick (u' := undef) h.k rfl rfl (fun hh => absurd (hB1.symm.trans hh) (by decide)) (fun _ => rfl)) (fun a h => ?_)
                        exact (h.mid 6 rfl).val (by rw [Option.some.inj hz221])
                      refine sAV h (fun a h => ?_)
                      refine l_nil ?_
                      refine e_blkN ?_
                      refine e_thenN ?_
                      refine c_r ?_
                      refine sMV h (fun a h => ?_)
                      refine sX h (x_bin h.k rfl rfl rfl (ib_sub rfl)) (fun a h => ?_)
                      refine sMV h (fun a h => ?_)
                      refine sX h (x_bin h.k rfl rfl rfl (ib_quow (by decide))) (fun a h => ?_)
                      refine sAV h (fun a h => ?_)
                      refine sAV h (fun a h => ?_)
                      refine l_nil ?_
                      exact e_thenN ⟨m220, Nat.lt_succ_self _, z222, w64 (x214 - 1), w64 (Int.tdiv x216 4), hl219, (w64_r _), (w64_r _), h.has (by exact ⟨rfl, rfl, rfl, rfl, rfl, rfl, rfl, rfl, rfl, rfl, rfl, trivial⟩)⟩
                    · rw [if_neg (of_decide_eq_false hb)] at hl219
                      refine wp_exit ?_
                      refine e_thenX ?_
                      refine e_thenX ?_
                      refine e_blkX ?_
                      refine e_thenN ?_
                      exact ⟨x213, (Option.some.inj hl219), h.has (by exact ⟨rfl, rfl, rfl, rfl, rfl, rfl, rfl, rfl, rfl, trivial⟩)⟩
                  · rintro a w ⟨x218, rfl, h⟩
                    refine e_thenN ?_
                    refine c_rs ?_
                    refine sMV h (fun a h => ?_)
                    refine sX h (x_not h.k rfl rfl) (fun a h => ?_)
                    refine sMV h (fun a h => ?_)
                    obtain ⟨o234, hz235, hl183⟩ := bsome hl183
                    refine q_grpR h 13 (t := 124) (fun a w => ∃ (S230 : Snap), ∃ (x233 : Bool), x233 = o234 ∧ Snap.le S200 S230 ∧ Up (ownL ([] ++ [.sn S0])) w0 S0 S230 ∧ St 152 w0 (ownL ([] ++ [.sn S0])) [(0, .int .i64 a0), (11, .int .i64 x84), (12, .slice A92 (x87.set m122 (x113.set m154 (x149 ^^^ (1 : UInt8)))).length c93), (14, .slice A203 x197.1.length c204), (15, .int .i64 x197.2), (92, .int .i64 a0), (93, .int .i64 x178), (137, .bool x233)] [.sn S230] a w) rfl (fun hB2 => ?_) (fun hB2 => ?_) ?_
                    · rw [if_pos hB2] at hz235
                      refine g_yes h rfl rfl rfl rfl hB2 ?_
                      refine sMV h (fun a h => ?_)
                      refine g_yes h rfl rfl rfl rfl hB2 ?_
                      refine sX h (x_bin h.k rfl rfl rfl ib_neq) (fun a h => ?_)
                      refine g_yes h rfl rfl rfl rfl hB2 ?_
                      refine sMV h (fun a h => ?_)
                      obtain ⟨o242, hz243, hz235⟩ := bsome hz235
                      refine q_grpR h 9 (t := 127) (fun a w => ∃ (S238 : Snap), ∃ (x241 : Bool), x241 = o242 ∧ Snap.le S200 S238 ∧ Up (ownL ([] ++ [.sn S0])) w0 S0 S238 ∧ St 152 w0 (ownL ([] ++ [.sn S0])) [(0, .int .i64 a0), (11, .int .i64 x84), (12, .slice A92 (x87.set m122 (x113.set m154 (x149 ^^^ (1 : UInt8)))).length c93), (14, .slice A203 x197.1.length c204), (15, .int .i64 x197.2), (92, .int .i64 a0), (93, .int .i64 x178), (124, .bool (!x218)), (136, .bool x241)] [.sn S238] a w) rfl (fun hB5 => ?_) (fun hB5 => ?_) ?_
                      · rw [if_pos (of_decide_eq_true hB5)] at hz243
                        refine g_no h rfl rfl rfl rfl hB5 rfl (by decide) (fun a h => ?_)
                        refine g_no h rfl rfl rfl rfl hB5 rfl (by decide) (fun a h => ?_)
                        refine g_no h rfl rfl rfl rfl hB5 rfl (by decide) (fun a h => ?_)
                        refine g_no h rfl rfl rfl rfl hB5 rfl (by decide) (fun a h => ?_)
                        refine g_no h rfl rfl rfl rfl hB5 rfl (by decide) (fun a h => ?_)
                        refine g_no h rfl rfl rfl rfl hB5 rfl (by decide) (fun a h => ?_)
                        refine g_no h rfl rfl rfl rfl hB5 rfl (by decide) (fun a h => ?_)
                        refine g_no h rfl rfl rfl rfl hB5 rfl (by decide) (fun a h => ?_)
                        refine g_yes h rfl rfl rfl rfl hB2 ?_
                        refine sX h (x_pick (u' := undef) h.k rfl rfl (fun _ => rfl) (fun hh => absurd (hB5.symm.trans hh) (by decide))) (fun a h => ?_)
                        refine l_nil (e_thenN ?_)
                        exact ⟨S200, true, (Option.some.inj hz243), (Snap.le.refl _), up201, h.has (by exact ⟨rfl, rfl, rfl, rfl, rfl, rfl, rfl, rfl, rfl, trivial⟩)⟩
                      · rw [if_neg (of_decide_eq_false hB5)] at hz243
                        refine g_yes h rfl rfl rfl rfl hB5 ?_
                        refine sMV h (fun a h => ?_)
                        refine g_yes h rfl rfl rfl rfl hB5 ?_
                        refine q_bslice (T := ty8) (S := S200) h rfl rfl rfl (by decide) Try.underlying22 zi_uint8 (by decide) (by decide) (by decide) (by decide) [.int .u8 3] rfl rfl (C := [[.int .u8 3]]) rfl (xs := [(3 : UInt8)]) ⟨[.int .u8 3], _, rfl, rfl, rfl⟩ (by intro c hc; simp only [List.mem_cons, List.not_mem_nil, or_false] at hc; subst hc; rfl) (fun a w A244 h => ?_)
                        have hb245 : reps ty8 S200 ([[.int .u8 3]] : List (List Value)).flatten [(3 : UInt8)] := ⟨[.int .u8 3], _, rfl, rfl, rfl⟩
                        refine g_yes h rfl rfl rfl rfl hB5 ?_
                        refine sMV h (fun a h => ?_)
                        refine g_yes h rfl rfl rfl rfl hB5 ?_
                        obtain ⟨x246, h247, hz243⟩ := bsome hz243
                        have hX := chatelainelaw21_depth_ok Fu (S0 := snapAll _) a0 hra0 _ h247 _ h.startAll
                        refine q_callX hX h rfl rfl rfl (by decide) Try.func15 rfl rfl rfl (fun a w v L1 S1 hR hb1 h => ?_)
                        obtain ⟨rfl, rfl, hr249, _⟩ := hR
                        refine g_yes h rfl rfl rfl rfl hB5 ?_
                        refine sMV h (fun a h => ?_)
                        refine g_yes h rfl rfl rfl rfl hB5 ?_
                        obtain ⟨S250, le251, up252, hs253, h⟩ := q_freeze (T := ty8) h up201 hb245
                        obtain ⟨x254, h255, hz243⟩ := bsome hz243
                        have hX := chatelainelaw21_fresh_ok Fu (S0 := S250) A244 1 ([(3 : UInt8)]) hs253 x246 hr249 x178 hr179 _ h255 _ (h.sub (Ls := []))
                        refine q_callY (Ls := []) hX h up252 rfl rfl rfl (by decide) Try.func14 rfl rfl rfl (fun a w v L1 S257 hR le259 up258 h => ?_)
                        obtain ⟨A260, c261, rfl, rfl, hs262, _⟩ := hR
                        refine g_yes h rfl rfl rfl rfl hB5 ?_
                        obtain ⟨x263, h264, hz243⟩ := bsome hz243
                        have hX := chatelaineref01_Same_ok Fu (S0 := snapAll _) A203 c204 x197.1 ((hs205.mono (le251.trans le259)).mono (h.m.leAll (i := 0) rfl)) A260 c261 x254 (hs262.mono (h.m.leAll (i := 0) rfl)) _ h264 _ h.startAll
                        refine q_callX hX h rfl rfl rfl (by decide) Try.func13 rfl rfl rfl (fun a w v L1 S1 hR hb1 h => ?_)
                        obtain ⟨rfl, rfl, _⟩ := hR
                        refine g_yes h rfl rfl rfl rfl hB5 ?_
                        refine sX h (x_not h.k rfl rfl) (fun a h => ?_)
                        refine g_yes h rfl rfl rfl rfl hB2 ?_
                        refine sX h (x_pick (u' := undef) h.k rfl rfl (fun hh => absurd (hB5.symm.trans hh) (by decide)) (fun _ => rfl)) (fun a h => ?_)
                        refine l_nil (e_thenN ?_)
                        exact ⟨S257, (!x263), (Option.some.inj hz243), (le251.trans le259), up258, h.has (by exact ⟨rfl, rfl, rfl, rfl, rfl, rfl, rfl, rfl, rfl, trivial⟩)⟩
                      rintro a w ⟨S238, x241, rfl, le239, up240, h⟩
                      try dsimp only at hz235
                      refine sX h (x_pick (u' := undef) h.k rfl rfl (fun _ => rfl) (fun hh => absurd (hB2.symm.trans hh) (by decide))) (fun a h => ?_)
                      refine l_nil (e_thenN ?_)
                      exact ⟨S238, x241, (Option.some.inj hz235), le239, up240, h.has (by exact ⟨rfl, rfl, rfl, rfl, rfl, rfl, rfl, rfl, trivial⟩)⟩
                    · rw [if_neg (by rw [hB2]; decide)] at hz235
                      refine g_no h rfl rfl rfl rfl hB2 rfl (by decide) (fun a h => ?_)
                      refine g_no h rfl rfl rfl rfl hB2 rfl (by decide) (fun a h => ?_)
                      refine g_no h rfl rfl rfl rfl hB2 rfl (by decide) (fun a h => ?_)
                      refine g_off h rfl rfl rfl rfl rfl (by decide) (fun a h => ?_)
                      refine g_off h rfl rfl rfl rfl rfl (by decide) (fun a h => ?_)
                      refine g_off h rfl rfl rfl rfl rfl (by decide) (fun a h => ?_)
                      refine g_off h rfl rfl rfl rfl rfl (by decide) (fun a h => ?_)
                      refine g_off h rfl rfl rfl rfl rfl (by decide) (fun a h => ?_)
                      refine g_off h rfl rfl rfl rfl rfl (by decide) (fun a h => ?_)
                      refine g_off h rfl rfl rfl rfl rfl (by decide) (fun a h => ?_)
                      refine g_off h rfl rfl rfl rfl rfl (by decide) (fun a h => ?_)
                      refine g_no h rfl rfl rfl rfl hB2 rfl (by decide) (fun a h => ?_)
                      refine sX h (x_pick (u' := undef) h.k rfl rfl (fun hh => absurd (hB2.symm.trans hh) (by decide)) (fun _ => rfl)) (fun a h => ?_)
                      refine l_nil (e_thenN ?_)
                      exact ⟨S200, false, (Option.some.inj hz235), (Snap.le.refl _), up201, h.has (by exact ⟨rfl, rfl, rfl, rfl, rfl, rfl, rfl, rfl, trivial⟩)⟩
                    rintro a w ⟨S230, x233, rfl, le231, up232, h⟩
                    try dsimp only at hl183
                    refine sMV h (fun a h => ?_)
                    refine q_grp h 12 (t := 138) 150 (x233 || ((decide (x197.2 ≠ 0)) && ((decide (x197.2 ≠ 21)) || (decide (0 < (x197.1.length : Int)))))) rfl (fun hB16 => ?_) (fun hB16 => ?_) (fun a w h => ?_)
                    · refine g_no h rfl rfl rfl rfl hB16 rfl (by decide) (fun a h => ?_)
                      refine g_no h rfl rfl rfl rfl hB16 rfl (by decide) (fun a h => ?_)
                      refine g_no h rfl rfl rfl rfl hB16 rfl (by decide) (fun a h => ?_)
                      refine g_off h rfl rfl rfl rfl rfl (by decide) (fun a h => ?_)
                      refine g_off h rfl rfl rfl rfl rfl (by decide) (fun a h => ?_)
                      refine g_off h rfl rfl rfl rfl rfl (by decide) (fun a h => ?_)
                      refine g_off h rfl rfl rfl rfl rfl (by decide) (fun a h => ?_)
                      refine g_off h rfl rfl rfl rfl rfl (by decide) (fun a h => ?_)
                      refine g_off h rfl rfl rfl rfl rfl (by decide) (fun a h => ?_)
                      refine g_off h rfl rfl rfl rfl rfl (by decide) (fun a h => ?_)
                      refine g_no h rfl rfl rfl rfl hB16 rfl (by decide) (fun a h => ?_)
                      refine sX h (x_pick (u' := undef) h.k rfl rfl (fun _ => rfl) (fun hh => absurd (hB16.symm.trans hh) (by decide))) (fun a h => ?_)
                      exact (h.mid 11 rfl).val (by first | rfl | (rw [hB16]; first | rfl | simp))
                    · refine g_yes h rfl rfl rfl rfl hB16 ?_
                      refine sMV h (fun a h => ?_)
                      refine g_yes h rfl rfl rfl rfl hB16 ?_
                      refine sX h (x_bin h.k rfl rfl rfl ib_neq) (fun a h => ?_)
                      refine g_yes h rfl rfl rfl rfl hB16 ?_
                      refine sMV h (fun a h => ?_)
                      refine q_grp h 8 (t := 141) 149 ((decide (x197.2 ≠ 0)) && ((decide (x197.2 ≠ 21)) || (decide (0 < (x197.1.length : Int))))) rfl (fun hB19 => ?_) (fun hB19 => ?_) (fun a w h => ?_)
                      · refine g_yes h rfl rfl rfl rfl hB19 ?_
                        refine sMV h (fun a h => ?_)
                        refine g_yes h rfl rfl rfl rfl hB19 ?_
                        refine sX h (x_bin h.k rfl rfl rfl ib_neq) (fun a h => ?_)
                        refine g_yes h rfl rfl rfl rfl hB19 ?_
                        refine sMV h (fun a h => ?_)
                        refine q_grp h 4 (t := 144) 148 ((decide (x197.2 ≠ 21)) || (decide (0 < (x197.1.length : Int)))) rfl (fun hB22 => ?_) (fun hB22 => ?_) (fun a w h => ?_)
                        · refine g_no h rfl rfl rfl rfl hB22 rfl (by decide) (fun a h => ?_)
                          refine g_no h rfl rfl rfl rfl hB22 rfl (by decide) (fun a h => ?_)
                          refine g_no h rfl rfl rfl rfl hB22 rfl (by decide) (fun a h => ?_)
                          refine g_yes h rfl rfl rfl rfl hB19 ?_
                          refine sX h (x_pick (u' := undef) h.k rfl rfl (fun _ => rfl) (fun hh => absurd (hB22.symm.trans hh) (by decide))) (fun a h => ?_)
                          exact (h.mid 3 rfl).val (by first | rfl | (rw [hB22]; first | rfl | simp))
                        · refine g_yes h rfl rfl rfl rfl hB22 ?_
                          refine sMV h (fun a h => ?_)
                          refine g_yes h rfl rfl rfl rfl hB22 ?_
                          refine sX h (x_len h.k rfl Try.underlying22 rfl) (fun a h => ?_)
                          refine g_yes h rfl rfl rfl rfl hB22 ?_
                          refine sX h (x_bin h.k rfl rfl rfl ib_gtr) (fun a h => ?_)
                          refine g_yes h rfl rfl rfl rfl hB19 ?_
                          refine sX h (x_pick (u' := undef) h.k rfl rfl (fun hh => absurd (hB22.symm.trans hh) (by decide)) (fun _ => rfl)) (fun a h => ?_)
                          exact (h.mid 3 rfl).val (by first | rfl | (rw [hB22]; first | rfl | simp))
                        refine g_yes h rfl rfl rfl rfl hB16 ?_
                        refine sX h (x_pick (u' := undef) h.k rfl rfl (fun _ => rfl) (fun hh => absurd (hB19.symm.trans hh) (by decide))) (fun a h => ?_)
                        exact (h.mid 4 rfl).val (by first | rfl | (rw [hB19]; first | rfl | simp))
                      · refine g_no h rfl rfl rfl rfl hB19 rfl (by decide) (fun a h => ?_)
                        refine g_no h rfl rfl rfl rfl hB19 rfl (by decide) (fun a h => ?_)
                        refine g_no h rfl rfl rfl rfl hB19 rfl (by decide) (fun a h => ?_)
                        refine g_off h rfl rfl rfl rfl rfl (by decide) (fun a h => ?_)
                        refine g_off h rfl rfl rfl rfl rfl (by decide) (fun a h => ?_)
                        refine g_off h rfl rfl rfl rfl rfl (by decide) (fun a h => ?_)
                        refine g_no h rfl rfl rfl rfl hB19 rfl (by decide) (fun a h => ?_)
                        refine g_yes h rfl rfl rfl rfl hB16 ?_
                        refine sX h (x_pick (u' := undef) h.k rfl rfl (fun hh => absurd (hB19.symm.trans hh) (by decide)) (fun _ => rfl)) (fun a h => ?_)
                        exact (h.mid 7 rfl).val (by first | rfl | (rw [hB19]; first | rfl | simp))
                      refine sX h (x_pick (u' := undef) h.k rfl rfl (fun hh => absurd (hB16.symm.trans hh) (by decide)) (fun _ => rfl)) (fun a h => ?_)
                      exact (h.mid 4 rfl).val (by first | rfl | (rw [hB16]; first | rfl | simp))
                    refine l_end ?_
                    refine c_cond h rfl (fun hb => ?_) (fun hb => ?_)
                    · rw [if_pos hb] at hl183
                      refine c_rs ?_
                      refine sAV h (fun a h => ?_)
                      refine l_end ?_
                      refine wp_ret ?_
                      refine e_blkR ?_
                      refine e_thenR ?_
                      refine e_thenR ?_
                      refine e_blkR ?_
                      refine e_thenR ?_
                      cases hl183
                      try dsimp only at hf
                      refine e_thenR ?_
                      rw [← Option.some.inj hf]
                      exact r_ret1 h rfl (rv_tmp h rfl) ⟨_, [], _, rfl, ⟨rfl, rfl, trivial⟩, rfl, up232, h.m⟩
                    · rw [if_neg (by rw [hb]; decide)] at hl183
                      refine wp_skip ?_
                      refine e_blkN ?_
                      refine e_thenN ?_
                      refine c_r ?_
                      refine sX h (x_bin h.k rfl rfl rfl (ib_add rfl)) (fun a h => ?_)
                      refine sMV h (fun a h => ?_)
                      refine l_nil ?_
                      exact e_thenN ⟨m184, Nat.lt_succ_self _, S230, w64 (x178 + 1), hl183, (((le176.trans le194).trans le202).trans le231), up232, (w64_r _), h.has (by exact ⟨rfl, rfl, rfl, rfl, rfl, trivial⟩)⟩
                · rw [if_neg (of_decide_eq_false hb)] at hl183
                  refine wp_exit ?_
                  refine e_thenX ?_
                  refine e_thenX ?_
                  refine e_blkX ?_
                  refine e_thenN ?_
                  exact ⟨S175, (Option.some.inj hl183), le176, up177, h.has trivial⟩
              · rintro a w ⟨S180, rfl, le181, up182, h⟩
                try dsimp only at hf
                refine e_thenN ?_
                refine c_rs ?_
                refine sAV h (fun a h => ?_)
                refine l_end ?_
                refine wp_ret ?_
                rw [← Option.some.inj hf]
                exact r_ret1 h rfl (rv_tmp h rfl) ⟨_, [], _, rfl, ⟨rfl, rfl, trivial⟩, rfl, up182, h.m⟩
end Go.Proofs.Ytohgmggdfmjgnaa
