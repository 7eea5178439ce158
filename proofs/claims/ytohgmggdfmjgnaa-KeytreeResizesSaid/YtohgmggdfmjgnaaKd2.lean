/- Texts put together. -/
import Derived.Test.YtohgmggdfmjgnaaPs
import Derived.Test.YtohgmggdfmjgnaaOpen
import Derived.Test.YtohgmggdfmjgnaaPx
import Derived.Test.YtohgmggdfmjgnaaK
import Derived.Test.YtohgmggdfmjgnaaKb2
import Derived.Test.YtohgmggdfmjgnaaKc2
import Derived.Test.YtohgmggdfmjgnaaEb
set_option linter.unusedVariables false
set_option linter.unusedSimpArgs false
namespace Go.Proofs.Ytohgmggdfmjgnaa
open Go.RowKit
section

end
section
def chatelainelaw21_awake (Fu : Nat) : Option Bool :=
  (chatelainelaw21_some Fu (1 : UInt8)).bind fun x1 => (keytree_Make Fu x1 ([(2 : UInt8)]) 5).bind fun x19 => (if ((decide (x19.2 = 0)) && (decide ((x19.1.length : Int) = 7))) = true then (keytree_Right Fu 5 x19.1).bind fun x36 => some x36 else some false).bind fun z34 => some z34
set_option maxRecDepth 100000 in
set_option maxHeartbeats 2000000 in
theorem chatelainelaw21_awake_ok (Fu : Nat) {S0 : Snap}  (r : Bool) (hf : chatelainelaw21_awake Fu = some r) (w0 : World) (hm : Mem w0 (ownL ([] ++ [.sn S0])) ([] ++ [.sn S0]) w0) :
    Calls Try.prog 7 #[] w0 (Ret w0 S0 [] (fun v L1 S1 => v = .bool r ∧ L1 = [] ∧ True)) := by
  unfold chatelainelaw21_awake at hf
  refine c_enterM Try.func7 rfl 20 rfl (by simp) _ hm _ rfl (fun a h => ?_)
  refine c_rs ?_
  refine sAV h (fun a h => ?_)
  refine l_end ?_
  refine c_rs ?_
  obtain ⟨x1, h2, hf⟩ := bsome hf
  have hX := chatelainelaw21_some_ok Fu (S0 := snapAll _) (1 : UInt8) _ h2 _ h.startAll
  refine q_callX hX h rfl rfl rfl (by decide) Try.func16 rfl rfl rfl (fun a w v L1 S1 hR hb1 h => ?_)
  obtain ⟨A4, c5, cs6, rfl, rfl, hq7, _⟩ := hR
  have hq8 := hq7.fl (S' := S0) fl_8
  refine q_bslice (T := ty8) (S := S0) h rfl rfl rfl (by decide) Try.underlying22 zi_uint8 (by decide) (by decide) (by decide) (by decide) [.int .u8 2] rfl rfl (C := [[.int .u8 2]]) rfl (xs := [(2 : UInt8)]) ⟨[.int .u8 2], _, rfl, rfl, rfl⟩ (by intro c hc; simp only [List.mem_cons, List.not_mem_nil, or_false] at hc; subst hc; rfl) (fun a w A9 h => ?_)
  have hb10 : reps ty8 S0 ([[.int .u8 2]] : List (List Value)).flatten [(2 : UInt8)] := ⟨[.int .u8 2], _, rfl, rfl, rfl⟩
  have h := h.pick [1, 2, 0] (by decide) rfl
  obtain ⟨S11, le12, up13, hs14, h⟩ := q_freeze (T := ty8) h (Up.refl _ _ _) hq8
  have h := h.pick [1, 0] (by decide) rfl
  obtain ⟨S15, le16, up17, hs18, h⟩ := q_freeze (T := ty8) h up13 (hb10.mono le12)
  obtain ⟨x19, h20, hf⟩ := bsome hf
  have hX := keytree_Make_ok Fu (S0 := S15) A4 c5 x1 (hs14.mono le16) A9 1 ([(2 : UInt8)]) hs18 5 (show r64 5 from ⟨by decide, by decide⟩) _ h20 _ (h.sub (Ls := []))
  refine q_callY (Ls := []) hX h up17 rfl rfl rfl (by decide) Try.func8 rfl rfl rfl (fun a w v L1 S22 hR le24 up23 h => ?_)
  obtain ⟨A25, c26, cs27, rfl, rfl, hq28, hr29, _⟩ := hR
  refine sMV h (fun a h => ?_)
  refine s_x h rfl rfl (by decide) (x_ext h.k rfl rfl rfl) (fun a h => ?_)
  refine s_x h rfl rfl (by decide) (x_ext h.k rfl rfl rfl) (fun a h => ?_)
  refine sAV h (fun a h => ?_)
  refine sAV h (fun a h => ?_)
  refine l_end ?_
  refine c_rs ?_
  refine sMV h (fun a h => ?_)
  refine s_x h rfl rfl (by decide) (x_bin h.k rfl rfl rfl ib_eql) (fun a h => ?_)
  refine sMV h (fun a h => ?_)
  refine q_grp h 4 (t := 11) 15 ((decide (x19.2 = 0)) && (decide ((x19.1.length : Int) = 7))) rfl (fun hB2 => ?_) (fun hB2 => ?_) (fun a w h => ?_)
  · refine g_yes h rfl rfl rfl rfl hB2 ?_
    refine sMV h (fun a h => ?_)
    refine g_yes h rfl rfl rfl rfl hB2 ?_
    have hr32 : r64 (x19.1.length : Int) := len_r (h.m.rowLen (i := 0) rfl)
    refine s_x h rfl rfl (by decide) (x_len h.k rfl Try.underlying24 rfl) (fun a h => ?_)
    refine g_yes h rfl rfl rfl rfl hB2 ?_
    refine s_x h rfl rfl (by decide) (x_bin h.k rfl rfl rfl ib_eql) (fun a h => ?_)
    refine s_x h rfl rfl (by decide) (x_pick (u' := undef) h.k rfl rfl (fun _ => rfl) (fun hh => absurd (hB2.symm.trans hh) (by decide))) (fun a h => ?_)
    exact (h.mid 3 rfl).val (by first | rfl | (rw [hB2]; first | rfl | simp))
  · refine g_no h rfl rfl rfl rfl hB2 rfl (by decide) (fun a h => ?_)
    refine g_no h rfl rfl rfl rfl hB2 rfl (by decide) (fun a h => ?_)
    refine g_no h rfl rfl rfl rfl hB2 rfl (by decide) (fun a h => ?_)
    refine s_x h rfl rfl (by decide) (x_pick (u' := undef) h.k rfl rfl (fun hh => absurd (hB2.symm.trans hh) (by decide)) (fun _ => rfl)) (fun a h => ?_)
    exact (h.mid 3 rfl).val (by first | rfl | (rw [hB2]; first | rfl | simp))
  refine sMV h (fun a h => ?_)
  obtain ⟨z34, hz33, hf⟩ := bsome hf
  refine q_grp h 3 (t := 16) 19 z34 rfl (fun hB7 => ?_) (fun hB7 => ?_) (fun a w h => ?_)
  · rw [if_pos hB7] at hz33
    refine g_yes h rfl rfl rfl rfl hB7 ?_
    refine sMV h (fun a h => ?_)
    refine g_yes h rfl rfl rfl rfl hB7 ?_
    obtain ⟨x36, h37, hz33⟩ := bsome hz33
    have hX := keytree_Right_ok Fu (S0 := snapAll _) 5 (show r64 5 from ⟨by decide, by decide⟩) A25 c26 x19.1 (h.m.rowAll (i := 0) rfl (j := 1) rfl hq28) _ h37 _ h.startAll
    refine q_callX hX h rfl rfl rfl (by decide) Try.func10 rfl rfl rfl (fun a w v L1 S1 hR hb1 h => ?_)
    obtain ⟨rfl, rfl, _⟩ := hR
    refine s_x h rfl rfl (by decide) (x_pick (u' := undef) h.k rfl rfl (fun _ => rfl) (fun hh => absurd (hB7.symm.trans hh) (by decide))) (fun a h => ?_)
    exact (h.mid 2 rfl).val (by rw [Option.some.inj hz33])
  · refine g_no h rfl rfl rfl rfl hB7 rfl (by decide) (fun a h => ?_)
    refine g_no h rfl rfl rfl rfl hB7 rfl (by decide) (fun a h => ?_)
    rw [if_neg (by rw [hB7]; decide)] at hz33
    refine s_x h rfl rfl (by decide) (x_pick (u' := undef) h.k rfl rfl (fun hh => absurd (hB7.symm.trans hh) (by decide)) (fun _ => rfl)) (fun a h => ?_)
    exact (h.mid 2 rfl).val (by rw [Option.some.inj hz33])
  refine sAV h (fun a h => ?_)
  refine l_end ?_
  refine wp_ret ?_
  rw [← Option.some.inj hf]
  exact r_ret1 h rfl (rv_tmp h rfl) ⟨_, [], _, rfl, ⟨rfl, rfl, trivial⟩, rfl, up23, (h.m.pick [1] _ (by decide) rfl)⟩
def chatelainelaw21_KeytreeResizes_l0 (Fu : Nat) (a0 : (List UInt8) × (List UInt8) × Int × Int × Int × (List UInt8) × (List UInt8) × Int) (x53 : (List (List UInt8)) × Int) : Nat → Int → Option (Sum Bool Unit)
  | 0, _ => none
  | k + 1, x88 => if x88 < a0.2.2.2.2.2.2.2 then ((keytree_Leaf Fu a0.2.2.2.2.2.1 a0.2.2.2.2.2.2.2 x53.1 x88).bind fun x95 => (chatelainelaw21_depth Fu a0.2.2.2.2.2.2.2).bind fun x105 => (chatelainelaw21_fresh Fu a0.2.2.2.2.2.2.1 x105 x88).bind fun x109 => (if x88 < a0.2.2.1 then ((chatelainelaw21_depth Fu a0.2.2.1).bind fun x127 => (chatelainelaw21_fresh Fu a0.2.1 x127 x88).bind fun x131 => some x131) else (some x109)).bind fun x123 => (if x95.2 ≠ 0 then some true else (chatelaineref01_Same Fu x95.1 x123).bind fun x143 => some (!x143)).bind fun z141 => if z141 = true then (some (.inl false)) else (chatelainelaw21_KeytreeResizes_l0 Fu a0 x53 k (w64 (x88 + 1)))) else (some (.inr ()))
def chatelainelaw21_KeytreeResizes (Fu : Nat) (a0 : (List UInt8) × (List UInt8) × Int × Int × Int × (List UInt8) × (List UInt8) × Int) : Option Bool :=
  (chatelainelaw21_awake Fu).bind fun x32 => if (!x32) = true then (some false) else ((chatelainelaw21_few Fu a0).bind fun x35 => if (!x35) = true then (some true) else ((keytree_Make Fu a0.1 a0.2.1 a0.2.2.1).bind fun x38 => if x38.2 ≠ 0 then (some (decide ((x38.1.length : Int) = 0))) else ((keytree_Resize Fu a0.1 a0.2.2.1 x38.1 a0.2.2.2.2.2.2.2 a0.2.2.2.2.2.1 a0.2.2.2.2.2.2.1).bind fun x53 => (chatelaineref20_May Fu a0.2.2.2.2.2.2.2).bind fun x68 => if (!x68) = true then (some ((decide (x53.2 = 2)) && (decide ((x53.1.length : Int) = 0)))) else (if ((decide ((a0.2.2.2.2.2.1.length : Int) ≠ 32)) || (decide ((a0.2.2.2.2.2.2.1.length : Int) = 0))) = true then (some ((decide (x53.2 = 20)) && (decide ((x53.1.length : Int) = 0)))) else ((if x53.2 ≠ 0 then some true else (chatelainelaw21_right Fu a0.2.2.2.2.2.2.2 x53.1).bind fun x80 => some (!x80)).bind fun z78 => if z78 = true then (some false) else ((chatelainelaw21_KeytreeResizes_l0 Fu a0 x53 Fu 0).bind fun o => match o with | .inl r147 => some r147 | .inr _ => some true))))))
set_option maxRecDepth 100000 in
set_option maxHeartbeats 2000000 in
theorem chatelainelaw21_KeytreeResizes_ok (Fu : Nat) {S0 : Snap} (csa0 : List Value) (a0 : (List UInt8) × (List UInt8) × Int × Int × Int × (List UInt8) × (List UInt8) × Int) (hsa0 : (tyP (tyL ty8) (tyP (tyL ty8) (tyP tyI (tyP tyI (tyP tyI (tyP (tyL ty8) (tyP (tyL ty8) tyI))))))).rep S0 csa0 a0) (r : Bool) (hf : chatelainelaw21_KeytreeResizes Fu a0 = some r) (w0 : World) (hm : Mem w0 (ownL ([] ++ [.sn S0])) ([] ++ [.sn S0]) w0) :
    Calls Try.prog 5 #[.agg csa0.toArray] w0 (Ret w0 S0 [] (fun v L1 S1 => v = .bool r ∧ L1 = [] ∧ True)) := by
  unfold chatelainelaw21_KeytreeResizes at hf
  obtain ⟨k1, k2, rfl, ⟨A3, c4, rfl, hs5⟩, ⟨k6, k7, rfl, ⟨A8, c9, rfl, hs10⟩, ⟨k11, k12, rfl, ⟨rfl, hr13⟩, ⟨k14, k15, rfl, ⟨rfl, hr16⟩, ⟨k17, k18, rfl, ⟨rfl, hr19⟩, ⟨k20, k21, rfl, ⟨A22, c23, rfl, hs24⟩, ⟨k25, k26, rfl, ⟨A27, c28, rfl, hs29⟩, ⟨rfl, hr30⟩⟩⟩⟩⟩⟩⟩⟩ := hsa0
  refine c_enterM Try.func5 rfl 127 rfl (by simp) _ hm _ rfl (fun a h => ?_)
  refine c_rs ?_
  refine s_box h rfl rfl rfl (by decide) rfl (cs := [.slice A3 a0.1.length c4, .slice A8 a0.2.1.length c9, .int .i64 a0.2.2.1, .int .i64 a0.2.2.2.1, .int .i64 a0.2.2.2.2.1, .slice A22 a0.2.2.2.2.2.1.length c23, .slice A27 a0.2.2.2.2.2.2.1.length c28, .int .i64 a0.2.2.2.2.2.2.2]) (by rfl) (fun a w g31 h => ?_)
  refine sAV h (fun a h => ?_)
  refine l_end ?_
  refine wp_seq ?_
  refine c_rs ?_
  obtain ⟨x32, h33, hf⟩ := bsome hf
  have hX := chatelainelaw21_awake_ok Fu (S0 := snapAll _)  _ h33 _ h.startAll
  refine q_callX hX h rfl rfl rfl (by decide) Try.func7 rfl rfl rfl (fun a w v L1 S1 hR hb1 h => ?_)
  obtain ⟨rfl, rfl, _⟩ := hR
  refine s_x h rfl rfl (by decide) (x_not h.k rfl rfl) (fun a h => ?_)
  refine l_end ?_
  refine c_cond h rfl (fun hb => ?_) (fun hb => ?_)
  · rw [if_pos hb] at hf
    refine c_rs ?_
    refine sAV h (fun a h => ?_)
    refine l_end ?_
    refine wp_ret ?_
    refine e_thenR ?_
    rw [← Option.some.inj hf]
    exact r_ret1 h rfl (rv_tmp h rfl) ⟨_, [], _, rfl, ⟨rfl, rfl, trivial⟩, rfl, (Up.refl _ _ _), (h.m.pick [1] _ (by decide) rfl)⟩
  · rw [if_neg (by rw [hb]; decide)] at hf
    refine wp_skip ?_
    refine e_thenN ?_
    refine wp_seq ?_
    refine c_rs ?_
    refine s_x h rfl rfl (by decide) (x_ldR h.k rfl ag_chatelainelaw21_Case rfl ([.slice A3 a0.1.length c4, .slice A8 a0.2.1.length c9, .int .i64 a0.2.2.1, .int .i64 a0.2.2.2.1, .int .i64 a0.2.2.2.2.1, .slice A22 a0.2.2.2.2.2.1.length c23, .slice A27 a0.2.2.2.2.2.2.1.length c28, .int .i64 a0.2.2.2.2.2.2.2]) rfl (h.m.range0 (i := 0) rfl)) (fun a h => ?_)
    obtain ⟨x35, h36, hf⟩ := bsome hf
    have hX := chatelainelaw21_few_ok Fu (S0 := snapAll _) ([.slice A3 a0.1.length c4, .slice A8 a0.2.1.length c9, .int .i64 a0.2.2.1, .int .i64 a0.2.2.2.1, .int .i64 a0.2.2.2.2.1, .slice A22 a0.2.2.2.2.2.1.length c23, .slice A27 a0.2.2.2.2.2.2.1.length c28, .int .i64 a0.2.2.2.2.2.2.2]) a0 ((tyP (tyL ty8) (tyP (tyL ty8) (tyP tyI (tyP tyI (tyP tyI (tyP (tyL ty8) (tyP (tyL ty8) tyI))))))).mono (h.m.leAll (i := 1) rfl) (show (tyP (tyL ty8) (tyP (tyL ty8) (tyP tyI (tyP tyI (tyP tyI (tyP (tyL ty8) (tyP (tyL ty8) tyI))))))).rep S0 ([.slice A3 a0.1.length c4, .slice A8 a0.2.1.length c9, .int .i64 a0.2.2.1, .int .i64 a0.2.2.2.1, .int .i64 a0.2.2.2.2.1, .slice A22 a0.2.2.2.2.2.1.length c23, .slice A27 a0.2.2.2.2.2.2.1.length c28, .int .i64 a0.2.2.2.2.2.2.2]) a0 from ⟨[.slice A3 a0.1.length c4], [.slice A8 a0.2.1.length c9, .int .i64 a0.2.2.1, .int .i64 a0.2.2.2.1, .int .i64 a0.2.2.2.2.1, .slice A22 a0.2.2.2.2.2.1.length c23, .slice A27 a0.2.2.2.2.2.2.1.length c28, .int .i64 a0.2.2.2.2.2.2.2], rfl, ⟨_, _, rfl, hs5⟩, ⟨[.slice A8 a0.2.1.length c9], [.int .i64 a0.2.2.1, .int .i64 a0.2.2.2.1, .int .i64 a0.2.2.2.2.1, .slice A22 a0.2.2.2.2.2.1.length c23, .slice A27 a0.2.2.2.2.2.2.1.length c28, .int .i64 a0.2.2.2.2.2.2.2], rfl, ⟨_, _, rfl, hs10⟩, ⟨[.int .i64 a0.2.2.1], [.int .i64 a0.2.2.2.1, .int .i64 a0.2.2.2.2.1, .slice A22 a0.2.2.2.2.2.1.length c23, .slice A27 a0.2.2.2.2.2.2.1.length c28, .int .i64 a0.2.2.2.2.2.2.2], rfl, ⟨rfl, hr13⟩, ⟨[.int .i64 a0.2.2.2.1], [.int .i64 a0.2.2.2.2.1, .slice A22 a0.2.2.2.2.2.1.length c23, .slice A27 a0.2.2.2.2.2.2.1.length c28, .int .i64 a0.2.2.2.2.2.2.2], rfl, ⟨rfl, hr16⟩, ⟨[.int .i64 a0.2.2.2.2.1], [.slice A22 a0.2.2.2.2.2.1.length c23, .slice A27 a0.2.2.2.2.2.2.1.length c28, .int .i64 a0.2.2.2.2.2.2.2], rfl, ⟨rfl, hr19⟩, ⟨[.slice A22 a0.2.2.2.2.2.1.length c23], [.slice A27 a0.2.2.2.2.2.2.1.length c28, .int .i64 a0.2.2.2.2.2.2.2], rfl, ⟨_, _, rfl, hs24⟩, ⟨[.slice A27 a0.2.2.2.2.2.2.1.length c28], [.int .i64 a0.2.2.2.2.2.2.2], rfl, ⟨_, _, rfl, hs29⟩, ⟨rfl, hr30⟩⟩⟩⟩⟩⟩⟩⟩)) _ h36 _ h.startAll
    refine q_callX hX h rfl rfl rfl (by decide) Try.func18 rfl rfl rfl (fun a w v L1 S1 hR hb1 h => ?_)
    obtain ⟨rfl, rfl, _⟩ := hR
    refine s_x h rfl rfl (by decide) (x_not h.k rfl rfl) (fun a h => ?_)
    refine l_end ?_
    refine c_cond h rfl (fun hb => ?_) (fun hb => ?_)
    · rw [if_pos hb] at hf
      refine c_rs ?_
      refine sAV h (fun a h => ?_)
      refine l_end ?_
      refine wp_ret ?_
      refine e_thenR ?_
      rw [← Option.some.inj hf]
      exact r_ret1 h rfl (rv_tmp h rfl) ⟨_, [], _, rfl, ⟨rfl, rfl, trivial⟩, rfl, (Up.refl _ _ _), (h.m.pick [1] _ (by decide) rfl)⟩
    · rw [if_neg (by rw [hb]; decide)] at hf
      refine wp_skip ?_
      refine e_thenN ?_
      refine c_rs ?_
      refine s_x h rfl rfl (by decide) (x_faddr h.k rfl Try.underlying42 rfl sz_Suint8 rfl) (fun a h => ?_)
      refine s_x h rfl rfl (by decide) (x_ld h.k rfl Try.underlying22 rfl rfl ((h.m.cell (i := 0) rfl 0).trans rfl)) (fun a h => ?_)
      refine s_x h rfl rfl (by decide) (x_faddr h.k rfl Try.underlying42 rfl sz_Suint8 rfl) (fun a h => ?_)
      refine s_x h rfl rfl (by decide) (x_ld h.k rfl Try.underlying22 rfl rfl ((h.m.cell (i := 0) rfl 1).trans rfl)) (fun a h => ?_)
      refine s_x h rfl rfl (by decide) (x_faddr h.k rfl Try.underlying42 rfl sz_int rfl) (fun a h => ?_)
      refine s_x h rfl rfl (by decide) (x_ld h.k rfl Try.underlying3 rfl rfl ((h.m.cell (i := 0) rfl 2).trans rfl)) (fun a h => ?_)
      obtain ⟨x38, h39, hf⟩ := bsome hf
      have h := h.pick [1, 0] (by decide) rfl
      have hX := keytree_Make_ok Fu (S0 := S0) A3 c4 a0.1 hs5 A8 c9 a0.2.1 hs10 a0.2.2.1 hr13 _ h39 _ (h.sub (Ls := []))
      refine q_callY (Ls := []) hX h (Up.refl _ _ _) rfl rfl rfl (by decide) Try.func8 rfl rfl rfl (fun a w v L1 S41 hR le43 up42 h => ?_)
      obtain ⟨A44, c45, cs46, rfl, rfl, hq47, hr48, _⟩ := hR
      refine sMV h (fun a h => ?_)
      refine s_x h rfl rfl (by decide) (x_ext h.k rfl rfl rfl) (fun a h => ?_)
      refine s_x h rfl rfl (by decide) (x_ext h.k rfl rfl rfl) (fun a h => ?_)
      obtain ⟨S49, le50, up51, hs52, h⟩ := q_freeze (T := tyL ty8) h up42 hq47
      refine sAV h (fun a h => ?_)
      refine sAV h (fun a h => ?_)
      refine l_end ?_
      refine wp_seq ?_
      refine c_rs ?_
      refine sMV h (fun a h => ?_)
      refine s_x h rfl rfl (by decide) (x_bin h.k rfl rfl rfl ib_neq) (fun a h => ?_)
      refine l_end ?_
      refine c_cond h rfl (fun hb => ?_) (fun hb => ?_)
      · rw [if_pos (of_decide_eq_true hb)] at hf
        refine c_rs ?_
        refine sMV h (fun a h => ?_)
        refine s_x h rfl rfl (by decide) (x_len h.k rfl Try.underlying24 rfl) (fun a h => ?_)
        refine s_x h rfl rfl (by decide) (x_bin h.k rfl rfl rfl ib_eql) (fun a h => ?_)
        refine sAV h (fun a h => ?_)
        refine l_end ?_
        refine wp_ret ?_
        refine e_thenR ?_
        obtain rfl := Option.some.inj hf
        exact r_ret1 h rfl (rv_tmp h rfl) ⟨_, [], _, rfl, ⟨rfl, rfl, trivial⟩, rfl, up51, (h.m.pick [0] _ (by decide) rfl)⟩
      · rw [if_neg (of_decide_eq_false hb)] at hf
        refine wp_skip ?_
        refine e_thenN ?_
        refine c_rs ?_
        refine s_x h rfl rfl (by decide) (x_faddr h.k rfl Try.underlying42 rfl sz_Suint8 rfl) (fun a h => ?_)
        refine s_x h rfl rfl (by decide) (x_ld h.k rfl Try.underlying22 rfl rfl ((h.m.cell (i := 1) rfl 0).trans rfl)) (fun a h => ?_)
        refine s_x h rfl rfl (by decide) (x_faddr h.k rfl Try.underlying42 rfl sz_int rfl) (fun a h => ?_)
        refine s_x h rfl rfl (by decide) (x_ld h.k rfl Try.underlying3 rfl rfl ((h.m.cell (i := 1) rfl 2).trans rfl)) (fun a h => ?_)
        refine sMV h (fun a h => ?_)
        refine s_x h rfl rfl (by decide) (x_faddr h.k rfl Try.underlying42 rfl sz_int rfl) (fun a h => ?_)
        refine s_x h rfl rfl (by decide) (x_ld h.k rfl Try.underlying3 rfl rfl ((h.m.cell (i := 1) rfl 7).trans rfl)) (fun a h => ?_)
        refine s_x h rfl rfl (by decide) (x_faddr h.k rfl Try.underlying42 rfl sz_Suint8 rfl) (fun a h => ?_)
        refine s_x h rfl rfl (by decide) (x_ld h.k rfl Try.underlying22 rfl rfl ((h.m.cell (i := 1) rfl 5).trans rfl)) (fun a h => ?_)
        refine s_x h rfl rfl (by decide) (x_faddr h.k rfl Try.underlying42 rfl sz_Suint8 rfl) (fun a h => ?_)
        refine s_x h rfl rfl (by decide) (x_ld h.k rfl Try.underlying22 rfl rfl ((h.m.cell (i := 1) rfl 6).trans rfl)) (fun a h => ?_)
        obtain ⟨x53, h54, hf⟩ := bsome hf
        have hX := keytree_Resize_ok Fu (S0 := S49) A3 c4 a0.1 (hs5.mono (le43.trans le50)) a0.2.2.1 hr13 A44 c45 x38.1 hs52 a0.2.2.2.2.2.2.2 hr30 A22 c23 a0.2.2.2.2.2.1 (hs24.mono (le43.trans le50)) A27 c28 a0.2.2.2.2.2.2.1 (hs29.mono (le43.trans le50)) _ h54 _ (h.sub (Ls := []))
        refine q_callY (Ls := []) hX h up51 rfl rfl rfl (by decide) Try.func19 rfl rfl rfl (fun a w v L1 S56 hR le58 up57 h => ?_)
        obtain ⟨A59, c60, cs61, rfl, rfl, hq62, hr63, _⟩ := hR
        refine sMV h (fun a h => ?_)
        refine s_x h rfl rfl (by decide) (x_ext h.k rfl rfl rfl) (fun a h => ?_)
        refine s_x h rfl rfl (by decide) (x_ext h.k rfl rfl rfl) (fun a h => ?_)
        obtain ⟨S64, le65, up66, hs67, h⟩ := q_freeze (T := tyL ty8) h up57 hq62
        refine sAV h (fun a h => ?_)
        refine sAV h (fun a h => ?_)
        refine l_end ?_
        refine wp_seq ?_
        refine wp_block ?_
        refine c_rs ?_
        refine s_x h rfl rfl (by decide) (x_faddr h.k rfl Try.underlying42 rfl sz_int rfl) (fun a h => ?_)
        refine s_x h rfl rfl (by decide) (x_ld h.k rfl Try.underlying3 rfl rfl ((h.m.cell (i := 1) rfl 7).trans rfl)) (fun a h => ?_)
        obtain ⟨x68, h69, hf⟩ := bsome hf
        have hX := chatelaineref20_May_ok Fu (S0 := snapAll _) a0.2.2.2.2.2.2.2 hr30 _ h69 _ h.startAll
        refine q_callX hX h rfl rfl rfl (by decide) Try.func9 rfl rfl rfl (fun a w v L1 S1 hR hb1 h => ?_)
        obtain ⟨rfl, rfl, _⟩ := hR
        refine s_x h rfl rfl (by decide) (x_not h.k rfl rfl) (fun a h => ?_)
        refine sAV h (fun a h => ?_)
        refine l_end ?_
        refine c_cond h rfl (fun hb => ?_) (fun hb => ?_)
        · rw [if_pos hb] at hf
          refine c_rs ?_
          refine sMV h (fun a h => ?_)
          refine s_x h rfl rfl (by decide) (x_bin h.k rfl rfl rfl ib_eql) (fun a h => ?_)
          refine sMV h (fun a h => ?_)
          refine q_grp h 4 (t := 53) 57 ((decide (x53.2 = 2)) && (decide ((x53.1.length : Int) = 0))) rfl (fun hB2 => ?_) (fun hB2 => ?_) (fun a w h => ?_)
          · refine g_yes h rfl rfl rfl rfl hB2 ?_
            refine sMV h (fun a h => ?_)
            refine g_yes h rfl rfl rfl rfl hB2 ?_
            refine s_x h rfl rfl (by decide) (x_len h.k rfl Try.underlying24 rfl) (fun a h => ?_)
            refine g_yes h rfl rfl rfl rfl hB2 ?_
            refine s_x h rfl rfl (by decide) (x_bin h.k rfl rfl rfl ib_eql) (fun a h => ?_)
            refine s_x h rfl rfl (by decide) (x_pick (u' := undef) h.k rfl rfl (fun _ => rfl) (fun hh => absurd (hB2.symm.trans hh) (by decide))) (fun a h => ?_)
            exact (h.mid 3 rfl).val (by first | rfl | (rw [hB2]; first | rfl | simp))
          · refine g_no h rfl rfl rfl rfl hB2 rfl (by decide) (fun a h => ?_)
            refine g_no h rfl rfl rfl rfl hB2 rfl (by decide) (fun a h => ?_)
            refine g_no h rfl rfl rfl rfl hB2 rfl (by decide) (fun a h => ?_)
            refine s_x h rfl rfl (by decide) (x_pick (u' := undef) h.k rfl rfl (fun hh => absurd (hB2.symm.trans hh) (by decide)) (fun _ => rfl)) (fun a h => ?_)
            exact (h.mid 3 rfl).val (by first | rfl | (rw [hB2]; first | rfl | simp))
          refine sAV h (fun a h => ?_)
          refine l_end ?_
          refine wp_ret ?_
          refine e_blkR ?_
          refine e_thenR ?_
          obtain rfl := Option.some.inj hf
          exact r_ret1 h rfl (rv_tmp h rfl) ⟨_, [], _, rfl, ⟨rfl, rfl, trivial⟩, rfl, up66, (h.m.pick [0] _ (by decide) rfl)⟩
        · rw [if_neg (by rw [hb]; decide)] at hf
          refine c_rs ?_
          refine s_x h rfl rfl (by decide) (x_faddr h.k rfl Try.underlying42 rfl sz_Suint8 rfl) (fun a h => ?_)
          refine s_x h rfl rfl (by decide) (x_ld h.k rfl Try.underlying22 rfl rfl ((h.m.cell (i := 1) rfl 5).trans rfl)) (fun a h => ?_)
          refine s_x h rfl rfl (by decide) (x_len h.k rfl Try.underlying22 rfl) (fun a h => ?_)
          refine s_x h rfl rfl (by decide) (x_bin h.k rfl rfl rfl ib_neq) (fun a h => ?_)
          refine sMV h (fun a h => ?_)
          refine q_grp h 5 (t := 63) 68 ((decide ((a0.2.2.2.2.2.1.length : Int) ≠ 32)) || (decide ((a0.2.2.2.2.2.2.1.length : Int) = 0))) rfl (fun hB4 => ?_) (fun hB4 => ?_) (fun a w h => ?_)
          · refine g_no h rfl rfl rfl rfl hB4 rfl (by decide) (fun a h => ?_)
            refine g_no h rfl rfl rfl rfl hB4 rfl (by decide) (fun a h => ?_)
            refine g_no h rfl rfl rfl rfl hB4 rfl (by decide) (fun a h => ?_)
            refine g_no h rfl rfl rfl rfl hB4 rfl (by decide) (fun a h => ?_)
            refine s_x h rfl rfl (by decide) (x_pick (u' := undef) h.k rfl rfl (fun _ => rfl) (fun hh => absurd (hB4.symm.trans hh) (by decide))) (fun a h => ?_)
            exact (h.mid 4 rfl).val (by first | rfl | (rw [hB4]; first | rfl | simp))
          · refine g_yes h rfl rfl rfl rfl hB4 ?_
            refine s_x h rfl rfl (by decide) (x_faddr h.k rfl Try.underlying42 rfl sz_Suint8 rfl) (fun a h => ?_)
            refine g_yes h rfl rfl rfl rfl hB4 ?_
            refine s_x h rfl rfl (by decide) (x_ld h.k rfl Try.underlying22 rfl rfl ((h.m.cell (i := 1) rfl 6).trans rfl)) (fun a h => ?_)
            refine g_yes h rfl rfl rfl rfl hB4 ?_
            refine s_x h rfl rfl (by decide) (x_len h.k rfl Try.underlying22 rfl) (fun a h => ?_)
            refine g_yes h rfl rfl rfl rfl hB4 ?_
            refine s_x h rfl rfl (by decide) (x_bin h.k rfl rfl rfl ib_eql) (fun a h => ?_)
            refine s_x h rfl rfl (by decide) (x_pick (u' := undef) h.k rfl rfl (fun hh => absurd (hB4.symm.trans hh) (by decide)) (fun _ => rfl)) (fun a h => ?_)
            exact (h.mid 4 rfl).val (by first | rfl | (rw [hB4]; first | rfl | simp))
          refine sAV h (fun a h => ?_)
          refine l_end ?_
          refine c_cond h rfl (fun hb => ?_) (fun hb => ?_)
          · rw [if_pos hb] at hf
            refine c_rs ?_
            refine sMV h (fun a h => ?_)
            refine s_x h rfl rfl (by decide) (x_bin h.k rfl rfl rfl ib_eql) (fun a h => ?_)
            refine sMV h (fun a h => ?_)
            refine q_grp h 4 (t := 71) 75 ((decide (x53.2 = 20)) && (decide ((x53.1.length : Int) = 0))) rfl (fun hB2 => ?_) (fun hB2 => ?_) (fun a w h => ?_)
            · refine g_yes h rfl rfl rfl rfl hB2 ?_
              refine sMV h (fun a h => ?_)
              refine g_yes h rfl rfl rfl rfl hB2 ?_
              refine s_x h rfl rfl (by decide) (x_len h.k rfl Try.underlying24 rfl) (fun a h => ?_)
              refine g_yes h rfl rfl rfl rfl hB2 ?_
              refine s_x h rfl rfl (by decide) (x_bin h.k rfl rfl rfl ib_eql) (fun a h => ?_)
              refine s_x h rfl rfl (by decide) (x_pick (u' := undef) h.k rfl rfl (fun _ => rfl) (fun hh => absurd (hB2.symm.trans hh) (by decide))) (fun a h => ?_)
              exact (h.mid 3 rfl).val (by first | rfl | (rw [hB2]; first | rfl | simp))
            · refine g_no h rfl rfl rfl rfl hB2 rfl (by decide) (fun a h => ?_)
              refine g_no h rfl rfl rfl rfl hB2 rfl (by decide) (fun a h => ?_)
              refine g_no h rfl rfl rfl rfl hB2 rfl (by decide) (fun a h => ?_)
              refine s_x h rfl rfl (by decide) (x_pick (u' := undef) h.k rfl rfl (fun hh => absurd (hB2.symm.trans hh) (by decide)) (fun _ => rfl)) (fun a h => ?_)
              exact (h.mid 3 rfl).val (by first | rfl | (rw [hB2]; first | rfl | simp))
            refine sAV h (fun a h => ?_)
            refine l_end ?_
            refine wp_ret ?_
            refine e_blkR ?_
            refine e_thenR ?_
            obtain rfl := Option.some.inj hf
            exact r_ret1 h rfl (rv_tmp h rfl) ⟨_, [], _, rfl, ⟨rfl, rfl, trivial⟩, rfl, up66, (h.m.pick [0] _ (by decide) rfl)⟩
          · rw [if_neg (by rw [hb]; decide)] at hf
            refine wp_skip ?_
            refine e_blkN ?_
            refine e_thenN ?_
            refine wp_seq ?_
            refine c_rs ?_
            refine sMV h (fun a h => ?_)
            refine s_x h rfl rfl (by decide) (x_bin h.k rfl rfl rfl ib_neq) (fun a h => ?_)
            refine sMV h (fun a h => ?_)
            obtain ⟨z78, hz77, hf⟩ := bsome hf
            refine q_grp h 6 (t := 78) 84 z78 rfl (fun hB2 => ?_) (fun hB2 => ?_) (fun a w h => ?_)
            · refine g_no h rfl rfl rfl rfl hB2 rfl (by decide) (fun a h => ?_)
              refine g_no h rfl rfl rfl rfl hB2 rfl (by decide) (fun a h => ?_)
              refine g_no h rfl rfl rfl rfl hB2 rfl (by decide) (fun a h => ?_)
              refine g_no h rfl rfl rfl rfl hB2 rfl (by decide) (fun a h => ?_)
              refine g_no h rfl rfl rfl rfl hB2 rfl (by decide) (fun a h => ?_)
              rw [if_pos (of_decide_eq_true hB2)] at hz77
              refine s_x h rfl rfl (by decide) (x_pick (u' := undef) h.k rfl rfl (fun _ => rfl) (fun hh => absurd (hB2.symm.trans hh) (by decide))) (fun a h => ?_)
              exact (h.mid 5 rfl).val (by rw [Option.some.inj hz77])
            · rw [if_neg (of_decide_eq_false hB2)] at hz77
              refine g_yes h rfl rfl rfl rfl hB2 ?_
              refine s_x h rfl rfl (by decide) (x_faddr h.k rfl Try.underlying42 rfl sz_int rfl) (fun a h => ?_)
              refine g_yes h rfl rfl rfl rfl hB2 ?_
              refine s_x h rfl rfl (by decide) (x_ld h.k rfl Try.underlying3 rfl rfl ((h.m.cell (i := 1) rfl 7).trans rfl)) (fun a h => ?_)
              refine g_yes h rfl rfl rfl rfl hB2 ?_
              refine sMV h (fun a h => ?_)
              refine g_yes h rfl rfl rfl rfl hB2 ?_
              obtain ⟨x80, h81, hz77⟩ := bsome hz77
              have hX := chatelainelaw21_right_ok Fu (S0 := snapAll _) a0.2.2.2.2.2.2.2 hr30 A59 c60 x53.1 (hs67.mono (h.m.leAll (i := 0) rfl)) _ h81 _ h.startAll
              refine q_callX hX h rfl rfl rfl (by decide) Try.func11 rfl rfl rfl (fun a w v L1 S1 hR hb1 h => ?_)
              obtain ⟨rfl, rfl, _⟩ := hR
              refine g_yes h rfl rfl rfl rfl hB2 ?_
              refine s_x h rfl rfl (by decide) (x_not h.k rfl rfl) (fun a h => ?_)
              refine s_x h rfl rfl (by decide) (x_pick (u' := undef) h.k rfl rfl (fun hh => absurd (hB2.symm.trans hh) (by decide)) (fun _ => rfl)) (fun a h => ?_)
              exact (h.mid 5 rfl).val (by rw [Option.some.inj hz77])
            refine l_end ?_
            refine c_cond h rfl (fun hb => ?_) (fun hb => ?_)
            · rw [if_pos hb] at hf
              refine c_rs ?_
              refine sAV h (fun a h => ?_)
              refine l_end ?_
              refine wp_ret ?_
              refine e_thenR ?_
              rw [← Option.some.inj hf]
              exact r_ret1 h rfl (rv_tmp h rfl) ⟨_, [], _, rfl, ⟨rfl, rfl, trivial⟩, rfl, up66, (h.m.pick [0] _ (by decide) rfl)⟩
            · rw [if_neg (by rw [hb]; decide)] at hf
              refine wp_skip ?_
              refine e_thenN ?_
              refine wp_seq ?_
              refine c_rs ?_
              refine s_x h rfl rfl (by decide) (x_faddr h.k rfl Try.underlying42 rfl sz_int rfl) (fun a h => ?_)
              refine s_x h rfl rfl (by decide) (x_ld h.k rfl Try.underlying3 rfl rfl ((h.m.cell (i := 1) rfl 7).trans rfl)) (fun a h => ?_)
              refine sMV h (fun a h => ?_)
              refine l_end ?_
              obtain ⟨o83, hl84, hf⟩ := bsome hf
              refine c_fin (fun a w => ∃ (S90 : Snap), (.inr ()) = o83 ∧ Snap.le S64 S90 ∧ Up (ownL ([] ++ [.sn S0])) w0 S0 S90 ∧ St 127 w0 (ownL ([] ++ [.sn S0])) [] [.sn S90] a w) ?_ ?_
              · refine wp_block ?_
                have h := h.pick [1, 0] (by decide) rfl
                refine c_loop (fun m94 a w => ∃ (S85 : Snap), ∃ (x88 : Int), chatelainelaw21_KeytreeResizes_l0 Fu a0 x53 m94 x88 = some o83 ∧ Snap.le S64 S85 ∧ Up (ownL ([] ++ [.sn S0])) w0 S0 S85 ∧ r64 x88 ∧ St 127 w0 (ownL ([] ++ [.sn S0])) [(1, .pointer (some ⟨g31, 0, none⟩)), (5, .slice A59 x53.1.length c60), (86, .int .i64 a0.2.2.2.2.2.2.2), (87, .int .i64 x88)] [.box g31 42 ([.slice A3 a0.1.length c4, .slice A8 a0.2.1.length c9, .int .i64 a0.2.2.1, .int .i64 a0.2.2.2.1, .int .i64 a0.2.2.2.2.1, .slice A22 a0.2.2.2.2.2.1.length c23, .slice A27 a0.2.2.2.2.2.2.1.length c28, .int .i64 a0.2.2.2.2.2.2.2]), .sn S85] a w) Fu ⟨S64, 0, hl84, (Snap.le.refl _), up66, (show r64 0 from ⟨by decide, by decide⟩), h.has (by exact ⟨rfl, rfl, rfl, rfl, trivial⟩)⟩ (fun m94 a w hI => ?_)
                obtain ⟨S85, x88, hl93, le86, up87, hr89, h⟩ := hI
                obtain _ | m94 := m94
                · rw [chatelainelaw21_KeytreeResizes_l0] at hl93; cases hl93
                rw [chatelainelaw21_KeytreeResizes_l0] at hl93
                refine c_rs ?_
                refine s_x h rfl rfl (by decide) (x_bin h.k rfl rfl rfl ib_lss) (fun a h => ?_)
                refine l_end ?_
                refine c_cs h rfl (fun hb => ?_) (fun hb => ?_)
                · rw [if_pos (of_decide_eq_true hb)] at hl93
                  refine wp_skip ?_
                  refine e_thenN ?_
                  refine wp_seq ?_
                  refine wp_block ?_
                  refine c_rs ?_
                  refine sMV h (fun a h => ?_)
                  refine sAV h (fun a h => ?_)
                  refine l_end ?_
                  refine c_rs ?_
                  refine s_x h rfl rfl (by decide) (x_faddr h.k rfl Try.underlying42 rfl sz_Suint8 rfl) (fun a h => ?_)
                  refine s_x h rfl rfl (by decide) (x_ld h.k rfl Try.underlying22 rfl rfl ((h.m.cell (i := 0) rfl 5).trans rfl)) (fun a h => ?_)
                  refine s_x h rfl rfl (by decide) (x_faddr h.k rfl Try.underlying42 rfl sz_int rfl) (fun a h => ?_)
                  refine s_x h rfl rfl (by decide) (x_ld h.k rfl Try.underlying3 rfl rfl ((h.m.cell (i := 0) rfl 7).trans rfl)) (fun a h => ?_)
                  refine sMV h (fun a h => ?_)
                  refine sMV h (fun a h => ?_)
                  obtain ⟨x95, h96, hl93⟩ := bsome hl93
                  have h := h.pick [1, 0] (by decide) rfl
                  have hX := keytree_Leaf_ok Fu (S0 := S85) A22 c23 a0.2.2.2.2.2.1 (hs24.mono ((((le43.trans le50).trans le58).trans le65).trans le86)) a0.2.2.2.2.2.2.2 hr30 A59 c60 x53.1 (hs67.mono le86) x88 hr89 _ h96 _ (h.sub (Ls := []))
                  refine q_callY (Ls := []) hX h up87 rfl rfl rfl (by decide) Try.func12 rfl rfl rfl (fun a w v L1 S98 hR le100 up99 h => ?_)
                  obtain ⟨A101, c102, rfl, rfl, hs103, hr104, _⟩ := hR
                  refine sMV h (fun a h => ?_)
                  refine s_x h rfl rfl (by decide) (x_ext h.k rfl rfl rfl) (fun a h => ?_)
                  refine s_x h rfl rfl (by decide) (x_ext h.k rfl rfl rfl) (fun a h => ?_)
                  refine sAV h (fun a h => ?_)
                  refine sAV h (fun a h => ?_)
                  refine l_end ?_
                  refine wp_seq ?_
                  -- region 19 draws
                  obtain ⟨x105, h106, hl93⟩ := bsome hl93
                  obtain ⟨x109, h110, hl93⟩ := bsome hl93
                  refine d_start h (Mem _ _ _) 8 8 rfl (by kernel_rfl) (fun _ _ _ _ _ h => h) (fun _ h => h) (fun Q a w HE HN h HS => ?_)
                  refine d_takeP h (fun _ => HS) HN 0 rfl (by kernel_rfl) (by kernel_rfl) (by kernel_rfl) (by decide) rfl rfl (by decide) (fun w' => x_faddr h.k rfl Try.underlying42 rfl sz_Suint8 rfl) (fun a h => ?_)
                  refine d_take h HS HN 1 rfl (by kernel_rfl) (by kernel_rfl) (by kernel_rfl) (by kernel_rfl) (by kernel_rfl) rfl rfl (by decide) (fun w' hw => x_ld h.k rfl Try.underlying22 rfl rfl ((hw.cell (i := 1) rfl 6).trans rfl)) (fun a h => ?_)
                  refine d_takeP h (fun _ => HS) HN 2 rfl (by kernel_rfl) (by kernel_rfl) (by kernel_rfl) (by decide) rfl rfl (by decide) (fun w' => x_faddr h.k rfl Try.underlying42 rfl sz_int rfl) (fun a h => ?_)
                  refine d_take h HS HN 3 rfl (by kernel_rfl) (by kernel_rfl) (by kernel_rfl) (by kernel_rfl) (by kernel_rfl) rfl rfl (by decide) (fun w' hw => x_ld h.k rfl Try.underlying3 rfl rfl ((hw.cell (i := 1) rfl 7).trans rfl)) (fun a h => ?_)
                  refine d_takeP h (fun _ => HS) HN 5 rfl (by kernel_rfl) (by kernel_rfl) (by kernel_rfl) (by decide) rfl rfl (by decide) (fun w' => x_move h.k _ rfl rfl) (fun a h => ?_)
                  refine d_alone 4 rfl (by kernel_rfl) (fun K hK => ?_)
                  have hX := chatelainelaw21_depth_ok Fu (S0 := snapAll _) a0.2.2.2.2.2.2.2 hr30 _ h106 _ h.startAll
                  refine q_callX hX h rfl rfl rfl (by decide) Try.func15 rfl rfl rfl (fun a w v L1 S1 hR hb1 h => ?_)
                  obtain ⟨rfl, rfl, hr108, _⟩ := hR
                  refine hK _ _ (fun _ _ => HS.ext hb1) ?_
                  replace HS := HS.ext hb1
                  clear hK
                  refine d_alone 6 rfl (by kernel_rfl) (fun K hK => ?_)
                  have hX := chatelainelaw21_fresh_ok Fu (S0 := S98) A27 c28 a0.2.2.2.2.2.2.1 (hs29.mono (((((le43.trans le50).trans le58).trans le65).trans le86).trans le100)) x105 hr108 x88 hr89 _ h110 _ (h.sub (Ls := []))
                  refine q_callY (Ls := []) hX h up99 rfl rfl rfl (by decide) Try.func14 rfl rfl rfl (fun a w v L1 S112 hR le114 up113 h => ?_)
                  obtain ⟨A115, c116, rfl, rfl, hs117, _⟩ := hR
                  replace HS := (h.m.pick [0, 1] [.sn S112, .box g31 42 ([.slice A3 a0.1.length c4, .slice A8 a0.2.1.length c9, .int .i64 a0.2.2.1, .int .i64 a0.2.2.2.1, .int .i64 a0.2.2.2.2.1, .slice A22 a0.2.2.2.2.2.1.length c23, .slice A27 a0.2.2.2.2.2.2.1.length c28, .int .i64 a0.2.2.2.2.2.2.2])] (by decide) rfl).snLe 0 rfl le114
                  refine hK _ _ (fun _ _ => HS) ?_
                  clear hK
                  refine d_takeP h (fun _ => HS) HN 7 rfl (by kernel_rfl) (by kernel_rfl) (by kernel_rfl) (by decide) rfl rfl (by decide) (fun w' => x_assign h.k _ rfl rfl) (fun a h => ?_)
                  refine d_done (by kernel_rfl) (HE _ _ ?_) _
                  refine e_thenN ?_
                  obtain ⟨o118, hc119, hl93⟩ := bsome hl93
                  refine c_cut (fun a w => ∃ (S120 : Snap), ∃ (x123 : List UInt8), ∃ (A124 : Option Addr), ∃ (c125 : Nat), x123 = o118 ∧ Snap.le S112 S120 ∧ Up (ownL ([] ++ [.sn S0])) w0 S0 S120 ∧ slS ty8 S120 A124 c125 x123 ∧ St 127 w0 (ownL ([] ++ [.sn S0])) [(1, .pointer (some ⟨g31, 0, none⟩)), (5, .slice A59 x53.1.length c60), (8, .slice A101 x95.1.length c102), (9, .int .i64 x95.2), (10, .slice A124 x123.length c125), (86, .int .i64 a0.2.2.2.2.2.2.2), (87, .int .i64 x88)] [.box g31 42 ([.slice A3 a0.1.length c4, .slice A8 a0.2.1.length c9, .int .i64 a0.2.2.1, .int .i64 a0.2.2.2.1, .int .i64 a0.2.2.2.2.1, .slice A22 a0.2.2.2.2.2.1.length c23, .slice A27 a0.2.2.2.2.2.2.1.length c28, .int .i64 a0.2.2.2.2.2.2.2]), .sn S120] a w) ?_ ?_
                  · refine c_rs ?_
                    refine sMV h (fun a h => ?_)
                    refine s_x h rfl rfl (by decide) (x_faddr h.k rfl Try.underlying42 rfl sz_int rfl) (fun a h => ?_)
                    refine s_x h rfl rfl (by decide) (x_ld h.k rfl Try.underlying3 rfl rfl ((h.m.cell (i := 1) rfl 2).trans rfl)) (fun a h => ?_)
                    refine s_x h rfl rfl (by decide) (x_bin h.k rfl rfl rfl ib_lss) (fun a h => ?_)
                    refine l_end ?_
                    refine c_cond h rfl (fun hb => ?_) (fun hb => ?_)
                    · rw [if_pos (of_decide_eq_true hb)] at hc119
                      -- region 21 draws
                      obtain ⟨x127, h128, hc119⟩ := bsome hc119
                      obtain ⟨x131, h132, hc119⟩ := bsome hc119
                      refine d_start h (Mem _ _ _) 8 8 rfl (by kernel_rfl) (fun _ _ _ _ _ h => h) (fun _ h => h) (fun Q a w HE HN h HS => ?_)
                      refine d_takeP h (fun _ => HS) HN 0 rfl (by kernel_rfl) (by kernel_rfl) (by kernel_rfl) (by decide) rfl rfl (by decide) (fun w' => x_faddr h.k rfl Try.underlying42 rfl sz_Suint8 rfl) (fun a h => ?_)
                      refine d_take h HS HN 1 rfl (by kernel_rfl) (by kernel_rfl) (by kernel_rfl) (by kernel_rfl) (by kernel_rfl) rfl rfl (by decide) (fun w' hw => x_ld h.k rfl Try.underlying22 rfl rfl ((hw.cell (i := 1) rfl 1).trans rfl)) (fun a h => ?_)
                      refine d_takeP h (fun _ => HS) HN 2 rfl (by kernel_rfl) (by kernel_rfl) (by kernel_rfl) (by decide) rfl rfl (by decide) (fun w' => x_faddr h.k rfl Try.underlying42 rfl sz_int rfl) (fun a h => ?_)
                      refine d_take h HS HN 3 rfl (by kernel_rfl) (by kernel_rfl) (by kernel_rfl) (by kernel_rfl) (by kernel_rfl) rfl rfl (by decide) (fun w' hw => x_ld h.k rfl Try.underlying3 rfl rfl ((hw.cell (i := 1) rfl 2).trans rfl)) (fun a h => ?_)
                      refine d_takeP h (fun _ => HS) HN 5 rfl (by kernel_rfl) (by kernel_rfl) (by kernel_rfl) (by decide) rfl rfl (by decide) (fun w' => x_move h.k _ rfl rfl) (fun a h => ?_)
                      refine d_alone 4 rfl (by kernel_rfl) (fun K hK => ?_)
                      have hX := chatelainelaw21_depth_ok Fu (S0 := snapAll _) a0.2.2.1 hr13 _ h128 _ h.startAll
                      refine q_callX hX h rfl rfl rfl (by decide) Try.func15 rfl rfl rfl (fun a w v L1 S1 hR hb1 h => ?_)
                      obtain ⟨rfl, rfl, hr130, _⟩ := hR
                      refine hK _ _ (fun _ _ => HS.ext hb1) ?_
                      replace HS := HS.ext hb1
                      clear hK
                      refine d_alone 6 rfl (by kernel_rfl) (fun K hK => ?_)
                      have hX := chatelainelaw21_fresh_ok Fu (S0 := S112) A8 c9 a0.2.1 (hs10.mono ((((((le43.trans le50).trans le58).trans le65).trans le86).trans le100).trans le114)) x127 hr130 x88 hr89 _ h132 _ (h.sub (Ls := []))
                      refine q_callY (Ls := []) hX h up113 rfl rfl rfl (by decide) Try.func14 rfl rfl rfl (fun a w v L1 S134 hR le136 up135 h => ?_)
                      obtain ⟨A137, c138, rfl, rfl, hs139, _⟩ := hR
                      replace HS := (h.m.pick [0, 1] [.sn S134, .box g31 42 ([.slice A3 a0.1.length c4, .slice A8 a0.2.1.length c9, .int .i64 a0.2.2.1, .int .i64 a0.2.2.2.1, .int .i64 a0.2.2.2.2.1, .slice A22 a0.2.2.2.2.2.1.length c23, .slice A27 a0.2.2.2.2.2.2.1.length c28, .int .i64 a0.2.2.2.2.2.2.2])] (by decide) rfl).snLe 0 rfl le136
                      refine hK _ _ (fun _ _ => HS) ?_
                      clear hK
                      refine d_takeP h (fun _ => HS) HN 7 rfl (by kernel_rfl) (by kernel_rfl) (by kernel_rfl) (by decide) rfl rfl (by decide) (fun w' => x_assign h.k _ rfl rfl) (fun a h => ?_)
                      refine d_done (by kernel_rfl) (HE _ _ ?_) _
                      refine e_thenN ?_
                      have h := h.pick [1, 0] (by decide) rfl
                      exact ⟨S134, x131, A137, c138, (Option.some.inj hc119), le136, up135, hs139, h.has (by exact ⟨rfl, rfl, rfl, rfl, rfl, rfl, rfl, trivial⟩)⟩
                    · rw [if_neg (of_decide_eq_false hb)] at hc119
                      refine wp_skip ?_
                      refine e_thenN ?_
                      have h := h.pick [1, 0] (by decide) rfl
                      exact ⟨S112, x109, A115, c116, (Option.some.inj hc119), (Snap.le.refl _), up113, hs117, h.has (by exact ⟨rfl, rfl, rfl, rfl, rfl, rfl, rfl, trivial⟩)⟩
                  · rintro a w ⟨S120, x123, A124, c125, rfl, le121, up122, hs126, h⟩
                    refine c_rs ?_
                    refine sMV h (fun a h => ?_)
                    refine s_x h rfl rfl (by decide) (x_bin h.k rfl rfl rfl ib_neq) (fun a h => ?_)
                    refine sMV h (fun a h => ?_)
                    obtain ⟨z141, hz140, hl93⟩ := bsome hl93
                    refine q_grp h 5 (t := 120) 125 z141 rfl (fun hB2 => ?_) (fun hB2 => ?_) (fun a w h => ?_)
                    · refine g_no h rfl rfl rfl rfl hB2 rfl (by decide) (fun a h => ?_)
                      refine g_no h rfl rfl rfl rfl hB2 rfl (by decide) (fun a h => ?_)
                      refine g_no h rfl rfl rfl rfl hB2 rfl (by decide) (fun a h => ?_)
                      refine g_no h rfl rfl rfl rfl hB2 rfl (by decide) (fun a h => ?_)
                      rw [if_pos (of_decide_eq_true hB2)] at hz140
                      refine s_x h rfl rfl (by decide) (x_pick (u' := undef) h.k rfl rfl (fun _ => rfl) (fun hh => absurd (hB2.symm.trans hh) (by decide))) (fun a h => ?_)
                      exact (h.mid 4 rfl).val (by rw [Option.some.inj hz140])
                    · rw [if_neg (of_decide_eq_false hB2)] at hz140
                      refine g_yes h rfl rfl rfl rfl hB2 ?_
                      refine sMV h (fun a h => ?_)
                      refine g_yes h rfl rfl rfl rfl hB2 ?_
                      refine sMV h (fun a h => ?_)
                      refine g_yes h rfl rfl rfl rfl hB2 ?_
                      obtain ⟨x143, h144, hz140⟩ := bsome hz140
                      have hX := chatelaineref01_Same_ok Fu (S0 := snapAll _) A101 c102 x95.1 ((hs103.mono (le114.trans le121)).mono (h.m.leAll (i := 1) rfl)) A124 c125 x123 (hs126.mono (h.m.leAll (i := 1) rfl)) _ h144 _ h.startAll
                      refine q_callX hX h rfl rfl rfl (by decide) Try.func13 rfl rfl rfl (fun a w v L1 S1 hR hb1 h => ?_)
                      obtain ⟨rfl, rfl, _⟩ := hR
                      refine g_yes h rfl rfl rfl rfl hB2 ?_
                      refine s_x h rfl rfl (by decide) (x_not h.k rfl rfl) (fun a h => ?_)
                      refine s_x h rfl rfl (by decide) (x_pick (u' := undef) h.k rfl rfl (fun hh => absurd (hB2.symm.trans hh) (by decide)) (fun _ => rfl)) (fun a h => ?_)
                      exact (h.mid 4 rfl).val (by rw [Option.some.inj hz140])
                    refine l_end ?_
                    refine c_cond h rfl (fun hb => ?_) (fun hb => ?_)
                    · rw [if_pos hb] at hl93
                      refine c_rs ?_
                      refine sAV h (fun a h => ?_)
                      refine l_end ?_
                      refine wp_ret ?_
                      refine e_blkR ?_
                      refine e_thenR ?_
                      refine e_thenR ?_
                      refine e_blkR ?_
                      refine e_thenR ?_
                      cases hl93
                      try dsimp only at hf
                      refine e_thenR ?_
                      rw [← Option.some.inj hf]
                      exact r_ret1 h rfl (rv_tmp h rfl) ⟨_, [], _, rfl, ⟨rfl, rfl, trivial⟩, rfl, up122, (h.m.pick [1] _ (by decide) rfl)⟩
                    · rw [if_neg (by rw [hb]; decide)] at hl93
                      refine wp_skip ?_
                      refine e_blkN ?_
                      refine e_thenN ?_
                      refine c_r ?_
                      refine s_x h rfl rfl (by decide) (x_bin h.k rfl rfl rfl (ib_add rfl)) (fun a h => ?_)
                      refine sMV h (fun a h => ?_)
                      refine l_nil ?_
                      exact e_thenN ⟨m94, Nat.lt_succ_self _, S120, w64 (x88 + 1), hl93, (((le86.trans le100).trans le114).trans le121), up122, (w64_r _), h.has (by exact ⟨rfl, rfl, rfl, rfl, trivial⟩)⟩
                · rw [if_neg (of_decide_eq_false hb)] at hl93
                  refine wp_exit ?_
                  refine e_thenX ?_
                  refine e_thenX ?_
                  refine e_blkX ?_
                  refine e_thenN ?_
                  have h := h.pick [1] (by decide) rfl
                  exact ⟨S85, (Option.some.inj hl93), le86, up87, h.has trivial⟩
              · rintro a w ⟨S90, rfl, le91, up92, h⟩
                try dsimp only at hf
                refine e_thenN ?_
                refine c_rs ?_
                refine sAV h (fun a h => ?_)
                refine l_end ?_
                refine wp_ret ?_
                rw [← Option.some.inj hf]
                exact r_ret1 h rfl (rv_tmp h rfl) ⟨_, [], _, rfl, ⟨rfl, rfl, trivial⟩, rfl, up92, h.m⟩
end
end Go.Proofs.Ytohgmggdfmjgnaa
