/- Texts put together. -/
import Derived.Test.YtohgmggdfmjgnaaPs
import Derived.Test.YtohgmggdfmjgnaaOpen
import Derived.Test.YtohgmggdfmjgnaaPx
import Derived.Test.YtohgmggdfmjgnaaK
import Derived.Test.YtohgmggdfmjgnaaKb2
import Derived.Test.YtohgmggdfmjgnaaKc2
import Derived.Test.YtohgmggdfmjgnaaEb
set_option linter.unusedVariables false
set_option linter.unusedSimpArgs false
namespace Go.Proofs.Ytohgmggdfmjgnaa
open Go.RowKit
section

end
section
def chatelainelaw21_awake (Fu : Nat) : Option Bool :=
  (chatelainelaw21_some Fu (1 : UInt8)).bind fun x1 => (keytree_Make Fu x1 ([(2 : UInt8)]) 5).bind fun x19 => (if ((decide (x19.2 = 0)) && (decide ((x19.1.length : Int) = 7))) = true then (keytree_Right Fu 5 x19.1).bind fun x36 => some x36 else some false).bind fun z34 => some z34
set_option maxRecDepth 100000 in
set_option maxHeartbeats 2000000 in
theorem chatelainelaw21_awake_ok (Fu : Nat) {S0 : Snap}  (r : Bool) (hf : chatelainelaw21_awake Fu = some r) (w0 : World) (hm : Mem w0 (ownL ([] ++ [.sn S0])) ([] ++ [.sn S0]) w0) :
    Calls Try.prog 7 #[] w0 (Ret w0 S0 [] (fun v L1 S1 => v = .bool r ∧ L1 = [] ∧ True)) := by
  unfold chatelainelaw21_awake at hf
  refine c_enterM Try.func7 rfl 20 rfl (by simp) _ hm _ rfl (fun a h => ?_)
  refine c_rs ?_
  refine sAV h (fun a h => ?_)
  refine l_end ?_
  refine c_rs ?_
  obtain ⟨x1, h2, hf⟩ := bsome hf
  have hX := chatelainelaw21_some_ok Fu (S0 := snapAll _) (1 : UInt8) _ h2 _ h.startAll
  refine q_callX hX h rfl rfl rfl (by decide) Try.func16 rfl rfl rfl (fun a w v L1 S1 hR hb1 h => ?_)
  obtain ⟨A4, c5, cs6, rfl, rfl, hq7, _⟩ := hR
  have hq8 := hq7.fl (S' := S0) fl_8
  refine q_bslice (T := ty8) (S := S0) h rfl rfl rfl (by decide) Try.underlying22 zi_uint8 (by decide) (by decide) (by decide) (by decide) [.int .u8 2] rfl rfl (C := [[.int .u8 2]]) rfl (xs := [(2 : UInt8)]) ⟨[.int .u8 2], _, rfl, rfl, rfl⟩ (by intro c hc; simp only [List.mem_cons, List.not_mem_nil, or_false] at hc; subst hc; rfl) (fun a w A9 h => ?_)
  have hb10 : reps ty8 S0 ([[.int .u8 2]] : List (List Value)).flatten [(2 : UInt8)] := ⟨[.int .u8 2], _, rfl, rfl, rfl⟩
  have h := h.pick [1, 2, 0] (by decide) rfl
  obtain ⟨S11, le12, up13, hs14, h⟩ := q_freeze (T := ty8) h (Up.refl _ _ _) hq8
  have h := h.pick [1, 0] (by decide) rfl
  obtain ⟨S15, le16, up17, hs18, h⟩ := q_freeze (T := ty8) h up13 (hb10.mono le12)
  obtain ⟨x19, h20, hf⟩ := bsome hf
  have hX := keytree_Make_ok Fu (S0 := S15) A4 c5 x1 (hs14.mono le16) A9 1 ([(2 : UInt8)]) hs18 5 (show r64 5 from ⟨by decide, by decide⟩) _ h20 _ (h.sub (Ls := []))
  refine q_callY (Ls := []) hX h up17 rfl rfl rfl (by decide) Try.func8 rfl rfl rfl (fun a w v L1 S22 hR le24 up23 h => ?_)
  obtain ⟨A25, c26, cs27, rfl, rfl, hq28, hr29, _⟩ := hR
  refine sMV h (fun a h => ?_)
  refine sX h (x_ext h.k rfl rfl rfl) (fun a h => ?_)
  refine sX h (x_ext h.k rfl rfl rfl) (fun a h => ?_)
  refine sAV h (fun a h => ?_)
  refine sAV h (fun a h => ?_)
  refine l_end ?_
  refine c_rs ?_
  refine sMV h (fun a h => ?_)
  refine sX h (x_bin h.k rfl rfl rfl ib_eql) (fun a h => ?_)
  refine sMV h (fun a h => ?_)
  refine q_grp h 4 (t := 11) 15 ((decide (x19.2 = 0)) && (decide ((x19.1.length : Int) = 7))) rfl (fun hB2 => ?_) (fun hB2 => ?_) (fun a w h => ?_)
  · refine g_yes h rfl rfl rfl rfl hB2 ?_
    refine sMV h (fun a h => ?_)
    refine g_yes h rfl rfl rfl rfl hB2 ?_
    have hr32 : r64 (x19.1.length : Int) := len_r (h.m.rowLen (i := 0) rfl)
    refine sX h (x_len h.k rfl Try.underlying24 rfl) (fun a h => ?_)
    refine g_yes h rfl rfl rfl rfl hB2 ?_
    refine sX h (x_bin h.k rfl rfl rfl ib_eql) (fun a h => ?_)
    refine sX h (x_pick (u' := undef) h.k rfl rfl (fun _ => rfl) (fun hh => absurd (hB2.symm.trans hh) (by decide))) (fun a h => ?_)
    exact (h.mid 3 rfl).val (by first | rfl | (rw [hB2]; first | rfl | simp))
  · refine g_no h rfl rfl rfl rfl hB2 rfl (by decide) (fun a h => ?_)
    refine g_no h rfl rfl rfl rfl hB2 rfl (by decide) (fun a h => ?_)
    refine g_no h rfl rfl rfl rfl hB2 rfl (by decide) (fun a h => ?_)
    refine sX h (x_pick (u' := undef) h.k rfl rfl (fun hh => absurd (hB2.symm.trans hh) (by decide)) (fun _ => rfl)) (fun a h => ?_)
    exact (h.mid 3 rfl).val (by first | rfl | (rw [hB2]; first | rfl | simp))
  refine sMV h (fun a h => ?_)
  obtain ⟨z34, hz33, hf⟩ := bsome hf
  refine q_grp h 3 (t := 16) 19 z34 rfl (fun hB7 => ?_) (fun hB7 => ?_) (fun a w h => ?_)
  · rw [if_pos hB7] at hz33
    refine g_yes h rfl rfl rfl rfl hB7 ?_
    refine sMV h (fun a h => ?_)
    refine g_yes h rfl rfl rfl rfl hB7 ?_
    obtain ⟨x36, h37, hz33⟩ := bsome hz33
    have hX := keytree_Right_ok Fu (S0 := snapAll _) 5 (show r64 5 from ⟨by decide, by decide⟩) A25 c26 x19.1 (h.m.rowAll (i := 0) rfl (j := 1) rfl hq28) _ h37 _ h.startAll
    refine q_callX hX h rfl rfl rfl (by decide) Try.func10 rfl rfl rfl (fun a w v L1 S1 hR hb1 h => ?_)
    obtain ⟨rfl, rfl, _⟩ := hR
    refine sX h (x_pick (u' := undef) h.k rfl rfl (fun _ => rfl) (fun hh => absurd (hB7.symm.trans hh) (by decide))) (fun a h => ?_)
    exact (h.mid 2 rfl).val (by rw [Option.some.inj hz33])
  · refine g_no h rfl rfl rfl rfl hB7 rfl (by decide) (fun a h => ?_)
    refine g_no h rfl rfl rfl rfl hB7 rfl (by decide) (fun a h => ?_)
    rw [if_neg (by rw [hB7]; decide)] at hz33
    refine sX h (x_pick (u' := undef) h.k rfl rfl (fun hh => absurd (hB7.symm.trans hh) (by decide)) (fun _ => rfl)) (fun a h => ?_)
    exact (h.mid 2 rfl).val (by rw [Option.some.inj hz33])
  refine sAV h (fun a h => ?_)
  refine l_end ?_
  refine wp_ret ?_
  rw [← Option.some.inj hf]
  exact r_ret1 h rfl (rv_tmp h rfl) ⟨_, [], _, rfl, ⟨rfl, rfl, trivial⟩, rfl, up23, (h.m.pick [1] _ (by decide) rfl)⟩
def chatelainelaw21_KeytreePunctures_l0 (Fu : Nat) (a0 : (List UInt8) × (List UInt8) × Int × Int × Int × (List UInt8) × (List UInt8) × Int) (x38 : (List (List UInt8)) × Int) (x53 : (List (List UInt8)) × Int) : Nat → Int → Option (Sum Bool Unit)
  | 0, _ => none
  | k + 1, x89 => if x89 < a0.2.2.1 then ((keytree_Leaf Fu a0.1 a0.2.2.1 x38.1 x89).bind fun x96 => (keytree_Leaf Fu a0.2.2.2.2.2.1 a0.2.2.1 x53.1 x89).bind fun x106 => (if ((decide (a0.2.2.2.1 ≤ x89)) && (decide (x89 < a0.2.2.2.2.1))) = true then ((chatelainelaw21_depth Fu a0.2.2.1).bind fun x127 => (chatelainelaw21_fresh Fu a0.2.2.2.2.2.2.1 x127 x89).bind fun x131 => some x131) else (some x96.1)).bind fun x121 => (if ((decide (x96.2 ≠ 0)) || (decide (x106.2 ≠ 0))) = true then some true else (chatelaineref01_Same Fu x106.1 x121).bind fun x144 => some (!x144)).bind fun z142 => (if z142 = true then some true else (chatelainelaw21_depth Fu a0.2.2.1).bind fun x149 => (chatelainelaw21_fresh Fu a0.2.1 x149 x89).bind fun x153 => (chatelaineref01_Same Fu x96.1 x153).bind fun x162 => some (!x162)).bind fun z147 => if z147 = true then (some (.inl false)) else (chatelainelaw21_KeytreePunctures_l0 Fu a0 x38 x53 k (w64 (x89 + 1)))) else (some (.inr ()))
def chatelainelaw21_KeytreePunctures (Fu : Nat) (a0 : (List UInt8) × (List UInt8) × Int × Int × Int × (List UInt8) × (List UInt8) × Int) : Option Bool :=
  (chatelainelaw21_awake Fu).bind fun x32 => if (!x32) = true then (some false) else ((chatelainelaw21_few Fu a0).bind fun x35 => if (!x35) = true then (some true) else ((keytree_Make Fu a0.1 a0.2.1 a0.2.2.1).bind fun x38 => if x38.2 ≠ 0 then (some (decide ((x38.1.length : Int) = 0))) else ((keytree_Puncture Fu a0.1 a0.2.2.1 x38.1 a0.2.2.2.1 a0.2.2.2.2.1 a0.2.2.2.2.2.1 a0.2.2.2.2.2.2.1).bind fun x53 => if (((decide (a0.2.2.2.1 < 0)) || (decide (a0.2.2.2.2.1 ≤ a0.2.2.2.1))) || (decide (a0.2.2.1 < a0.2.2.2.2.1))) = true then (some ((decide (x53.2 = 2)) && (decide ((x53.1.length : Int) = 0)))) else (if ((decide ((a0.2.2.2.2.2.1.length : Int) ≠ 32)) || (decide ((a0.2.2.2.2.2.2.1.length : Int) = 0))) = true then (some ((decide (x53.2 = 20)) && (decide ((x53.1.length : Int) = 0)))) else ((if x53.2 ≠ 0 then some true else (chatelainelaw21_right Fu a0.2.2.1 x53.1).bind fun x81 => some (!x81)).bind fun z79 => if z79 = true then (some false) else ((chatelainelaw21_KeytreePunctures_l0 Fu a0 x38 x53 Fu 0).bind fun o => match o with | .inl r169 => some r169 | .inr _ => some true))))))
set_option maxRecDepth 100000 in
set_option maxHeartbeats 2000000 in
theorem chatelainelaw21_KeytreePunctures_ok (Fu : Nat) {S0 : Snap} (csa0 : List Value) (a0 : (List UInt8) × (List UInt8) × Int × Int × Int × (List UInt8) × (List UInt8) × Int) (hsa0 : (tyP (tyL ty8) (tyP (tyL ty8) (tyP tyI (tyP tyI (tyP tyI (tyP (tyL ty8) (tyP (tyL ty8) tyI))))))).rep S0 csa0 a0) (r : Bool) (hf : chatelainelaw21_KeytreePunctures Fu a0 = some r) (w0 : World) (hm : Mem w0 (ownL ([] ++ [.sn S0])) ([] ++ [.sn S0]) w0) :
    Calls Try.prog 6 #[.agg csa0.toArray] w0 (Ret w0 S0 [] (fun v L1 S1 => v = .bool r ∧ L1 = [] ∧ True)) := by
  unfold chatelainelaw21_KeytreePunctures at hf
  obtain ⟨k1, k2, rfl, ⟨A3, c4, rfl, hs5⟩, ⟨k6, k7, rfl, ⟨A8, c9, rfl, hs10⟩, ⟨k11, k12, rfl, ⟨rfl, hr13⟩, ⟨k14, k15, rfl, ⟨rfl, hr16⟩, ⟨k17, k18, rfl, ⟨rfl, hr19⟩, ⟨k20, k21, rfl, ⟨A22, c23, rfl, hs24⟩, ⟨k25, k26, rfl, ⟨A27, c28, rfl, hs29⟩, ⟨rfl, hr30⟩⟩⟩⟩⟩⟩⟩⟩ := hsa0
  refine c_enterM Try.func6 rfl 170 rfl (by simp) _ hm _ rfl (fun a h => ?_)
  refine c_rs ?_
  refine s_box h rfl rfl rfl (by decide) rfl (cs := [.slice A3 a0.1.length c4, .slice A8 a0.2.1.length c9, .int .i64 a0.2.2.1, .int .i64 a0.2.2.2.1, .int .i64 a0.2.2.2.2.1, .slice A22 a0.2.2.2.2.2.1.length c23, .slice A27 a0.2.2.2.2.2.2.1.length c28, .int .i64 a0.2.2.2.2.2.2.2]) (by rfl) (fun a w g31 h => ?_)
  refine sAV h (fun a h => ?_)
  refine l_end ?_
  refine wp_seq ?_
  refine c_rs ?_
  obtain ⟨x32, h33, hf⟩ := bsome hf
  have hX := chatelainelaw21_awake_ok Fu (S0 := snapAll _)  _ h33 _ h.startAll
  refine q_callX hX h rfl rfl rfl (by decide) Try.func7 rfl rfl rfl (fun a w v L1 S1 hR hb1 h => ?_)
  obtain ⟨rfl, rfl, _⟩ := hR
  refine sX h (x_not h.k rfl rfl) (fun a h => ?_)
  refine l_end ?_
  refine c_cond h rfl (fun hb => ?_) (fun hb => ?_)
  · rw [if_pos hb] at hf
    refine c_rs ?_
    refine sAV h (fun a h => ?_)
    refine l_end ?_
    refine wp_ret ?_
    refine e_thenR ?_
    rw [← Option.some.inj hf]
    exact r_ret1 h rfl (rv_tmp h rfl) ⟨_, [], _, rfl, ⟨rfl, rfl, trivial⟩, rfl, (Up.refl _ _ _), (h.m.pick [1] _ (by decide) rfl)⟩
  · rw [if_neg (by rw [hb]; decide)] at hf
    refine wp_skip ?_
    refine e_thenN ?_
    refine wp_seq ?_
    refine c_rs ?_
    refine sX h (x_ldR h.k rfl ag_chatelainelaw21_Case rfl ([.slice A3 a0.1.length c4, .slice A8 a0.2.1.length c9, .int .i64 a0.2.2.1, .int .i64 a0.2.2.2.1, .int .i64 a0.2.2.2.2.1, .slice A22 a0.2.2.2.2.2.1.length c23, .slice A27 a0.2.2.2.2.2.2.1.length c28, .int .i64 a0.2.2.2.2.2.2.2]) rfl (h.m.range0 (i := 0) rfl)) (fun a h => ?_)
    obtain ⟨x35, h36, hf⟩ := bsome hf
    have hX := chatelainelaw21_few_ok Fu (S0 := snapAll _) ([.slice A3 a0.1.length c4, .slice A8 a0.2.1.length c9, .int .i64 a0.2.2.1, .int .i64 a0.2.2.2.1, .int .i64 a0.2.2.2.2.1, .slice A22 a0.2.2.2.2.2.1.length c23, .slice A27 a0.2.2.2.2.2.2.1.length c28, .int .i64 a0.2.2.2.2.2.2.2]) a0 ((tyP (tyL ty8) (tyP (tyL ty8) (tyP tyI (tyP tyI (tyP tyI (tyP (tyL ty8) (tyP (tyL ty8) tyI))))))).mono (h.m.leAll (i := 1) rfl) (show (tyP (tyL ty8) (tyP (tyL ty8) (tyP tyI (tyP tyI (tyP tyI (tyP (tyL ty8) (tyP (tyL ty8) tyI))))))).rep S0 ([.slice A3 a0.1.length c4, .slice A8 a0.2.1.length c9, .int .i64 a0.2.2.1, .int .i64 a0.2.2.2.1, .int .i64 a0.2.2.2.2.1, .slice A22 a0.2.2.2.2.2.1.length c23, .slice A27 a0.2.2.2.2.2.2.1.length c28, .int .i64 a0.2.2.2.2.2.2.2]) a0 from ⟨[.slice A3 a0.1.length c4], [.slice A8 a0.2.1.length c9, .int .i64 a0.2.2.1, .int .i64 a0.2.2.2.1, .int .i64 a0.2.2.2.2.1, .slice A22 a0.2.2.2.2.2.1.length c23, .slice A27 a0.2.2.2.2.2.2.1.length c28, .int .i64 a0.2.2.2.2.2.2.2], rfl, ⟨_, _, rfl, hs5⟩, ⟨[.slice A8 a0.2.1.length c9], [.int .i64 a0.2.2.1, .int .i64 a0.2.2.2.1, .int .i64 a0.2.2.2.2.1, .slice A22 a0.2.2.2.2.2.1.length c23, .slice A27 a0.2.2.2.2.2.2.1.length c28, .int .i64 a0.2.2.2.2.2.2.2], rfl, ⟨_, _, rfl, hs10⟩, ⟨[.int .i64 a0.2.2.1], [.int .i64 a0.2.2.2.1, .int .i64 a0.2.2.2.2.1, .slice A22 a0.2.2.2.2.2.1.length c23, .slice A27 a0.2.2.2.2.2.2.1.length c28, .int .i64 a0.2.2.2.2.2.2.2], rfl, ⟨rfl, hr13⟩, ⟨[.int .i64 a0.2.2.2.1], [.int .i64 a0.2.2.2.2.1, .slice A22 a0.2.2.2.2.2.1.length c23, .slice A27 a0.2.2.2.2.2.2.1.length c28, .int .i64 a0.2.2.2.2.2.2.2], rfl, ⟨rfl, hr16⟩, ⟨[.int .i64 a0.2.2.2.2.1], [.slice A22 a0.2.2.2.2.2.1.length c23, .slice A27 a0.2.2.2.2.2.2.1.length c28, .int .i64 a0.2.2.2.2.2.2.2], rfl, ⟨rfl, hr19⟩, ⟨[.slice A22 a0.2.2.2.2.2.1.length c23], [.slice A27 a0.2.2.2.2.2.2.1.length c28, .int .i64 a0.2.2.2.2.2.2.2], rfl, ⟨_, _, rfl, hs24⟩, ⟨[.slice A27 a0.2.2.2.2.2.2.1.length c28], [.int .i64 a0.2.2.2.2.2.2.2], rfl, ⟨_, _, rfl, hs29⟩, ⟨rfl, hr30⟩⟩⟩⟩⟩⟩⟩⟩)) _ h36 _ h.startAll
    refine q_callX hX h rfl rfl rfl (by decide) Try.func18 rfl rfl rfl (fun a w v L1 S1 hR hb1 h => ?_)
    obtain ⟨rfl, rfl, _⟩ := hR
    refine sX h (x_not h.k rfl rfl) (fun a h => ?_)
    refine l_end ?_
    refine c_cond h rfl (fun hb => ?_) (fun hb => ?_)
    · rw [if_pos hb] at hf
      refine c_rs ?_
      refine sAV h (fun a h => ?_)
      refine l_end ?_
      refine wp_ret ?_
      refine e_thenR ?_
      rw [← Option.some.inj hf]
      exact r_ret1 h rfl (rv_tmp h rfl) ⟨_, [], _, rfl, ⟨rfl, rfl, trivial⟩, rfl, (Up.refl _ _ _), (h.m.pick [1] _ (by decide) rfl)⟩
    · rw [if_neg (by rw [hb]; decide)] at hf
      refine wp_skip ?_
      refine e_thenN ?_
      refine c_rs ?_
      refine sX h (x_faddr h.k rfl Try.underlying42 rfl sz_Suint8 rfl) (fun a h => ?_)
      refine sX h (x_ld h.k rfl Try.underlying22 rfl rfl ((h.m.cell (i := 0) rfl 0).trans rfl)) (fun a h => ?_)
      refine sX h (x_faddr h.k rfl Try.underlying42 rfl sz_Suint8 rfl) (fun a h => ?_)
      refine sX h (x_ld h.k rfl Try.underlying22 rfl rfl ((h.m.cell (i := 0) rfl 1).trans rfl)) (fun a h => ?_)
      refine sX h (x_faddr h.k rfl Try.underlying42 rfl sz_int rfl) (fun a h => ?_)
      refine sX h (x_ld h.k rfl Try.underlying3 rfl rfl ((h.m.cell (i := 0) rfl 2).trans rfl)) (fun a h => ?_)
      obtain ⟨x38, h39, hf⟩ := bsome hf
      have h := h.pick [1, 0] (by decide) rfl
      have hX := keytree_Make_ok Fu (S0 := S0) A3 c4 a0.1 hs5 A8 c9 a0.2.1 hs10 a0.2.2.1 hr13 _ h39 _ (h.sub (Ls := []))
      refine q_callY (Ls := []) hX h (Up.refl _ _ _) rfl rfl rfl (by decide) Try.func8 rfl rfl rfl (fun a w v L1 S41 hR le43 up42 h => ?_)
      obtain ⟨A44, c45, cs46, rfl, rfl, hq47, hr48, _⟩ := hR
      refine sMV h (fun a h => ?_)
      refine sX h (x_ext h.k rfl rfl rfl) (fun a h => ?_)
      refine sX h (x_ext h.k rfl rfl rfl) (fun a h => ?_)
      obtain ⟨S49, le50, up51, hs52, h⟩ := q_freeze (T := tyL ty8) h up42 hq47
      refine sAV h (fun a h => ?_)
      refine sAV h (fun a h => ?_)
      refine l_end ?_
      refine wp_seq ?_
      refine c_rs ?_
      refine sMV h (fun a h => ?_)
      refine sX h (x_bin h.k rfl rfl rfl ib_neq) (fun a h => ?_)
      refine l_end ?_
      refine c_cond h rfl (fun hb => ?_) (fun hb => ?_)
      · rw [if_pos (of_decide_eq_true hb)] at hf
        refine c_rs ?_
        refine sMV h (fun a h => ?_)
        refine sX h (x_len h.k rfl Try.underlying24 rfl) (fun a h => ?_)
        refine sX h (x_bin h.k rfl rfl rfl ib_eql) (fun a h => ?_)
        refine sAV h (fun a h => ?_)
        refine l_end ?_
        refine wp_ret ?_
        refine e_thenR ?_
        obtain rfl := Option.some.inj hf
        exact r_ret1 h rfl (rv_tmp h rfl) ⟨_, [], _, rfl, ⟨rfl, rfl, trivial⟩, rfl, up51, (h.m.pick [0] _ (by decide) rfl)⟩
      · rw [if_neg (of_decide_eq_false hb)] at hf
        refine wp_skip ?_
        refine e_thenN ?_
        refine c_rs ?_
        refine sX h (x_faddr h.k rfl Try.underlying42 rfl sz_Suint8 rfl) (fun a h => ?_)
        refine sX h (x_ld h.k rfl Try.underlying22 rfl rfl ((h.m.cell (i := 1) rfl 0).trans rfl)) (fun a h => ?_)
        refine sX h (x_faddr h.k rfl Try.underlying42 rfl sz_int rfl) (fun a h => ?_)
        refine sX h (x_ld h.k rfl Try.underlying3 rfl rfl ((h.m.cell (i := 1) rfl 2).trans rfl)) (fun a h => ?_)
        refine sMV h (fun a h => ?_)
        refine sX h (x_faddr h.k rfl Try.underlying42 rfl sz_int rfl) (fun a h => ?_)
        refine sX h (x_ld h.k rfl Try.underlying3 rfl rfl ((h.m.cell (i := 1) rfl 3).trans rfl)) (fun a h => ?_)
        refine sX h (x_faddr h.k rfl Try.underlying42 rfl sz_int rfl) (fun a h => ?_)
        refine sX h (x_ld h.k rfl Try.underlying3 rfl rfl ((h.m.cell (i := 1) rfl 4).trans rfl)) (fun a h => ?_)
        refine sX h (x_faddr h.k rfl Try.underlying42 rfl sz_Suint8 rfl) (fun a h => ?_)
        refine sX h (x_ld h.k rfl Try.underlying22 rfl rfl ((h.m.cell (i := 1) rfl 5).trans rfl)) (fun a h => ?_)
        refine sX h (x_faddr h.k rfl Try.underlying42 rfl sz_Suint8 rfl) (fun a h => ?_)
        refine sX h (x_ld h.k rfl Try.underlying22 rfl rfl ((h.m.cell (i := 1) rfl 6).trans rfl)) (fun a h => ?_)
        obtain ⟨x53, h54, hf⟩ := bsome hf
        have hX := keytree_Puncture_ok Fu (S0 := S49) A3 c4 a0.1 (hs5.mono (le43.trans le50)) a0.2.2.1 hr13 A44 c45 x38.1 hs52 a0.2.2.2.1 hr16 a0.2.2.2.2.1 hr19 A22 c23 a0.2.2.2.2.2.1 (hs24.mono (le43.trans le50)) A27 c28 a0.2.2.2.2.2.2.1 (hs29.mono (le43.trans le50)) _ h54 _ (h.sub (Ls := []))
        refine q_callY (Ls := []) hX h up51 rfl rfl rfl (by decide) Try.func20 rfl rfl rfl (fun a w v L1 S56 hR le58 up57 h => ?_)
        obtain ⟨A59, c60, cs61, rfl, rfl, hq62, hr63, _⟩ := hR
        refine sMV h (fun a h => ?_)
        refine sX h (x_ext h.k rfl rfl rfl) (fun a h => ?_)
        refine sX h (x_ext h.k rfl rfl rfl) (fun a h => ?_)
        obtain ⟨S64, le65, up66, hs67, h⟩ := q_freeze (T := tyL ty8) h up57 hq62
        refine sAV h (fun a h => ?_)
        refine sAV h (fun a h => ?_)
        refine l_end ?_
        refine wp_seq ?_
        refine wp_block ?_
        refine c_rs ?_
        refine sX h (x_faddr h.k rfl Try.underlying42 rfl sz_int rfl) (fun a h => ?_)
        refine sX h (x_ld h.k rfl Try.underlying3 rfl rfl ((h.m.cell (i := 1) rfl 3).trans rfl)) (fun a h => ?_)
        refine sX h (x_bin h.k rfl rfl rfl ib_lss) (fun a h => ?_)
        refine sMV h (fun a h => ?_)
        refine q_grp h 6 (t := 54) 60 ((decide (a0.2.2.2.1 < 0)) || (decide (a0.2.2.2.2.1 ≤ a0.2.2.2.1))) rfl (fun hB3 => ?_) (fun hB3 => ?_) (fun a w h => ?_)
        · refine g_no h rfl rfl rfl rfl hB3 rfl (by decide) (fun a h => ?_)
          refine g_no h rfl rfl rfl rfl hB3 rfl (by decide) (fun a h => ?_)
          refine g_no h rfl rfl rfl rfl hB3 rfl (by decide) (fun a h => ?_)
          refine g_no h rfl rfl rfl rfl hB3 rfl (by decide) (fun a h => ?_)
          refine g_no h rfl rfl rfl rfl hB3 rfl (by decide) (fun a h => ?_)
          refine sX h (x_pick (u' := undef) h.k rfl rfl (fun _ => rfl) (fun hh => absurd (hB3.symm.trans hh) (by decide))) (fun a h => ?_)
          exact (h.mid 5 rfl).val (by first | rfl | (rw [hB3]; first | rfl | simp))
        · refine g_yes h rfl rfl rfl rfl hB3 ?_
          refine sX h (x_faddr h.k rfl Try.underlying42 rfl sz_int rfl) (fun a h => ?_)
          refine g_yes h rfl rfl rfl rfl hB3 ?_
          refine sX h (x_ld h.k rfl Try.underlying3 rfl rfl ((h.m.cell (i := 1) rfl 4).trans rfl)) (fun a h => ?_)
          refine g_yes h rfl rfl rfl rfl hB3 ?_
          refine sX h (x_faddr h.k rfl Try.underlying42 rfl sz_int rfl) (fun a h => ?_)
          refine g_yes h rfl rfl rfl rfl hB3 ?_
          refine sX h (x_ld h.k rfl Try.underlying3 rfl rfl ((h.m.cell (i := 1) rfl 3).trans rfl)) (fun a h => ?_)
          refine g_yes h rfl rfl rfl rfl hB3 ?_
          refine sX h (x_bin h.k rfl rfl rfl ib_leq) (fun a h => ?_)
          refine sX h (x_pick (u' := undef) h.k rfl rfl (fun hh => absurd (hB3.symm.trans hh) (by decide)) (fun _ => rfl)) (fun a h => ?_)
          exact (h.mid 5 rfl).val (by first | rfl | (rw [hB3]; first | rfl | simp))
        refine sMV h (fun a h => ?_)
        refine q_grp h 6 (t := 61) 67 (((decide (a0.2.2.2.1 < 0)) || (decide (a0.2.2.2.2.1 ≤ a0.2.2.2.1))) || (decide (a0.2.2.1 < a0.2.2.2.2.1))) rfl (fun hB10 => ?_) (fun hB10 => ?_) (fun a w h => ?_)
        · refine g_no h rfl rfl rfl rfl hB10 rfl (by decide) (fun a h => ?_)
          refine g_no h rfl rfl rfl rfl hB10 rfl (by decide) (fun a h => ?_)
          refine g_no h rfl rfl rfl rfl hB10 rfl (by decide) (fun a h => ?_)
          refine g_no h rfl rfl rfl rfl hB10 rfl (by decide) (fun a h => ?_)
          refine g_no h rfl rfl rfl rfl hB10 rfl (by decide) (fun a h => ?_)
          refine sX h (x_pick (u' := undef) h.k rfl rfl (fun _ => rfl) (fun hh => absurd (hB10.symm.trans hh) (by decide))) (fun a h => ?_)
          exact (h.mid 5 rfl).val (by first | rfl | (rw [hB10]; first | rfl | simp))
        · refine g_yes h rfl rfl rfl rfl hB10 ?_
          refine sX h (x_faddr h.k rfl Try.underlying42 rfl sz_int rfl) (fun a h => ?_)
          refine g_yes h rfl rfl rfl rfl hB10 ?_
          refine sX h (x_ld h.k rfl Try.underlying3 rfl rfl ((h.m.cell (i := 1) rfl 4).trans rfl)) (fun a h => ?_)
          refine g_yes h rfl rfl rfl rfl hB10 ?_
          refine sX h (x_faddr h.k rfl Try.underlying42 rfl sz_int rfl) (fun a h => ?_)
          refine g_yes h rfl rfl rfl rfl hB10 ?_
          refine sX h (x_ld h.k rfl Try.underlying3 rfl rfl ((h.m.cell (i := 1) rfl 2).trans rfl)) (fun a h => ?_)
          refine g_yes h rfl rfl rfl rfl hB10 ?_
          refine sX h (x_bin h.k rfl rfl rfl ib_gtr) (fun a h => ?_)
          refine sX h (x_pick (u' := undef) h.k rfl rfl (fun hh => absurd (hB10.symm.trans hh) (by decide)) (fun _ => rfl)) (fun a h => ?_)
          exact (h.mid 5 rfl).val (by first | rfl | (rw [hB10]; first | rfl | simp))
        refine sAV h (fun a h => ?_)
        refine l_end ?_
        refine c_cond h rfl (fun hb => ?_) (fun hb => ?_)
        · rw [if_pos hb] at hf
          refine c_rs ?_
          refine sMV h (fun a h => ?_)
          refine sX h (x_bin h.k rfl rfl rfl ib_eql) (fun a h => ?_)
          refine sMV h (fun a h => ?_)
          refine q_grp h 4 (t := 70) 74 ((decide (x53.2 = 2)) && (decide ((x53.1.length : Int) = 0))) rfl (fun hB2 => ?_) (fun hB2 => ?_) (fun a w h => ?_)
          · refine g_yes h rfl rfl rfl rfl hB2 ?_
            refine sMV h (fun a h => ?_)
            refine g_yes h rfl rfl rfl rfl hB2 ?_
            refine sX h (x_len h.k rfl Try.underlying24 rfl) (fun a h => ?_)
            refine g_yes h rfl rfl rfl rfl hB2 ?_
            refine sX h (x_bin h.k rfl rfl rfl ib_eql) (fun a h => ?_)
            refine sX h (x_pick (u' := undef) h.k rfl rfl (fun _ => rfl) (fun hh => absurd (hB2.symm.trans hh) (by decide))) (fun a h => ?_)
            exact (h.mid 3 rfl).val (by first | rfl | (rw [hB2]; first | rfl | simp))
          · refine g_no h rfl rfl rfl rfl hB2 rfl (by decide) (fun a h => ?_)
            refine g_no h rfl rfl rfl rfl hB2 rfl (by decide) (fun a h => ?_)
            refine g_no h rfl rfl rfl rfl hB2 rfl (by decide) (fun a h => ?_)
            refine sX h (x_pick (u' := undef) h.k rfl rfl (fun hh => absurd (hB2.symm.trans hh) (by decide)) (fun _ => rfl)) (fun a h => ?_)
            exact (h.mid 3 rfl).val (by first | rfl | (rw [hB2]; first | rfl | simp))
          refine sAV h (fun a h => ?_)
          refine l_end ?_
          refine wp_ret ?_
          refine e_blkR ?_
          refine e_thenR ?_
          obtain rfl := Option.some.inj hf
          exact r_ret1 h rfl (rv_tmp h rfl) ⟨_, [], _, rfl, ⟨rfl, rfl, trivial⟩, rfl, up66, (h.m.pick [0] _ (by decide) rfl)⟩
        · rw [if_neg (by rw [hb]; decide)] at hf
          refine c_rs ?_
          refine sX h (x_faddr h.k rfl Try.underlying42 rfl sz_Suint8 rfl) (fun a h => ?_)
          refine sX h (x_ld h.k rfl Try.underlying22 rfl rfl ((h.m.cell (i := 1) rfl 5).trans rfl)) (fun a h => ?_)
          refine sX h (x_len h.k rfl Try.underlying22 rfl) (fun a h => ?_)
          refine sX h (x_bin h.k rfl rfl rfl ib_neq) (fun a h => ?_)
          refine sMV h (fun a h => ?_)
          refine q_grp h 5 (t := 80) 85 ((decide ((a0.2.2.2.2.2.1.length : Int) ≠ 32)) || (decide ((a0.2.2.2.2.2.2.1.length : Int) = 0))) rfl (fun hB4 => ?_) (fun hB4 => ?_) (fun a w h => ?_)
          · refine g_no h rfl rfl rfl rfl hB4 rfl (by decide) (fun a h => ?_)
            refine g_no h rfl rfl rfl rfl hB4 rfl (by decide) (fun a h => ?_)
            refine g_no h rfl rfl rfl rfl hB4 rfl (by decide) (fun a h => ?_)
            refine g_no h rfl rfl rfl rfl hB4 rfl (by decide) (fun a h => ?_)
            refine sX h (x_pick (u' := undef) h.k rfl rfl (fun _ => rfl) (fun hh => absurd (hB4.symm.trans hh) (by decide))) (fun a h => ?_)
            exact (h.mid 4 rfl).val (by first | rfl | (rw [hB4]; first | rfl | simp))
          · refine g_yes h rfl rfl rfl rfl hB4 ?_
            refine sX h (x_faddr h.k rfl Try.underlying42 rfl sz_Suint8 rfl) (fun a h => ?_)
            refine g_yes h rfl rfl rfl rfl hB4 ?_
            refine sX h (x_ld h.k rfl Try.underlying22 rfl rfl ((h.m.cell (i := 1) rfl 6).trans rfl)) (fun a h => ?_)
            refine g_yes h rfl rfl rfl rfl hB4 ?_
            refine sX h (x_len h.k rfl Try.underlying22 rfl) (fun a h => ?_)
            refine g_yes h rfl rfl rfl rfl hB4 ?_
            refine sX h (x_bin h.k rfl rfl rfl ib_eql) (fun a h => ?_)
            refine sX h (x_pick (u' := undef) h.k rfl rfl (fun hh => absurd (hB4.symm.trans hh) (by decide)) (fun _ => rfl)) (fun a h => ?_)
            exact (h.mid 4 rfl).val (by first | rfl | (rw [hB4]; first | rfl | simp))
          refine sAV h (fun a h => ?_)
          refine l_end ?_
          refine c_cond h rfl (fun hb => ?_) (fun hb => ?_)
          · rw [if_pos hb] at hf
            refine c_rs ?_
            refine sMV h (fun a h => ?_)
            refine sX h (x_bin h.k rfl rfl rfl ib_eql) (fun a h => ?_)
            refine sMV h (fun a h => ?_)
            refine q_grp h 4 (t := 88) 92 ((decide (x53.2 = 20)) && (decide ((x53.1.length : Int) = 0))) rfl (fun hB2 => ?_) (fun hB2 => ?_) (fun a w h => ?_)
            · refine g_yes h rfl rfl rfl rfl hB2 ?_
              refine sMV h (fun a h => ?_)
              refine g_yes h rfl rfl rfl rfl hB2 ?_
              refine sX h (x_len h.k rfl Try.underlying24 rfl) (fun a h => ?_)
              refine g_yes h rfl rfl rfl rfl hB2 ?_
              refine sX h (x_bin h.k rfl rfl rfl ib_eql) (fun a h => ?_)
              refine sX h (x_pick (u' := undef) h.k rfl rfl (fun _ => rfl) (fun hh => absurd (hB2.symm.trans hh) (by decide))) (fun a h => ?_)
              exact (h.mid 3 rfl).val (by first | rfl | (rw [hB2]; first | rfl | simp))
            · refine g_no h rfl rfl rfl rfl hB2 rfl (by decide) (fun a h => ?_)
              refine g_no h rfl rfl rfl rfl hB2 rfl (by decide) (fun a h => ?_)
              refine g_no h rfl rfl rfl rfl hB2 rfl (by decide) (fun a h => ?_)
              refine sX h (x_pick (u' := undef) h.k rfl rfl (fun hh => absurd (hB2.symm.trans hh) (by decide)) (fun _ => rfl)) (fun a h => ?_)
              exact (h.mid 3 rfl).val (by first | rfl | (rw [hB2]; first | rfl | simp))
            refine sAV h (fun a h => ?_)
            refine l_end ?_
            refine wp_ret ?_
            refine e_blkR ?_
            refine e_thenR ?_
            obtain rfl := Option.some.inj hf
            exact r_ret1 h rfl (rv_tmp h rfl) ⟨_, [], _, rfl, ⟨rfl, rfl, trivial⟩, rfl, up66, (h.m.pick [0] _ (by decide) rfl)⟩
          · rw [if_neg (by rw [hb]; decide)] at hf
            refine wp_skip ?_
            refine e_blkN ?_
            refine e_thenN ?_
            refine wp_seq ?_
            refine c_rs ?_
            refine sMV h (fun a h => ?_)
            refine sX h (x_bin h.k rfl rfl rfl ib_neq) (fun a h => ?_)
            refine sMV h (fun a h => ?_)
            obtain ⟨z79, hz78, hf⟩ := bsome hf
            refine q_grp h 6 (t := 95) 101 z79 rfl (fun hB2 => ?_) (fun hB2 => ?_) (fun a w h => ?_)
            · refine g_no h rfl rfl rfl rfl hB2 rfl (by decide) (fun a h => ?_)
              refine g_no h rfl rfl rfl rfl hB2 rfl (by decide) (fun a h => ?_)
              refine g_no h rfl rfl rfl rfl hB2 rfl (by decide) (fun a h => ?_)
              refine g_no h rfl rfl rfl rfl hB2 rfl (by decide) (fun a h => ?_)
              refine g_no h rfl rfl rfl rfl hB2 rfl (by decide) (fun a h => ?_)
              rw [if_pos (of_decide_eq_true hB2)] at hz78
              refine sX h (x_pick (u' := undef) h.k rfl rfl (fun _ => rfl) (fun hh => absurd (hB2.symm.trans hh) (by decide))) (fun a h => ?_)
              exact (h.mid 5 rfl).val (by rw [Option.some.inj hz78])
            · rw [if_neg (of_decide_eq_false hB2)] at hz78
              refine g_yes h rfl rfl rfl rfl hB2 ?_
              refine sX h (x_faddr h.k rfl Try.underlying42 rfl sz_int rfl) (fun a h => ?_)
              refine g_yes h rfl rfl rfl rfl hB2 ?_
              refine sX h (x_ld h.k rfl Try.underlying3 rfl rfl ((h.m.cell (i := 1) rfl 2).trans rfl)) (fun a h => ?_)
              refine g_yes h rfl rfl rfl rfl hB2 ?_
              refine sMV h (fun a h => ?_)
              refine g_yes h rfl rfl rfl rfl hB2 ?_
              obtain ⟨x81, h82, hz78⟩ := bsome hz78
              have hX := chatelainelaw21_right_ok Fu (S0 := snapAll _) a0.2.2.1 hr13 A59 c60 x53.1 (hs67.mono (h.m.leAll (i := 0) rfl)) _ h82 _ h.startAll
              refine q_callX hX h rfl rfl rfl (by decide) Try.func11 rfl rfl rfl (fun a w v L1 S1 hR hb1 h => ?_)
              obtain ⟨rfl, rfl, _⟩ := hR
              refine g_yes h rfl rfl rfl rfl hB2 ?_
              refine sX h (x_not h.k rfl rfl) (fun a h => ?_)
              refine sX h (x_pick (u' := undef) h.k rfl rfl (fun hh => absurd (hB2.symm.trans hh) (by decide)) (fun _ => rfl)) (fun a h => ?_)
              exact (h.mid 5 rfl).val (by rw [Option.some.inj hz78])
            refine l_end ?_
            refine c_cond h rfl (fun hb => ?_) (fun hb => ?_)
            · rw [if_pos hb] at hf
              refine c_rs ?_
              refine sAV h (fun a h => ?_)
              refine l_end ?_
              refine wp_ret ?_
              refine e_thenR ?_
              rw [← Option.some.inj hf]
              exact r_ret1 h rfl (rv_tmp h rfl) ⟨_, [], _, rfl, ⟨rfl, rfl, trivial⟩, rfl, up66, (h.m.pick [0] _ (by decide) rfl)⟩
            · rw [if_neg (by rw [hb]; decide)] at hf
              refine wp_skip ?_
              refine e_thenN ?_
              refine wp_seq ?_
              refine c_rs ?_
              refine sX h (x_faddr h.k rfl Try.underlying42 rfl sz_int rfl) (fun a h => ?_)
              refine sX h (x_ld h.k rfl Try.underlying3 rfl rfl ((h.m.cell (i := 1) rfl 2).trans rfl)) (fun a h => ?_)
              refine sMV h (fun a h => ?_)
              refine l_end ?_
              obtain ⟨o84, hl85, hf⟩ := bsome hf
              refine c_fin (fun a w => ∃ (S91 : Snap), (.inr ()) = o84 ∧ Snap.le S64 S91 ∧ Up (ownL ([] ++ [.sn S0])) w0 S0 S91 ∧ St 170 w0 (ownL ([] ++ [.sn S0])) [] [.sn S91] a w) ?_ ?_
              · refine wp_block ?_
                have h := h.pick [1, 0] (by decide) rfl
                refine c_loop (fun m95 a w => ∃ (S86 : Snap), ∃ (x89 : Int), chatelainelaw21_KeytreePunctures_l0 Fu a0 x38 x53 m95 x89 = some o84 ∧ Snap.le S64 S86 ∧ Up (ownL ([] ++ [.sn S0])) w0 S0 S86 ∧ r64 x89 ∧ St 170 w0 (ownL ([] ++ [.sn S0])) [(1, .pointer (some ⟨g31, 0, none⟩)), (3, .slice A44 x38.1.length c45), (5, .slice A59 x53.1.length c60), (103, .int .i64 a0.2.2.1), (104, .int .i64 x89)] [.box g31 42 ([.slice A3 a0.1.length c4, .slice A8 a0.2.1.length c9, .int .i64 a0.2.2.1, .int .i64 a0.2.2.2.1, .int .i64 a0.2.2.2.2.1, .slice A22 a0.2.2.2.2.2.1.length c23, .slice A27 a0.2.2.2.2.2.2.1.length c28, .int .i64 a0.2.2.2.2.2.2.2]), .sn S86] a w) Fu ⟨S64, 0, hl85, (Snap.le.refl _), up66, (show r64 0 from ⟨by decide, by decide⟩), h.has (by exact ⟨rfl, rfl, rfl, rfl, rfl, trivial⟩)⟩ (fun m95 a w hI => ?_)
                obtain ⟨S86, x89, hl94, le87, up88, hr90, h⟩ := hI
                obtain _ | m95 := m95
                · rw [chatelainelaw21_KeytreePunctures_l0] at hl94; cases hl94
                rw [chatelainelaw21_KeytreePunctures_l0] at hl94
                refine c_rs ?_
                refine sX h (x_bin h.k rfl rfl rfl ib_lss) (fun a h => ?_)
                refine l_end ?_
                refine c_cs h rfl (fun hb => ?_) (fun hb => ?_)
                · rw [if_pos (of_decide_eq_true hb)] at hl94
                  refine wp_skip ?_
                  refine e_thenN ?_
                  refine wp_seq ?_
                  refine wp_block ?_
                  refine c_rs ?_
                  refine sMV h (fun a h => ?_)
                  refine sAV h (fun a h => ?_)
                  refine l_end ?_
                  refine c_rs ?_
                  refine sX h (x_faddr h.k rfl Try.underlying42 rfl sz_Suint8 rfl) (fun a h => ?_)
                  refine sX h (x_ld h.k rfl Try.underlying22 rfl rfl ((h.m.cell (i := 0) rfl 0).trans rfl)) (fun a h => ?_)
                  refine sX h (x_faddr h.k rfl Try.underlying42 rfl sz_int rfl) (fun a h => ?_)
                  refine sX h (x_ld h.k rfl Try.underlying3 rfl rfl ((h.m.cell (i := 0) rfl 2).trans rfl)) (fun a h => ?_)
                  refine sMV h (fun a h => ?_)
                  refine sMV h (fun a h => ?_)
                  obtain ⟨x96, h97, hl94⟩ := bsome hl94
                  have h := h.pick [1, 0] (by decide) rfl
                  have hX := keytree_Leaf_ok Fu (S0 := S86) A3 c4 a0.1 (hs5.mono ((((le43.trans le50).trans le58).trans le65).trans le87)) a0.2.2.1 hr13 A44 c45 x38.1 (hs52.mono ((le58.trans le65).trans le87)) x89 hr90 _ h97 _ (h.sub (Ls := []))
                  refine q_callY (Ls := []) hX h up88 rfl rfl rfl (by decide) Try.func12 rfl rfl rfl (fun a w v L1 S99 hR le101 up100 h => ?_)
                  obtain ⟨A102, c103, rfl, rfl, hs104, hr105, _⟩ := hR
                  refine sMV h (fun a h => ?_)
                  refine sX h (x_ext h.k rfl rfl rfl) (fun a h => ?_)
                  refine sX h (x_ext h.k rfl rfl rfl) (fun a h => ?_)
                  refine sAV h (fun a h => ?_)
                  refine sAV h (fun a h => ?_)
                  refine l_end ?_
                  refine c_rs ?_
                  refine sX h (x_faddr h.k rfl Try.underlying42 rfl sz_Suint8 rfl) (fun a h => ?_)
                  refine sX h (x_ld h.k rfl Try.underlying22 rfl rfl ((h.m.cell (i := 1) rfl 5).trans rfl)) (fun a h => ?_)
                  refine sX h (x_faddr h.k rfl Try.underlying42 rfl sz_int rfl) (fun a h => ?_)
                  refine sX h (x_ld h.k rfl Try.underlying3 rfl rfl ((h.m.cell (i := 1) rfl 2).trans rfl)) (fun a h => ?_)
                  refine sMV h (fun a h => ?_)
                  refine sMV h (fun a h => ?_)
                  obtain ⟨x106, h107, hl94⟩ := bsome hl94
                  have hX := keytree_Leaf_ok Fu (S0 := S99) A22 c23 a0.2.2.2.2.2.1 (hs24.mono (((((le43.trans le50).trans le58).trans le65).trans le87).trans le101)) a0.2.2.1 hr13 A59 c60 x53.1 (hs67.mono (le87.trans le101)) x89 hr90 _ h107 _ (h.sub (Ls := []))
                  refine q_callY (Ls := []) hX h up100 rfl rfl rfl (by decide) Try.func12 rfl rfl rfl (fun a w v L1 S109 hR le111 up110 h => ?_)
                  obtain ⟨A112, c113, rfl, rfl, hs114, hr115, _⟩ := hR
                  refine sMV h (fun a h => ?_)
                  refine sX h (x_ext h.k rfl rfl rfl) (fun a h => ?_)
                  refine sX h (x_ext h.k rfl rfl rfl) (fun a h => ?_)
                  refine sAV h (fun a h => ?_)
                  refine sAV h (fun a h => ?_)
                  refine l_end ?_
                  refine c_rs ?_
                  refine sMV h (fun a h => ?_)
                  refine sAV h (fun a h => ?_)
                  refine l_end ?_
                  obtain ⟨o116, hc117, hl94⟩ := bsome hl94
                  refine c_cut (fun a w => ∃ (S118 : Snap), ∃ (x121 : List UInt8), ∃ (A122 : Option Addr), ∃ (c123 : Nat), x121 = o116 ∧ Snap.le S109 S118 ∧ Up (ownL ([] ++ [.sn S0])) w0 S0 S118 ∧ slS ty8 S118 A122 c123 x121 ∧ St 170 w0 (ownL ([] ++ [.sn S0])) [(1, .pointer (some ⟨g31, 0, none⟩)), (3, .slice A44 x38.1.length c45), (5, .slice A59 x53.1.length c60), (7, .int .i64 x89), (8, .slice A102 x96.1.length c103), (9, .int .i64 x96.2), (10, .slice A112 x106.1.length c113), (11, .int .i64 x106.2), (12, .slice A122 x121.length c123), (103, .int .i64 a0.2.2.1), (104, .int .i64 x89)] [.box g31 42 ([.slice A3 a0.1.length c4, .slice A8 a0.2.1.length c9, .int .i64 a0.2.2.1, .int .i64 a0.2.2.2.1, .int .i64 a0.2.2.2.2.1, .slice A22 a0.2.2.2.2.2.1.length c23, .slice A27 a0.2.2.2.2.2.2.1.length c28, .int .i64 a0.2.2.2.2.2.2.2]), .sn S118] a w) ?_ ?_
                  · refine c_rs ?_
                    refine sMV h (fun a h => ?_)
                    refine sX h (x_faddr h.k rfl Try.underlying42 rfl sz_int rfl) (fun a h => ?_)
                    refine sX h (x_ld h.k rfl Try.underlying3 rfl rfl ((h.m.cell (i := 1) rfl 3).trans rfl)) (fun a h => ?_)
                    refine sX h (x_bin h.k rfl rfl rfl ib_geq) (fun a h => ?_)
                    refine sMV h (fun a h => ?_)
                    refine q_grp h 5 (t := 132) 137 ((decide (a0.2.2.2.1 ≤ x89)) && (decide (x89 < a0.2.2.2.2.1))) rfl (fun hB4 => ?_) (fun hB4 => ?_) (fun a w h => ?_)
                    · refine g_yes h rfl rfl rfl rfl hB4 ?_
                      refine sMV h (fun a h => ?_)
                      refine g_yes h rfl rfl rfl rfl hB4 ?_
                      refine sX h (x_faddr h.k rfl Try.underlying42 rfl sz_int rfl) (fun a h => ?_)
                      refine g_yes h rfl rfl rfl rfl hB4 ?_
                      refine sX h (x_ld h.k rfl Try.underlying3 rfl rfl ((h.m.cell (i := 1) rfl 4).trans rfl)) (fun a h => ?_)
                      refine g_yes h rfl rfl rfl rfl hB4 ?_
                      refine sX h (x_bin h.k rfl rfl rfl ib_lss) (fun a h => ?_)
                      refine sX h (x_pick (u' := undef) h.k rfl rfl (fun _ => rfl) (fun hh => absurd (hB4.symm.trans hh) (by decide))) (fun a h => ?_)
                      exact (h.mid 4 rfl).val (by first | rfl | (rw [hB4]; first | rfl | simp))
                    · refine g_no h rfl rfl rfl rfl hB4 rfl (by decide) (fun a h => ?_)
                      refine g_no h rfl rfl rfl rfl hB4 rfl (by decide) (fun a h => ?_)
                      refine g_no h rfl rfl rfl rfl hB4 rfl (by decide) (fun a h => ?_)
                      refine g_no h rfl rfl rfl rfl hB4 rfl (by decide) (fun a h => ?_)
                      refine sX h (x_pick (u' := undef) h.k rfl rfl (fun hh => absurd (hB4.symm.trans hh) (by decide)) (fun _ => rfl)) (fun a h => ?_)
                      exact (h.mid 4 rfl).val (by first | rfl | (rw [hB4]; first | rfl | simp))
                    refine l_end ?_
                    refine c_cond h rfl (fun hb => ?_) (fun hb => ?_)
                    · rw [if_pos hb] at hc117
                      -- region 22 draws
                      obtain ⟨x127, h128, hc117⟩ := bsome hc117
                      obtain ⟨x131, h132, hc117⟩ := bsome hc117
                      refine d_start h (Mem _ _ _) 8 8 rfl (by kernel_rfl) (fun _ _ _ _ _ h => h) (fun _ h => h) (fun Q a w HE HN h HS => ?_)
                      refine d_takeP h (fun _ => HS) HN 0 rfl (by kernel_rfl) (by kernel_rfl) (by kernel_rfl) (by decide) rfl rfl (by decide) (fun w' => x_faddr h.k rfl Try.underlying42 rfl sz_Suint8 rfl) (fun a h => ?_)
                      refine d_take h HS HN 1 rfl (by kernel_rfl) (by kernel_rfl) (by kernel_rfl) (by kernel_rfl) (by kernel_rfl) rfl rfl (by decide) (fun w' hw => x_ld h.k rfl Try.underlying22 rfl rfl ((hw.cell (i := 1) rfl 6).trans rfl)) (fun a h => ?_)
                      refine d_takeP h (fun _ => HS) HN 2 rfl (by kernel_rfl) (by kernel_rfl) (by kernel_rfl) (by decide) rfl rfl (by decide) (fun w' => x_faddr h.k rfl Try.underlying42 rfl sz_int rfl) (fun a h => ?_)
                      refine d_take h HS HN 3 rfl (by kernel_rfl) (by kernel_rfl) (by kernel_rfl) (by kernel_rfl) (by kernel_rfl) rfl rfl (by decide) (fun w' hw => x_ld h.k rfl Try.underlying3 rfl rfl ((hw.cell (i := 1) rfl 2).trans rfl)) (fun a h => ?_)
                      refine d_takeP h (fun _ => HS) HN 5 rfl (by kernel_rfl) (by kernel_rfl) (by kernel_rfl) (by decide) rfl rfl (by decide) (fun w' => x_move h.k _ rfl rfl) (fun a h => ?_)
                      refine d_alone 4 rfl (by kernel_rfl) (fun K hK => ?_)
                      have hX := chatelainelaw21_depth_ok Fu (S0 := snapAll _) a0.2.2.1 hr13 _ h128 _ h.startAll
                      refine q_callX hX h rfl rfl rfl (by decide) Try.func15 rfl rfl rfl (fun a w v L1 S1 hR hb1 h => ?_)
                      obtain ⟨rfl, rfl, hr130, _⟩ := hR
                      refine hK _ _ (fun _ _ => HS.ext hb1) ?_
                      replace HS := HS.ext hb1
                      clear hK
                      refine d_alone 6 rfl (by kernel_rfl) (fun K hK => ?_)
                      have hX := chatelainelaw21_fresh_ok Fu (S0 := S109) A27 c28 a0.2.2.2.2.2.2.1 (hs29.mono ((((((le43.trans le50).trans le58).trans le65).trans le87).trans le101).trans le111)) x127 hr130 x89 hr90 _ h132 _ (h.sub (Ls := []))
                      refine q_callY (Ls := []) hX h up110 rfl rfl rfl (by decide) Try.func14 rfl rfl rfl (fun a w v L1 S134 hR le136 up135 h => ?_)
                      obtain ⟨A137, c138, rfl, rfl, hs139, _⟩ := hR
                      replace HS := (h.m.pick [0, 1] [.sn S134, .box g31 42 ([.slice A3 a0.1.length c4, .slice A8 a0.2.1.length c9, .int .i64 a0.2.2.1, .int .i64 a0.2.2.2.1, .int .i64 a0.2.2.2.2.1, .slice A22 a0.2.2.2.2.2.1.length c23, .slice A27 a0.2.2.2.2.2.2.1.length c28, .int .i64 a0.2.2.2.2.2.2.2])] (by decide) rfl).snLe 0 rfl le136
                      refine hK _ _ (fun _ _ => HS) ?_
                      clear hK
                      refine d_takeP h (fun _ => HS) HN 7 rfl (by kernel_rfl) (by kernel_rfl) (by kernel_rfl) (by decide) rfl rfl (by decide) (fun w' => x_assign h.k _ rfl rfl) (fun a h => ?_)
                      refine d_done (by kernel_rfl) (HE _ _ ?_) _
                      refine e_thenN ?_
                      have h := h.pick [1, 0] (by decide) rfl
                      exact ⟨S134, x131, A137, c138, (Option.some.inj hc117), le136, up135, hs139, h.has (by exact ⟨rfl, rfl, rfl, rfl, rfl, rfl, rfl, rfl, rfl, rfl, rfl, trivial⟩)⟩
                    · rw [if_neg (by rw [hb]; decide)] at hc117
                      refine wp_skip ?_
                      refine e_thenN ?_
                      have h := h.pick [1, 0] (by decide) rfl
                      exact ⟨S109, x96.1, A102, c103, (Option.some.inj hc117), (Snap.le.refl _), up110, (hs104.mono le111), h.has (by exact ⟨rfl, rfl, rfl, rfl, rfl, rfl, rfl, rfl, rfl, rfl, rfl, trivial⟩)⟩
                  · rintro a w ⟨S118, x121, A122, c123, rfl, le119, up120, hs124, h⟩
                    refine wp_seq ?_
                    -- region 23 draws
                    obtain ⟨z142, hz143, hl94⟩ := bsome hl94
                    obtain ⟨z147, hz148, hl94⟩ := bsome hl94
                    refine c_fin (fun a w => ∃ (S165 : Snap), Snap.le S118 S165 ∧ Up (ownL ([] ++ [.sn S0])) w0 S0 S165 ∧ St 170 w0 (ownL ([] ++ [.sn S0])) [(1, .pointer (some ⟨g31, 0, none⟩)), (3, .slice A44 x38.1.length c45), (5, .slice A59 x53.1.length c60), (103, .int .i64 a0.2.2.1), (104, .int .i64 x89), (168, .bool z147)] [.box g31 42 ([.slice A3 a0.1.length c4, .slice A8 a0.2.1.length c9, .int .i64 a0.2.2.1, .int .i64 a0.2.2.2.1, .int .i64 a0.2.2.2.2.1, .slice A22 a0.2.2.2.2.2.1.length c23, .slice A27 a0.2.2.2.2.2.2.1.length c28, .int .i64 a0.2.2.2.2.2.2.2]), .sn S165] a w) ?_ (fun a w h => ?_)
                    · refine d_start h (Mem _ _ _) 24 24 rfl (by kernel_rfl) (fun _ _ _ _ _ h => h) (fun _ h => h) (fun Q a w HE HN h HS => ?_)
                      refine d_takeP h (fun _ => HS) HN 0 rfl (by kernel_rfl) (by kernel_rfl) (by kernel_rfl) (by decide) rfl rfl (by decide) (fun w' => x_move h.k _ rfl rfl) (fun a h => ?_)
                      refine d_takeP h (fun _ => HS) HN 1 rfl (by kernel_rfl) (by kernel_rfl) (by kernel_rfl) (by decide) rfl rfl (by decide) (fun w' => x_bin h.k rfl rfl rfl ib_neq) (fun a h => ?_)
                      refine d_takeP h (fun _ => HS) HN 2 rfl (by kernel_rfl) (by kernel_rfl) (by kernel_rfl) (by decide) rfl rfl (by decide) (fun w' => x_move h.k _ rfl rfl) (fun a h => ?_)
                      refine d_split (t := 147) h rfl (fun hB2 => ?_) (fun hB2 => ?_)
                      · refine d_takeNP h (fun _ => HS) HN 3 rfl (by kernel_rfl) (by kernel_rfl) (by kernel_rfl) (by decide) (by rw [g_want h rfl rfl rfl rfl hB2]; rfl) rfl (by decide) (fun a h => ?_)
                        refine d_takeNP h (fun _ => HS) HN 4 rfl (by kernel_rfl) (by kernel_rfl) (by kernel_rfl) (by decide) (by rw [g_want h rfl rfl rfl rfl hB2]; rfl) rfl (by decide) (fun a h => ?_)
                        refine d_takeP h (fun _ => HS) HN 5 rfl (by kernel_rfl) (by kernel_rfl) (by kernel_rfl) (by decide) rfl rfl (by decide) (fun w' => x_pick (v := .bool ((decide (x96.2 ≠ 0)) || (decide (x106.2 ≠ 0)))) (u' := undef) h.k rfl rfl (fun _ => by rw [hB2]; first | rfl | simp [ev, List.lookup]) (fun hh => absurd (hB2.symm.trans hh) (by decide))) (fun a h => ?_)
                        refine d_takeP h (fun _ => HS) HN 6 rfl (by kernel_rfl) (by kernel_rfl) (by kernel_rfl) (by decide) rfl rfl (by decide) (fun w' => x_move h.k _ rfl rfl) (fun a h => ?_)
                        have hB6 : ((decide (x96.2 ≠ 0)) || (decide (x106.2 ≠ 0))) = true := (by rw [hB2]; first | rfl | simp)
                        rw [if_pos hB6] at hz143
                        refine d_takeNP h (fun _ => HS) HN 7 rfl (by kernel_rfl) (by kernel_rfl) (by kernel_rfl) (by decide) (by rw [g_want h rfl rfl rfl rfl hB6]; rfl) rfl (by decide) (fun a h => ?_)
                        refine d_takeNP h (fun _ => HS) HN 8 rfl (by kernel_rfl) (by kernel_rfl) (by kernel_rfl) (by decide) (by rw [g_want h rfl rfl rfl rfl hB6]; rfl) rfl (by decide) (fun a h => ?_)
                        refine d_takeNP h (fun _ => HS) HN 9 rfl (by kernel_rfl) (by kernel_rfl) (by kernel_rfl) (by decide) (by rw [g_want h rfl rfl rfl rfl hB6]; rfl) rfl (by decide) (fun a h => ?_)
                        refine d_takeNP h (fun _ => HS) HN 10 rfl (by kernel_rfl) (by kernel_rfl) (by kernel_rfl) (by decide) (by rw [g_want h rfl rfl rfl rfl hB6]; rfl) rfl (by decide) (fun a h => ?_)
                        refine d_takeP h (fun _ => HS) HN 11 rfl (by kernel_rfl) (by kernel_rfl) (by kernel_rfl) (by decide) rfl rfl (by decide) (fun w' => x_pick (v := .bool z142) (u' := undef) h.k rfl rfl (fun _ => by rw [← Option.some.inj hz143]; rfl) (fun hh => absurd (hB6.symm.trans hh) (by decide))) (fun a h => ?_)
                        refine d_takeP h (fun _ => HS) HN 12 rfl (by kernel_rfl) (by kernel_rfl) (by kernel_rfl) (by decide) rfl rfl (by decide) (fun w' => x_move h.k _ rfl rfl) (fun a h => ?_)
                        have hB12 : z142 = true := (Option.some.inj hz143).symm
                        rw [if_pos hB12] at hz148
                        refine d_takeNP h (fun _ => HS) HN 13 rfl (by kernel_rfl) (by kernel_rfl) (by kernel_rfl) (by decide) (by rw [g_want h rfl rfl rfl rfl hB12]; rfl) rfl (by decide) (fun a h => ?_)
                        refine d_takeNP h (fun _ => HS) HN 14 rfl (by kernel_rfl) (by kernel_rfl) (by kernel_rfl) (by decide) (by rw [g_want h rfl rfl rfl rfl hB12]; rfl) rfl (by decide) (fun a h => ?_)
                        refine d_takeNP h (fun _ => HS) HN 15 rfl (by kernel_rfl) (by kernel_rfl) (by kernel_rfl) (by decide) (by rw [g_want h rfl rfl rfl rfl hB12]; rfl) rfl (by decide) (fun a h => ?_)
                        refine d_takeNP h (fun _ => HS) HN 16 rfl (by kernel_rfl) (by kernel_rfl) (by kernel_rfl) (by decide) (by rw [g_want h rfl rfl rfl rfl hB12]; rfl) rfl (by decide) (fun a h => ?_)
                        refine d_takeNP h (fun _ => HS) HN 17 rfl (by kernel_rfl) (by kernel_rfl) (by kernel_rfl) (by decide) (by rw [g_want h rfl rfl rfl rfl hB12]; rfl) rfl (by decide) (fun a h => ?_)
                        refine d_takeNP h (fun _ => HS) HN 18 rfl (by kernel_rfl) (by kernel_rfl) (by kernel_rfl) (by decide) (by rw [g_want h rfl rfl rfl rfl hB12]; rfl) rfl (by decide) (fun a h => ?_)
                        refine d_takeNP h (fun _ => HS) HN 19 rfl (by kernel_rfl) (by kernel_rfl) (by kernel_rfl) (by decide) (by rw [g_want h rfl rfl rfl rfl hB12]; rfl) rfl (by decide) (fun a h => ?_)
                        refine d_takeNP h (fun _ => HS) HN 20 rfl (by kernel_rfl) (by kernel_rfl) (by kernel_rfl) (by decide) (by rw [g_want h rfl rfl rfl rfl hB12]; rfl) rfl (by decide) (fun a h => ?_)
                        refine d_takeNP h (fun _ => HS) HN 21 rfl (by kernel_rfl) (by kernel_rfl) (by kernel_rfl) (by decide) (by rw [g_want h rfl rfl rfl rfl hB12]; rfl) rfl (by decide) (fun a h => ?_)
                        refine d_takeNP h (fun _ => HS) HN 22 rfl (by kernel_rfl) (by kernel_rfl) (by kernel_rfl) (by decide) (by rw [g_want h rfl rfl rfl rfl hB12]; rfl) rfl (by decide) (fun a h => ?_)
                        refine d_takeP h (fun _ => HS) HN 23 rfl (by kernel_rfl) (by kernel_rfl) (by kernel_rfl) (by decide) rfl rfl (by decide) (fun w' => x_pick (v := .bool z147) (u' := undef) h.k rfl rfl (fun _ => by rw [← Option.some.inj hz148]; rfl) (fun hh => absurd (hB12.symm.trans hh) (by decide))) (fun a h => ?_)
                        refine d_done (by kernel_rfl) (HE _ _ ?_) _
                        refine e_thenN ?_
                        exact ⟨S118, (Snap.le.refl _), up120, h.has (by exact ⟨rfl, rfl, rfl, rfl, rfl, rfl, trivial⟩)⟩
                      · refine d_takeP h (fun _ => HS) HN 3 rfl (by kernel_rfl) (by kernel_rfl) (by kernel_rfl) (by decide) (by rw [g_want h rfl rfl rfl rfl hB2]; rfl) rfl (by decide) (fun w' => x_move h.k _ rfl rfl) (fun a h => ?_)
                        refine d_takeP h (fun _ => HS) HN 4 rfl (by kernel_rfl) (by kernel_rfl) (by kernel_rfl) (by decide) (by rw [g_want h rfl rfl rfl rfl hB2]; rfl) rfl (by decide) (fun w' => x_bin h.k rfl rfl rfl ib_neq) (fun a h => ?_)
                        refine d_takeP h (fun _ => HS) HN 5 rfl (by kernel_rfl) (by kernel_rfl) (by kernel_rfl) (by decide) rfl rfl (by decide) (fun w' => x_pick (v := .bool ((decide (x96.2 ≠ 0)) || (decide (x106.2 ≠ 0)))) (u' := undef) h.k rfl rfl (fun hh => absurd (hB2.symm.trans hh) (by decide)) (fun _ => by rw [hB2]; first | rfl | simp [ev, List.lookup])) (fun a h => ?_)
                        refine d_takeP h (fun _ => HS) HN 6 rfl (by kernel_rfl) (by kernel_rfl) (by kernel_rfl) (by decide) rfl rfl (by decide) (fun w' => x_move h.k _ rfl rfl) (fun a h => ?_)
                        refine d_split (t := 151) h rfl (fun hB6 => ?_) (fun hB6 => ?_)
                        · rw [if_pos hB6] at hz143
                          refine d_takeNP h (fun _ => HS) HN 7 rfl (by kernel_rfl) (by kernel_rfl) (by kernel_rfl) (by decide) (by rw [g_want h rfl rfl rfl rfl hB6]; rfl) rfl (by decide) (fun a h => ?_)
                          refine d_takeNP h (fun _ => HS) HN 8 rfl (by kernel_rfl) (by kernel_rfl) (by kernel_rfl) (by decide) (by rw [g_want h rfl rfl rfl rfl hB6]; rfl) rfl (by decide) (fun a h => ?_)
                          refine d_takeNP h (fun _ => HS) HN 9 rfl (by kernel_rfl) (by kernel_rfl) (by kernel_rfl) (by decide) (by rw [g_want h rfl rfl rfl rfl hB6]; rfl) rfl (by decide) (fun a h => ?_)
                          refine d_takeNP h (fun _ => HS) HN 10 rfl (by kernel_rfl) (by kernel_rfl) (by kernel_rfl) (by decide) (by rw [g_want h rfl rfl rfl rfl hB6]; rfl) rfl (by decide) (fun a h => ?_)
                          refine d_takeP h (fun _ => HS) HN 11 rfl (by kernel_rfl) (by kernel_rfl) (by kernel_rfl) (by decide) rfl rfl (by decide) (fun w' => x_pick (v := .bool z142) (u' := undef) h.k rfl rfl (fun _ => by rw [← Option.some.inj hz143]; rfl) (fun hh => absurd (hB6.symm.trans hh) (by decide))) (fun a h => ?_)
                          refine d_takeP h (fun _ => HS) HN 12 rfl (by kernel_rfl) (by kernel_rfl) (by kernel_rfl) (by decide) rfl rfl (by decide) (fun w' => x_move h.k _ rfl rfl) (fun a h => ?_)
                          have hB12 : z142 = true := (Option.some.inj hz143).symm
                          rw [if_pos hB12] at hz148
                          refine d_takeNP h (fun _ => HS) HN 13 rfl (by kernel_rfl) (by kernel_rfl) (by kernel_rfl) (by decide) (by rw [g_want h rfl rfl rfl rfl hB12]; rfl) rfl (by decide) (fun a h => ?_)
                          refine d_takeNP h (fun _ => HS) HN 14 rfl (by kernel_rfl) (by kernel_rfl) (by kernel_rfl) (by decide) (by rw [g_want h rfl rfl rfl rfl hB12]; rfl) rfl (by decide) (fun a h => ?_)
                          refine d_takeNP h (fun _ => HS) HN 15 rfl (by kernel_rfl) (by kernel_rfl) (by kernel_rfl) (by decide) (by rw [g_want h rfl rfl rfl rfl hB12]; rfl) rfl (by decide) (fun a h => ?_)
                          refine d_takeNP h (fun _ => HS) HN 16 rfl (by kernel_rfl) (by kernel_rfl) (by kernel_rfl) (by decide) (by rw [g_want h rfl rfl rfl rfl hB12]; rfl) rfl (by decide) (fun a h => ?_)
                          refine d_takeNP h (fun _ => HS) HN 17 rfl (by kernel_rfl) (by kernel_rfl) (by kernel_rfl) (by decide) (by rw [g_want h rfl rfl rfl rfl hB12]; rfl) rfl (by decide) (fun a h => ?_)
                          refine d_takeNP h (fun _ => HS) HN 18 rfl (by kernel_rfl) (by kernel_rfl) (by kernel_rfl) (by decide) (by rw [g_want h rfl rfl rfl rfl hB12]; rfl) rfl (by decide) (fun a h => ?_)
                          refine d_takeNP h (fun _ => HS) HN 19 rfl (by kernel_rfl) (by kernel_rfl) (by kernel_rfl) (by decide) (by rw [g_want h rfl rfl rfl rfl hB12]; rfl) rfl (by decide) (fun a h => ?_)
                          refine d_takeNP h (fun _ => HS) HN 20 rfl (by kernel_rfl) (by kernel_rfl) (by kernel_rfl) (by decide) (by rw [g_want h rfl rfl rfl rfl hB12]; rfl) rfl (by decide) (fun a h => ?_)
                          refine d_takeNP h (fun _ => HS) HN 21 rfl (by kernel_rfl) (by kernel_rfl) (by kernel_rfl) (by decide) (by rw [g_want h rfl rfl rfl rfl hB12]; rfl) rfl (by decide) (fun a h => ?_)
                          refine d_takeNP h (fun _ => HS) HN 22 rfl (by kernel_rfl) (by kernel_rfl) (by kernel_rfl) (by decide) (by rw [g_want h rfl rfl rfl rfl hB12]; rfl) rfl (by decide) (fun a h => ?_)
                          refine d_takeP h (fun _ => HS) HN 23 rfl (by kernel_rfl) (by kernel_rfl) (by kernel_rfl) (by decide) rfl rfl (by decide) (fun w' => x_pick (v := .bool z147) (u' := undef) h.k rfl rfl (fun _ => by rw [← Option.some.inj hz148]; rfl) (fun hh => absurd (hB12.symm.trans hh) (by decide))) (fun a h => ?_)
                          refine d_done (by kernel_rfl) (HE _ _ ?_) _
                          refine e_thenN ?_
                          exact ⟨S118, (Snap.le.refl _), up120, h.has (by exact ⟨rfl, rfl, rfl, rfl, rfl, rfl, trivial⟩)⟩
                        · rw [if_neg (by rw [hB6]; decide)] at hz143
                          obtain ⟨x144, h145, hz143⟩ := bsome hz143
                          refine d_takeP h (fun _ => HS) HN 7 rfl (by kernel_rfl) (by kernel_rfl) (by kernel_rfl) (by decide) (by rw [g_want h rfl rfl rfl rfl hB6]; rfl) rfl (by decide) (fun w' => x_move h.k _ rfl rfl) (fun a h => ?_)
                          refine d_takeP h (fun _ => HS) HN 8 rfl (by kernel_rfl) (by kernel_rfl) (by kernel_rfl) (by decide) (by rw [g_want h rfl rfl rfl rfl hB6]; rfl) rfl (by decide) (fun w' => x_move h.k _ rfl rfl) (fun a h => ?_)
                          refine d_alone 9 rfl (by kernel_rfl) (fun K hK => ?_)
                          refine g_yes (j := 6) (t := 151) h rfl rfl rfl rfl hB6 ?_
                          have hX := chatelaineref01_Same_ok Fu (S0 := snapAll _) A112 c113 x106.1 ((hs114.mono le119).mono (h.m.leAll (i := 1) rfl)) A122 c123 x121 (hs124.mono (h.m.leAll (i := 1) rfl)) _ h145 _ h.startAll
                          refine q_callX hX h rfl rfl rfl (by decide) Try.func13 rfl rfl rfl (fun a w v L1 S1 hR hb1 h => ?_)
                          obtain ⟨rfl, rfl, _⟩ := hR
                          refine hK _ _ (fun _ _ => HS.ext hb1) ?_
                          replace HS := HS.ext hb1
                          clear hK
                          refine d_takeP h (fun _ => HS) HN 10 rfl (by kernel_rfl) (by kernel_rfl) (by kernel_rfl) (by decide) (by rw [g_want h rfl rfl rfl rfl hB6]; rfl) rfl (by decide) (fun w' => x_not h.k rfl rfl) (fun a h => ?_)
                          refine d_takeP h (fun _ => HS) HN 11 rfl (by kernel_rfl) (by kernel_rfl) (by kernel_rfl) (by decide) rfl rfl (by decide) (fun w' => x_pick (v := .bool z142) (u' := undef) h.k rfl rfl (fun hh => absurd (hB6.symm.trans hh) (by decide)) (fun _ => by rw [← Option.some.inj hz143]; rfl)) (fun a h => ?_)
                          refine d_takeP h (fun _ => HS) HN 12 rfl (by kernel_rfl) (by kernel_rfl) (by kernel_rfl) (by decide) rfl rfl (by decide) (fun w' => x_move h.k _ rfl rfl) (fun a h => ?_)
                          refine d_split (t := 157) h rfl (fun hB12 => ?_) (fun hB12 => ?_)
                          · rw [if_pos hB12] at hz148
                            refine d_takeNP h (fun _ => HS) HN 13 rfl (by kernel_rfl) (by kernel_rfl) (by kernel_rfl) (by decide) (by rw [g_want h rfl rfl rfl rfl hB12]; rfl) rfl (by decide) (fun a h => ?_)
                            refine d_takeNP h (fun _ => HS) HN 14 rfl (by kernel_rfl) (by kernel_rfl) (by kernel_rfl) (by decide) (by rw [g_want h rfl rfl rfl rfl hB12]; rfl) rfl (by decide) (fun a h => ?_)
                            refine d_takeNP h (fun _ => HS) HN 15 rfl (by kernel_rfl) (by kernel_rfl) (by kernel_rfl) (by decide) (by rw [g_want h rfl rfl rfl rfl hB12]; rfl) rfl (by decide) (fun a h => ?_)
                            refine d_takeNP h (fun _ => HS) HN 16 rfl (by kernel_rfl) (by kernel_rfl) (by kernel_rfl) (by decide) (by rw [g_want h rfl rfl rfl rfl hB12]; rfl) rfl (by decide) (fun a h => ?_)
                            refine d_takeNP h (fun _ => HS) HN 17 rfl (by kernel_rfl) (by kernel_rfl) (by kernel_rfl) (by decide) (by rw [g_want h rfl rfl rfl rfl hB12]; rfl) rfl (by decide) (fun a h => ?_)
                            refine d_takeNP h (fun _ => HS) HN 18 rfl (by kernel_rfl) (by kernel_rfl) (by kernel_rfl) (by decide) (by rw [g_want h rfl rfl rfl rfl hB12]; rfl) rfl (by decide) (fun a h => ?_)
                            refine d_takeNP h (fun _ => HS) HN 19 rfl (by kernel_rfl) (by kernel_rfl) (by kernel_rfl) (by decide) (by rw [g_want h rfl rfl rfl rfl hB12]; rfl) rfl (by decide) (fun a h => ?_)
                            refine d_takeNP h (fun _ => HS) HN 20 rfl (by kernel_rfl) (by kernel_rfl) (by kernel_rfl) (by decide) (by rw [g_want h rfl rfl rfl rfl hB12]; rfl) rfl (by decide) (fun a h => ?_)
                            refine d_takeNP h (fun _ => HS) HN 21 rfl (by kernel_rfl) (by kernel_rfl) (by kernel_rfl) (by decide) (by rw [g_want h rfl rfl rfl rfl hB12]; rfl) rfl (by decide) (fun a h => ?_)
                            refine d_takeNP h (fun _ => HS) HN 22 rfl (by kernel_rfl) (by kernel_rfl) (by kernel_rfl) (by decide) (by rw [g_want h rfl rfl rfl rfl hB12]; rfl) rfl (by decide) (fun a h => ?_)
                            refine d_takeP h (fun _ => HS) HN 23 rfl (by kernel_rfl) (by kernel_rfl) (by kernel_rfl) (by decide) rfl rfl (by decide) (fun w' => x_pick (v := .bool z147) (u' := undef) h.k rfl rfl (fun _ => by rw [← Option.some.inj hz148]; rfl) (fun hh => absurd (hB12.symm.trans hh) (by decide))) (fun a h => ?_)
                            refine d_done (by kernel_rfl) (HE _ _ ?_) _
                            refine e_thenN ?_
                            exact ⟨S118, (Snap.le.refl _), up120, h.has (by exact ⟨rfl, rfl, rfl, rfl, rfl, rfl, trivial⟩)⟩
                          · rw [if_neg (by rw [hB12]; decide)] at hz148
                            obtain ⟨x149, h150, hz148⟩ := bsome hz148
                            obtain ⟨x153, h154, hz148⟩ := bsome hz148
                            obtain ⟨x162, h163, hz148⟩ := bsome hz148
                            refine d_takeP h (fun _ => HS) HN 13 rfl (by kernel_rfl) (by kernel_rfl) (by kernel_rfl) (by decide) (by rw [g_want h rfl rfl rfl rfl hB12]; rfl) rfl (by decide) (fun w' => x_move h.k _ rfl rfl) (fun a h => ?_)
                            refine d_takeP h (fun _ => HS) HN 14 rfl (by kernel_rfl) (by kernel_rfl) (by kernel_rfl) (by decide) (by rw [g_want h rfl rfl rfl rfl hB12]; rfl) rfl (by decide) (fun w' => x_faddr h.k rfl Try.underlying42 rfl sz_Suint8 rfl) (fun a h => ?_)
                            refine d_takeY h HS HN 15 rfl (by kernel_rfl) (by kernel_rfl) (by kernel_rfl) (by kernel_rfl) (by kernel_rfl) (by rw [g_want h rfl rfl rfl rfl hB12]; rfl) rfl (by decide) (fun w' hw => x_ld h.k rfl Try.underlying22 rfl rfl ((hw.cell (i := 0) rfl 1).trans rfl)) (fun a h => ?_)
                            refine d_takeP h (fun _ => HS) HN 16 rfl (by kernel_rfl) (by kernel_rfl) (by kernel_rfl) (by decide) (by rw [g_want h rfl rfl rfl rfl hB12]; rfl) rfl (by decide) (fun w' => x_faddr h.k rfl Try.underlying42 rfl sz_int rfl) (fun a h => ?_)
                            refine d_takeY h HS HN 17 rfl (by kernel_rfl) (by kernel_rfl) (by kernel_rfl) (by kernel_rfl) (by kernel_rfl) (by rw [g_want h rfl rfl rfl rfl hB12]; rfl) rfl (by decide) (fun w' hw => x_ld h.k rfl Try.underlying3 rfl rfl ((hw.cell (i := 0) rfl 2).trans rfl)) (fun a h => ?_)
                            refine d_takeP h (fun _ => HS) HN 19 rfl (by kernel_rfl) (by kernel_rfl) (by kernel_rfl) (by decide) (by rw [g_want h rfl rfl rfl rfl hB12]; rfl) rfl (by decide) (fun w' => x_move h.k _ rfl rfl) (fun a h => ?_)
                            refine d_alone 18 rfl (by kernel_rfl) (fun K hK => ?_)
                            refine g_yes (j := 12) (t := 157) h rfl rfl rfl rfl hB12 ?_
                            have hX := chatelainelaw21_depth_ok Fu (S0 := snapAll _) a0.2.2.1 hr13 _ h150 _ h.startAll
                            refine q_callX hX h rfl rfl rfl (by decide) Try.func15 rfl rfl rfl (fun a w v L1 S1 hR hb1 h => ?_)
                            obtain ⟨rfl, rfl, hr152, _⟩ := hR
                            refine hK _ _ (fun _ _ => HS.ext hb1) ?_
                            replace HS := HS.ext hb1
                            clear hK
                            refine d_alone 20 rfl (by kernel_rfl) (fun K hK => ?_)
                            refine g_yes (j := 12) (t := 157) h rfl rfl rfl rfl hB12 ?_
                            have h := h.pick [1, 0] (by decide) rfl
                            have hX := chatelainelaw21_fresh_ok Fu (S0 := S118) A8 c9 a0.2.1 (hs10.mono (((((((le43.trans le50).trans le58).trans le65).trans le87).trans le101).trans le111).trans le119)) x149 hr152 x89 hr90 _ h154 _ (h.sub (Ls := []))
                            refine q_callY (Ls := []) hX h up120 rfl rfl rfl (by decide) Try.func14 rfl rfl rfl (fun a w v L1 S156 hR le158 up157 h => ?_)
                            obtain ⟨A159, c160, rfl, rfl, hs161, _⟩ := hR
                            replace HS := (h.m.pick [1, 0] [.box g31 42 ([.slice A3 a0.1.length c4, .slice A8 a0.2.1.length c9, .int .i64 a0.2.2.1, .int .i64 a0.2.2.2.1, .int .i64 a0.2.2.2.2.1, .slice A22 a0.2.2.2.2.2.1.length c23, .slice A27 a0.2.2.2.2.2.2.1.length c28, .int .i64 a0.2.2.2.2.2.2.2]), .sn S156] (by decide) rfl).snLe 1 rfl le158
                            refine hK _ _ (fun _ _ => HS) ?_
                            clear hK
                            refine d_alone 21 rfl (by kernel_rfl) (fun K hK => ?_)
                            refine g_yes (j := 12) (t := 157) h rfl rfl rfl rfl hB12 ?_
                            have hX := chatelaineref01_Same_ok Fu (S0 := snapAll _) A102 c103 x96.1 ((hs104.mono ((le111.trans le119).trans le158)).mono (h.m.leAll (i := 0) rfl)) A159 c160 x153 (hs161.mono (h.m.leAll (i := 0) rfl)) _ h163 _ h.startAll
                            refine q_callX hX h rfl rfl rfl (by decide) Try.func13 rfl rfl rfl (fun a w v L1 S1 hR hb1 h => ?_)
                            obtain ⟨rfl, rfl, _⟩ := hR
                            refine hK _ _ (fun _ _ => HS.ext hb1) ?_
                            replace HS := HS.ext hb1
                            clear hK
                            refine d_takeP h (fun _ => HS) HN 22 rfl (by kernel_rfl) (by kernel_rfl) (by kernel_rfl) (by decide) (by rw [g_want h rfl rfl rfl rfl hB12]; rfl) rfl (by decide) (fun w' => x_not h.k rfl rfl) (fun a h => ?_)
                            refine d_takeP h (fun _ => HS) HN 23 rfl (by kernel_rfl) (by kernel_rfl) (by kernel_rfl) (by decide) rfl rfl (by decide) (fun w' => x_pick (v := .bool z147) (u' := undef) h.k rfl rfl (fun hh => absurd (hB12.symm.trans hh) (by decide)) (fun _ => by rw [← Option.some.inj hz148]; rfl)) (fun a h => ?_)
                            refine d_done (by kernel_rfl) (HE _ _ ?_) _
                            refine e_thenN ?_
                            have h := h.pick [1, 0] (by decide) rfl
                            exact ⟨S156, le158, up157, h.has (by exact ⟨rfl, rfl, rfl, rfl, rfl, rfl, trivial⟩)⟩
                    obtain ⟨S165, le166, up167, h⟩ := h
                    refine e_thenN ?_
                    refine c_cond h rfl (fun hb => ?_) (fun hb => ?_)
                    · rw [if_pos hb] at hl94
                      refine c_rs ?_
                      refine sAV h (fun a h => ?_)
                      refine l_end ?_
                      refine wp_ret ?_
                      refine e_blkR ?_
                      refine e_thenR ?_
                      refine e_thenR ?_
                      refine e_blkR ?_
                      refine e_thenR ?_
                      cases hl94
                      try dsimp only at hf
                      refine e_thenR ?_
                      rw [← Option.some.inj hf]
                      exact r_ret1 h rfl (rv_tmp h rfl) ⟨_, [], _, rfl, ⟨rfl, rfl, trivial⟩, rfl, up167, (h.m.pick [1] _ (by decide) rfl)⟩
                    · rw [if_neg (by rw [hb]; decide)] at hl94
                      refine wp_skip ?_
                      refine e_blkN ?_
                      refine e_thenN ?_
                      refine c_r ?_
                      refine sX h (x_bin h.k rfl rfl rfl (ib_add rfl)) (fun a h => ?_)
                      refine sMV h (fun a h => ?_)
                      refine l_nil ?_
                      exact e_thenN ⟨m95, Nat.lt_succ_self _, S165, w64 (x89 + 1), hl94, ((((le87.trans le101).trans le111).trans le119).trans le166), up167, (w64_r _), h.has (by exact ⟨rfl, rfl, rfl, rfl, rfl, trivial⟩)⟩
                · rw [if_neg (of_decide_eq_false hb)] at hl94
                  refine wp_exit ?_
                  refine e_thenX ?_
                  refine e_thenX ?_
                  refine e_blkX ?_
                  refine e_thenN ?_
                  have h := h.pick [1] (by decide) rfl
                  exact ⟨S86, (Option.some.inj hl94), le87, up88, h.has trivial⟩
              · rintro a w ⟨S91, rfl, le92, up93, h⟩
                try dsimp only at hf
                refine e_thenN ?_
                refine c_rs ?_
                refine sAV h (fun a h => ?_)
                refine l_end ?_
                refine wp_ret ?_
                rw [← Option.some.inj hf]
                exact r_ret1 h rfl (rv_tmp h rfl) ⟨_, [], _, rfl, ⟨rfl, rfl, trivial⟩, rfl, up93, h.m⟩
end
end Go.Proofs.Ytohgmggdfmjgnaa
