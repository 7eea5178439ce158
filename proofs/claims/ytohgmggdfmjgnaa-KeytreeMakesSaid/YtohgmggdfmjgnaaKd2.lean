/- Texts put together. -/
import Derived.Test.YtohgmggdfmjgnaaPs
import Derived.Test.YtohgmggdfmjgnaaOpen
import Derived.Test.YtohgmggdfmjgnaaPx
import Derived.Test.YtohgmggdfmjgnaaK
import Derived.Test.YtohgmggdfmjgnaaKb2
import Derived.Test.YtohgmggdfmjgnaaKc2
import Derived.Test.YtohgmggdfmjgnaaEb
set_option linter.unusedVariables false
set_option linter.unusedSimpArgs false
namespace Go.Proofs.Ytohgmggdfmjgnaa
open Go.RowKit
section

end
section
def chatelainelaw21_awake (Fu : Nat) : Option Bool :=
  (chatelainelaw21_some Fu (1 : UInt8)).bind fun x1 => (keytree_Make Fu x1 ([(2 : UInt8)]) 5).bind fun x19 => (if ((decide (x19.2 = 0)) && (decide ((x19.1.length : Int) = 7))) = true then (keytree_Right Fu 5 x19.1).bind fun x36 => some x36 else some false).bind fun z34 => some z34
set_option maxRecDepth 100000 in
set_option maxHeartbeats 2000000 in
theorem chatelainelaw21_awake_ok (Fu : Nat) {S0 : Snap}  (r : Bool) (hf : chatelainelaw21_awake Fu = some r) (w0 : World) (hm : Mem w0 (ownL ([] ++ [.sn S0])) ([] ++ [.sn S0]) w0) :
    Calls Try.prog 7 #[] w0 (Ret w0 S0 [] (fun v L1 S1 => v = .bool r ∧ L1 = [] ∧ True)) := by
  unfold chatelainelaw21_awake at hf
  refine c_enterM Try.func7 rfl 20 rfl (by simp) _ hm _ rfl (fun a h => ?_)
  refine c_rs ?_ -- region 0
  refine s_assign h rfl _ rfl rfl (by decide) rfl (fun a h => ?_)
  refine l_end ?_
  refine c_rs ?_ -- region 1
  obtain ⟨x1, h2, hf⟩ := bsome hf
  have hX := chatelainelaw21_some_ok Fu (S0 := snapAll _) (1 : UInt8) _ h2 _ h.startAll
  refine q_callX hX h rfl rfl rfl (by decide) Try.func16 rfl rfl rfl (fun a w v L1 S1 hR hb1 h => ?_)
  obtain ⟨A4, c5, cs6, rfl, rfl, hq7, _⟩ := hR
  have hq8 := hq7.fl (S' := S0) fl_8
  refine q_bslice (T := ty8) (S := S0) h rfl rfl rfl (by decide) Try.underlying22 zi_uint8 (by decide) (by decide) (by decide) (by decide) [.int .u8 2] rfl rfl (C := [[.int .u8 2]]) rfl (xs := [(2 : UInt8)]) ⟨[.int .u8 2], _, rfl, rfl, rfl⟩ (by intro c hc; simp only [List.mem_cons, List.not_mem_nil, or_false] at hc; subst hc; rfl) (fun a w A9 h => ?_)
  have hb10 : reps ty8 S0 ([[.int .u8 2]] : List (List Value)).flatten [(2 : UInt8)] := ⟨[.int .u8 2], _, rfl, rfl, rfl⟩
  have h := h.pick [1, 2, 0] (by decide) rfl
  obtain ⟨S11, le12, up13, hs14, h⟩ := q_freeze (T := ty8) h (Up.refl _ _ _) hq8
  have h := h.pick [1, 0] (by decide) rfl
  obtain ⟨S15, le16, up17, hs18, h⟩ := q_freeze (T := ty8) h up13 (hb10.mono le12)
  obtain ⟨x19, h20, hf⟩ := bsome hf
  have hX := keytree_Make_ok Fu (S0 := S15) A4 c5 x1 (hs14.mono le16) A9 1 ([(2 : UInt8)]) hs18 5 (show r64 5 from ⟨by decide, by decide⟩) _ h20 _ (h.sub (Ls := []))
  refine q_callY (Ls := []) hX h up17 rfl rfl rfl (by decide) Try.func8 rfl rfl rfl (fun a w v L1 S22 hR le24 up23 h => ?_)
  obtain ⟨A25, c26, cs27, rfl, rfl, hq28, hr29, _⟩ := hR
  refine s_move h rfl _ rfl rfl (by decide) rfl (fun a h => ?_)
  refine s_x h rfl rfl (by decide) (x_ext h.k rfl rfl rfl) (fun a h => ?_)
  refine s_x h rfl rfl (by decide) (x_ext h.k rfl rfl rfl) (fun a h => ?_)
  refine s_assign h rfl _ rfl rfl (by decide) rfl (fun a h => ?_)
  refine s_assign h rfl _ rfl rfl (by decide) rfl (fun a h => ?_)
  refine l_end ?_
  refine c_rs ?_ -- region 2
  refine s_move h rfl _ rfl rfl (by decide) rfl (fun a h => ?_)
  refine s_x h rfl rfl (by decide) (x_bin h.k rfl rfl rfl ib_eql) (fun a h => ?_)
  refine s_move h rfl _ rfl rfl (by decide) rfl (fun a h => ?_)
  refine q_grp h 4 (t := 11) 15 ((decide (x19.2 = 0)) && (decide ((x19.1.length : Int) = 7))) rfl (fun hB2 => ?_) (fun hB2 => ?_) (fun a w h => ?_)
  · refine g_yes h rfl rfl rfl rfl hB2 ?_
    refine s_move h rfl _ rfl rfl (by decide) rfl (fun a h => ?_)
    refine g_yes h rfl rfl rfl rfl hB2 ?_
    have hr32 : r64 (x19.1.length : Int) := len_r (h.m.rowLen (i := 0) rfl)
    refine s_x h rfl rfl (by decide) (x_len h.k rfl Try.underlying24 rfl) (fun a h => ?_)
    refine g_yes h rfl rfl rfl rfl hB2 ?_
    refine s_x h rfl rfl (by decide) (x_bin h.k rfl rfl rfl ib_eql) (fun a h => ?_)
    refine s_x h rfl rfl (by decide) (x_pick (u' := undef) h.k rfl rfl (fun _ => rfl) (fun hh => absurd (hB2.symm.trans hh) (by decide))) (fun a h => ?_)
    exact (h.mid 3 rfl).val (by first | rfl | (rw [hB2]; first | rfl | simp))
  · refine g_no h rfl rfl rfl rfl hB2 rfl (by decide) (fun a h => ?_)
    refine g_no h rfl rfl rfl rfl hB2 rfl (by decide) (fun a h => ?_)
    refine g_no h rfl rfl rfl rfl hB2 rfl (by decide) (fun a h => ?_)
    refine s_x h rfl rfl (by decide) (x_pick (u' := undef) h.k rfl rfl (fun hh => absurd (hB2.symm.trans hh) (by decide)) (fun _ => rfl)) (fun a h => ?_)
    exact (h.mid 3 rfl).val (by first | rfl | (rw [hB2]; first | rfl | simp))
  refine s_move h rfl _ rfl rfl (by decide) rfl (fun a h => ?_)
  obtain ⟨z34, hz33, hf⟩ := bsome hf
  refine q_grp h 3 (t := 16) 19 z34 rfl (fun hB7 => ?_) (fun hB7 => ?_) (fun a w h => ?_)
  · rw [if_pos hB7] at hz33
    refine g_yes h rfl rfl rfl rfl hB7 ?_
    refine s_move h rfl _ rfl rfl (by decide) rfl (fun a h => ?_)
    refine g_yes h rfl rfl rfl rfl hB7 ?_
    obtain ⟨x36, h37, hz33⟩ := bsome hz33
    have hX := keytree_Right_ok Fu (S0 := snapAll _) 5 (show r64 5 from ⟨by decide, by decide⟩) A25 c26 x19.1 (h.m.rowAll (i := 0) rfl (j := 1) rfl hq28) _ h37 _ h.startAll
    refine q_callX hX h rfl rfl rfl (by decide) Try.func10 rfl rfl rfl (fun a w v L1 S1 hR hb1 h => ?_)
    obtain ⟨rfl, rfl, _⟩ := hR
    refine s_x h rfl rfl (by decide) (x_pick (u' := undef) h.k rfl rfl (fun _ => rfl) (fun hh => absurd (hB7.symm.trans hh) (by decide))) (fun a h => ?_)
    exact (h.mid 2 rfl).val (by rw [Option.some.inj hz33])
  · refine g_no h rfl rfl rfl rfl hB7 rfl (by decide) (fun a h => ?_)
    refine g_no h rfl rfl rfl rfl hB7 rfl (by decide) (fun a h => ?_)
    rw [if_neg (by rw [hB7]; decide)] at hz33
    refine s_x h rfl rfl (by decide) (x_pick (u' := undef) h.k rfl rfl (fun hh => absurd (hB7.symm.trans hh) (by decide)) (fun _ => rfl)) (fun a h => ?_)
    exact (h.mid 2 rfl).val (by rw [Option.some.inj hz33])
  refine s_assign h rfl _ rfl rfl (by decide) rfl (fun a h => ?_)
  refine l_end ?_
  refine wp_ret ?_
  rw [← Option.some.inj hf]
  exact r_ret1 h rfl (rv_tmp h rfl) ⟨_, [], _, rfl, ⟨rfl, rfl, trivial⟩, rfl, up23, (h.m.pick [1] _ (by decide) rfl)⟩
def chatelainelaw21_KeytreeMakes_l0 (Fu : Nat) (a0 : List UInt8) (a1 : List UInt8) (a2 : Int) (x10 : (List (List UInt8)) × Int) : Nat → Int → Option (Sum Bool Unit)
  | 0, _ => none
  | k + 1, x51 => if x51 < a2 then ((keytree_Leaf Fu a0 a2 x10.1 x51).bind fun x58 => (if x58.2 ≠ 0 then some true else (chatelainelaw21_depth Fu a2).bind fun x76 => (chatelainelaw21_fresh Fu a1 x76 x51).bind fun x80 => (chatelaineref01_Same Fu x58.1 x80).bind fun x89 => some (!x89)).bind fun x73 => if x73 = true then (some (.inl false)) else (chatelainelaw21_KeytreeMakes_l0 Fu a0 a1 a2 x10 k (w64 (x51 + 1)))) else (some (.inr ()))
def chatelainelaw21_KeytreeMakes (Fu : Nat) (a0 : List UInt8) (a1 : List UInt8) (a2 : Int) : Option Bool :=
  (chatelainelaw21_awake Fu).bind fun x1 => if (!x1) = true then (some false) else (if (((decide (100 < (a0.length : Int))) || (decide (100 < (a1.length : Int)))) || ((decide (24 < a2)) && (decide (a2 ≤ 4096)))) = true then (some true) else ((keytree_Make Fu a0 a1 a2).bind fun x10 => (chatelaineref20_May Fu a2).bind fun x25 => if (!x25) = true then (some ((decide (x10.2 = 2)) && (decide ((x10.1.length : Int) = 0)))) else (if ((decide ((a0.length : Int) ≠ 32)) || (decide ((a1.length : Int) = 0))) = true then (some ((decide (x10.2 = 20)) && (decide ((x10.1.length : Int) = 0)))) else ((if x10.2 ≠ 0 then some true else (keytree_Right Fu a2 x10.1).bind fun x37 => some (!x37)).bind fun z35 => (if z35 = true then some true else (chatelainelaw21_right Fu a2 x10.1).bind fun x43 => some (!x43)).bind fun z41 => if z41 = true then (some false) else ((chatelainelaw21_KeytreeMakes_l0 Fu a0 a1 a2 x10 Fu 0).bind fun o => match o with | .inl r146 => some r146 | .inr _ => (keytree_Leaf Fu a0 a2 x10.1 a2).bind fun x92 => (sub a0 1 (a0.length : Int)).bind fun x102 => (keytree_Leaf Fu x102 a2 x10.1 0).bind fun x112 => (sub x10.1 1 (x10.1.length : Int)).bind fun x122 => (keytree_Leaf Fu a0 a2 x122 0).bind fun x132 => some (((decide (x92.2 = 2)) && (decide (x112.2 = 20))) && (decide (x132.2 = 2))))))))
set_option maxRecDepth 100000 in
set_option maxHeartbeats 2000000 in
theorem chatelainelaw21_KeytreeMakes_ok (Fu : Nat) {S0 : Snap} (Aa0 : Option Addr) (ca0 : Nat) (a0 : List UInt8) (hsa0 : slS ty8 S0 Aa0 ca0 a0) (Aa1 : Option Addr) (ca1 : Nat) (a1 : List UInt8) (hsa1 : slS ty8 S0 Aa1 ca1 a1) (a2 : Int) (hra2 : r64 a2) (r : Bool) (hf : chatelainelaw21_KeytreeMakes Fu a0 a1 a2 = some r) (w0 : World) (hm : Mem w0 (ownL ([] ++ [.sn S0])) ([] ++ [.sn S0]) w0) :
    Calls Try.prog 3 #[.slice Aa0 a0.length ca0, .slice Aa1 a1.length ca1, .int .i64 a2] w0 (Ret w0 S0 [] (fun v L1 S1 => v = .bool r ∧ L1 = [] ∧ True)) := by
  unfold chatelainelaw21_KeytreeMakes at hf
  refine c_enterM Try.func3 rfl 143 rfl (by simp) _ hm _ rfl (fun a h => ?_)
  refine c_rs ?_ -- region 0
  refine s_assign h rfl _ rfl rfl (by decide) rfl (fun a h => ?_)
  refine l_end ?_
  refine wp_seq ?_
  refine c_rs ?_ -- region 1
  obtain ⟨x1, h2, hf⟩ := bsome hf
  have hX := chatelainelaw21_awake_ok Fu (S0 := snapAll _)  _ h2 _ h.startAll
  refine q_callX hX h rfl rfl rfl (by decide) Try.func7 rfl rfl rfl (fun a w v L1 S1 hR hb1 h => ?_)
  obtain ⟨rfl, rfl, _⟩ := hR
  refine s_x h rfl rfl (by decide) (x_not h.k rfl rfl) (fun a h => ?_)
  refine l_end ?_
  refine c_cond h rfl (fun hb => ?_) (fun hb => ?_)
  · rw [if_pos hb] at hf
    refine c_rs ?_ -- region 2
    refine s_assign h rfl _ rfl rfl (by decide) rfl (fun a h => ?_)
    refine l_end ?_
    refine wp_ret ?_
    refine e_thenR ?_
    rw [← Option.some.inj hf]
    exact r_ret1 h rfl (rv_tmp h rfl) ⟨_, [], _, rfl, ⟨rfl, rfl, trivial⟩, rfl, (Up.refl _ _ _), h.m⟩
  · rw [if_neg (by rw [hb]; decide)] at hf
    refine wp_skip ?_
    refine e_thenN ?_
    refine wp_seq ?_
    refine c_rs ?_ -- region 3
    refine s_move h rfl _ rfl rfl (by decide) rfl (fun a h => ?_)
    refine s_x h rfl rfl (by decide) (x_len h.k rfl Try.underlying22 rfl) (fun a h => ?_)
    refine s_x h rfl rfl (by decide) (x_bin h.k rfl rfl rfl ib_gtr) (fun a h => ?_)
    refine s_move h rfl _ rfl rfl (by decide) rfl (fun a h => ?_)
    refine q_grp h 4 (t := 23) 27 ((decide (100 < (a0.length : Int))) || (decide (100 < (a1.length : Int)))) rfl (fun hB3 => ?_) (fun hB3 => ?_) (fun a w h => ?_)
    · refine g_no h rfl rfl rfl rfl hB3 rfl (by decide) (fun a h => ?_)
      refine g_no h rfl rfl rfl rfl hB3 rfl (by decide) (fun a h => ?_)
      refine g_no h rfl rfl rfl rfl hB3 rfl (by decide) (fun a h => ?_)
      refine s_x h rfl rfl (by decide) (x_pick (u' := undef) h.k rfl rfl (fun _ => rfl) (fun hh => absurd (hB3.symm.trans hh) (by decide))) (fun a h => ?_)
      exact (h.mid 3 rfl).val (by first | rfl | (rw [hB3]; first | rfl | simp))
    · refine g_yes h rfl rfl rfl rfl hB3 ?_
      refine s_move h rfl _ rfl rfl (by decide) rfl (fun a h => ?_)
      refine g_yes h rfl rfl rfl rfl hB3 ?_
      refine s_x h rfl rfl (by decide) (x_len h.k rfl Try.underlying22 rfl) (fun a h => ?_)
      refine g_yes h rfl rfl rfl rfl hB3 ?_
      refine s_x h rfl rfl (by decide) (x_bin h.k rfl rfl rfl ib_gtr) (fun a h => ?_)
      refine s_x h rfl rfl (by decide) (x_pick (u' := undef) h.k rfl rfl (fun hh => absurd (hB3.symm.trans hh) (by decide)) (fun _ => rfl)) (fun a h => ?_)
      exact (h.mid 3 rfl).val (by first | rfl | (rw [hB3]; first | rfl | simp))
    refine s_move h rfl _ rfl rfl (by decide) rfl (fun a h => ?_)
    refine q_grp h 7 (t := 28) 35 (((decide (100 < (a0.length : Int))) || (decide (100 < (a1.length : Int)))) || ((decide (24 < a2)) && (decide (a2 ≤ 4096)))) rfl (fun hB8 => ?_) (fun hB8 => ?_) (fun a w h => ?_)
    · refine g_no h rfl rfl rfl rfl hB8 rfl (by decide) (fun a h => ?_)
      refine g_no h rfl rfl rfl rfl hB8 rfl (by decide) (fun a h => ?_)
      refine g_no h rfl rfl rfl rfl hB8 rfl (by decide) (fun a h => ?_)
      refine g_off h rfl rfl rfl rfl rfl (by decide) (fun a h => ?_)
      refine g_off h rfl rfl rfl rfl rfl (by decide) (fun a h => ?_)
      refine g_no h rfl rfl rfl rfl hB8 rfl (by decide) (fun a h => ?_)
      refine s_x h rfl rfl (by decide) (x_pick (u' := undef) h.k rfl rfl (fun _ => rfl) (fun hh => absurd (hB8.symm.trans hh) (by decide))) (fun a h => ?_)
      exact (h.mid 6 rfl).val (by first | rfl | (rw [hB8]; first | rfl | simp))
    · refine g_yes h rfl rfl rfl rfl hB8 ?_
      refine s_move h rfl _ rfl rfl (by decide) rfl (fun a h => ?_)
      refine g_yes h rfl rfl rfl rfl hB8 ?_
      refine s_x h rfl rfl (by decide) (x_bin h.k rfl rfl rfl ib_gtr) (fun a h => ?_)
      refine g_yes h rfl rfl rfl rfl hB8 ?_
      refine s_move h rfl _ rfl rfl (by decide) rfl (fun a h => ?_)
      refine q_grp h 3 (t := 31) 34 ((decide (24 < a2)) && (decide (a2 ≤ 4096))) rfl (fun hB11 => ?_) (fun hB11 => ?_) (fun a w h => ?_)
      · refine g_yes h rfl rfl rfl rfl hB11 ?_
        refine s_move h rfl _ rfl rfl (by decide) rfl (fun a h => ?_)
        refine g_yes h rfl rfl rfl rfl hB11 ?_
        refine s_x h rfl rfl (by decide) (x_bin h.k rfl rfl rfl ib_leq) (fun a h => ?_)
        refine g_yes h rfl rfl rfl rfl hB8 ?_
        refine s_x h rfl rfl (by decide) (x_pick (u' := undef) h.k rfl rfl (fun _ => rfl) (fun hh => absurd (hB11.symm.trans hh) (by decide))) (fun a h => ?_)
        exact (h.mid 2 rfl).val (by first | rfl | (rw [hB11]; first | rfl | simp))
      · refine g_no h rfl rfl rfl rfl hB11 rfl (by decide) (fun a h => ?_)
        refine g_no h rfl rfl rfl rfl hB11 rfl (by decide) (fun a h => ?_)
        refine g_yes h rfl rfl rfl rfl hB8 ?_
        refine s_x h rfl rfl (by decide) (x_pick (u' := undef) h.k rfl rfl (fun hh => absurd (hB11.symm.trans hh) (by decide)) (fun _ => rfl)) (fun a h => ?_)
        exact (h.mid 2 rfl).val (by first | rfl | (rw [hB11]; first | rfl | simp))
      refine s_x h rfl rfl (by decide) (x_pick (u' := undef) h.k rfl rfl (fun hh => absurd (hB8.symm.trans hh) (by decide)) (fun _ => rfl)) (fun a h => ?_)
      exact (h.mid 4 rfl).val (by first | rfl | (rw [hB8]; first | rfl | simp))
    refine l_end ?_
    refine c_cond h rfl (fun hb => ?_) (fun hb => ?_)
    · rw [if_pos hb] at hf
      refine c_rs ?_ -- region 4
      refine s_assign h rfl _ rfl rfl (by decide) rfl (fun a h => ?_)
      refine l_end ?_
      refine wp_ret ?_
      refine e_thenR ?_
      rw [← Option.some.inj hf]
      exact r_ret1 h rfl (rv_tmp h rfl) ⟨_, [], _, rfl, ⟨rfl, rfl, trivial⟩, rfl, (Up.refl _ _ _), h.m⟩
    · rw [if_neg (by rw [hb]; decide)] at hf
      refine wp_skip ?_
      refine e_thenN ?_
      refine c_rs ?_ -- region 5
      refine s_move h rfl _ rfl rfl (by decide) rfl (fun a h => ?_)
      refine s_move h rfl _ rfl rfl (by decide) rfl (fun a h => ?_)
      refine s_move h rfl _ rfl rfl (by decide) rfl (fun a h => ?_)
      obtain ⟨x10, h11, hf⟩ := bsome hf
      have hX := keytree_Make_ok Fu (S0 := S0) Aa0 ca0 a0 hsa0 Aa1 ca1 a1 hsa1 a2 hra2 _ h11 _ (h.sub (Ls := []))
      refine q_callY (Ls := []) hX h (Up.refl _ _ _) rfl rfl rfl (by decide) Try.func8 rfl rfl rfl (fun a w v L1 S13 hR le15 up14 h => ?_)
      obtain ⟨A16, c17, cs18, rfl, rfl, hq19, hr20, _⟩ := hR
      refine s_move h rfl _ rfl rfl (by decide) rfl (fun a h => ?_)
      refine s_x h rfl rfl (by decide) (x_ext h.k rfl rfl rfl) (fun a h => ?_)
      refine s_x h rfl rfl (by decide) (x_ext h.k rfl rfl rfl) (fun a h => ?_)
      obtain ⟨S21, le22, up23, hs24, h⟩ := q_freeze (T := tyL ty8) h up14 hq19
      refine s_assign h rfl _ rfl rfl (by decide) rfl (fun a h => ?_)
      refine s_assign h rfl _ rfl rfl (by decide) rfl (fun a h => ?_)
      refine l_end ?_
      refine wp_seq ?_
      refine wp_block ?_
      refine c_rs ?_ -- region 6
      refine s_move h rfl _ rfl rfl (by decide) rfl (fun a h => ?_)
      obtain ⟨x25, h26, hf⟩ := bsome hf
      have hX := chatelaineref20_May_ok Fu (S0 := snapAll _) a2 hra2 _ h26 _ h.startAll
      refine q_callX hX h rfl rfl rfl (by decide) Try.func9 rfl rfl rfl (fun a w v L1 S1 hR hb1 h => ?_)
      obtain ⟨rfl, rfl, _⟩ := hR
      refine s_x h rfl rfl (by decide) (x_not h.k rfl rfl) (fun a h => ?_)
      refine s_assign h rfl _ rfl rfl (by decide) rfl (fun a h => ?_)
      refine l_end ?_
      refine c_cond h rfl (fun hb => ?_) (fun hb => ?_)
      · rw [if_pos hb] at hf
        refine c_rs ?_ -- region 7
        refine s_move h rfl _ rfl rfl (by decide) rfl (fun a h => ?_)
        refine s_x h rfl rfl (by decide) (x_bin h.k rfl rfl rfl ib_eql) (fun a h => ?_)
        refine s_move h rfl _ rfl rfl (by decide) rfl (fun a h => ?_)
        refine q_grp h 4 (t := 49) 53 ((decide (x10.2 = 2)) && (decide ((x10.1.length : Int) = 0))) rfl (fun hB2 => ?_) (fun hB2 => ?_) (fun a w h => ?_)
        · refine g_yes h rfl rfl rfl rfl hB2 ?_
          refine s_move h rfl _ rfl rfl (by decide) rfl (fun a h => ?_)
          refine g_yes h rfl rfl rfl rfl hB2 ?_
          refine s_x h rfl rfl (by decide) (x_len h.k rfl Try.underlying24 rfl) (fun a h => ?_)
          refine g_yes h rfl rfl rfl rfl hB2 ?_
          refine s_x h rfl rfl (by decide) (x_bin h.k rfl rfl rfl ib_eql) (fun a h => ?_)
          refine s_x h rfl rfl (by decide) (x_pick (u' := undef) h.k rfl rfl (fun _ => rfl) (fun hh => absurd (hB2.symm.trans hh) (by decide))) (fun a h => ?_)
          exact (h.mid 3 rfl).val (by first | rfl | (rw [hB2]; first | rfl | simp))
        · refine g_no h rfl rfl rfl rfl hB2 rfl (by decide) (fun a h => ?_)
          refine g_no h rfl rfl rfl rfl hB2 rfl (by decide) (fun a h => ?_)
          refine g_no h rfl rfl rfl rfl hB2 rfl (by decide) (fun a h => ?_)
          refine s_x h rfl rfl (by decide) (x_pick (u' := undef) h.k rfl rfl (fun hh => absurd (hB2.symm.trans hh) (by decide)) (fun _ => rfl)) (fun a h => ?_)
          exact (h.mid 3 rfl).val (by first | rfl | (rw [hB2]; first | rfl | simp))
        refine s_assign h rfl _ rfl rfl (by decide) rfl (fun a h => ?_)
        refine l_end ?_
        refine wp_ret ?_
        refine e_blkR ?_
        refine e_thenR ?_
        obtain rfl := Option.some.inj hf
        exact r_ret1 h rfl (rv_tmp h rfl) ⟨_, [], _, rfl, ⟨rfl, rfl, trivial⟩, rfl, up23, h.m⟩
      · rw [if_neg (by rw [hb]; decide)] at hf
        refine c_rs ?_ -- region 8
        refine s_move h rfl _ rfl rfl (by decide) rfl (fun a h => ?_)
        refine s_x h rfl rfl (by decide) (x_len h.k rfl Try.underlying22 rfl) (fun a h => ?_)
        refine s_x h rfl rfl (by decide) (x_bin h.k rfl rfl rfl ib_neq) (fun a h => ?_)
        refine s_move h rfl _ rfl rfl (by decide) rfl (fun a h => ?_)
        refine q_grp h 4 (t := 58) 62 ((decide ((a0.length : Int) ≠ 32)) || (decide ((a1.length : Int) = 0))) rfl (fun hB3 => ?_) (fun hB3 => ?_) (fun a w h => ?_)
        · refine g_no h rfl rfl rfl rfl hB3 rfl (by decide) (fun a h => ?_)
          refine g_no h rfl rfl rfl rfl hB3 rfl (by decide) (fun a h => ?_)
          refine g_no h rfl rfl rfl rfl hB3 rfl (by decide) (fun a h => ?_)
          refine s_x h rfl rfl (by decide) (x_pick (u' := undef) h.k rfl rfl (fun _ => rfl) (fun hh => absurd (hB3.symm.trans hh) (by decide))) (fun a h => ?_)
          exact (h.mid 3 rfl).val (by first | rfl | (rw [hB3]; first | rfl | simp))
        · refine g_yes h rfl rfl rfl rfl hB3 ?_
          refine s_move h rfl _ rfl rfl (by decide) rfl (fun a h => ?_)
          refine g_yes h rfl rfl rfl rfl hB3 ?_
          refine s_x h rfl rfl (by decide) (x_len h.k rfl Try.underlying22 rfl) (fun a h => ?_)
          refine g_yes h rfl rfl rfl rfl hB3 ?_
          refine s_x h rfl rfl (by decide) (x_bin h.k rfl rfl rfl ib_eql) (fun a h => ?_)
          refine s_x h rfl rfl (by decide) (x_pick (u' := undef) h.k rfl rfl (fun hh => absurd (hB3.symm.trans hh) (by decide)) (fun _ => rfl)) (fun a h => ?_)
          exact (h.mid 3 rfl).val (by first | rfl | (rw [hB3]; first | rfl | simp))
        refine s_assign h rfl _ rfl rfl (by decide) rfl (fun a h => ?_)
        refine l_end ?_
        refine c_cond h rfl (fun hb => ?_) (fun hb => ?_)
        · rw [if_pos hb] at hf
          refine c_rs ?_ -- region 9
          refine s_move h rfl _ rfl rfl (by decide) rfl (fun a h => ?_)
          refine s_x h rfl rfl (by decide) (x_bin h.k rfl rfl rfl ib_eql) (fun a h => ?_)
          refine s_move h rfl _ rfl rfl (by decide) rfl (fun a h => ?_)
          refine q_grp h 4 (t := 65) 69 ((decide (x10.2 = 20)) && (decide ((x10.1.length : Int) = 0))) rfl (fun hB2 => ?_) (fun hB2 => ?_) (fun a w h => ?_)
          · refine g_yes h rfl rfl rfl rfl hB2 ?_
            refine s_move h rfl _ rfl rfl (by decide) rfl (fun a h => ?_)
            refine g_yes h rfl rfl rfl rfl hB2 ?_
            refine s_x h rfl rfl (by decide) (x_len h.k rfl Try.underlying24 rfl) (fun a h => ?_)
            refine g_yes h rfl rfl rfl rfl hB2 ?_
            refine s_x h rfl rfl (by decide) (x_bin h.k rfl rfl rfl ib_eql) (fun a h => ?_)
            refine s_x h rfl rfl (by decide) (x_pick (u' := undef) h.k rfl rfl (fun _ => rfl) (fun hh => absurd (hB2.symm.trans hh) (by decide))) (fun a h => ?_)
            exact (h.mid 3 rfl).val (by first | rfl | (rw [hB2]; first | rfl | simp))
          · refine g_no h rfl rfl rfl rfl hB2 rfl (by decide) (fun a h => ?_)
            refine g_no h rfl rfl rfl rfl hB2 rfl (by decide) (fun a h => ?_)
            refine g_no h rfl rfl rfl rfl hB2 rfl (by decide) (fun a h => ?_)
            refine s_x h rfl rfl (by decide) (x_pick (u' := undef) h.k rfl rfl (fun hh => absurd (hB2.symm.trans hh) (by decide)) (fun _ => rfl)) (fun a h => ?_)
            exact (h.mid 3 rfl).val (by first | rfl | (rw [hB2]; first | rfl | simp))
          refine s_assign h rfl _ rfl rfl (by decide) rfl (fun a h => ?_)
          refine l_end ?_
          refine wp_ret ?_
          refine e_blkR ?_
          refine e_thenR ?_
          obtain rfl := Option.some.inj hf
          exact r_ret1 h rfl (rv_tmp h rfl) ⟨_, [], _, rfl, ⟨rfl, rfl, trivial⟩, rfl, up23, h.m⟩
        · rw [if_neg (by rw [hb]; decide)] at hf
          refine wp_skip ?_
          refine e_blkN ?_
          refine e_thenN ?_
          refine wp_seq ?_
          refine c_rs ?_ -- region 10
          refine s_move h rfl _ rfl rfl (by decide) rfl (fun a h => ?_)
          refine s_x h rfl rfl (by decide) (x_bin h.k rfl rfl rfl ib_neq) (fun a h => ?_)
          refine s_move h rfl _ rfl rfl (by decide) rfl (fun a h => ?_)
          obtain ⟨z35, hz34, hf⟩ := bsome hf
          refine q_grp h 5 (t := 72) 77 z35 rfl (fun hB2 => ?_) (fun hB2 => ?_) (fun a w h => ?_)
          · refine g_no h rfl rfl rfl rfl hB2 rfl (by decide) (fun a h => ?_)
            refine g_no h rfl rfl rfl rfl hB2 rfl (by decide) (fun a h => ?_)
            refine g_no h rfl rfl rfl rfl hB2 rfl (by decide) (fun a h => ?_)
            refine g_no h rfl rfl rfl rfl hB2 rfl (by decide) (fun a h => ?_)
            rw [if_pos (of_decide_eq_true hB2)] at hz34
            refine s_x h rfl rfl (by decide) (x_pick (u' := undef) h.k rfl rfl (fun _ => rfl) (fun hh => absurd (hB2.symm.trans hh) (by decide))) (fun a h => ?_)
            exact (h.mid 4 rfl).val (by rw [Option.some.inj hz34])
          · rw [if_neg (of_decide_eq_false hB2)] at hz34
            refine g_yes h rfl rfl rfl rfl hB2 ?_
            refine s_move h rfl _ rfl rfl (by decide) rfl (fun a h => ?_)
            refine g_yes h rfl rfl rfl rfl hB2 ?_
            refine s_move h rfl _ rfl rfl (by decide) rfl (fun a h => ?_)
            refine g_yes h rfl rfl rfl rfl hB2 ?_
            obtain ⟨x37, h38, hz34⟩ := bsome hz34
            have hX := keytree_Right_ok Fu (S0 := snapAll _) a2 hra2 A16 c17 x10.1 (hs24.mono (h.m.leAll (i := 0) rfl)) _ h38 _ h.startAll
            refine q_callX hX h rfl rfl rfl (by decide) Try.func10 rfl rfl rfl (fun a w v L1 S1 hR hb1 h => ?_)
            obtain ⟨rfl, rfl, _⟩ := hR
            refine g_yes h rfl rfl rfl rfl hB2 ?_
            refine s_x h rfl rfl (by decide) (x_not h.k rfl rfl) (fun a h => ?_)
            refine s_x h rfl rfl (by decide) (x_pick (u' := undef) h.k rfl rfl (fun hh => absurd (hB2.symm.trans hh) (by decide)) (fun _ => rfl)) (fun a h => ?_)
            exact (h.mid 4 rfl).val (by rw [Option.some.inj hz34])
          refine s_move h rfl _ rfl rfl (by decide) rfl (fun a h => ?_)
          obtain ⟨z41, hz40, hf⟩ := bsome hf
          refine q_grp h 5 (t := 78) 83 z41 rfl (fun hB8 => ?_) (fun hB8 => ?_) (fun a w h => ?_)
          · refine g_no h rfl rfl rfl rfl hB8 rfl (by decide) (fun a h => ?_)
            refine g_no h rfl rfl rfl rfl hB8 rfl (by decide) (fun a h => ?_)
            refine g_no h rfl rfl rfl rfl hB8 rfl (by decide) (fun a h => ?_)
            refine g_no h rfl rfl rfl rfl hB8 rfl (by decide) (fun a h => ?_)
            rw [if_pos hB8] at hz40
            refine s_x h rfl rfl (by decide) (x_pick (u' := undef) h.k rfl rfl (fun _ => rfl) (fun hh => absurd (hB8.symm.trans hh) (by decide))) (fun a h => ?_)
            exact (h.mid 4 rfl).val (by rw [Option.some.inj hz40])
          · rw [if_neg (by rw [hB8]; decide)] at hz40
            refine g_yes h rfl rfl rfl rfl hB8 ?_
            refine s_move h rfl _ rfl rfl (by decide) rfl (fun a h => ?_)
            refine g_yes h rfl rfl rfl rfl hB8 ?_
            refine s_move h rfl _ rfl rfl (by decide) rfl (fun a h => ?_)
            refine g_yes h rfl rfl rfl rfl hB8 ?_
            obtain ⟨x43, h44, hz40⟩ := bsome hz40
            have hX := chatelainelaw21_right_ok Fu (S0 := snapAll _) a2 hra2 A16 c17 x10.1 (hs24.mono (h.m.leAll (i := 0) rfl)) _ h44 _ h.startAll
            refine q_callX hX h rfl rfl rfl (by decide) Try.func11 rfl rfl rfl (fun a w v L1 S1 hR hb1 h => ?_)
            obtain ⟨rfl, rfl, _⟩ := hR
            refine g_yes h rfl rfl rfl rfl hB8 ?_
            refine s_x h rfl rfl (by decide) (x_not h.k rfl rfl) (fun a h => ?_)
            refine s_x h rfl rfl (by decide) (x_pick (u' := undef) h.k rfl rfl (fun hh => absurd (hB8.symm.trans hh) (by decide)) (fun _ => rfl)) (fun a h => ?_)
            exact (h.mid 4 rfl).val (by rw [Option.some.inj hz40])
          refine l_end ?_
          refine c_cond h rfl (fun hb => ?_) (fun hb => ?_)
          · rw [if_pos hb] at hf
            refine c_rs ?_ -- region 11
            refine s_assign h rfl _ rfl rfl (by decide) rfl (fun a h => ?_)
            refine l_end ?_
            refine wp_ret ?_
            refine e_thenR ?_
            rw [← Option.some.inj hf]
            exact r_ret1 h rfl (rv_tmp h rfl) ⟨_, [], _, rfl, ⟨rfl, rfl, trivial⟩, rfl, up23, h.m⟩
          · rw [if_neg (by rw [hb]; decide)] at hf
            refine wp_skip ?_
            refine e_thenN ?_
            refine wp_seq ?_
            refine c_rs ?_ -- region 12
            refine s_move h rfl _ rfl rfl (by decide) rfl (fun a h => ?_)
            refine s_move h rfl _ rfl rfl (by decide) rfl (fun a h => ?_)
            refine l_end ?_
            obtain ⟨o46, hl47, hf⟩ := bsome hf
            refine c_fin (fun a w => ∃ (S53 : Snap), (.inr ()) = o46 ∧ Snap.le S21 S53 ∧ Up (ownL ([] ++ [.sn S0])) w0 S0 S53 ∧ St 143 w0 (ownL ([] ++ [.sn S0])) [(0, .slice Aa0 a0.length ca0), (2, .int .i64 a2), (7, .slice A16 x10.1.length c17)] [.sn S53] a w) ?_ ?_
            · refine wp_block ?_
              refine c_loop (fun m57 a w => ∃ (S48 : Snap), ∃ (x51 : Int), chatelainelaw21_KeytreeMakes_l0 Fu a0 a1 a2 x10 m57 x51 = some o46 ∧ Snap.le S21 S48 ∧ Up (ownL ([] ++ [.sn S0])) w0 S0 S48 ∧ r64 x51 ∧ St 143 w0 (ownL ([] ++ [.sn S0])) [(0, .slice Aa0 a0.length ca0), (1, .slice Aa1 a1.length ca1), (2, .int .i64 a2), (7, .slice A16 x10.1.length c17), (84, .int .i64 a2), (85, .int .i64 x51)] [.sn S48] a w) Fu ⟨S21, 0, hl47, (Snap.le.refl _), up23, (show r64 0 from ⟨by decide, by decide⟩), h.has (by exact ⟨rfl, rfl, rfl, rfl, rfl, rfl, trivial⟩)⟩ (fun m57 a w hI => ?_)
              obtain ⟨S48, x51, hl56, le49, up50, hr52, h⟩ := hI
              obtain _ | m57 := m57
              · rw [chatelainelaw21_KeytreeMakes_l0] at hl56; cases hl56
              rw [chatelainelaw21_KeytreeMakes_l0] at hl56
              refine c_rs ?_ -- region 13
              refine s_x h rfl rfl (by decide) (x_bin h.k rfl rfl rfl ib_lss) (fun a h => ?_)
              refine l_end ?_
              refine c_cs h rfl (fun hb => ?_) (fun hb => ?_)
              · rw [if_pos (of_decide_eq_true hb)] at hl56
                refine wp_skip ?_
                refine e_thenN ?_
                refine wp_seq ?_
                refine wp_block ?_
                refine c_rs ?_ -- region 14
                refine s_move h rfl _ rfl rfl (by decide) rfl (fun a h => ?_)
                refine s_assign h rfl _ rfl rfl (by decide) rfl (fun a h => ?_)
                refine l_end ?_
                refine c_rs ?_ -- region 15
                refine s_move h rfl _ rfl rfl (by decide) rfl (fun a h => ?_)
                refine s_move h rfl _ rfl rfl (by decide) rfl (fun a h => ?_)
                refine s_move h rfl _ rfl rfl (by decide) rfl (fun a h => ?_)
                refine s_move h rfl _ rfl rfl (by decide) rfl (fun a h => ?_)
                obtain ⟨x58, h59, hl56⟩ := bsome hl56
                have hX := keytree_Leaf_ok Fu (S0 := S48) Aa0 ca0 a0 (hsa0.mono ((le15.trans le22).trans le49)) a2 hra2 A16 c17 x10.1 (hs24.mono le49) x51 hr52 _ h59 _ (h.sub (Ls := []))
                refine q_callY (Ls := []) hX h up50 rfl rfl rfl (by decide) Try.func12 rfl rfl rfl (fun a w v L1 S61 hR le63 up62 h => ?_)
                obtain ⟨A64, c65, rfl, rfl, hs66, hr67, _⟩ := hR
                refine s_move h rfl _ rfl rfl (by decide) rfl (fun a h => ?_)
                refine s_x h rfl rfl (by decide) (x_ext h.k rfl rfl rfl) (fun a h => ?_)
                refine s_x h rfl rfl (by decide) (x_ext h.k rfl rfl rfl) (fun a h => ?_)
                refine s_assign h rfl _ rfl rfl (by decide) rfl (fun a h => ?_)
                refine s_assign h rfl _ rfl rfl (by decide) rfl (fun a h => ?_)
                refine l_end ?_
                refine c_rs ?_ -- region 16
                refine s_move h rfl _ rfl rfl (by decide) rfl (fun a h => ?_)
                refine s_x h rfl rfl (by decide) (x_bin h.k rfl rfl rfl ib_neq) (fun a h => ?_)
                refine s_move h rfl _ rfl rfl (by decide) rfl (fun a h => ?_)
                obtain ⟨o74, hz75, hl56⟩ := bsome hl56
                refine q_grpR h 9 (t := 98) (fun a w => ∃ (S70 : Snap), ∃ (x73 : Bool), x73 = o74 ∧ Snap.le S61 S70 ∧ Up (ownL ([] ++ [.sn S0])) w0 S0 S70 ∧ St 143 w0 (ownL ([] ++ [.sn S0])) [(0, .slice Aa0 a0.length ca0), (1, .slice Aa1 a1.length ca1), (2, .int .i64 a2), (7, .slice A16 x10.1.length c17), (84, .int .i64 a2), (85, .int .i64 x51), (107, .bool x73)] [.sn S70] a w) rfl (fun hB2 => ?_) (fun hB2 => ?_) ?_
                · rw [if_pos (of_decide_eq_true hB2)] at hz75
                  refine g_no h rfl rfl rfl rfl hB2 rfl (by decide) (fun a h => ?_)
                  refine g_no h rfl rfl rfl rfl hB2 rfl (by decide) (fun a h => ?_)
                  refine g_no h rfl rfl rfl rfl hB2 rfl (by decide) (fun a h => ?_)
                  refine g_no h rfl rfl rfl rfl hB2 rfl (by decide) (fun a h => ?_)
                  refine g_no h rfl rfl rfl rfl hB2 rfl (by decide) (fun a h => ?_)
                  refine g_no h rfl rfl rfl rfl hB2 rfl (by decide) (fun a h => ?_)
                  refine g_no h rfl rfl rfl rfl hB2 rfl (by decide) (fun a h => ?_)
                  refine g_no h rfl rfl rfl rfl hB2 rfl (by decide) (fun a h => ?_)
                  refine s_x h rfl rfl (by decide) (x_pick (u' := undef) h.k rfl rfl (fun _ => rfl) (fun hh => absurd (hB2.symm.trans hh) (by decide))) (fun a h => ?_)
                  refine l_nil (e_thenN ?_)
                  exact ⟨S61, true, (Option.some.inj hz75), (Snap.le.refl _), up62, h.has (by exact ⟨rfl, rfl, rfl, rfl, rfl, rfl, rfl, trivial⟩)⟩
                · rw [if_neg (of_decide_eq_false hB2)] at hz75
                  refine g_yes h rfl rfl rfl rfl hB2 ?_
                  refine s_move h rfl _ rfl rfl (by decide) rfl (fun a h => ?_)
                  refine g_yes h rfl rfl rfl rfl hB2 ?_
                  refine s_move h rfl _ rfl rfl (by decide) rfl (fun a h => ?_)
                  refine g_yes h rfl rfl rfl rfl hB2 ?_
                  refine s_move h rfl _ rfl rfl (by decide) rfl (fun a h => ?_)
                  refine g_yes h rfl rfl rfl rfl hB2 ?_
                  obtain ⟨x76, h77, hz75⟩ := bsome hz75
                  have hX := chatelainelaw21_depth_ok Fu (S0 := snapAll _) a2 hra2 _ h77 _ h.startAll
                  refine q_callX hX h rfl rfl rfl (by decide) Try.func15 rfl rfl rfl (fun a w v L1 S1 hR hb1 h => ?_)
                  obtain ⟨rfl, rfl, hr79, _⟩ := hR
                  refine g_yes h rfl rfl rfl rfl hB2 ?_
                  refine s_move h rfl _ rfl rfl (by decide) rfl (fun a h => ?_)
                  refine g_yes h rfl rfl rfl rfl hB2 ?_
                  obtain ⟨x80, h81, hz75⟩ := bsome hz75
                  have hX := chatelainelaw21_fresh_ok Fu (S0 := S61) Aa1 ca1 a1 (hsa1.mono (((le15.trans le22).trans le49).trans le63)) x76 hr79 x51 hr52 _ h81 _ (h.sub (Ls := []))
                  refine q_callY (Ls := []) hX h up62 rfl rfl rfl (by decide) Try.func14 rfl rfl rfl (fun a w v L1 S83 hR le85 up84 h => ?_)
                  obtain ⟨A86, c87, rfl, rfl, hs88, _⟩ := hR
                  refine g_yes h rfl rfl rfl rfl hB2 ?_
                  obtain ⟨x89, h90, hz75⟩ := bsome hz75
                  have hX := chatelaineref01_Same_ok Fu (S0 := snapAll _) A64 c65 x58.1 ((hs66.mono le85).mono (h.m.leAll (i := 0) rfl)) A86 c87 x80 (hs88.mono (h.m.leAll (i := 0) rfl)) _ h90 _ h.startAll
                  refine q_callX hX h rfl rfl rfl (by decide) Try.func13 rfl rfl rfl (fun a w v L1 S1 hR hb1 h => ?_)
                  obtain ⟨rfl, rfl, _⟩ := hR
                  refine g_yes h rfl rfl rfl rfl hB2 ?_
                  refine s_x h rfl rfl (by decide) (x_not h.k rfl rfl) (fun a h => ?_)
                  refine s_x h rfl rfl (by decide) (x_pick (u' := undef) h.k rfl rfl (fun hh => absurd (hB2.symm.trans hh) (by decide)) (fun _ => rfl)) (fun a h => ?_)
                  refine l_nil (e_thenN ?_)
                  exact ⟨S83, (!x89), (Option.some.inj hz75), le85, up84, h.has (by exact ⟨rfl, rfl, rfl, rfl, rfl, rfl, rfl, trivial⟩)⟩
                rintro a w ⟨S70, x73, rfl, le71, up72, h⟩
                try dsimp only at hl56
                refine l_end ?_
                refine c_cond h rfl (fun hb => ?_) (fun hb => ?_)
                · rw [if_pos hb] at hl56
                  refine c_rs ?_ -- region 17
                  refine s_assign h rfl _ rfl rfl (by decide) rfl (fun a h => ?_)
                  refine l_end ?_
                  refine wp_ret ?_
                  refine e_blkR ?_
                  refine e_thenR ?_
                  refine e_thenR ?_
                  refine e_blkR ?_
                  refine e_thenR ?_
                  cases hl56
                  try dsimp only at hf
                  refine e_thenR ?_
                  rw [← Option.some.inj hf]
                  exact r_ret1 h rfl (rv_tmp h rfl) ⟨_, [], _, rfl, ⟨rfl, rfl, trivial⟩, rfl, up72, h.m⟩
                · rw [if_neg (by rw [hb]; decide)] at hl56
                  refine wp_skip ?_
                  refine e_blkN ?_
                  refine e_thenN ?_
                  refine c_r ?_ -- region 18
                  refine s_x h rfl rfl (by decide) (x_bin h.k rfl rfl rfl (ib_add rfl)) (fun a h => ?_)
                  refine s_move h rfl _ rfl rfl (by decide) rfl (fun a h => ?_)
                  refine l_nil ?_
                  exact e_thenN ⟨m57, Nat.lt_succ_self _, S70, w64 (x51 + 1), hl56, ((le49.trans le63).trans le71), up72, (w64_r _), h.has (by exact ⟨rfl, rfl, rfl, rfl, rfl, rfl, trivial⟩)⟩
              · rw [if_neg (of_decide_eq_false hb)] at hl56
                refine wp_exit ?_
                refine e_thenX ?_
                refine e_thenX ?_
                refine e_blkX ?_
                refine e_thenN ?_
                exact ⟨S48, (Option.some.inj hl56), le49, up50, h.has (by exact ⟨rfl, rfl, rfl, trivial⟩)⟩
            · rintro a w ⟨S53, rfl, le54, up55, h⟩
              try dsimp only at hf
              refine e_thenN ?_
              refine c_rs ?_ -- region 19
              refine s_move h rfl _ rfl rfl (by decide) rfl (fun a h => ?_)
              refine s_move h rfl _ rfl rfl (by decide) rfl (fun a h => ?_)
              refine s_move h rfl _ rfl rfl (by decide) rfl (fun a h => ?_)
              refine s_move h rfl _ rfl rfl (by decide) rfl (fun a h => ?_)
              obtain ⟨x92, h93, hf⟩ := bsome hf
              have hX := keytree_Leaf_ok Fu (S0 := S53) Aa0 ca0 a0 (hsa0.mono ((le15.trans le22).trans le54)) a2 hra2 A16 c17 x10.1 (hs24.mono le54) a2 hra2 _ h93 _ (h.sub (Ls := []))
              refine q_callY (Ls := []) hX h up55 rfl rfl rfl (by decide) Try.func12 rfl rfl rfl (fun a w v L1 S95 hR le97 up96 h => ?_)
              obtain ⟨A98, c99, rfl, rfl, hs100, hr101, _⟩ := hR
              refine s_move h rfl _ rfl rfl (by decide) rfl (fun a h => ?_)
              refine s_x h rfl rfl (by decide) (x_ext h.k rfl rfl rfl) (fun a h => ?_)
              refine s_x h rfl rfl (by decide) (x_ext h.k rfl rfl rfl) (fun a h => ?_)
              refine s_assign h rfl _ rfl rfl (by decide) rfl (fun a h => ?_)
              refine s_assign h rfl _ rfl rfl (by decide) rfl (fun a h => ?_)
              refine l_end ?_
              refine c_rs ?_ -- region 20
              refine s_move h rfl _ rfl rfl (by decide) rfl (fun a h => ?_)
              obtain ⟨x102, h103, hf⟩ := bsome hf
              obtain ⟨m104, n105, hi106, hi107, hm108, hm109, hr110⟩ := sub_some h103
              have hs111 := slS.sub ((hsa0.mono (((le15.trans le22).trans le54).trans le97))) hm108 hm109 (Nat.le_trans hm109 ((hsa0.mono (((le15.trans le22).trans le54).trans le97))).1) (Nat.le_refl _) hr110
              refine s_x h rfl rfl (by decide) (x_sliceE h.k rfl Try.underlying22 sz_uint8 rfl ca0 hr110 (bd_some rfl hi106) (bd_none (by omega)) (bd_none rfl) (by intro _; rfl) hm108 hm109 (Nat.le_trans hm109 ((hsa0.mono (((le15.trans le22).trans le54).trans le97))).1) (Nat.le_refl _)) (fun a h => ?_)
              refine s_move h rfl _ rfl rfl (by decide) rfl (fun a h => ?_)
              refine s_move h rfl _ rfl rfl (by decide) rfl (fun a h => ?_)
              obtain ⟨x112, h113, hf⟩ := bsome hf
              have hX := keytree_Leaf_ok Fu (S0 := S95) (sA Aa0 ca0 m104 1) (ca0 - m104) x102 hs111 a2 hra2 A16 c17 x10.1 (hs24.mono (le54.trans le97)) 0 (show r64 0 from ⟨by decide, by decide⟩) _ h113 _ (h.sub (Ls := []))
              refine q_callY (Ls := []) hX h up96 rfl rfl rfl (by decide) Try.func12 rfl rfl rfl (fun a w v L1 S115 hR le117 up116 h => ?_)
              obtain ⟨A118, c119, rfl, rfl, hs120, hr121, _⟩ := hR
              refine s_move h rfl _ rfl rfl (by decide) rfl (fun a h => ?_)
              refine s_x h rfl rfl (by decide) (x_ext h.k rfl rfl rfl) (fun a h => ?_)
              refine s_x h rfl rfl (by decide) (x_ext h.k rfl rfl rfl) (fun a h => ?_)
              refine s_assign h rfl _ rfl rfl (by decide) rfl (fun a h => ?_)
              refine s_assign h rfl _ rfl rfl (by decide) rfl (fun a h => ?_)
              refine l_end ?_
              refine c_rs ?_ -- region 21
              refine s_move h rfl _ rfl rfl (by decide) rfl (fun a h => ?_)
              refine s_move h rfl _ rfl rfl (by decide) rfl (fun a h => ?_)
              refine s_move h rfl _ rfl rfl (by decide) rfl (fun a h => ?_)
              obtain ⟨x122, h123, hf⟩ := bsome hf
              obtain ⟨m124, n125, hi126, hi127, hm128, hm129, hr130⟩ := sub_some h123
              have hs131 := slS.sub ((hs24.mono ((le54.trans le97).trans le117))) hm128 hm129 (Nat.le_trans hm129 ((hs24.mono ((le54.trans le97).trans le117))).1) (Nat.le_refl _) hr130
              refine s_x h rfl rfl (by decide) (x_sliceE h.k rfl Try.underlying24 sz_Suint8 rfl c17 hr130 (bd_some rfl hi126) (bd_none (by omega)) (bd_none rfl) (by intro _; rfl) hm128 hm129 (Nat.le_trans hm129 ((hs24.mono ((le54.trans le97).trans le117))).1) (Nat.le_refl _)) (fun a h => ?_)
              obtain ⟨x132, h133, hf⟩ := bsome hf
              have hX := keytree_Leaf_ok Fu (S0 := S115) Aa0 ca0 a0 (hsa0.mono ((((le15.trans le22).trans le54).trans le97).trans le117)) a2 hra2 (sA A16 c17 m124 1) (c17 - m124) x122 hs131 0 (show r64 0 from ⟨by decide, by decide⟩) _ h133 _ (h.sub (Ls := []))
              refine q_callY (Ls := []) hX h up116 rfl rfl rfl (by decide) Try.func12 rfl rfl rfl (fun a w v L1 S135 hR le137 up136 h => ?_)
              obtain ⟨A138, c139, rfl, rfl, hs140, hr141, _⟩ := hR
              refine s_move h rfl _ rfl rfl (by decide) rfl (fun a h => ?_)
              refine s_x h rfl rfl (by decide) (x_ext h.k rfl rfl rfl) (fun a h => ?_)
              refine s_x h rfl rfl (by decide) (x_ext h.k rfl rfl rfl) (fun a h => ?_)
              refine s_assign h rfl _ rfl rfl (by decide) rfl (fun a h => ?_)
              refine s_assign h rfl _ rfl rfl (by decide) rfl (fun a h => ?_)
              refine l_end ?_
              refine c_rs ?_ -- region 22
              refine s_move h rfl _ rfl rfl (by decide) rfl (fun a h => ?_)
              refine s_x h rfl rfl (by decide) (x_bin h.k rfl rfl rfl ib_eql) (fun a h => ?_)
              refine s_move h rfl _ rfl rfl (by decide) rfl (fun a h => ?_)
              refine q_grp h 3 (t := 135) 138 ((decide (x92.2 = 2)) && (decide (x112.2 = 20))) rfl (fun hB2 => ?_) (fun hB2 => ?_) (fun a w h => ?_)
              · refine g_yes h rfl rfl rfl rfl hB2 ?_
                refine s_move h rfl _ rfl rfl (by decide) rfl (fun a h => ?_)
                refine g_yes h rfl rfl rfl rfl hB2 ?_
                refine s_x h rfl rfl (by decide) (x_bin h.k rfl rfl rfl ib_eql) (fun a h => ?_)
                refine s_x h rfl rfl (by decide) (x_pick (u' := undef) h.k rfl rfl (fun _ => rfl) (fun hh => absurd (hB2.symm.trans hh) (by decide))) (fun a h => ?_)
                exact (h.mid 2 rfl).val (by first | rfl | (rw [hB2]; first | rfl | simp))
              · refine g_no h rfl rfl rfl rfl hB2 rfl (by decide) (fun a h => ?_)
                refine g_no h rfl rfl rfl rfl hB2 rfl (by decide) (fun a h => ?_)
                refine s_x h rfl rfl (by decide) (x_pick (u' := undef) h.k rfl rfl (fun hh => absurd (hB2.symm.trans hh) (by decide)) (fun _ => rfl)) (fun a h => ?_)
                exact (h.mid 2 rfl).val (by first | rfl | (rw [hB2]; first | rfl | simp))
              refine s_move h rfl _ rfl rfl (by decide) rfl (fun a h => ?_)
              refine q_grp h 3 (t := 139) 142 (((decide (x92.2 = 2)) && (decide (x112.2 = 20))) && (decide (x132.2 = 2))) rfl (fun hB6 => ?_) (fun hB6 => ?_) (fun a w h => ?_)
              · refine g_yes h rfl rfl rfl rfl hB6 ?_
                refine s_move h rfl _ rfl rfl (by decide) rfl (fun a h => ?_)
                refine g_yes h rfl rfl rfl rfl hB6 ?_
                refine s_x h rfl rfl (by decide) (x_bin h.k rfl rfl rfl ib_eql) (fun a h => ?_)
                refine s_x h rfl rfl (by decide) (x_pick (u' := undef) h.k rfl rfl (fun _ => rfl) (fun hh => absurd (hB6.symm.trans hh) (by decide))) (fun a h => ?_)
                exact (h.mid 2 rfl).val (by first | rfl | (rw [hB6]; first | rfl | simp))
              · refine g_no h rfl rfl rfl rfl hB6 rfl (by decide) (fun a h => ?_)
                refine g_no h rfl rfl rfl rfl hB6 rfl (by decide) (fun a h => ?_)
                refine s_x h rfl rfl (by decide) (x_pick (u' := undef) h.k rfl rfl (fun hh => absurd (hB6.symm.trans hh) (by decide)) (fun _ => rfl)) (fun a h => ?_)
                exact (h.mid 2 rfl).val (by first | rfl | (rw [hB6]; first | rfl | simp))
              refine s_assign h rfl _ rfl rfl (by decide) rfl (fun a h => ?_)
              refine l_end ?_
              refine wp_ret ?_
              obtain rfl := Option.some.inj hf
              exact r_ret1 h rfl (rv_tmp h rfl) ⟨_, [], _, rfl, ⟨rfl, rfl, trivial⟩, rfl, up136, h.m⟩
end
end Go.Proofs.Ytohgmggdfmjgnaa
