/- Cy: Go functions as plain functions, and that they are so (written by xt.py). -/
import Derived.Test.YtcjleeclpmgbjaaDoorCt
import Derived.Test.YtcjleeclpmgbjaaDoorCp
import Derived.Test.YtcjleeclpmgbjaaDoorEb
set_option linter.unusedVariables false
set_option linter.unusedSimpArgs false
namespace Go.Proofs.YtcjleeclpmgbjaaDoor
open Go.RowKit
def chatelainelaw46_CodeBack_l0 (Fu : Nat) (x32 : (List UInt8) × Int) : Nat → (List UInt8) → Int → Option ((List UInt8))
  | 0, _, _ => none
  | k + 1, x73, x75 => if x75 < (x32.1.length : Int) then ((idx x32.1 x75).bind fun x82 => (if (((((decide (97 ≤ (x82.toNat : Int))) && (decide ((x82.toNat : Int) ≤ 122))) && (decide ((x82.toNat : Int) ≠ 111))) && (decide ((x82.toNat : Int) ≠ 108))) && (decide ((x82.toNat : Int) ≠ 98))) = true then (some ((x82 - (97 : UInt8)) + (65 : UInt8))) else (if (x82.toNat : Int) = 111 then (some (48 : UInt8)) else (if (x82.toNat : Int) = 108 then (some (49 : UInt8)) else (if (x82.toNat : Int) = 98 then (some (56 : UInt8)) else (some x82))))).bind fun x89 => (sapp ([x89]) ([32] : List UInt8)).bind fun x100 => (sapp x73 x100).bind fun x102 => chatelainelaw46_CodeBack_l0 Fu x32 k x102 (w64 (x75 + 1))) else (some x73)
def chatelainelaw46_CodeBack (Fu : Nat) (a0 : List UInt8) (a1 : List UInt8) (a2 : List UInt8) : Option Bool :=
  (chatelainelaw46_awake Fu).bind fun x1 => if (!x1) = true then (some false) else (if (((decide (64 < (a0.length : Int))) || (decide (64 < (a1.length : Int)))) || (decide (300 < (a2.length : Int)))) = true then (some true) else (((code_Take Fu a2).bind fun x13 => if x13.2 = 0 then ((code_Put Fu x13.1).bind fun x23 => if ((decide (x23.2 ≠ 0)) || (!(decide (x23.1 = a2)))) = true then (some (.inl false)) else (some (.inr ()))) else (some (.inr ())) : Option (Sum Bool Unit)).bind fun o => match o with | .inl r117 => some r117 | .inr _ => if ((decide ((a0.length : Int) = 0)) || (decide ((a1.length : Int) = 0))) = true then (some true) else ((code_Put Fu a0).bind fun x32 => (code_Put Fu a1).bind fun x37 => (code_Take Fu x32.1).bind fun x42 => (if (((decide (x32.2 ≠ 0)) || (decide (x37.2 ≠ 0))) || (decide (x42.2 ≠ 0))) = true then some true else (chatelaineref01_Same Fu x42.1 a0).bind fun x59 => some (!x59)).bind fun z57 => (if z57 = true then some true else (if (a0.length : Int) = (a1.length : Int) then (chatelaineref01_Same Fu a0 a1).bind fun x68 => some (!((decide (x32.1 = x37.1)) == x68)) else some false).bind fun z66 => some z66).bind fun z63 => if z63 = true then (some false) else ((chatelainelaw46_CodeBack_l0 Fu x32 Fu ([32] : List UInt8) 0).bind fun x77 => (code_Tidy Fu x77).bind fun x105 => (if x105 = x32.1 then (code_Tidy Fu x32.1).bind fun x112 => some (decide (x112 = x32.1)) else some false).bind fun z110 => some z110))))
set_option maxRecDepth 100000 in
set_option maxHeartbeats 2000000 in
theorem chatelainelaw46_CodeBack_ok (Fu : Nat) {S0 : Snap} (hGL : GL S0) (Aa0 : Option Addr) (ca0 : Nat) (a0 : List UInt8) (hsa0 : slS ty8 S0 Aa0 ca0 a0) (Aa1 : Option Addr) (ca1 : Nat) (a1 : List UInt8) (hsa1 : slS ty8 S0 Aa1 ca1 a1) (a2 : List UInt8) (hra2 : a2.length ≤ maxLen) (r : Bool) (hf : chatelainelaw46_CodeBack Fu a0 a1 a2 = some r) (w0 : World) (hm : Mem w0 (ownL ([] ++ [.sn S0])) ([] ++ [.sn S0]) w0) :
    Calls Tryd.prog 5 #[.slice Aa0 a0.length ca0, .slice Aa1 a1.length ca1, .string (sb a2)] w0 (Ret w0 S0 [] (fun v L1 S1 => v = .bool r ∧ L1 = [] ∧ True)) := by
  unfold chatelainelaw46_CodeBack at hf
  refine c_enterM Tryd.func5 rfl 165 rfl (by simp) _ hm _ rfl (fun a h => ?_)
  refine c_rs ?_ -- region 0
  refine s_assign h rfl _ rfl rfl (by decide) rfl (fun a h => ?_)
  refine l_end ?_
  refine wp_seq ?_
  refine c_rs ?_ -- region 1
  obtain ⟨x1, h2, hf⟩ := bsome hf
  have hX := chatelainelaw46_awake_ok Fu (S0 := snapAll _)  _ h2 _ h.startAll
  refine q_callX hX h rfl rfl rfl (by decide) Tryd.func13 rfl rfl rfl (fun a w v L1 S1 hR hb1 h => ?_)
  obtain ⟨rfl, rfl, _⟩ := hR
  refine s_x h rfl rfl (by decide) (x_not h.k rfl rfl) (fun a h => ?_)
  refine l_end ?_
  refine c_cond h rfl (fun hb => ?_) (fun hb => ?_)
  · rw [if_pos hb] at hf
    refine c_rs ?_ -- region 2
    refine s_assign h rfl _ rfl rfl (by decide) rfl (fun a h => ?_)
    refine l_end ?_
    refine wp_ret ?_
    refine e_thenR ?_
    rw [← Option.some.inj hf]
    exact r_ret1 h rfl (rv_tmp h rfl) ⟨_, [], _, rfl, ⟨rfl, rfl, trivial⟩, rfl, (Up.refl _ _ _), h.m⟩
  · rw [if_neg (by rw [hb]; decide)] at hf
    refine wp_skip ?_
    refine e_thenN ?_
    refine wp_seq ?_
    refine c_rs ?_ -- region 3
    refine s_move h rfl _ rfl rfl (by decide) rfl (fun a h => ?_)
    refine s_x h rfl rfl (by decide) (x_len h.k rfl Tryd.underlying23 rfl) (fun a h => ?_)
    refine s_x h rfl rfl (by decide) (x_bin h.k rfl rfl rfl ib_gtr) (fun a h => ?_)
    refine s_move h rfl _ rfl rfl (by decide) rfl (fun a h => ?_)
    refine q_grp h 4 (t := 25) 29 ((decide (64 < (a0.length : Int))) || (decide (64 < (a1.length : Int)))) rfl (fun hB3 => ?_) (fun hB3 => ?_) (fun a w h => ?_)
    · refine g_no h rfl rfl rfl rfl hB3 rfl (by decide) (fun a h => ?_)
      refine g_no h rfl rfl rfl rfl hB3 rfl (by decide) (fun a h => ?_)
      refine g_no h rfl rfl rfl rfl hB3 rfl (by decide) (fun a h => ?_)
      refine s_x h rfl rfl (by decide) (x_pick (u' := undef) h.k rfl rfl (fun _ => rfl) (fun hh => absurd (hB3.symm.trans hh) (by decide))) (fun a h => ?_)
      exact (h.mid 3 rfl).val (by first | rfl | (rw [hB3]; first | rfl | simp))
    · refine g_yes h rfl rfl rfl rfl hB3 ?_
      refine s_move h rfl _ rfl rfl (by decide) rfl (fun a h => ?_)
      refine g_yes h rfl rfl rfl rfl hB3 ?_
      refine s_x h rfl rfl (by decide) (x_len h.k rfl Tryd.underlying23 rfl) (fun a h => ?_)
      refine g_yes h rfl rfl rfl rfl hB3 ?_
      refine s_x h rfl rfl (by decide) (x_bin h.k rfl rfl rfl ib_gtr) (fun a h => ?_)
      refine s_x h rfl rfl (by decide) (x_pick (u' := undef) h.k rfl rfl (fun hh => absurd (hB3.symm.trans hh) (by decide)) (fun _ => rfl)) (fun a h => ?_)
      exact (h.mid 3 rfl).val (by first | rfl | (rw [hB3]; first | rfl | simp))
    refine s_move h rfl _ rfl rfl (by decide) rfl (fun a h => ?_)
    refine q_grp h 4 (t := 30) 34 (((decide (64 < (a0.length : Int))) || (decide (64 < (a1.length : Int)))) || (decide (300 < (a2.length : Int)))) rfl (fun hB8 => ?_) (fun hB8 => ?_) (fun a w h => ?_)
    · refine g_no h rfl rfl rfl rfl hB8 rfl (by decide) (fun a h => ?_)
      refine g_no h rfl rfl rfl rfl hB8 rfl (by decide) (fun a h => ?_)
      refine g_no h rfl rfl rfl rfl hB8 rfl (by decide) (fun a h => ?_)
      refine s_x h rfl rfl (by decide) (x_pick (u' := undef) h.k rfl rfl (fun _ => rfl) (fun hh => absurd (hB8.symm.trans hh) (by decide))) (fun a h => ?_)
      exact (h.mid 3 rfl).val (by first | rfl | (rw [hB8]; first | rfl | simp))
    · refine g_yes h rfl rfl rfl rfl hB8 ?_
      refine s_move h rfl _ rfl rfl (by decide) rfl (fun a h => ?_)
      refine g_yes h rfl rfl rfl rfl hB8 ?_
      refine s_x h rfl rfl (by decide) (x_lenStr h.k rfl Tryd.underlying9 rfl) (fun a h => ?_)
      refine g_yes h rfl rfl rfl rfl hB8 ?_
      refine s_x h rfl rfl (by decide) (x_bin h.k rfl rfl rfl ib_gtr) (fun a h => ?_)
      refine s_x h rfl rfl (by decide) (x_pick (u' := undef) h.k rfl rfl (fun hh => absurd (hB8.symm.trans hh) (by decide)) (fun _ => rfl)) (fun a h => ?_)
      exact (h.mid 3 rfl).val (by first | rfl | (rw [hB8]; first | rfl | simp))
    refine l_end ?_
    refine c_cond h rfl (fun hb => ?_) (fun hb => ?_)
    · rw [if_pos hb] at hf
      refine c_rs ?_ -- region 4
      refine s_assign h rfl _ rfl rfl (by decide) rfl (fun a h => ?_)
      refine l_end ?_
      refine wp_ret ?_
      refine e_thenR ?_
      rw [← Option.some.inj hf]
      exact r_ret1 h rfl (rv_tmp h rfl) ⟨_, [], _, rfl, ⟨rfl, rfl, trivial⟩, rfl, (Up.refl _ _ _), h.m⟩
    · rw [if_neg (by rw [hb]; decide)] at hf
      refine wp_skip ?_
      refine e_thenN ?_
      obtain ⟨o8, hc9, hf⟩ := bsome hf
      refine c_cut (fun a w => ∃ (S10 : Snap), (.inr ()) = o8 ∧ Snap.le S0 S10 ∧ Up (ownL ([] ++ [.sn S0])) w0 S0 S10 ∧ St 165 w0 (ownL ([] ++ [.sn S0])) [(0, .slice Aa0 a0.length ca0), (1, .slice Aa1 a1.length ca1)] [.sn S10] a w) ?_ ?_
      · refine c_rs ?_ -- region 5
        refine s_move h rfl _ rfl rfl (by decide) rfl (fun a h => ?_)
        obtain ⟨x13, h14, hc9⟩ := bsome hc9
        have hX := code_Take_ok Fu (S0 := S0) hGL a2 hra2 _ h14 _ (h.sub (Ls := []))
        refine q_callY (Ls := []) hX h (Up.refl _ _ _) rfl rfl rfl (by decide) Tryd.func16 rfl rfl rfl (fun a w v L1 S16 hR le18 up17 h => ?_)
        obtain ⟨A19, c20, rfl, rfl, hs21, hr22, _⟩ := hR
        refine s_move h rfl _ rfl rfl (by decide) rfl (fun a h => ?_)
        refine s_x h rfl rfl (by decide) (x_ext h.k rfl rfl rfl) (fun a h => ?_)
        refine s_x h rfl rfl (by decide) (x_ext h.k rfl rfl rfl) (fun a h => ?_)
        refine s_assign h rfl _ rfl rfl (by decide) rfl (fun a h => ?_)
        refine s_assign h rfl _ rfl rfl (by decide) rfl (fun a h => ?_)
        refine l_end ?_
        refine c_rs ?_ -- region 6
        refine s_move h rfl _ rfl rfl (by decide) rfl (fun a h => ?_)
        refine s_x h rfl rfl (by decide) (x_bin h.k rfl rfl rfl ib_eql) (fun a h => ?_)
        refine l_end ?_
        refine c_cond h rfl (fun hb => ?_) (fun hb => ?_)
        · rw [if_pos (of_decide_eq_true hb)] at hc9
          refine c_rs ?_ -- region 7
          refine s_move h rfl _ rfl rfl (by decide) rfl (fun a h => ?_)
          obtain ⟨x23, h24, hc9⟩ := bsome hc9
          have hX := code_Put_ok Fu (S0 := snapAll _) A19 c20 x13.1 (hs21.mono (h.m.leAll (i := 0) rfl)) _ h24 _ h.startAll
          refine q_callX hX h rfl rfl rfl (by decide) Tryd.func14 rfl rfl rfl (fun a w v L1 S1 hR hb1 h => ?_)
          obtain ⟨rfl, rfl, hr26, hr27, _⟩ := hR
          refine s_move h rfl _ rfl rfl (by decide) rfl (fun a h => ?_)
          refine s_x h rfl rfl (by decide) (x_ext h.k rfl rfl rfl) (fun a h => ?_)
          refine s_x h rfl rfl (by decide) (x_ext h.k rfl rfl rfl) (fun a h => ?_)
          refine s_assign h rfl _ rfl rfl (by decide) rfl (fun a h => ?_)
          refine s_assign h rfl _ rfl rfl (by decide) rfl (fun a h => ?_)
          refine l_end ?_
          refine c_rs ?_ -- region 8
          refine s_move h rfl _ rfl rfl (by decide) rfl (fun a h => ?_)
          refine s_x h rfl rfl (by decide) (x_bin h.k rfl rfl rfl ib_neq) (fun a h => ?_)
          refine s_move h rfl _ rfl rfl (by decide) rfl (fun a h => ?_)
          refine q_grp h 4 (t := 49) 53 ((decide (x23.2 ≠ 0)) || (!(decide (x23.1 = a2)))) rfl (fun hB2 => ?_) (fun hB2 => ?_) (fun a w h => ?_)
          · refine g_no h rfl rfl rfl rfl hB2 rfl (by decide) (fun a h => ?_)
            refine g_no h rfl rfl rfl rfl hB2 rfl (by decide) (fun a h => ?_)
            refine g_no h rfl rfl rfl rfl hB2 rfl (by decide) (fun a h => ?_)
            refine s_x h rfl rfl (by decide) (x_pick (u' := undef) h.k rfl rfl (fun _ => rfl) (fun hh => absurd (hB2.symm.trans hh) (by decide))) (fun a h => ?_)
            exact (h.mid 3 rfl).val (by first | rfl | (rw [hB2]; first | rfl | simp))
          · refine g_yes h rfl rfl rfl rfl hB2 ?_
            refine s_move h rfl _ rfl rfl (by decide) rfl (fun a h => ?_)
            refine g_yes h rfl rfl rfl rfl hB2 ?_
            refine s_move h rfl _ rfl rfl (by decide) rfl (fun a h => ?_)
            refine g_yes h rfl rfl rfl rfl hB2 ?_
            refine s_x h rfl rfl (by decide) (x_neqStr h.k rfl rfl rfl) (fun a h => ?_)
            refine s_x h rfl rfl (by decide) (x_pick (u' := undef) h.k rfl rfl (fun hh => absurd (hB2.symm.trans hh) (by decide)) (fun _ => rfl)) (fun a h => ?_)
            exact (h.mid 3 rfl).val (by first | rfl | (rw [hB2]; first | rfl | simp))
          refine l_end ?_
          refine c_cond h rfl (fun hb => ?_) (fun hb => ?_)
          · rw [if_pos hb] at hc9
            refine c_rs ?_ -- region 9
            refine s_assign h rfl _ rfl rfl (by decide) rfl (fun a h => ?_)
            refine l_end ?_
            refine wp_ret ?_
            refine e_thenR ?_
            cases hc9
            try dsimp only at hf
            rw [← Option.some.inj hf]
            exact r_ret1 h rfl (rv_tmp h rfl) ⟨_, [], _, rfl, ⟨rfl, rfl, trivial⟩, rfl, up17, h.m⟩
          · rw [if_neg (by rw [hb]; decide)] at hc9
            refine wp_skip ?_
            refine e_thenN ?_
            exact ⟨S16, (Option.some.inj hc9), le18, up17, h.has (by exact ⟨rfl, rfl, trivial⟩)⟩
        · rw [if_neg (of_decide_eq_false hb)] at hc9
          refine wp_skip ?_
          refine e_thenN ?_
          exact ⟨S16, (Option.some.inj hc9), le18, up17, h.has (by exact ⟨rfl, rfl, trivial⟩)⟩
      · rintro a w ⟨S10, rfl, le11, up12, h⟩
        try dsimp only at hf
        refine wp_seq ?_
        refine c_rs ?_ -- region 10
        refine s_move h rfl _ rfl rfl (by decide) rfl (fun a h => ?_)
        refine s_x h rfl rfl (by decide) (x_len h.k rfl Tryd.underlying23 rfl) (fun a h => ?_)
        refine s_x h rfl rfl (by decide) (x_bin h.k rfl rfl rfl ib_eql) (fun a h => ?_)
        refine s_move h rfl _ rfl rfl (by decide) rfl (fun a h => ?_)
        refine q_grp h 4 (t := 57) 61 ((decide ((a0.length : Int) = 0)) || (decide ((a1.length : Int) = 0))) rfl (fun hB3 => ?_) (fun hB3 => ?_) (fun a w h => ?_)
        · refine g_no h rfl rfl rfl rfl hB3 rfl (by decide) (fun a h => ?_)
          refine g_no h rfl rfl rfl rfl hB3 rfl (by decide) (fun a h => ?_)
          refine g_no h rfl rfl rfl rfl hB3 rfl (by decide) (fun a h => ?_)
          refine s_x h rfl rfl (by decide) (x_pick (u' := undef) h.k rfl rfl (fun _ => rfl) (fun hh => absurd (hB3.symm.trans hh) (by decide))) (fun a h => ?_)
          exact (h.mid 3 rfl).val (by first | rfl | (rw [hB3]; first | rfl | simp))
        · refine g_yes h rfl rfl rfl rfl hB3 ?_
          refine s_move h rfl _ rfl rfl (by decide) rfl (fun a h => ?_)
          refine g_yes h rfl rfl rfl rfl hB3 ?_
          refine s_x h rfl rfl (by decide) (x_len h.k rfl Tryd.underlying23 rfl) (fun a h => ?_)
          refine g_yes h rfl rfl rfl rfl hB3 ?_
          refine s_x h rfl rfl (by decide) (x_bin h.k rfl rfl rfl ib_eql) (fun a h => ?_)
          refine s_x h rfl rfl (by decide) (x_pick (u' := undef) h.k rfl rfl (fun hh => absurd (hB3.symm.trans hh) (by decide)) (fun _ => rfl)) (fun a h => ?_)
          exact (h.mid 3 rfl).val (by first | rfl | (rw [hB3]; first | rfl | simp))
        refine l_end ?_
        refine c_cond h rfl (fun hb => ?_) (fun hb => ?_)
        · rw [if_pos hb] at hf
          refine c_rs ?_ -- region 11
          refine s_assign h rfl _ rfl rfl (by decide) rfl (fun a h => ?_)
          refine l_end ?_
          refine wp_ret ?_
          refine e_thenR ?_
          rw [← Option.some.inj hf]
          exact r_ret1 h rfl (rv_tmp h rfl) ⟨_, [], _, rfl, ⟨rfl, rfl, trivial⟩, rfl, up12, h.m⟩
        · rw [if_neg (by rw [hb]; decide)] at hf
          refine wp_skip ?_
          refine e_thenN ?_
          refine c_rs ?_ -- region 12
          refine s_move h rfl _ rfl rfl (by decide) rfl (fun a h => ?_)
          obtain ⟨x32, h33, hf⟩ := bsome hf
          have hX := code_Put_ok Fu (S0 := snapAll _) Aa0 ca0 a0 ((hsa0.mono le11).mono (h.m.leAll (i := 0) rfl)) _ h33 _ h.startAll
          refine q_callX hX h rfl rfl rfl (by decide) Tryd.func14 rfl rfl rfl (fun a w v L1 S1 hR hb1 h => ?_)
          obtain ⟨rfl, rfl, hr35, hr36, _⟩ := hR
          refine s_move h rfl _ rfl rfl (by decide) rfl (fun a h => ?_)
          refine s_x h rfl rfl (by decide) (x_ext h.k rfl rfl rfl) (fun a h => ?_)
          refine s_x h rfl rfl (by decide) (x_ext h.k rfl rfl rfl) (fun a h => ?_)
          refine s_assign h rfl _ rfl rfl (by decide) rfl (fun a h => ?_)
          refine s_assign h rfl _ rfl rfl (by decide) rfl (fun a h => ?_)
          refine l_end ?_
          refine c_rs ?_ -- region 13
          refine s_move h rfl _ rfl rfl (by decide) rfl (fun a h => ?_)
          obtain ⟨x37, h38, hf⟩ := bsome hf
          have hX := code_Put_ok Fu (S0 := snapAll _) Aa1 ca1 a1 ((hsa1.mono le11).mono (h.m.leAll (i := 0) rfl)) _ h38 _ h.startAll
          refine q_callX hX h rfl rfl rfl (by decide) Tryd.func14 rfl rfl rfl (fun a w v L1 S1 hR hb1 h => ?_)
          obtain ⟨rfl, rfl, hr40, hr41, _⟩ := hR
          refine s_move h rfl _ rfl rfl (by decide) rfl (fun a h => ?_)
          refine s_x h rfl rfl (by decide) (x_ext h.k rfl rfl rfl) (fun a h => ?_)
          refine s_x h rfl rfl (by decide) (x_ext h.k rfl rfl rfl) (fun a h => ?_)
          refine s_assign h rfl _ rfl rfl (by decide) rfl (fun a h => ?_)
          refine s_assign h rfl _ rfl rfl (by decide) rfl (fun a h => ?_)
          refine l_end ?_
          refine c_rs ?_ -- region 14
          refine s_move h rfl _ rfl rfl (by decide) rfl (fun a h => ?_)
          obtain ⟨x42, h43, hf⟩ := bsome hf
          have hX := code_Take_ok Fu (S0 := S10) (hGL.mono le11) x32.1 hr35 _ h43 _ (h.sub (Ls := []))
          refine q_callY (Ls := []) hX h up12 rfl rfl rfl (by decide) Tryd.func16 rfl rfl rfl (fun a w v L1 S45 hR le47 up46 h => ?_)
          obtain ⟨A48, c49, rfl, rfl, hs50, hr51, _⟩ := hR
          refine s_move h rfl _ rfl rfl (by decide) rfl (fun a h => ?_)
          refine s_x h rfl rfl (by decide) (x_ext h.k rfl rfl rfl) (fun a h => ?_)
          refine s_x h rfl rfl (by decide) (x_ext h.k rfl rfl rfl) (fun a h => ?_)
          refine s_assign h rfl _ rfl rfl (by decide) rfl (fun a h => ?_)
          refine s_assign h rfl _ rfl rfl (by decide) rfl (fun a h => ?_)
          refine l_end ?_
          refine wp_seq ?_
          refine c_rs ?_ -- region 15
          refine s_move h rfl _ rfl rfl (by decide) rfl (fun a h => ?_)
          refine s_x h rfl rfl (by decide) (x_bin h.k rfl rfl rfl ib_neq) (fun a h => ?_)
          refine s_move h rfl _ rfl rfl (by decide) rfl (fun a h => ?_)
          refine q_grp h 3 (t := 79) 82 ((decide (x32.2 ≠ 0)) || (decide (x37.2 ≠ 0))) rfl (fun hB2 => ?_) (fun hB2 => ?_) (fun a w h => ?_)
          · refine g_no h rfl rfl rfl rfl hB2 rfl (by decide) (fun a h => ?_)
            refine g_no h rfl rfl rfl rfl hB2 rfl (by decide) (fun a h => ?_)
            refine s_x h rfl rfl (by decide) (x_pick (u' := undef) h.k rfl rfl (fun _ => rfl) (fun hh => absurd (hB2.symm.trans hh) (by decide))) (fun a h => ?_)
            exact (h.mid 2 rfl).val (by first | rfl | (rw [hB2]; first | rfl | simp))
          · refine g_yes h rfl rfl rfl rfl hB2 ?_
            refine s_move h rfl _ rfl rfl (by decide) rfl (fun a h => ?_)
            refine g_yes h rfl rfl rfl rfl hB2 ?_
            refine s_x h rfl rfl (by decide) (x_bin h.k rfl rfl rfl ib_neq) (fun a h => ?_)
            refine s_x h rfl rfl (by decide) (x_pick (u' := undef) h.k rfl rfl (fun hh => absurd (hB2.symm.trans hh) (by decide)) (fun _ => rfl)) (fun a h => ?_)
            exact (h.mid 2 rfl).val (by first | rfl | (rw [hB2]; first | rfl | simp))
          refine s_move h rfl _ rfl rfl (by decide) rfl (fun a h => ?_)
          refine q_grp h 3 (t := 83) 86 (((decide (x32.2 ≠ 0)) || (decide (x37.2 ≠ 0))) || (decide (x42.2 ≠ 0))) rfl (fun hB6 => ?_) (fun hB6 => ?_) (fun a w h => ?_)
          · refine g_no h rfl rfl rfl rfl hB6 rfl (by decide) (fun a h => ?_)
            refine g_no h rfl rfl rfl rfl hB6 rfl (by decide) (fun a h => ?_)
            refine s_x h rfl rfl (by decide) (x_pick (u' := undef) h.k rfl rfl (fun _ => rfl) (fun hh => absurd (hB6.symm.trans hh) (by decide))) (fun a h => ?_)
            exact (h.mid 2 rfl).val (by first | rfl | (rw [hB6]; first | rfl | simp))
          · refine g_yes h rfl rfl rfl rfl hB6 ?_
            refine s_move h rfl _ rfl rfl (by decide) rfl (fun a h => ?_)
            refine g_yes h rfl rfl rfl rfl hB6 ?_
            refine s_x h rfl rfl (by decide) (x_bin h.k rfl rfl rfl ib_neq) (fun a h => ?_)
            refine s_x h rfl rfl (by decide) (x_pick (u' := undef) h.k rfl rfl (fun hh => absurd (hB6.symm.trans hh) (by decide)) (fun _ => rfl)) (fun a h => ?_)
            exact (h.mid 2 rfl).val (by first | rfl | (rw [hB6]; first | rfl | simp))
          refine s_move h rfl _ rfl rfl (by decide) rfl (fun a h => ?_)
          obtain ⟨z57, hz56, hf⟩ := bsome hf
          refine q_grp h 5 (t := 87) 92 z57 rfl (fun hB10 => ?_) (fun hB10 => ?_) (fun a w h => ?_)
          · refine g_no h rfl rfl rfl rfl hB10 rfl (by decide) (fun a h => ?_)
            refine g_no h rfl rfl rfl rfl hB10 rfl (by decide) (fun a h => ?_)
            refine g_no h rfl rfl rfl rfl hB10 rfl (by decide) (fun a h => ?_)
            refine g_no h rfl rfl rfl rfl hB10 rfl (by decide) (fun a h => ?_)
            rw [if_pos hB10] at hz56
            refine s_x h rfl rfl (by decide) (x_pick (u' := undef) h.k rfl rfl (fun _ => rfl) (fun hh => absurd (hB10.symm.trans hh) (by decide))) (fun a h => ?_)
            exact (h.mid 4 rfl).val (by rw [Option.some.inj hz56])
          · rw [if_neg (by rw [hB10]; decide)] at hz56
            refine g_yes h rfl rfl rfl rfl hB10 ?_
            refine s_move h rfl _ rfl rfl (by decide) rfl (fun a h => ?_)
            refine g_yes h rfl rfl rfl rfl hB10 ?_
            refine s_move h rfl _ rfl rfl (by decide) rfl (fun a h => ?_)
            refine g_yes h rfl rfl rfl rfl hB10 ?_
            obtain ⟨x59, h60, hz56⟩ := bsome hz56
            have hX := chatelaineref01_Same_ok Fu (S0 := snapAll _) A48 c49 x42.1 (hs50.mono (h.m.leAll (i := 0) rfl)) Aa0 ca0 a0 ((hsa0.mono (le11.trans le47)).mono (h.m.leAll (i := 0) rfl)) _ h60 _ h.startAll
            refine q_callX hX h rfl rfl rfl (by decide) Tryd.func10 rfl rfl rfl (fun a w v L1 S1 hR hb1 h => ?_)
            obtain ⟨rfl, rfl, _⟩ := hR
            refine g_yes h rfl rfl rfl rfl hB10 ?_
            refine s_x h rfl rfl (by decide) (x_not h.k rfl rfl) (fun a h => ?_)
            refine s_x h rfl rfl (by decide) (x_pick (u' := undef) h.k rfl rfl (fun hh => absurd (hB10.symm.trans hh) (by decide)) (fun _ => rfl)) (fun a h => ?_)
            exact (h.mid 4 rfl).val (by rw [Option.some.inj hz56])
          refine s_move h rfl _ rfl rfl (by decide) rfl (fun a h => ?_)
          obtain ⟨z63, hz62, hf⟩ := bsome hf
          refine q_grp h 15 (t := 93) 108 z63 rfl (fun hB16 => ?_) (fun hB16 => ?_) (fun a w h => ?_)
          · refine g_no h rfl rfl rfl rfl hB16 rfl (by decide) (fun a h => ?_)
            refine g_no h rfl rfl rfl rfl hB16 rfl (by decide) (fun a h => ?_)
            refine g_no h rfl rfl rfl rfl hB16 rfl (by decide) (fun a h => ?_)
            refine g_no h rfl rfl rfl rfl hB16 rfl (by decide) (fun a h => ?_)
            refine g_no h rfl rfl rfl rfl hB16 rfl (by decide) (fun a h => ?_)
            refine g_no h rfl rfl rfl rfl hB16 rfl (by decide) (fun a h => ?_)
            refine g_off h rfl rfl rfl rfl rfl (by decide) (fun a h => ?_)
            refine g_off h rfl rfl rfl rfl rfl (by decide) (fun a h => ?_)
            refine g_off h rfl rfl rfl rfl rfl (by decide) (fun a h => ?_)
            refine g_off h rfl rfl rfl rfl rfl (by decide) (fun a h => ?_)
            refine g_off h rfl rfl rfl rfl rfl (by decide) (fun a h => ?_)
            refine g_off h rfl rfl rfl rfl rfl (by decide) (fun a h => ?_)
            refine g_off h rfl rfl rfl rfl rfl (by decide) (fun a h => ?_)
            refine g_no h rfl rfl rfl rfl hB16 rfl (by decide) (fun a h => ?_)
            rw [if_pos hB16] at hz62
            refine s_x h rfl rfl (by decide) (x_pick (u' := undef) h.k rfl rfl (fun _ => rfl) (fun hh => absurd (hB16.symm.trans hh) (by decide))) (fun a h => ?_)
            exact (h.mid 14 rfl).val (by rw [Option.some.inj hz62])
          · rw [if_neg (by rw [hB16]; decide)] at hz62
            refine g_yes h rfl rfl rfl rfl hB16 ?_
            refine s_move h rfl _ rfl rfl (by decide) rfl (fun a h => ?_)
            refine g_yes h rfl rfl rfl rfl hB16 ?_
            refine s_x h rfl rfl (by decide) (x_len h.k rfl Tryd.underlying23 rfl) (fun a h => ?_)
            refine g_yes h rfl rfl rfl rfl hB16 ?_
            refine s_move h rfl _ rfl rfl (by decide) rfl (fun a h => ?_)
            refine g_yes h rfl rfl rfl rfl hB16 ?_
            refine s_x h rfl rfl (by decide) (x_len h.k rfl Tryd.underlying23 rfl) (fun a h => ?_)
            refine g_yes h rfl rfl rfl rfl hB16 ?_
            refine s_x h rfl rfl (by decide) (x_bin h.k rfl rfl rfl ib_eql) (fun a h => ?_)
            refine g_yes h rfl rfl rfl rfl hB16 ?_
            refine s_move h rfl _ rfl rfl (by decide) rfl (fun a h => ?_)
            obtain ⟨z66, hz65, hz62⟩ := bsome hz62
            refine q_grp h 8 (t := 99) 107 z66 rfl (fun hB22 => ?_) (fun hB22 => ?_) (fun a w h => ?_)
            · rw [if_pos (of_decide_eq_true hB22)] at hz65
              refine g_yes h rfl rfl rfl rfl hB22 ?_
              refine s_move h rfl _ rfl rfl (by decide) rfl (fun a h => ?_)
              refine g_yes h rfl rfl rfl rfl hB22 ?_
              refine s_move h rfl _ rfl rfl (by decide) rfl (fun a h => ?_)
              refine g_yes h rfl rfl rfl rfl hB22 ?_
              refine s_x h rfl rfl (by decide) (x_eqlStr h.k rfl rfl rfl) (fun a h => ?_)
              refine g_yes h rfl rfl rfl rfl hB22 ?_
              refine s_move h rfl _ rfl rfl (by decide) rfl (fun a h => ?_)
              refine g_yes h rfl rfl rfl rfl hB22 ?_
              refine s_move h rfl _ rfl rfl (by decide) rfl (fun a h => ?_)
              refine g_yes h rfl rfl rfl rfl hB22 ?_
              obtain ⟨x68, h69, hz65⟩ := bsome hz65
              have hX := chatelaineref01_Same_ok Fu (S0 := snapAll _) Aa0 ca0 a0 ((hsa0.mono (le11.trans le47)).mono (h.m.leAll (i := 0) rfl)) Aa1 ca1 a1 ((hsa1.mono (le11.trans le47)).mono (h.m.leAll (i := 0) rfl)) _ h69 _ h.startAll
              refine q_callX hX h rfl rfl rfl (by decide) Tryd.func10 rfl rfl rfl (fun a w v L1 S1 hR hb1 h => ?_)
              obtain ⟨rfl, rfl, _⟩ := hR
              refine g_yes h rfl rfl rfl rfl hB22 ?_
              refine s_x h rfl rfl (by decide) (x_neqB h.k rfl Tryd.underlying4 rfl rfl) (fun a h => ?_)
              refine g_yes h rfl rfl rfl rfl hB16 ?_
              refine s_x h rfl rfl (by decide) (x_pick (u' := undef) h.k rfl rfl (fun _ => rfl) (fun hh => absurd (hB22.symm.trans hh) (by decide))) (fun a h => ?_)
              exact (h.mid 7 rfl).val (by rw [Option.some.inj hz65])
            · refine g_no h rfl rfl rfl rfl hB22 rfl (by decide) (fun a h => ?_)
              refine g_no h rfl rfl rfl rfl hB22 rfl (by decide) (fun a h => ?_)
              refine g_no h rfl rfl rfl rfl hB22 rfl (by decide) (fun a h => ?_)
              refine g_no h rfl rfl rfl rfl hB22 rfl (by decide) (fun a h => ?_)
              refine g_no h rfl rfl rfl rfl hB22 rfl (by decide) (fun a h => ?_)
              refine g_no h rfl rfl rfl rfl hB22 rfl (by decide) (fun a h => ?_)
              refine g_no h rfl rfl rfl rfl hB22 rfl (by decide) (fun a h => ?_)
              rw [if_neg (of_decide_eq_false hB22)] at hz65
              refine g_yes h rfl rfl rfl rfl hB16 ?_
              refine s_x h rfl rfl (by decide) (x_pick (u' := undef) h.k rfl rfl (fun hh => absurd (hB22.symm.trans hh) (by decide)) (fun _ => rfl)) (fun a h => ?_)
              exact (h.mid 7 rfl).val (by rw [Option.some.inj hz65])
            refine s_x h rfl rfl (by decide) (x_pick (u' := undef) h.k rfl rfl (fun hh => absurd (hB16.symm.trans hh) (by decide)) (fun _ => rfl)) (fun a h => ?_)
            exact (h.mid 7 rfl).val (by rw [Option.some.inj hz62])
          refine l_end ?_
          refine c_cond h rfl (fun hb => ?_) (fun hb => ?_)
          · rw [if_pos hb] at hf
            refine c_rs ?_ -- region 16
            refine s_assign h rfl _ rfl rfl (by decide) rfl (fun a h => ?_)
            refine l_end ?_
            refine wp_ret ?_
            refine e_thenR ?_
            rw [← Option.some.inj hf]
            exact r_ret1 h rfl (rv_tmp h rfl) ⟨_, [], _, rfl, ⟨rfl, rfl, trivial⟩, rfl, up46, h.m⟩
          · rw [if_neg (by rw [hb]; decide)] at hf
            refine wp_skip ?_
            refine e_thenN ?_
            refine c_rs ?_ -- region 17
            refine s_assign h rfl _ rfl rfl (by decide) rfl (fun a h => ?_)
            refine l_end ?_
            refine wp_seq ?_
            refine c_rs ?_ -- region 18
            refine s_move h rfl _ rfl rfl (by decide) rfl (fun a h => ?_)
            refine s_x h rfl rfl (by decide) (x_lenStr h.k rfl Tryd.underlying9 rfl) (fun a h => ?_)
            refine s_move h rfl _ rfl rfl (by decide) rfl (fun a h => ?_)
            refine l_end ?_
            obtain ⟨o71, hl72, hf⟩ := bsome hf
            refine c_fin (fun a w => ∃ (x77 : List UInt8), x77 = o71 ∧ x77.length ≤ maxLen ∧ St 165 w0 (ownL ([] ++ [.sn S0])) [(11, .string (sb x32.1)), (17, .string (sb x77))] [.sn S45] a w) ?_ ?_
            · refine wp_block ?_
              refine c_loop (fun m80 a w => ∃ (x73 : List UInt8), ∃ (x75 : Int), chatelainelaw46_CodeBack_l0 Fu x32 m80 x73 x75 = some o71 ∧ x73.length ≤ maxLen ∧ r64 x75 ∧ St 165 w0 (ownL ([] ++ [.sn S0])) [(11, .string (sb x32.1)), (17, .string (sb x73)), (110, .int .i64 (x32.1.length : Int)), (111, .int .i64 x75)] [.sn S45] a w) Fu ⟨([32] : List UInt8), 0, hl72, (by decide), (show r64 0 from ⟨by decide, by decide⟩), h.has (by exact ⟨rfl, rfl, rfl, rfl, trivial⟩)⟩ (fun m80 a w hI => ?_)
              obtain ⟨x73, x75, hl79, hr74, hr76, h⟩ := hI
              obtain _ | m80 := m80
              · rw [chatelainelaw46_CodeBack_l0] at hl79; cases hl79
              rw [chatelainelaw46_CodeBack_l0] at hl79
              refine c_rs ?_ -- region 19
              refine s_x h rfl rfl (by decide) (x_bin h.k rfl rfl rfl ib_lss) (fun a h => ?_)
              refine l_end ?_
              refine c_cs h rfl (fun hb => ?_) (fun hb => ?_)
              · rw [if_pos (of_decide_eq_true hb)] at hl79
                refine wp_skip ?_
                refine e_thenN ?_
                refine wp_seq ?_
                refine wp_block ?_
                refine c_rs ?_ -- region 20
                refine s_move h rfl _ rfl rfl (by decide) rfl (fun a h => ?_)
                refine s_assign h rfl _ rfl rfl (by decide) rfl (fun a h => ?_)
                refine l_end ?_
                refine c_rs ?_ -- region 21
                refine s_move h rfl _ rfl rfl (by decide) rfl (fun a h => ?_)
                refine s_move h rfl _ rfl rfl (by decide) rfl (fun a h => ?_)
                obtain ⟨x82, h83, hl79⟩ := bsome hl79
                obtain ⟨m81, hi84, hm85, hx86⟩ := idx_some h83
                refine s_x h rfl rfl (by decide) (x_indexStr h.k rfl Tryd.underlying9 rfl rfl hi84 hx86) (fun a h => ?_)
                refine s_assign h rfl _ rfl rfl (by decide) rfl (fun a h => ?_)
                refine l_end ?_
                obtain ⟨o87, hc88, hl79⟩ := bsome hl79
                refine c_cut (fun a w => ∃ (x89 : UInt8), x89 = o87 ∧ St 165 w0 (ownL ([] ++ [.sn S0])) [(11, .string (sb x32.1)), (17, .string (sb x73)), (19, .int .u8 (x89.toNat : Int)), (110, .int .i64 (x32.1.length : Int)), (111, .int .i64 x75)] [.sn S45] a w) ?_ ?_
                · refine wp_block ?_
                  refine c_rs ?_ -- region 22
                  refine s_move h rfl _ rfl rfl (by decide) rfl (fun a h => ?_)
                  refine s_x h rfl rfl (by decide) (x_bin h.k rfl rfl rfl ib_geq) (fun a h => ?_)
                  refine s_move h rfl _ rfl rfl (by decide) rfl (fun a h => ?_)
                  refine q_grp h 3 (t := 120) 123 ((decide (97 ≤ (x82.toNat : Int))) && (decide ((x82.toNat : Int) ≤ 122))) rfl (fun hB2 => ?_) (fun hB2 => ?_) (fun a w h => ?_)
                  · refine g_yes h rfl rfl rfl rfl hB2 ?_
                    refine s_move h rfl _ rfl rfl (by decide) rfl (fun a h => ?_)
                    refine g_yes h rfl rfl rfl rfl hB2 ?_
                    refine s_x h rfl rfl (by decide) (x_bin h.k rfl rfl rfl ib_leq) (fun a h => ?_)
                    refine s_x h rfl rfl (by decide) (x_pick (u' := undef) h.k rfl rfl (fun _ => rfl) (fun hh => absurd (hB2.symm.trans hh) (by decide))) (fun a h => ?_)
                    exact (h.mid 2 rfl).val (by first | rfl | (rw [hB2]; first | rfl | simp))
                  · refine g_no h rfl rfl rfl rfl hB2 rfl (by decide) (fun a h => ?_)
                    refine g_no h rfl rfl rfl rfl hB2 rfl (by decide) (fun a h => ?_)
                    refine s_x h rfl rfl (by decide) (x_pick (u' := undef) h.k rfl rfl (fun hh => absurd (hB2.symm.trans hh) (by decide)) (fun _ => rfl)) (fun a h => ?_)
                    exact (h.mid 2 rfl).val (by first | rfl | (rw [hB2]; first | rfl | simp))
                  refine s_move h rfl _ rfl rfl (by decide) rfl (fun a h => ?_)
                  refine q_grp h 3 (t := 124) 127 (((decide (97 ≤ (x82.toNat : Int))) && (decide ((x82.toNat : Int) ≤ 122))) && (decide ((x82.toNat : Int) ≠ 111))) rfl (fun hB6 => ?_) (fun hB6 => ?_) (fun a w h => ?_)
                  · refine g_yes h rfl rfl rfl rfl hB6 ?_
                    refine s_move h rfl _ rfl rfl (by decide) rfl (fun a h => ?_)
                    refine g_yes h rfl rfl rfl rfl hB6 ?_
                    refine s_x h rfl rfl (by decide) (x_bin h.k rfl rfl rfl ib_neq) (fun a h => ?_)
                    refine s_x h rfl rfl (by decide) (x_pick (u' := undef) h.k rfl rfl (fun _ => rfl) (fun hh => absurd (hB6.symm.trans hh) (by decide))) (fun a h => ?_)
                    exact (h.mid 2 rfl).val (by first | rfl | (rw [hB6]; first | rfl | simp))
                  · refine g_no h rfl rfl rfl rfl hB6 rfl (by decide) (fun a h => ?_)
                    refine g_no h rfl rfl rfl rfl hB6 rfl (by decide) (fun a h => ?_)
                    refine s_x h rfl rfl (by decide) (x_pick (u' := undef) h.k rfl rfl (fun hh => absurd (hB6.symm.trans hh) (by decide)) (fun _ => rfl)) (fun a h => ?_)
                    exact (h.mid 2 rfl).val (by first | rfl | (rw [hB6]; first | rfl | simp))
                  refine s_move h rfl _ rfl rfl (by decide) rfl (fun a h => ?_)
                  refine q_grp h 3 (t := 128) 131 ((((decide (97 ≤ (x82.toNat : Int))) && (decide ((x82.toNat : Int) ≤ 122))) && (decide ((x82.toNat : Int) ≠ 111))) && (decide ((x82.toNat : Int) ≠ 108))) rfl (fun hB10 => ?_) (fun hB10 => ?_) (fun a w h => ?_)
                  · refine g_yes h rfl rfl rfl rfl hB10 ?_
                    refine s_move h rfl _ rfl rfl (by decide) rfl (fun a h => ?_)
                    refine g_yes h rfl rfl rfl rfl hB10 ?_
                    refine s_x h rfl rfl (by decide) (x_bin h.k rfl rfl rfl ib_neq) (fun a h => ?_)
                    refine s_x h rfl rfl (by decide) (x_pick (u' := undef) h.k rfl rfl (fun _ => rfl) (fun hh => absurd (hB10.symm.trans hh) (by decide))) (fun a h => ?_)
                    exact (h.mid 2 rfl).val (by first | rfl | (rw [hB10]; first | rfl | simp))
                  · refine g_no h rfl rfl rfl rfl hB10 rfl (by decide) (fun a h => ?_)
                    refine g_no h rfl rfl rfl rfl hB10 rfl (by decide) (fun a h => ?_)
                    refine s_x h rfl rfl (by decide) (x_pick (u' := undef) h.k rfl rfl (fun hh => absurd (hB10.symm.trans hh) (by decide)) (fun _ => rfl)) (fun a h => ?_)
                    exact (h.mid 2 rfl).val (by first | rfl | (rw [hB10]; first | rfl | simp))
                  refine s_move h rfl _ rfl rfl (by decide) rfl (fun a h => ?_)
                  refine q_grp h 3 (t := 132) 135 (((((decide (97 ≤ (x82.toNat : Int))) && (decide ((x82.toNat : Int) ≤ 122))) && (decide ((x82.toNat : Int) ≠ 111))) && (decide ((x82.toNat : Int) ≠ 108))) && (decide ((x82.toNat : Int) ≠ 98))) rfl (fun hB14 => ?_) (fun hB14 => ?_) (fun a w h => ?_)
                  · refine g_yes h rfl rfl rfl rfl hB14 ?_
                    refine s_move h rfl _ rfl rfl (by decide) rfl (fun a h => ?_)
                    refine g_yes h rfl rfl rfl rfl hB14 ?_
                    refine s_x h rfl rfl (by decide) (x_bin h.k rfl rfl rfl ib_neq) (fun a h => ?_)
                    refine s_x h rfl rfl (by decide) (x_pick (u' := undef) h.k rfl rfl (fun _ => rfl) (fun hh => absurd (hB14.symm.trans hh) (by decide))) (fun a h => ?_)
                    exact (h.mid 2 rfl).val (by first | rfl | (rw [hB14]; first | rfl | simp))
                  · refine g_no h rfl rfl rfl rfl hB14 rfl (by decide) (fun a h => ?_)
                    refine g_no h rfl rfl rfl rfl hB14 rfl (by decide) (fun a h => ?_)
                    refine s_x h rfl rfl (by decide) (x_pick (u' := undef) h.k rfl rfl (fun hh => absurd (hB14.symm.trans hh) (by decide)) (fun _ => rfl)) (fun a h => ?_)
                    exact (h.mid 2 rfl).val (by first | rfl | (rw [hB14]; first | rfl | simp))
                  refine s_assign h rfl _ rfl rfl (by decide) rfl (fun a h => ?_)
                  refine l_end ?_
                  refine c_cond h rfl (fun hb => ?_) (fun hb => ?_)
                  · rw [if_pos hb] at hc88
                    refine c_r ?_ -- region 23
                    refine s_move h rfl _ rfl rfl (by decide) rfl (fun a h => ?_)
                    refine s_x h rfl rfl (by decide) (x_bin h.k rfl rfl rfl (ib_sub (u8_sub x82 (97 : UInt8)))) (fun a h => ?_)
                    refine s_x h rfl rfl (by decide) (x_bin h.k rfl rfl rfl (ib_add (u8_add (x82 - (97 : UInt8)) (65 : UInt8)))) (fun a h => ?_)
                    refine s_assign h rfl _ rfl rfl (by decide) rfl (fun a h => ?_)
                    refine l_nil ?_
                    refine e_blkN ?_
                    refine e_thenN ?_
                    exact ⟨((x82 - (97 : UInt8)) + (65 : UInt8)), (Option.some.inj hc88), h.has (by exact ⟨rfl, rfl, rfl, rfl, rfl, trivial⟩)⟩
                  · rw [if_neg (by rw [hb]; decide)] at hc88
                    refine c_rs ?_ -- region 24
                    refine s_move h rfl _ rfl rfl (by decide) rfl (fun a h => ?_)
                    refine s_x h rfl rfl (by decide) (x_bin h.k rfl rfl rfl ib_eql) (fun a h => ?_)
                    refine s_assign h rfl _ rfl rfl (by decide) rfl (fun a h => ?_)
                    refine l_end ?_
                    refine c_cond h rfl (fun hb => ?_) (fun hb => ?_)
                    · rw [if_pos (of_decide_eq_true hb)] at hc88
                      refine c_r ?_ -- region 25
                      refine s_assign h rfl _ rfl rfl (by decide) rfl (fun a h => ?_)
                      refine l_nil ?_
                      refine e_blkN ?_
                      refine e_thenN ?_
                      exact ⟨(48 : UInt8), (Option.some.inj hc88), h.has (by exact ⟨rfl, rfl, rfl, rfl, rfl, trivial⟩)⟩
                    · rw [if_neg (of_decide_eq_false hb)] at hc88
                      refine c_rs ?_ -- region 26
                      refine s_move h rfl _ rfl rfl (by decide) rfl (fun a h => ?_)
                      refine s_x h rfl rfl (by decide) (x_bin h.k rfl rfl rfl ib_eql) (fun a h => ?_)
                      refine s_assign h rfl _ rfl rfl (by decide) rfl (fun a h => ?_)
                      refine l_end ?_
                      refine c_cond h rfl (fun hb => ?_) (fun hb => ?_)
                      · rw [if_pos (of_decide_eq_true hb)] at hc88
                        refine c_r ?_ -- region 27
                        refine s_assign h rfl _ rfl rfl (by decide) rfl (fun a h => ?_)
                        refine l_nil ?_
                        refine e_blkN ?_
                        refine e_thenN ?_
                        exact ⟨(49 : UInt8), (Option.some.inj hc88), h.has (by exact ⟨rfl, rfl, rfl, rfl, rfl, trivial⟩)⟩
                      · rw [if_neg (of_decide_eq_false hb)] at hc88
                        refine c_rs ?_ -- region 28
                        refine s_move h rfl _ rfl rfl (by decide) rfl (fun a h => ?_)
                        refine s_x h rfl rfl (by decide) (x_bin h.k rfl rfl rfl ib_eql) (fun a h => ?_)
                        refine s_assign h rfl _ rfl rfl (by decide) rfl (fun a h => ?_)
                        refine l_end ?_
                        refine c_cond h rfl (fun hb => ?_) (fun hb => ?_)
                        · rw [if_pos (of_decide_eq_true hb)] at hc88
                          refine c_r ?_ -- region 29
                          refine s_assign h rfl _ rfl rfl (by decide) rfl (fun a h => ?_)
                          refine l_nil ?_
                          refine e_blkN ?_
                          refine e_thenN ?_
                          exact ⟨(56 : UInt8), (Option.some.inj hc88), h.has (by exact ⟨rfl, rfl, rfl, rfl, rfl, trivial⟩)⟩
                        · rw [if_neg (of_decide_eq_false hb)] at hc88
                          refine wp_skip ?_
                          refine e_blkN ?_
                          refine e_thenN ?_
                          exact ⟨x82, (Option.some.inj hc88), h.has (by exact ⟨rfl, rfl, rfl, rfl, rfl, trivial⟩)⟩
                · rintro a w ⟨x89, rfl, h⟩
                  refine c_r ?_ -- region 30
                  refine s_move h rfl _ rfl rfl (by decide) rfl (fun a h => ?_)
                  refine s_move h rfl _ rfl rfl (by decide) rfl (fun a h => ?_)
                  refine q_bslice (T := ty8) (S := S45) h rfl rfl rfl (by decide) Tryd.underlying23 zi_uint8 (by decide) (by decide) (by decide) (by decide) [.int .u8 (x89.toNat : Int)] rfl rfl (C := [[.int .u8 (x89.toNat : Int)]]) rfl (xs := [x89]) ⟨[.int .u8 (x89.toNat : Int)], _, rfl, rfl, rfl⟩ (by intro c hc; simp only [List.mem_cons, List.not_mem_nil, or_false] at hc; subst hc; rfl) (fun a w A98 h => ?_)
                  have hb99 : reps ty8 S45 ([[.int .u8 (x89.toNat : Int)]] : List (List Value)).flatten [x89] := ⟨[.int .u8 (x89.toNat : Int)], _, rfl, rfl, rfl⟩
                  refine s_x h rfl rfl (by decide) (x_convBS (S := S45) h.k rfl Tryd.underlying23 Tryd.underlying5 Tryd.underlying9 rfl hb99 (h.m.rdRowA (i := 0) rfl)) (fun a h => ?_)
                  obtain ⟨x100, h101, hl79⟩ := bsome hl79
                  refine s_x h rfl rfl (by decide) (x_addS h.k rfl rfl rfl h101) (fun a h => ?_)
                  obtain ⟨x102, h103, hl79⟩ := bsome hl79
                  refine s_x h rfl rfl (by decide) (x_addS h.k rfl rfl rfl h103) (fun a h => ?_)
                  refine s_assign h rfl _ rfl rfl (by decide) rfl (fun a h => ?_)
                  refine l_nil ?_
                  refine e_blkN ?_
                  refine e_thenN ?_
                  refine c_r ?_ -- region 31
                  refine s_x h rfl rfl (by decide) (x_bin h.k rfl rfl rfl (ib_add rfl)) (fun a h => ?_)
                  refine s_move h rfl _ rfl rfl (by decide) rfl (fun a h => ?_)
                  refine l_nil ?_
                  have h := h.pick [1] (by decide) rfl
                  exact e_thenN ⟨m80, Nat.lt_succ_self _, x102, w64 (x75 + 1), hl79, (sapp_some h103).2, (w64_r _), h.has (by exact ⟨rfl, rfl, rfl, rfl, trivial⟩)⟩
              · rw [if_neg (of_decide_eq_false hb)] at hl79
                refine wp_exit ?_
                refine e_thenX ?_
                refine e_thenX ?_
                refine e_blkX ?_
                refine e_thenN ?_
                exact ⟨x73, (Option.some.inj hl79), hr74, h.has (by exact ⟨rfl, rfl, trivial⟩)⟩
            · rintro a w ⟨x77, rfl, hr78, h⟩
              refine e_thenN ?_
              refine c_rs ?_ -- region 32
              refine s_move h rfl _ rfl rfl (by decide) rfl (fun a h => ?_)
              obtain ⟨x105, h106, hf⟩ := bsome hf
              have hX := code_Tidy_ok Fu (S0 := snapAll _) x77 hr78 _ h106 _ h.startAll
              refine q_callX hX h rfl rfl rfl (by decide) Tryd.func18 rfl rfl rfl (fun a w v L1 S1 hR hb1 h => ?_)
              obtain ⟨rfl, rfl, hr108, _⟩ := hR
              refine s_move h rfl _ rfl rfl (by decide) rfl (fun a h => ?_)
              refine s_x h rfl rfl (by decide) (x_eqlStr h.k rfl rfl rfl) (fun a h => ?_)
              refine s_move h rfl _ rfl rfl (by decide) rfl (fun a h => ?_)
              obtain ⟨z110, hz109, hf⟩ := bsome hf
              refine q_grp h 5 (t := 159) 164 z110 rfl (fun hB4 => ?_) (fun hB4 => ?_) (fun a w h => ?_)
              · rw [if_pos (of_decide_eq_true hB4)] at hz109
                refine g_yes h rfl rfl rfl rfl hB4 ?_
                refine s_move h rfl _ rfl rfl (by decide) rfl (fun a h => ?_)
                refine g_yes h rfl rfl rfl rfl hB4 ?_
                obtain ⟨x112, h113, hz109⟩ := bsome hz109
                have hX := code_Tidy_ok Fu (S0 := snapAll _) x32.1 hr35 _ h113 _ h.startAll
                refine q_callX hX h rfl rfl rfl (by decide) Tryd.func18 rfl rfl rfl (fun a w v L1 S1 hR hb1 h => ?_)
                obtain ⟨rfl, rfl, hr115, _⟩ := hR
                refine g_yes h rfl rfl rfl rfl hB4 ?_
                refine s_move h rfl _ rfl rfl (by decide) rfl (fun a h => ?_)
                refine g_yes h rfl rfl rfl rfl hB4 ?_
                refine s_x h rfl rfl (by decide) (x_eqlStr h.k rfl rfl rfl) (fun a h => ?_)
                refine s_x h rfl rfl (by decide) (x_pick (u' := undef) h.k rfl rfl (fun _ => rfl) (fun hh => absurd (hB4.symm.trans hh) (by decide))) (fun a h => ?_)
                exact (h.mid 4 rfl).val (by rw [Option.some.inj hz109])
              · refine g_no h rfl rfl rfl rfl hB4 rfl (by decide) (fun a h => ?_)
                refine g_no h rfl rfl rfl rfl hB4 rfl (by decide) (fun a h => ?_)
                refine g_no h rfl rfl rfl rfl hB4 rfl (by decide) (fun a h => ?_)
                refine g_no h rfl rfl rfl rfl hB4 rfl (by decide) (fun a h => ?_)
                rw [if_neg (of_decide_eq_false hB4)] at hz109
                refine s_x h rfl rfl (by decide) (x_pick (u' := undef) h.k rfl rfl (fun hh => absurd (hB4.symm.trans hh) (by decide)) (fun _ => rfl)) (fun a h => ?_)
                exact (h.mid 4 rfl).val (by rw [Option.some.inj hz109])
              refine s_assign h rfl _ rfl rfl (by decide) rfl (fun a h => ?_)
              refine l_end ?_
              refine wp_ret ?_
              rw [← Option.some.inj hf]
              exact r_ret1 h rfl (rv_tmp h rfl) ⟨_, [], _, rfl, ⟨rfl, rfl, trivial⟩, rfl, up46, h.m⟩
end Go.Proofs.YtcjleeclpmgbjaaDoor
