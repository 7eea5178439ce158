/- Xk: Go functions as plain functions, and that they are so (written by xt.py). -/
import Derived.Test.YtoimllmmlbehgaaXt
import Derived.Test.YtoimllmmlbehgaaEb
set_option linter.unusedVariables false
set_option linter.unusedSimpArgs false
namespace Go.Proofs.Ytoimllmmlbehgaa
open Go.RowKit
def chatelainelaw10_key (Fu : Nat) : Option ((List UInt8)) :=
  (mkN 1 32).bind fun n1 => (ix (List.replicate n1 ((0 : UInt8) : UInt8)).length 0).bind fun m6 => some ((List.replicate n1 ((0 : UInt8) : UInt8)).set m6 (1 : UInt8))
set_option maxRecDepth 100000 in
set_option maxHeartbeats 2000000 in
theorem chatelainelaw10_key_ok (Fu : Nat) {S0 : Snap}  (r : (List UInt8)) (hf : chatelainelaw10_key Fu = some r) (w0 : World) (hm : Mem w0 (ownL ([] ++ [.sn S0])) ([] ++ [.sn S0]) w0) :
    Calls Try.prog 30 #[] w0 (Ret w0 S0 [] (fun v L1 S1 => ∃ (A15 : Option Addr), ∃ (c16 : Nat), ∃ (cs17 : List Value), v = .slice A15 r.length c16 ∧ L1 = [.row (.slice A15 r.length c16) 5 1 r.length cs17] ∧ reps ty8 S1 cs17 r ∧ True)) := by
  unfold chatelainelaw10_key at hf
  refine c_enterM Try.func30 rfl 6 rfl (by simp) _ hm _ rfl (fun a h => ?_)
  refine c_rs ?_ -- region 0
  refine s_assign h rfl _ rfl rfl (by decide) rfl (fun a h => ?_)
  refine l_end ?_
  refine c_rs ?_ -- region 1
  obtain ⟨n1, h2, hf⟩ := bsome hf
  refine q_make (T := ty8) (S := S0) h rfl rfl rfl (by decide) Try.underlying22 zb_uint8 rfl rfl (q := (0 : UInt8)) rfl rfl rfl h2 (fun a w A3 cs4 hq5 h => ?_)
  refine s_assign h rfl _ rfl rfl (by decide) rfl (fun a h => ?_)
  refine l_end ?_
  refine c_rs ?_ -- region 2
  refine s_move h rfl _ rfl rfl (by decide) rfl (fun a h => ?_)
  obtain ⟨m6, h7, hf⟩ := bsome hf
  obtain ⟨hi8, hm9⟩ := ix_some h7
  obtain ⟨g11, hA10⟩ := h.m.rowHead (i := 0) rfl (Nat.lt_of_le_of_lt (Nat.zero_le _) hm9)
  refine s_x h rfl rfl (by decide) (x_iaddrE h.k rfl Try.underlying22 sz_uint8 hA10 rfl rfl hi8 hm9) (fun a h => ?_)
  refine q_setRow (T := ty8) (q := (1 : UInt8)) h rfl rfl rfl sz_uint8 hA10 rfl rfl 0 rfl rfl hq5 rfl (by first | exact hm9 | simpa using hm9) (fun a w cs12 hq13 h => ?_)
  have hl14 : (List.replicate n1 ((0 : UInt8) : UInt8)).length = ((List.replicate n1 ((0 : UInt8) : UInt8)).set m6 (1 : UInt8)).length := by simp only [List.length_set]
  rw [hl14] at h
  refine l_end ?_
  refine c_rs ?_ -- region 3
  refine s_move h rfl _ rfl rfl (by decide) rfl (fun a h => ?_)
  refine s_assign h rfl _ rfl rfl (by decide) rfl (fun a h => ?_)
  refine l_end ?_
  refine wp_ret ?_
  obtain rfl := Option.some.inj hf
  exact r_ret1 h rfl (rv_tmp h rfl) ⟨_, [.row (.slice A3 ((List.replicate n1 ((0 : UInt8) : UInt8)).set m6 (1 : UInt8)).length n1) 5 1 ((List.replicate n1 ((0 : UInt8) : UInt8)).set m6 (1 : UInt8)).length cs12], _, rfl, ⟨A3, n1, cs12, rfl, rfl, hq13, trivial⟩, rfl, (Up.refl _ _ _), h.m⟩
def chatelainelaw10_awake (Fu : Nat) : Option Bool :=
  (chatelainelaw10_key Fu).bind fun x1 => (xts_New Fu x1).bind fun x13 => (match x13 with | .inl x19 => (if x19 ≠ 0 then (some false) else ((mkN 1 32).bind fun n21 => (xts_Sector_Encrypt_nil0 Fu 5 (List.replicate n21 ((0 : UInt8) : UInt8))).bind fun x30 => (if ((decide (x30.2 = 0)) && (decide ((x30.1.length : Int) = 32))) = true then (mkN 1 32).bind fun n45 => (chatelaineref01_Same Fu x30.1 (List.replicate n45 ((0 : UInt8) : UInt8))).bind fun x50 => some (!x50) else some false).bind fun z43 => some z43)) | .inr x53 => (if x53.2 ≠ 0 then (some false) else ((mkN 1 32).bind fun n57 => (xts_Sector_Encrypt Fu x53.1 5 (List.replicate n57 ((0 : UInt8) : UInt8))).bind fun x66 => (if ((decide (x66.2 = 0)) && (decide ((x66.1.length : Int) = 32))) = true then (mkN 1 32).bind fun n81 => (chatelaineref01_Same Fu x66.1 (List.replicate n81 ((0 : UInt8) : UInt8))).bind fun x86 => some (!x86) else some false).bind fun z79 => some z79)))
set_option maxRecDepth 100000 in
set_option maxHeartbeats 2000000 in
theorem chatelainelaw10_awake_ok (Fu : Nat) {S0 : Snap}  (r : Bool) (hf : chatelainelaw10_awake Fu = some r) (w0 : World) (hm : Mem w0 (ownL ([] ++ [.sn S0])) ([] ++ [.sn S0]) w0) :
    Calls Try.prog 28 #[] w0 (Ret w0 S0 [] (fun v L1 S1 => v = .bool r ∧ L1 = [] ∧ True)) := by
  unfold chatelainelaw10_awake at hf
  refine c_enterM Try.func28 rfl 31 rfl (by simp) _ hm _ rfl (fun a h => ?_)
  refine c_rs ?_ -- region 0
  refine s_assign h rfl _ rfl rfl (by decide) rfl (fun a h => ?_)
  refine l_end ?_
  refine c_rs ?_ -- region 1
  obtain ⟨x1, h2, hf⟩ := bsome hf
  have hX := chatelainelaw10_key_ok Fu (S0 := snapAll _)  _ h2 _ h.startAll
  refine q_callX hX h rfl rfl rfl (by decide) Try.func30 rfl rfl rfl (fun a w v L1 S1 hR hb1 h => ?_)
  obtain ⟨A4, c5, cs6, rfl, rfl, hq7, _⟩ := hR
  have hq8 := hq7.fl (S' := S0) fl_8
  obtain ⟨S9, le10, up11, hs12, h⟩ := q_freeze (T := ty8) h (Up.refl _ _ _) hq8
  obtain ⟨x13, h14, hf⟩ := bsome hf
  have hX := xts_New_ok Fu (S0 := S9) A4 c5 x1 hs12 _ h14 _ (h.sub (Ls := []))
  refine q_callY (Ls := []) hX h up11 rfl rfl rfl (by decide) Try.func29 rfl rfl rfl (fun a w v L1 S16 hR le18 up17 h => ?_)
  rcases hR with hR | hR
  · obtain ⟨x19, rfl, hR⟩ := hR
    dsimp only at hf
    obtain ⟨rfl, rfl, hr20, _⟩ := hR
    refine s_move h rfl _ rfl rfl (by decide) rfl (fun a h => ?_)
    refine s_x h rfl rfl (by decide) (x_ext h.k rfl rfl rfl) (fun a h => ?_)
    refine s_x h rfl rfl (by decide) (x_ext h.k rfl rfl rfl) (fun a h => ?_)
    refine s_assign h rfl _ rfl rfl (by decide) rfl (fun a h => ?_)
    refine s_assign h rfl _ rfl rfl (by decide) rfl (fun a h => ?_)
    refine l_end ?_
    refine wp_seq ?_
    refine c_rs ?_ -- region 2
    refine s_move h rfl _ rfl rfl (by decide) rfl (fun a h => ?_)
    refine s_x h rfl rfl (by decide) (x_bin h.k rfl rfl rfl ib_neq) (fun a h => ?_)
    refine l_end ?_
    refine c_cond h rfl (fun hb => ?_) (fun hb => ?_)
    · rw [if_pos (of_decide_eq_true hb)] at hf
      refine c_rs ?_ -- region 3
      refine s_assign h rfl _ rfl rfl (by decide) rfl (fun a h => ?_)
      refine l_end ?_
      refine wp_ret ?_
      refine e_thenR ?_
      rw [← Option.some.inj hf]
      exact r_ret1 h rfl (rv_tmp h rfl) ⟨_, [], _, rfl, ⟨rfl, rfl, trivial⟩, rfl, up17, h.m⟩
    · rw [if_neg (of_decide_eq_false hb)] at hf
      refine wp_skip ?_
      refine e_thenN ?_
      refine c_rs ?_ -- region 4
      refine s_move h rfl _ rfl rfl (by decide) rfl (fun a h => ?_)
      obtain ⟨n21, h22, hf⟩ := bsome hf
      refine q_make (T := ty8) (S := S16) h rfl rfl rfl (by decide) Try.underlying22 zb_uint8 rfl rfl (q := (0 : UInt8)) rfl rfl rfl h22 (fun a w A23 cs24 hq25 h => ?_)
      obtain ⟨S26, le27, up28, hs29, h⟩ := q_freeze (T := ty8) h up17 hq25
      obtain ⟨x30, h31, hf⟩ := bsome hf
      have hX := xts_Sector_Encrypt_nil0_ok Fu (S0 := S26) 5 (show r64 5 from ⟨by decide, by decide⟩) A23 n21 (List.replicate n21 ((0 : UInt8) : UInt8)) hs29 _ h31 _ (h.sub (Ls := []))
      refine q_callY (Ls := []) hX h up28 rfl rfl rfl (by decide) Try.func31 rfl rfl rfl (fun a w v L1 S33 hR le35 up34 h => ?_)
      obtain ⟨A36, c37, rfl, rfl, hs38, hr39, _⟩ := hR
      refine s_move h rfl _ rfl rfl (by decide) rfl (fun a h => ?_)
      refine s_x h rfl rfl (by decide) (x_ext h.k rfl rfl rfl) (fun a h => ?_)
      refine s_x h rfl rfl (by decide) (x_ext h.k rfl rfl rfl) (fun a h => ?_)
      refine s_assign h rfl _ rfl rfl (by decide) rfl (fun a h => ?_)
      refine s_assign h rfl _ rfl rfl (by decide) rfl (fun a h => ?_)
      refine l_end ?_
      refine c_rs ?_ -- region 5
      refine s_move h rfl _ rfl rfl (by decide) rfl (fun a h => ?_)
      refine s_x h rfl rfl (by decide) (x_bin h.k rfl rfl rfl ib_eql) (fun a h => ?_)
      refine s_move h rfl _ rfl rfl (by decide) rfl (fun a h => ?_)
      refine q_grp h 4 (t := 20) 24 ((decide (x30.2 = 0)) && (decide ((x30.1.length : Int) = 32))) rfl (fun hB2 => ?_) (fun hB2 => ?_) (fun a w h => ?_)
      · refine g_yes h rfl rfl rfl rfl hB2 ?_
        refine s_move h rfl _ rfl rfl (by decide) rfl (fun a h => ?_)
        refine g_yes h rfl rfl rfl rfl hB2 ?_
        refine s_x h rfl rfl (by decide) (x_len h.k rfl Try.underlying22 rfl) (fun a h => ?_)
        refine g_yes h rfl rfl rfl rfl hB2 ?_
        refine s_x h rfl rfl (by decide) (x_bin h.k rfl rfl rfl ib_eql) (fun a h => ?_)
        refine s_x h rfl rfl (by decide) (x_pick (u' := undef) h.k rfl rfl (fun _ => rfl) (fun hh => absurd (hB2.symm.trans hh) (by decide))) (fun a h => ?_)
        exact (h.mid 3 rfl).val (by first | rfl | (rw [hB2]; first | rfl | simp))
      · refine g_no h rfl rfl rfl rfl hB2 rfl (by decide) (fun a h => ?_)
        refine g_no h rfl rfl rfl rfl hB2 rfl (by decide) (fun a h => ?_)
        refine g_no h rfl rfl rfl rfl hB2 rfl (by decide) (fun a h => ?_)
        refine s_x h rfl rfl (by decide) (x_pick (u' := undef) h.k rfl rfl (fun hh => absurd (hB2.symm.trans hh) (by decide)) (fun _ => rfl)) (fun a h => ?_)
        exact (h.mid 3 rfl).val (by first | rfl | (rw [hB2]; first | rfl | simp))
      refine s_move h rfl _ rfl rfl (by decide) rfl (fun a h => ?_)
      obtain ⟨z43, hz42, hf⟩ := bsome hf
      refine q_grp h 5 (t := 25) 30 z43 rfl (fun hB7 => ?_) (fun hB7 => ?_) (fun a w h => ?_)
      · rw [if_pos hB7] at hz42
        refine g_yes h rfl rfl rfl rfl hB7 ?_
        refine s_move h rfl _ rfl rfl (by decide) rfl (fun a h => ?_)
        refine g_yes h rfl rfl rfl rfl hB7 ?_
        obtain ⟨n45, h46, hz42⟩ := bsome hz42
        refine q_make (T := ty8) (S := S33) h rfl rfl rfl (by decide) Try.underlying22 zb_uint8 rfl rfl (q := (0 : UInt8)) rfl rfl rfl h46 (fun a w A47 cs48 hq49 h => ?_)
        refine g_yes h rfl rfl rfl rfl hB7 ?_
        obtain ⟨x50, h51, hz42⟩ := bsome hz42
        have hX := chatelaineref01_Same_ok Fu (S0 := snapAll _) A36 c37 x30.1 (hs38.mono (h.m.leAll (i := 1) rfl)) A47 n45 (List.replicate n45 ((0 : UInt8) : UInt8)) (h.m.rowAll (i := 0) rfl (j := 1) rfl hq49) _ h51 _ h.startAll
        refine q_callX hX h rfl rfl rfl (by decide) Try.func25 rfl rfl rfl (fun a w v L1 S1 hR hb1 h => ?_)
        obtain ⟨rfl, rfl, _⟩ := hR
        refine g_yes h rfl rfl rfl rfl hB7 ?_
        refine s_x h rfl rfl (by decide) (x_not h.k rfl rfl) (fun a h => ?_)
        refine s_x h rfl rfl (by decide) (x_pick (u' := undef) h.k rfl rfl (fun _ => rfl) (fun hh => absurd (hB7.symm.trans hh) (by decide))) (fun a h => ?_)
        have h := h.pick [1] (by decide) rfl
        exact (h.mid 4 rfl).val (by rw [Option.some.inj hz42])
      · refine g_no h rfl rfl rfl rfl hB7 rfl (by decide) (fun a h => ?_)
        refine g_no h rfl rfl rfl rfl hB7 rfl (by decide) (fun a h => ?_)
        refine g_no h rfl rfl rfl rfl hB7 rfl (by decide) (fun a h => ?_)
        refine g_no h rfl rfl rfl rfl hB7 rfl (by decide) (fun a h => ?_)
        rw [if_neg (by rw [hB7]; decide)] at hz42
        refine s_x h rfl rfl (by decide) (x_pick (u' := undef) h.k rfl rfl (fun hh => absurd (hB7.symm.trans hh) (by decide)) (fun _ => rfl)) (fun a h => ?_)
        exact (h.mid 4 rfl).val (by rw [Option.some.inj hz42])
      refine s_assign h rfl _ rfl rfl (by decide) rfl (fun a h => ?_)
      refine l_end ?_
      refine wp_ret ?_
      rw [← Option.some.inj hf]
      exact r_ret1 h rfl (rv_tmp h rfl) ⟨_, [], _, rfl, ⟨rfl, rfl, trivial⟩, rfl, up34, h.m⟩
  · obtain ⟨x53, rfl, hR⟩ := hR
    dsimp only at hf
    obtain ⟨g54, rfl, rfl, hp55, hr56, _⟩ := hR
    refine s_move h rfl _ rfl rfl (by decide) rfl (fun a h => ?_)
    refine s_x h rfl rfl (by decide) (x_ext h.k rfl rfl rfl) (fun a h => ?_)
    refine s_x h rfl rfl (by decide) (x_ext h.k rfl rfl rfl) (fun a h => ?_)
    refine s_assign h rfl _ rfl rfl (by decide) rfl (fun a h => ?_)
    refine s_assign h rfl _ rfl rfl (by decide) rfl (fun a h => ?_)
    refine l_end ?_
    refine wp_seq ?_
    refine c_rs ?_ -- region 2
    refine s_move h rfl _ rfl rfl (by decide) rfl (fun a h => ?_)
    refine s_x h rfl rfl (by decide) (x_bin h.k rfl rfl rfl ib_neq) (fun a h => ?_)
    refine l_end ?_
    refine c_cond h rfl (fun hb => ?_) (fun hb => ?_)
    · rw [if_pos (of_decide_eq_true hb)] at hf
      refine c_rs ?_ -- region 3
      refine s_assign h rfl _ rfl rfl (by decide) rfl (fun a h => ?_)
      refine l_end ?_
      refine wp_ret ?_
      refine e_thenR ?_
      rw [← Option.some.inj hf]
      exact r_ret1 h rfl (rv_tmp h rfl) ⟨_, [], _, rfl, ⟨rfl, rfl, trivial⟩, rfl, up17, h.m⟩
    · rw [if_neg (of_decide_eq_false hb)] at hf
      refine wp_skip ?_
      refine e_thenN ?_
      refine c_rs ?_ -- region 4
      refine s_move h rfl _ rfl rfl (by decide) rfl (fun a h => ?_)
      obtain ⟨n57, h58, hf⟩ := bsome hf
      refine q_make (T := ty8) (S := S16) h rfl rfl rfl (by decide) Try.underlying22 zb_uint8 rfl rfl (q := (0 : UInt8)) rfl rfl rfl h58 (fun a w A59 cs60 hq61 h => ?_)
      obtain ⟨S62, le63, up64, hs65, h⟩ := q_freeze (T := ty8) h up17 hq61
      obtain ⟨x66, h67, hf⟩ := bsome hf
      have hX := xts_Sector_Encrypt_ok Fu (S0 := S62) g54 x53.1 (hp55.mono le63) 5 (show r64 5 from ⟨by decide, by decide⟩) A59 n57 (List.replicate n57 ((0 : UInt8) : UInt8)) hs65 _ h67 _ (h.sub (Ls := []))
      refine q_callY (Ls := []) hX h up64 rfl rfl rfl (by decide) Try.func31 rfl rfl rfl (fun a w v L1 S69 hR le71 up70 h => ?_)
      obtain ⟨A72, c73, rfl, rfl, hs74, hr75, _⟩ := hR
      refine s_move h rfl _ rfl rfl (by decide) rfl (fun a h => ?_)
      refine s_x h rfl rfl (by decide) (x_ext h.k rfl rfl rfl) (fun a h => ?_)
      refine s_x h rfl rfl (by decide) (x_ext h.k rfl rfl rfl) (fun a h => ?_)
      refine s_assign h rfl _ rfl rfl (by decide) rfl (fun a h => ?_)
      refine s_assign h rfl _ rfl rfl (by decide) rfl (fun a h => ?_)
      refine l_end ?_
      refine c_rs ?_ -- region 5
      refine s_move h rfl _ rfl rfl (by decide) rfl (fun a h => ?_)
      refine s_x h rfl rfl (by decide) (x_bin h.k rfl rfl rfl ib_eql) (fun a h => ?_)
      refine s_move h rfl _ rfl rfl (by decide) rfl (fun a h => ?_)
      refine q_grp h 4 (t := 20) 24 ((decide (x66.2 = 0)) && (decide ((x66.1.length : Int) = 32))) rfl (fun hB2 => ?_) (fun hB2 => ?_) (fun a w h => ?_)
      · refine g_yes h rfl rfl rfl rfl hB2 ?_
        refine s_move h rfl _ rfl rfl (by decide) rfl (fun a h => ?_)
        refine g_yes h rfl rfl rfl rfl hB2 ?_
        refine s_x h rfl rfl (by decide) (x_len h.k rfl Try.underlying22 rfl) (fun a h => ?_)
        refine g_yes h rfl rfl rfl rfl hB2 ?_
        refine s_x h rfl rfl (by decide) (x_bin h.k rfl rfl rfl ib_eql) (fun a h => ?_)
        refine s_x h rfl rfl (by decide) (x_pick (u' := undef) h.k rfl rfl (fun _ => rfl) (fun hh => absurd (hB2.symm.trans hh) (by decide))) (fun a h => ?_)
        exact (h.mid 3 rfl).val (by first | rfl | (rw [hB2]; first | rfl | simp))
      · refine g_no h rfl rfl rfl rfl hB2 rfl (by decide) (fun a h => ?_)
        refine g_no h rfl rfl rfl rfl hB2 rfl (by decide) (fun a h => ?_)
        refine g_no h rfl rfl rfl rfl hB2 rfl (by decide) (fun a h => ?_)
        refine s_x h rfl rfl (by decide) (x_pick (u' := undef) h.k rfl rfl (fun hh => absurd (hB2.symm.trans hh) (by decide)) (fun _ => rfl)) (fun a h => ?_)
        exact (h.mid 3 rfl).val (by first | rfl | (rw [hB2]; first | rfl | simp))
      refine s_move h rfl _ rfl rfl (by decide) rfl (fun a h => ?_)
      obtain ⟨z79, hz78, hf⟩ := bsome hf
      refine q_grp h 5 (t := 25) 30 z79 rfl (fun hB7 => ?_) (fun hB7 => ?_) (fun a w h => ?_)
      · rw [if_pos hB7] at hz78
        refine g_yes h rfl rfl rfl rfl hB7 ?_
        refine s_move h rfl _ rfl rfl (by decide) rfl (fun a h => ?_)
        refine g_yes h rfl rfl rfl rfl hB7 ?_
        obtain ⟨n81, h82, hz78⟩ := bsome hz78
        refine q_make (T := ty8) (S := S69) h rfl rfl rfl (by decide) Try.underlying22 zb_uint8 rfl rfl (q := (0 : UInt8)) rfl rfl rfl h82 (fun a w A83 cs84 hq85 h => ?_)
        refine g_yes h rfl rfl rfl rfl hB7 ?_
        obtain ⟨x86, h87, hz78⟩ := bsome hz78
        have hX := chatelaineref01_Same_ok Fu (S0 := snapAll _) A72 c73 x66.1 (hs74.mono (h.m.leAll (i := 1) rfl)) A83 n81 (List.replicate n81 ((0 : UInt8) : UInt8)) (h.m.rowAll (i := 0) rfl (j := 1) rfl hq85) _ h87 _ h.startAll
        refine q_callX hX h rfl rfl rfl (by decide) Try.func25 rfl rfl rfl (fun a w v L1 S1 hR hb1 h => ?_)
        obtain ⟨rfl, rfl, _⟩ := hR
        refine g_yes h rfl rfl rfl rfl hB7 ?_
        refine s_x h rfl rfl (by decide) (x_not h.k rfl rfl) (fun a h => ?_)
        refine s_x h rfl rfl (by decide) (x_pick (u' := undef) h.k rfl rfl (fun _ => rfl) (fun hh => absurd (hB7.symm.trans hh) (by decide))) (fun a h => ?_)
        have h := h.pick [1] (by decide) rfl
        exact (h.mid 4 rfl).val (by rw [Option.some.inj hz78])
      · refine g_no h rfl rfl rfl rfl hB7 rfl (by decide) (fun a h => ?_)
        refine g_no h rfl rfl rfl rfl hB7 rfl (by decide) (fun a h => ?_)
        refine g_no h rfl rfl rfl rfl hB7 rfl (by decide) (fun a h => ?_)
        refine g_no h rfl rfl rfl rfl hB7 rfl (by decide) (fun a h => ?_)
        rw [if_neg (by rw [hB7]; decide)] at hz78
        refine s_x h rfl rfl (by decide) (x_pick (u' := undef) h.k rfl rfl (fun hh => absurd (hB7.symm.trans hh) (by decide)) (fun _ => rfl)) (fun a h => ?_)
        exact (h.mid 4 rfl).val (by rw [Option.some.inj hz78])
      refine s_assign h rfl _ rfl rfl (by decide) rfl (fun a h => ?_)
      refine l_end ?_
      refine wp_ret ?_
      rw [← Option.some.inj hf]
      exact r_ret1 h rfl (rv_tmp h rfl) ⟨_, [], _, rfl, ⟨rfl, rfl, trivial⟩, rfl, up70, h.m⟩
def chatelainelaw10_right (Fu : Nat) (a0 : List UInt8) : Option Bool :=
  some ((decide ((a0.length : Int) = 32)) || (decide ((a0.length : Int) = 64)))
set_option maxRecDepth 100000 in
set_option maxHeartbeats 2000000 in
theorem chatelainelaw10_right_ok (Fu : Nat) {S0 : Snap} (Aa0 : Option Addr) (ca0 : Nat) (a0 : List UInt8) (hsa0 : slS ty8 S0 Aa0 ca0 a0) (r : Bool) (hf : chatelainelaw10_right Fu a0 = some r) (w0 : World) (hm : Mem w0 (ownL ([] ++ [.sn S0])) ([] ++ [.sn S0]) w0) :
    Calls Try.prog 32 #[.slice Aa0 a0.length ca0] w0 (Ret w0 S0 [] (fun v L1 S1 => v = .bool r ∧ L1 = [] ∧ True)) := by
  unfold chatelainelaw10_right at hf
  refine c_enterM Try.func32 rfl 11 rfl (by simp) _ hm _ rfl (fun a h => ?_)
  refine c_rs ?_ -- region 0
  refine s_assign h rfl _ rfl rfl (by decide) rfl (fun a h => ?_)
  refine l_end ?_
  refine c_rs ?_ -- region 1
  refine s_move h rfl _ rfl rfl (by decide) rfl (fun a h => ?_)
  refine s_x h rfl rfl (by decide) (x_len h.k rfl Try.underlying22 rfl) (fun a h => ?_)
  refine s_x h rfl rfl (by decide) (x_bin h.k rfl rfl rfl ib_eql) (fun a h => ?_)
  refine s_move h rfl _ rfl rfl (by decide) rfl (fun a h => ?_)
  refine q_grp h 4 (t := 6) 10 ((decide ((a0.length : Int) = 32)) || (decide ((a0.length : Int) = 64))) rfl (fun hB3 => ?_) (fun hB3 => ?_) (fun a w h => ?_)
  · refine g_no h rfl rfl rfl rfl hB3 rfl (by decide) (fun a h => ?_)
    refine g_no h rfl rfl rfl rfl hB3 rfl (by decide) (fun a h => ?_)
    refine g_no h rfl rfl rfl rfl hB3 rfl (by decide) (fun a h => ?_)
    refine s_x h rfl rfl (by decide) (x_pick (u' := undef) h.k rfl rfl (fun _ => rfl) (fun hh => absurd (hB3.symm.trans hh) (by decide))) (fun a h => ?_)
    exact (h.mid 3 rfl).val (by first | rfl | (rw [hB3]; first | rfl | simp))
  · refine g_yes h rfl rfl rfl rfl hB3 ?_
    refine s_move h rfl _ rfl rfl (by decide) rfl (fun a h => ?_)
    refine g_yes h rfl rfl rfl rfl hB3 ?_
    refine s_x h rfl rfl (by decide) (x_len h.k rfl Try.underlying22 rfl) (fun a h => ?_)
    refine g_yes h rfl rfl rfl rfl hB3 ?_
    refine s_x h rfl rfl (by decide) (x_bin h.k rfl rfl rfl ib_eql) (fun a h => ?_)
    refine s_x h rfl rfl (by decide) (x_pick (u' := undef) h.k rfl rfl (fun hh => absurd (hB3.symm.trans hh) (by decide)) (fun _ => rfl)) (fun a h => ?_)
    exact (h.mid 3 rfl).val (by first | rfl | (rw [hB3]; first | rfl | simp))
  refine s_assign h rfl _ rfl rfl (by decide) rfl (fun a h => ?_)
  refine l_end ?_
  refine wp_ret ?_
  obtain rfl := Option.some.inj hf
  exact r_ret1 h rfl (rv_tmp h rfl) ⟨_, [], _, rfl, ⟨rfl, rfl, trivial⟩, rfl, (Up.refl _ _ _), h.m⟩
end Go.Proofs.Ytoimllmmlbehgaa
