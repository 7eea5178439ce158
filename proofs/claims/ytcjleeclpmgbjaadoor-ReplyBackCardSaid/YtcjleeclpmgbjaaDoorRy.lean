/- Ry: Go functions as plain functions, and that they are so (written by xt.py). -/
import Derived.Test.YtcjleeclpmgbjaaDoorRw
import Derived.Test.YtcjleeclpmgbjaaDoorBd
import Derived.Test.YtcjleeclpmgbjaaDoorPe
set_option linter.unusedVariables false
set_option linter.unusedSimpArgs false
namespace Go.Proofs.YtcjleeclpmgbjaaDoor
open Go.RowKit
def reply_Line_l0 (Fu : Nat) (a0 : Int × (List UInt8)) : Nat → Int → (Bool × (List UInt8)) → Option ((Bool × (List UInt8)))
  | 0, _, _ => none
  | k + 1, x32, x34 => if x32 < (a0.2.length : Int) then ((idx a0.2 x32).bind fun x49 => (idx ([48, 49, 50, 51, 52, 53, 54, 55, 56, 57, 97, 98, 99, 100, 101, 102] : List UInt8) ((u8_shr x49 4).toNat : Int)).bind fun x62 => (strings_Builder_WriteByte Fu x34 x62).bind fun x67 => (idx ([48, 49, 50, 51, 52, 53, 54, 55, 56, 57, 97, 98, 99, 100, 101, 102] : List UInt8) ((x49 &&& (15 : UInt8)).toNat : Int)).bind fun x78 => (strings_Builder_WriteByte Fu x67 x78).bind fun x83 => reply_Line_l0 Fu a0 k (w64 (x32 + 1)) x83) else (some x34)
def reply_Line (Fu : Nat) (a0 : Int × (List UInt8)) : Option ((List UInt8)) :=
  if ((decide (a0.1 ≠ 0)) || (decide ((a0.2.length : Int) = 0))) = true then ((reply_Word Fu a0.1).bind fun x10 => some x10) else ((strings_Builder_WriteString Fu (false, []) ([111, 107, 32] : List UInt8)).bind fun x15 => (reply_Line_l0 Fu a0 Fu 0 x15.2).bind fun x42 => (strings_Builder_String Fu x42).bind fun x93 => some x93)
set_option maxRecDepth 100000 in
set_option maxHeartbeats 2000000 in
theorem reply_Line_ok (Fu : Nat) {S0 : Snap} (hGT : GT S0) (csa0 : List Value) (a0 : Int × (List UInt8)) (hsa0 : (tyP tyI (tyL ty8)).rep S0 csa0 a0) (r : (List UInt8)) (hf : reply_Line Fu a0 = some r) (w0 : World) (hm : Mem w0 (ownL ([] ++ [.sn S0])) ([] ++ [.sn S0]) w0) :
    Calls Tryd.prog 19 #[.agg csa0.toArray] w0 (Ret w0 S0 [] (fun v L1 S1 => v = .string (sb r) ∧ L1 = [] ∧ r.length ≤ maxLen ∧ True)) := by
  unfold reply_Line at hf
  obtain ⟨k1, k2, rfl, ⟨rfl, hr3⟩, ⟨A4, c5, rfl, hs6⟩⟩ := hsa0
  refine c_enterM Tryd.func19 rfl 36 rfl (by simp) _ hm _ rfl (fun a h => ?_)
  refine c_rs ?_ -- region 0
  refine s_box h rfl rfl rfl (by decide) rfl (cs := [.int .i64 a0.1, .slice A4 a0.2.length c5]) (by rfl) (fun a w g7 h => ?_)
  refine s_assign h rfl _ rfl rfl (by decide) rfl (fun a h => ?_)
  refine l_end ?_
  refine wp_seq ?_
  refine c_rs ?_ -- region 1
  refine s_x h rfl rfl (by decide) (x_faddr h.k rfl Tryd.underlying25 rfl sz_api_Errno rfl) (fun a h => ?_)
  refine s_x h rfl rfl (by decide) (x_ld h.k rfl Tryd.underlying22 rfl rfl ((h.m.cell (i := 0) rfl 0).trans rfl)) (fun a h => ?_)
  refine s_x h rfl rfl (by decide) (x_bin h.k rfl rfl rfl ib_neq) (fun a h => ?_)
  refine s_move h rfl _ rfl rfl (by decide) rfl (fun a h => ?_)
  refine q_grp h 5 (t := 9) 14 ((decide (a0.1 ≠ 0)) || (decide ((a0.2.length : Int) = 0))) rfl (fun hB3 => ?_) (fun hB3 => ?_) (fun a w h => ?_)
  · refine g_no h rfl rfl rfl rfl hB3 rfl (by decide) (fun a h => ?_)
    refine g_no h rfl rfl rfl rfl hB3 rfl (by decide) (fun a h => ?_)
    refine g_no h rfl rfl rfl rfl hB3 rfl (by decide) (fun a h => ?_)
    refine g_no h rfl rfl rfl rfl hB3 rfl (by decide) (fun a h => ?_)
    refine s_x h rfl rfl (by decide) (x_pick (u' := undef) h.k rfl rfl (fun _ => rfl) (fun hh => absurd (hB3.symm.trans hh) (by decide))) (fun a h => ?_)
    exact (h.mid 4 rfl).val (by first | rfl | (rw [hB3]; first | rfl | simp))
  · refine g_yes h rfl rfl rfl rfl hB3 ?_
    refine s_x h rfl rfl (by decide) (x_faddr h.k rfl Tryd.underlying25 rfl sz_Suint8 rfl) (fun a h => ?_)
    refine g_yes h rfl rfl rfl rfl hB3 ?_
    refine s_x h rfl rfl (by decide) (x_ld h.k rfl Tryd.underlying23 rfl rfl ((h.m.cell (i := 0) rfl 1).trans rfl)) (fun a h => ?_)
    refine g_yes h rfl rfl rfl rfl hB3 ?_
    refine s_x h rfl rfl (by decide) (x_len h.k rfl Tryd.underlying23 rfl) (fun a h => ?_)
    refine g_yes h rfl rfl rfl rfl hB3 ?_
    refine s_x h rfl rfl (by decide) (x_bin h.k rfl rfl rfl ib_eql) (fun a h => ?_)
    refine s_x h rfl rfl (by decide) (x_pick (u' := undef) h.k rfl rfl (fun hh => absurd (hB3.symm.trans hh) (by decide)) (fun _ => rfl)) (fun a h => ?_)
    exact (h.mid 4 rfl).val (by first | rfl | (rw [hB3]; first | rfl | simp))
  refine l_end ?_
  refine c_cond h rfl (fun hb => ?_) (fun hb => ?_)
  · rw [if_pos hb] at hf
    refine c_rs ?_ -- region 2
    refine s_x h rfl rfl (by decide) (x_faddr h.k rfl Tryd.underlying25 rfl sz_api_Errno rfl) (fun a h => ?_)
    refine s_x h rfl rfl (by decide) (x_ld h.k rfl Tryd.underlying22 rfl rfl ((h.m.cell (i := 0) rfl 0).trans rfl)) (fun a h => ?_)
    obtain ⟨x10, h11, hf⟩ := bsome hf
    have hX := reply_Word_ok Fu (S0 := snapAll _) (hGT.mono (h.m.leAll (i := 1) rfl)) a0.1 hr3 _ h11 _ h.startAll
    refine q_callX hX h rfl rfl rfl (by decide) Tryd.func12 rfl rfl rfl (fun a w v L1 S1 hR hb1 h => ?_)
    obtain ⟨rfl, rfl, hr13, _⟩ := hR
    refine s_assign h rfl _ rfl rfl (by decide) rfl (fun a h => ?_)
    refine l_end ?_
    refine wp_ret ?_
    refine e_thenR ?_
    rw [← Option.some.inj hf]
    exact r_ret1 h rfl (rv_tmp h rfl) ⟨_, [], _, rfl, ⟨rfl, rfl, hr13, trivial⟩, rfl, (Up.refl _ _ _), (h.m.pick [1] _ (by decide) rfl)⟩
  · rw [if_neg (by rw [hb]; decide)] at hf
    refine wp_skip ?_
    refine e_thenN ?_
    refine c_rs ?_ -- region 3
    refine s_alloc h rfl rfl rfl (by decide) zi_strings_Builder rfl (fun a w g14 h => ?_)
    refine l_end ?_
    refine c_rs ?_ -- region 4
    obtain ⟨x15, h16, hf⟩ := bsome hf
    have h := h.mem (h.m.nilrow 5 1)
    have h := h.pick [1, 0, 3, 2] (by decide) rfl
    have hX := strings_Builder_WriteString_ok Fu (S0 := S0) (false, []) g14 none 0 [] (show reps ty8 S0 [] [] from rfl) ([111, 107, 32] : List UInt8) (by decide) _ h16 _ (h.sub (Ls := [.box g14 76 ([.pointer none, .slice none ([]).length 0]), .row (.slice none ([]).length 0) 5 1 ([]).length []]))
    refine q_callY (Ls := [.box g14 76 ([.pointer none, .slice none ([]).length 0]), .row (.slice none ([]).length 0) 5 1 ([]).length []]) hX h (Up.refl _ _ _) rfl rfl rfl (by decide) Tryd.func42 rfl rfl rfl (fun a w v L1 S19 hR le21 up20 h => ?_)
    obtain ⟨A23, c24, cs25, rfl, rfl, hr22, hq26, _⟩ := hR
    refine l_end ?_
    refine wp_seq ?_
    refine c_rs ?_ -- region 5
    refine s_x h rfl rfl (by decide) (x_faddr h.k rfl Tryd.underlying25 rfl sz_Suint8 rfl) (fun a h => ?_)
    refine s_x h rfl rfl (by decide) (x_ld h.k rfl Tryd.underlying23 rfl rfl ((h.m.cell (i := 3) rfl 1).trans rfl)) (fun a h => ?_)
    refine s_x h rfl rfl (by decide) (x_len h.k rfl Tryd.underlying23 rfl) (fun a h => ?_)
    refine s_move h rfl _ rfl rfl (by decide) rfl (fun a h => ?_)
    refine l_end ?_
    obtain ⟨o27, hl28, hf⟩ := bsome hf
    refine c_fin (fun a w => ∃ (S39 : Snap), ∃ (x42 : Bool × (List UInt8)), ∃ (A43 : Option Addr), ∃ (c44 : Nat), ∃ (cs45 : List Value), x42 = o27 ∧ Snap.le S19 S39 ∧ Up (ownL ([] ++ [.sn S0])) w0 S0 S39 ∧ reps ty8 S39 cs45 x42.2 ∧ St 36 w0 (ownL ([] ++ [.sn S0])) [(3, .pointer (some ⟨g14, 0, none⟩))] [.box g14 76 ([.pointer (selfA x42.1 g14), .slice A43 x42.2.length c44]), .row (.slice A43 x42.2.length c44) 5 1 x42.2.length cs45, .sn S39] a w) ?_ ?_
    · refine wp_block ?_
      have h := h.pick [0, 1, 2] (by decide) rfl
      refine c_loop (fun m48 a w => ∃ (S29 : Snap), ∃ (x32 : Int), ∃ (x34 : Bool × (List UInt8)), ∃ (A35 : Option Addr), ∃ (c36 : Nat), ∃ (cs37 : List Value), reply_Line_l0 Fu a0 m48 x32 x34 = some o27 ∧ Snap.le S19 S29 ∧ Up (ownL ([] ++ [.sn S0])) w0 S0 S29 ∧ r64 x32 ∧ reps ty8 S29 cs37 x34.2 ∧ St 36 w0 (ownL ([] ++ [.sn S0])) [(3, .pointer (some ⟨g14, 0, none⟩)), (20, .slice A4 a0.2.length c5), (21, .int .i64 (a0.2.length : Int)), (22, .int .i64 x32)] [.box g14 76 ([.pointer (selfA x34.1 g14), .slice A35 x34.2.length c36]), .row (.slice A35 x34.2.length c36) 5 1 x34.2.length cs37, .sn S29] a w) Fu ⟨S19, 0, x15.2, A23, c24, cs25, hl28, (Snap.le.refl _), up20, (show r64 0 from ⟨by decide, by decide⟩), hq26, h.has (by exact ⟨rfl, rfl, rfl, rfl, trivial⟩)⟩ (fun m48 a w hI => ?_)
      obtain ⟨S29, x32, x34, A35, c36, cs37, hl47, le30, up31, hr33, hq38, h⟩ := hI
      obtain _ | m48 := m48
      · rw [reply_Line_l0] at hl47; cases hl47
      rw [reply_Line_l0] at hl47
      refine c_rs ?_ -- region 6
      refine s_x h rfl rfl (by decide) (x_bin h.k rfl rfl rfl ib_lss) (fun a h => ?_)
      refine l_end ?_
      refine c_cs h rfl (fun hb => ?_) (fun hb => ?_)
      · rw [if_pos (of_decide_eq_true hb)] at hl47
        refine wp_skip ?_
        refine e_thenN ?_
        refine wp_seq ?_
        refine wp_block ?_
        refine c_rs ?_ -- region 7
        obtain ⟨x49, h53, hl47⟩ := bsome hl47
        obtain ⟨m50, hi54, hm55, hx56⟩ := idx_some h53
        obtain ⟨b51, off52, k57, hA58, hu59, hc60⟩ := ((hs6.mono (le21.trans le30))).at1 rfl hx56 (h.m.snOK (i := 2) rfl)
        cases hu59
        refine s_x h rfl rfl (by decide) (x_iaddrE h.k rfl Tryd.underlying23 sz_uint8 hA58 rfl rfl hi54 hm55) (fun a h => ?_)
        refine s_x h rfl rfl (by decide) (x_ld h.k rfl Tryd.underlying5 rfl rfl (hc60 _ (h.m.snOK (i := 2) rfl))) (fun a h => ?_)
        refine s_assign h rfl _ rfl rfl (by decide) rfl (fun a h => ?_)
        refine l_end ?_
        refine c_rs ?_ -- region 8
        refine s_move h rfl _ rfl rfl (by decide) rfl (fun a h => ?_)
        refine s_x h rfl rfl (by decide) (x_bin h.k rfl rfl rfl (ib_shr_u8 x49 4)) (fun a h => ?_)
        obtain ⟨x62, h63, hl47⟩ := bsome hl47
        obtain ⟨m61, hi64, hm65, hx66⟩ := idx_some h63
        refine s_x h rfl rfl (by decide) (x_indexStr h.k rfl Tryd.underlying9 rfl rfl hi64 hx66) (fun a h => ?_)
        obtain ⟨x67, h68, hl47⟩ := bsome hl47
        have hX := strings_Builder_WriteByte_ok Fu (S0 := S29) x34 g14 A35 c36 cs37 hq38 x62 _ h68 _ (h.sub (Ls := [.box g14 76 ([.pointer (selfA x34.1 g14), .slice A35 x34.2.length c36]), .row (.slice A35 x34.2.length c36) 5 1 x34.2.length cs37]))
        refine q_callY (Ls := [.box g14 76 ([.pointer (selfA x34.1 g14), .slice A35 x34.2.length c36]), .row (.slice A35 x34.2.length c36) 5 1 x34.2.length cs37]) hX h up31 rfl rfl rfl (by decide) Tryd.func43 rfl rfl rfl (fun a w v L1 S70 hR le72 up71 h => ?_)
        obtain ⟨A73, c74, cs75, rfl, rfl, hq76, _⟩ := hR
        refine l_end ?_
        refine c_r ?_ -- region 9
        refine s_move h rfl _ rfl rfl (by decide) rfl (fun a h => ?_)
        refine s_x h rfl rfl (by decide) (x_bin h.k rfl rfl rfl (ib_and (u8_and_ x49 (15 : UInt8)))) (fun a h => ?_)
        obtain ⟨x78, h79, hl47⟩ := bsome hl47
        obtain ⟨m77, hi80, hm81, hx82⟩ := idx_some h79
        refine s_x h rfl rfl (by decide) (x_indexStr h.k rfl Tryd.underlying9 rfl rfl hi80 hx82) (fun a h => ?_)
        obtain ⟨x83, h84, hl47⟩ := bsome hl47
        have hX := strings_Builder_WriteByte_ok Fu (S0 := S70) x67 g14 A73 c74 cs75 hq76 x78 _ h84 _ (h.sub (Ls := [.box g14 76 ([.pointer (selfA x67.1 g14), .slice A73 x67.2.length c74]), .row (.slice A73 x67.2.length c74) 5 1 x67.2.length cs75]))
        refine q_callY (Ls := [.box g14 76 ([.pointer (selfA x67.1 g14), .slice A73 x67.2.length c74]), .row (.slice A73 x67.2.length c74) 5 1 x67.2.length cs75]) hX h up71 rfl rfl rfl (by decide) Tryd.func43 rfl rfl rfl (fun a w v L1 S86 hR le88 up87 h => ?_)
        obtain ⟨A89, c90, cs91, rfl, rfl, hq92, _⟩ := hR
        refine l_nil ?_
        refine e_blkN ?_
        refine e_thenN ?_
        refine c_r ?_ -- region 10
        refine s_x h rfl rfl (by decide) (x_bin h.k rfl rfl rfl (ib_add rfl)) (fun a h => ?_)
        refine s_move h rfl _ rfl rfl (by decide) rfl (fun a h => ?_)
        refine l_nil ?_
        exact e_thenN ⟨m48, Nat.lt_succ_self _, S86, w64 (x32 + 1), x83, A89, c90, cs91, hl47, ((le30.trans le72).trans le88), up87, (w64_r _), hq92, h.has (by exact ⟨rfl, rfl, rfl, rfl, trivial⟩)⟩
      · rw [if_neg (of_decide_eq_false hb)] at hl47
        refine wp_exit ?_
        refine e_thenX ?_
        refine e_thenX ?_
        refine e_blkX ?_
        refine e_thenN ?_
        exact ⟨S29, x34, A35, c36, cs37, (Option.some.inj hl47), le30, up31, hq38, h.has (by exact ⟨rfl, trivial⟩)⟩
    · rintro a w ⟨S39, x42, A43, c44, cs45, rfl, le40, up41, hq46, h⟩
      refine e_thenN ?_
      refine c_rs ?_ -- region 11
      obtain ⟨x93, h94, hf⟩ := bsome hf
      have hX := strings_Builder_String_ok Fu (S0 := S39) x42 g14 A43 c44 cs45 hq46 _ h94 _ (h.sub (Ls := [.box g14 76 ([.pointer (selfA x42.1 g14), .slice A43 x42.2.length c44]), .row (.slice A43 x42.2.length c44) 5 1 x42.2.length cs45]))
      refine q_callY (Ls := [.box g14 76 ([.pointer (selfA x42.1 g14), .slice A43 x42.2.length c44]), .row (.slice A43 x42.2.length c44) 5 1 x42.2.length cs45]) hX h up41 rfl rfl rfl (by decide) Tryd.func44 rfl rfl rfl (fun a w v L1 S96 hR le98 up97 h => ?_)
      obtain ⟨rfl, rfl, hr99, _⟩ := hR
      refine s_assign h rfl _ rfl rfl (by decide) rfl (fun a h => ?_)
      refine l_end ?_
      refine wp_ret ?_
      rw [← Option.some.inj hf]
      exact r_ret1 h rfl (rv_tmp h rfl) ⟨_, [], _, rfl, ⟨rfl, rfl, hr99, trivial⟩, rfl, up97, h.m⟩
def chatelainelaw32_awake (Fu : Nat) : Option Bool :=
  (reply_Word Fu 21).bind fun x1 => (if x1 = ([115, 117, 109] : List UInt8) then (reply_Line Fu (0, [])).bind fun x8 => some (decide (x8 = ([111, 107] : List UInt8))) else some false).bind fun z6 => some z6
set_option maxRecDepth 100000 in
set_option maxHeartbeats 2000000 in
theorem chatelainelaw32_awake_ok (Fu : Nat) {S0 : Snap} (hGT : GT S0)  (r : Bool) (hf : chatelainelaw32_awake Fu = some r) (w0 : World) (hm : Mem w0 (ownL ([] ++ [.sn S0])) ([] ++ [.sn S0]) w0) :
    Calls Tryd.prog 6 #[] w0 (Ret w0 S0 [] (fun v L1 S1 => v = .bool r ∧ L1 = [] ∧ True)) := by
  unfold chatelainelaw32_awake at hf
  refine c_enterM Tryd.func6 rfl 8 rfl (by simp) _ hm _ rfl (fun a h => ?_)
  refine c_rs ?_ -- region 0
  refine s_assign h rfl _ rfl rfl (by decide) rfl (fun a h => ?_)
  refine l_end ?_
  refine c_rs ?_ -- region 1
  obtain ⟨x1, h2, hf⟩ := bsome hf
  have hX := reply_Word_ok Fu (S0 := snapAll _) (hGT.mono (h.m.leAll (i := 0) rfl)) 21 (show r64 21 from ⟨by decide, by decide⟩) _ h2 _ h.startAll
  refine q_callX hX h rfl rfl rfl (by decide) Tryd.func12 rfl rfl rfl (fun a w v L1 S1 hR hb1 h => ?_)
  obtain ⟨rfl, rfl, hr4, _⟩ := hR
  refine s_x h rfl rfl (by decide) (x_eqlStr h.k rfl rfl rfl) (fun a h => ?_)
  refine s_move h rfl _ rfl rfl (by decide) rfl (fun a h => ?_)
  obtain ⟨z6, hz5, hf⟩ := bsome hf
  refine q_grp h 4 (t := 3) 7 z6 rfl (fun hB2 => ?_) (fun hB2 => ?_) (fun a w h => ?_)
  · rw [if_pos (of_decide_eq_true hB2)] at hz5
    refine g_yes h rfl rfl rfl rfl hB2 ?_
    refine s_x h rfl rfl (by decide) (x_build h.k rfl [] rfl ([.int .i64 0, .slice none 0 0]) (by kernel_rfl)) (fun a h => ?_)
    refine g_yes h rfl rfl rfl rfl hB2 ?_
    obtain ⟨x8, h9, hz5⟩ := bsome hz5
    have hX := reply_Line_ok Fu (S0 := snapAll _) (hGT.mono (h.m.leAll (i := 0) rfl)) ([.int .i64 0, .slice none 0 0]) (0, []) ((tyP tyI (tyL ty8)).mono (h.m.leAll (i := 0) rfl) (show (tyP tyI (tyL ty8)).rep S0 ([.int .i64 0, .slice none 0 0]) (0, []) from ⟨[.int .i64 0], [.slice none 0 0], rfl, ⟨rfl, (show r64 0 from ⟨by decide, by decide⟩)⟩, ⟨_, _, rfl, (slS.nil ty8 _)⟩⟩)) _ h9 _ h.startAll
    refine q_callX hX h rfl rfl rfl (by decide) Tryd.func19 rfl rfl rfl (fun a w v L1 S1 hR hb1 h => ?_)
    obtain ⟨rfl, rfl, hr11, _⟩ := hR
    refine g_yes h rfl rfl rfl rfl hB2 ?_
    refine s_x h rfl rfl (by decide) (x_eqlStr h.k rfl rfl rfl) (fun a h => ?_)
    refine s_x h rfl rfl (by decide) (x_pick (u' := undef) h.k rfl rfl (fun _ => rfl) (fun hh => absurd (hB2.symm.trans hh) (by decide))) (fun a h => ?_)
    exact (h.mid 3 rfl).val (by rw [Option.some.inj hz5])
  · refine g_no h rfl rfl rfl rfl hB2 rfl (by decide) (fun a h => ?_)
    refine g_no h rfl rfl rfl rfl hB2 rfl (by decide) (fun a h => ?_)
    refine g_no h rfl rfl rfl rfl hB2 rfl (by decide) (fun a h => ?_)
    rw [if_neg (of_decide_eq_false hB2)] at hz5
    refine s_x h rfl rfl (by decide) (x_pick (u' := undef) h.k rfl rfl (fun hh => absurd (hB2.symm.trans hh) (by decide)) (fun _ => rfl)) (fun a h => ?_)
    exact (h.mid 3 rfl).val (by rw [Option.some.inj hz5])
  refine s_assign h rfl _ rfl rfl (by decide) rfl (fun a h => ?_)
  refine l_end ?_
  refine wp_ret ?_
  rw [← Option.some.inj hf]
  exact r_ret1 h rfl (rv_tmp h rfl) ⟨_, [], _, rfl, ⟨rfl, rfl, trivial⟩, rfl, (Up.refl _ _ _), h.m⟩
end Go.Proofs.YtcjleeclpmgbjaaDoor
