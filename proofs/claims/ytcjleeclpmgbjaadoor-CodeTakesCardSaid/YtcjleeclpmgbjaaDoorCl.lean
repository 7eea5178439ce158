/- Cl: Go functions as plain functions, and that they are so (written by xt.py). -/
import Derived.Test.YtcjleeclpmgbjaaDoorBd
set_option linter.unusedVariables false
set_option linter.unusedSimpArgs false
namespace Go.Proofs.YtcjleeclpmgbjaaDoor
open Go.RowKit
def code_Letters_l1 (Fu : Nat) (x7 : Int) (x33 : UInt8) : Nat → Int → (Bool × (List UInt8)) → Option (Int × (Bool × (List UInt8)))
  | 0, _, _ => none
  | k + 1, x50, x52 => if 5 ≤ x50 then ((idx ([97, 98, 99, 100, 101, 102, 103, 104, 105, 106, 107, 108, 109, 110, 111, 112, 113, 114, 115, 116, 117, 118, 119, 120, 121, 122, 50, 51, 52, 53, 54, 55] : List UInt8) (i64_and (i64_shr (i64_or (i64_shl x7 8) (x33.toNat : Int)) ((u64I (w64 (x50 - 5))).toNat)) 31)).bind fun x70 => (strings_Builder_WriteByte Fu x52 x70).bind fun x75 => code_Letters_l1 Fu x7 x33 k (w64 (x50 - 5)) x75) else (some (x50, x52))
def code_Letters_l0 (Fu : Nat) (a0 : List UInt8) : Nat → Int → Int → Int → (Bool × (List UInt8)) → Option (Int × Int × (Bool × (List UInt8)))
  | 0, _, _, _, _ => none
  | k + 1, x7, x9, x11, x13 => if x11 < (a0.length : Int) then ((idx a0 x11).bind fun x33 => (code_Letters_l1 Fu x7 x33 Fu (w64 (x9 + 8)) x13).bind fun (x60, x62) => code_Letters_l0 Fu a0 k (i64_and (i64_or (i64_shl x7 8) (x33.toNat : Int)) (w64 ((i64_shl 1 ((u64I x60).toNat)) - 1))) x60 (w64 (x11 + 1)) x62) else (some (x7, x9, x13))
def code_Letters (Fu : Nat) (a0 : List UInt8) : Option ((List UInt8)) :=
  (code_Letters_l0 Fu a0 Fu 0 0 0 (false, [])).bind fun (x21, x23, x25) => (if 0 < x23 then ((idx ([97, 98, 99, 100, 101, 102, 103, 104, 105, 106, 107, 108, 109, 110, 111, 112, 113, 114, 115, 116, 117, 118, 119, 120, 121, 122, 50, 51, 52, 53, 54, 55] : List UInt8) (i64_and (i64_shl x21 ((u64I (w64 (5 - x23))).toNat)) 31)).bind fun x97 => (strings_Builder_WriteByte Fu x25 x97).bind fun x102 => some x102) else (some x25)).bind fun x91 => (strings_Builder_String Fu x91).bind fun x112 => some x112
set_option maxRecDepth 100000 in
set_option maxHeartbeats 2000000 in
theorem code_Letters_ok (Fu : Nat) {S0 : Snap} (Aa0 : Option Addr) (ca0 : Nat) (a0 : List UInt8) (hsa0 : slS ty8 S0 Aa0 ca0 a0) (r : (List UInt8)) (hf : code_Letters Fu a0 = some r) (w0 : World) (hm : Mem w0 (ownL ([] ++ [.sn S0])) ([] ++ [.sn S0]) w0) :
    Calls Tryd.prog 31 #[.slice Aa0 a0.length ca0] w0 (Ret w0 S0 [] (fun v L1 S1 => v = .string (sb r) ∧ L1 = [] ∧ r.length ≤ maxLen ∧ True)) := by
  unfold code_Letters at hf
  refine c_enterM Tryd.func31 rfl 50 rfl (by simp) _ hm _ rfl (fun a h => ?_)
  refine c_rs ?_ -- region 0
  refine s_assign h rfl _ rfl rfl (by decide) rfl (fun a h => ?_)
  refine l_end ?_
  refine c_rs ?_ -- region 1
  refine s_alloc h rfl rfl rfl (by decide) zi_strings_Builder rfl (fun a w g1 h => ?_)
  refine l_end ?_
  refine c_rs ?_ -- region 2
  refine s_assign h rfl _ rfl rfl (by decide) rfl (fun a h => ?_)
  refine s_assign h rfl _ rfl rfl (by decide) rfl (fun a h => ?_)
  refine l_end ?_
  refine wp_seq ?_
  refine c_rs ?_ -- region 3
  refine s_move h rfl _ rfl rfl (by decide) rfl (fun a h => ?_)
  refine s_x h rfl rfl (by decide) (x_len h.k rfl Tryd.underlying23 rfl) (fun a h => ?_)
  refine s_move h rfl _ rfl rfl (by decide) rfl (fun a h => ?_)
  refine l_end ?_
  obtain ⟨o2, hl3, hf⟩ := bsome hf
  refine c_fin (fun a w => ∃ (S18 : Snap), ∃ (x21 : Int), ∃ (x23 : Int), ∃ (x25 : Bool × (List UInt8)), ∃ (A26 : Option Addr), ∃ (c27 : Nat), ∃ (cs28 : List Value), (x21, x23, x25) = o2 ∧ Snap.le S0 S18 ∧ Up (ownL ([] ++ [.sn S0])) w0 S0 S18 ∧ r64 x21 ∧ r64 x23 ∧ reps ty8 S18 cs28 x25.2 ∧ St 50 w0 (ownL ([] ++ [.sn S0])) [(3, .pointer (some ⟨g1, 0, none⟩)), (4, .int .i64 x21), (5, .int .i64 x23)] [.box g1 76 ([.pointer (selfA x25.1 g1), .slice A26 x25.2.length c27]), .row (.slice A26 x25.2.length c27) 5 1 x25.2.length cs28, .sn S18] a w) ?_ ?_
  · refine wp_block ?_
    have h := h.mem (h.m.nilrow 5 1)
    have h := h.pick [1, 0, 2] (by decide) rfl
    refine c_loop (fun m31 a w => ∃ (S4 : Snap), ∃ (x7 : Int), ∃ (x9 : Int), ∃ (x11 : Int), ∃ (x13 : Bool × (List UInt8)), ∃ (A14 : Option Addr), ∃ (c15 : Nat), ∃ (cs16 : List Value), code_Letters_l0 Fu a0 m31 x7 x9 x11 x13 = some o2 ∧ Snap.le S0 S4 ∧ Up (ownL ([] ++ [.sn S0])) w0 S0 S4 ∧ r64 x7 ∧ r64 x9 ∧ r64 x11 ∧ reps ty8 S4 cs16 x13.2 ∧ St 50 w0 (ownL ([] ++ [.sn S0])) [(3, .pointer (some ⟨g1, 0, none⟩)), (4, .int .i64 x7), (5, .int .i64 x9), (8, .slice Aa0 a0.length ca0), (9, .int .i64 (a0.length : Int)), (10, .int .i64 x11)] [.box g1 76 ([.pointer (selfA x13.1 g1), .slice A14 x13.2.length c15]), .row (.slice A14 x13.2.length c15) 5 1 x13.2.length cs16, .sn S4] a w) Fu ⟨S0, 0, 0, 0, (false, []), none, 0, [], hl3, (Snap.le.refl _), (Up.refl _ _ _), (show r64 0 from ⟨by decide, by decide⟩), (show r64 0 from ⟨by decide, by decide⟩), (show r64 0 from ⟨by decide, by decide⟩), (show reps ty8 S0 [] [] from rfl), h.has (by exact ⟨rfl, rfl, rfl, rfl, rfl, rfl, trivial⟩)⟩ (fun m31 a w hI => ?_)
    obtain ⟨S4, x7, x9, x11, x13, A14, c15, cs16, hl30, le5, up6, hr8, hr10, hr12, hq17, h⟩ := hI
    obtain _ | m31 := m31
    · rw [code_Letters_l0] at hl30; cases hl30
    rw [code_Letters_l0] at hl30
    refine c_rs ?_ -- region 4
    refine s_x h rfl rfl (by decide) (x_bin h.k rfl rfl rfl ib_lss) (fun a h => ?_)
    refine l_end ?_
    refine c_cs h rfl (fun hb => ?_) (fun hb => ?_)
    · rw [if_pos (of_decide_eq_true hb)] at hl30
      refine wp_skip ?_
      refine e_thenN ?_
      refine wp_seq ?_
      refine wp_block ?_
      refine c_rs ?_ -- region 5
      obtain ⟨x33, h37, hl30⟩ := bsome hl30
      obtain ⟨m34, hi38, hm39, hx40⟩ := idx_some h37
      obtain ⟨b35, off36, k41, hA42, hu43, hc44⟩ := ((hsa0.mono le5)).at1 rfl hx40 (h.m.snOK (i := 2) rfl)
      cases hu43
      refine s_x h rfl rfl (by decide) (x_iaddrE h.k rfl Tryd.underlying23 sz_uint8 hA42 rfl rfl hi38 hm39) (fun a h => ?_)
      refine s_x h rfl rfl (by decide) (x_ld h.k rfl Tryd.underlying5 rfl rfl (hc44 _ (h.m.snOK (i := 2) rfl))) (fun a h => ?_)
      refine s_assign h rfl _ rfl rfl (by decide) rfl (fun a h => ?_)
      refine l_end ?_
      refine c_rs ?_ -- region 6
      refine s_move h rfl _ rfl rfl (by decide) rfl (fun a h => ?_)
      refine s_x h rfl rfl (by decide) (x_bin h.k rfl rfl rfl (ib_shl_i64 _ 8)) (fun a h => ?_)
      refine s_move h rfl _ rfl rfl (by decide) rfl (fun a h => ?_)
      refine s_x h rfl rfl (by decide) (x_convE h.k rfl Tryd.underlying5 Tryd.underlying3 rfl (nw64 (u8_r _))) (fun a h => ?_)
      refine s_x h rfl rfl (by decide) (x_bin h.k rfl rfl rfl (ib_or rfl)) (fun a h => ?_)
      refine s_move h rfl _ rfl rfl (by decide) rfl (fun a h => ?_)
      refine s_x h rfl rfl (by decide) (x_bin h.k rfl rfl rfl (ib_add rfl)) (fun a h => ?_)
      refine s_assign h rfl _ rfl rfl (by decide) rfl (fun a h => ?_)
      refine s_assign h rfl _ rfl rfl (by decide) rfl (fun a h => ?_)
      refine l_end ?_
      obtain ⟨o45, hl46, hl30⟩ := bsome hl30
      refine c_cut (fun a w => ∃ (S57 : Snap), ∃ (x60 : Int), ∃ (x62 : Bool × (List UInt8)), ∃ (A63 : Option Addr), ∃ (c64 : Nat), ∃ (cs65 : List Value), (x60, x62) = o45 ∧ Snap.le S4 S57 ∧ Up (ownL ([] ++ [.sn S0])) w0 S0 S57 ∧ r64 x60 ∧ reps ty8 S57 cs65 x62.2 ∧ St 50 w0 (ownL ([] ++ [.sn S0])) [(3, .pointer (some ⟨g1, 0, none⟩)), (4, .int .i64 (i64_or (i64_shl x7 8) (x33.toNat : Int))), (5, .int .i64 x60), (8, .slice Aa0 a0.length ca0), (9, .int .i64 (a0.length : Int)), (10, .int .i64 x11)] [.box g1 76 ([.pointer (selfA x62.1 g1), .slice A63 x62.2.length c64]), .row (.slice A63 x62.2.length c64) 5 1 x62.2.length cs65, .sn S57] a w) ?_ ?_
      · refine wp_block ?_
        refine c_loop (fun m68 a w => ∃ (S47 : Snap), ∃ (x50 : Int), ∃ (x52 : Bool × (List UInt8)), ∃ (A53 : Option Addr), ∃ (c54 : Nat), ∃ (cs55 : List Value), code_Letters_l1 Fu x7 x33 m68 x50 x52 = some o45 ∧ Snap.le S4 S47 ∧ Up (ownL ([] ++ [.sn S0])) w0 S0 S47 ∧ r64 x50 ∧ reps ty8 S47 cs55 x52.2 ∧ St 50 w0 (ownL ([] ++ [.sn S0])) [(3, .pointer (some ⟨g1, 0, none⟩)), (4, .int .i64 (i64_or (i64_shl x7 8) (x33.toNat : Int))), (5, .int .i64 x50), (8, .slice Aa0 a0.length ca0), (9, .int .i64 (a0.length : Int)), (10, .int .i64 x11)] [.box g1 76 ([.pointer (selfA x52.1 g1), .slice A53 x52.2.length c54]), .row (.slice A53 x52.2.length c54) 5 1 x52.2.length cs55, .sn S47] a w) Fu ⟨S4, w64 (x9 + 8), x13, A14, c15, cs16, hl46, (Snap.le.refl _), up6, (w64_r _), hq17, h.has (by exact ⟨rfl, rfl, rfl, rfl, rfl, rfl, trivial⟩)⟩ (fun m68 a w hI => ?_)
        obtain ⟨S47, x50, x52, A53, c54, cs55, hl67, le48, up49, hr51, hq56, h⟩ := hI
        obtain _ | m68 := m68
        · rw [code_Letters_l1] at hl67; cases hl67
        rw [code_Letters_l1] at hl67
        refine wp_seq ?_
        refine c_rs ?_ -- region 7
        refine s_move h rfl _ rfl rfl (by decide) rfl (fun a h => ?_)
        refine s_x h rfl rfl (by decide) (x_bin h.k rfl rfl rfl ib_geq) (fun a h => ?_)
        refine l_end ?_
        refine c_cond h rfl (fun hb => ?_) (fun hb => ?_)
        · rw [if_pos (of_decide_eq_true hb)] at hl67
          refine wp_skip ?_
          refine e_thenN ?_
          refine wp_block ?_
          refine c_rs ?_ -- region 8
          refine s_move h rfl _ rfl rfl (by decide) rfl (fun a h => ?_)
          refine s_x h rfl rfl (by decide) (x_bin h.k rfl rfl rfl (ib_sub rfl)) (fun a h => ?_)
          refine s_assign h rfl _ rfl rfl (by decide) rfl (fun a h => ?_)
          refine l_end ?_
          refine c_r ?_ -- region 9
          refine s_move h rfl _ rfl rfl (by decide) rfl (fun a h => ?_)
          refine s_move h rfl _ rfl rfl (by decide) rfl (fun a h => ?_)
          refine s_x h rfl rfl (by decide) (x_convE h.k rfl Tryd.underlying3 Tryd.underlying82 rfl (u64I_wrap _)) (fun a h => ?_)
          refine s_x h rfl rfl (by decide) (x_bin h.k rfl rfl rfl (ib_shr_i64 _ ((u64I (w64 (x50 - 5))).toNat))) (fun a h => ?_)
          refine s_x h rfl rfl (by decide) (x_bin h.k rfl rfl rfl (ib_and rfl)) (fun a h => ?_)
          obtain ⟨x70, h71, hl67⟩ := bsome hl67
          obtain ⟨m69, hi72, hm73, hx74⟩ := idx_some h71
          refine s_x h rfl rfl (by decide) (x_indexStr h.k rfl Tryd.underlying9 rfl rfl hi72 hx74) (fun a h => ?_)
          obtain ⟨x75, h76, hl67⟩ := bsome hl67
          have hX := strings_Builder_WriteByte_ok Fu (S0 := S47) x52 g1 A53 c54 cs55 hq56 x70 _ h76 _ (h.sub (Ls := [.box g1 76 ([.pointer (selfA x52.1 g1), .slice A53 x52.2.length c54]), .row (.slice A53 x52.2.length c54) 5 1 x52.2.length cs55]))
          refine q_callY (Ls := [.box g1 76 ([.pointer (selfA x52.1 g1), .slice A53 x52.2.length c54]), .row (.slice A53 x52.2.length c54) 5 1 x52.2.length cs55]) hX h up49 rfl rfl rfl (by decide) Tryd.func43 rfl rfl rfl (fun a w v L1 S78 hR le80 up79 h => ?_)
          obtain ⟨A81, c82, cs83, rfl, rfl, hq84, _⟩ := hR
          refine l_nil ?_
          refine e_blkN ?_
          exact e_thenN ⟨m68, Nat.lt_succ_self _, S78, w64 (x50 - 5), x75, A81, c82, cs83, hl67, (le48.trans le80), up79, (w64_r _), hq84, h.has (by exact ⟨rfl, rfl, rfl, rfl, rfl, rfl, trivial⟩)⟩
        · rw [if_neg (of_decide_eq_false hb)] at hl67
          refine wp_exit ?_
          refine e_thenX ?_
          refine e_thenX ?_
          refine e_blkX ?_
          refine e_thenN ?_
          exact ⟨S47, x50, x52, A53, c54, cs55, (Option.some.inj hl67), le48, up49, hr51, hq56, h.has (by exact ⟨rfl, rfl, rfl, rfl, rfl, rfl, trivial⟩)⟩
      · rintro a w ⟨S57, x60, x62, A63, c64, cs65, rfl, le58, up59, hr61, hq66, h⟩
        try dsimp only at hl30
        refine c_r ?_ -- region 10
        refine s_move h rfl _ rfl rfl (by decide) rfl (fun a h => ?_)
        refine s_move h rfl _ rfl rfl (by decide) rfl (fun a h => ?_)
        refine s_x h rfl rfl (by decide) (x_convE h.k rfl Tryd.underlying3 Tryd.underlying82 rfl (u64I_wrap _)) (fun a h => ?_)
        refine s_x h rfl rfl (by decide) (x_bin h.k rfl rfl rfl (ib_shl_i64 _ ((u64I x60).toNat))) (fun a h => ?_)
        refine s_x h rfl rfl (by decide) (x_bin h.k rfl rfl rfl (ib_sub rfl)) (fun a h => ?_)
        refine s_x h rfl rfl (by decide) (x_bin h.k rfl rfl rfl (ib_and rfl)) (fun a h => ?_)
        refine s_assign h rfl _ rfl rfl (by decide) rfl (fun a h => ?_)
        refine l_nil ?_
        refine e_blkN ?_
        refine e_thenN ?_
        refine c_r ?_ -- region 11
        refine s_x h rfl rfl (by decide) (x_bin h.k rfl rfl rfl (ib_add rfl)) (fun a h => ?_)
        refine s_move h rfl _ rfl rfl (by decide) rfl (fun a h => ?_)
        refine l_nil ?_
        exact e_thenN ⟨m31, Nat.lt_succ_self _, S57, i64_and (i64_or (i64_shl x7 8) (x33.toNat : Int)) (w64 ((i64_shl 1 ((u64I x60).toNat)) - 1)), x60, w64 (x11 + 1), x62, A63, c64, cs65, hl30, (le5.trans le58), up59, (i64_and_r _ _), hr61, (w64_r _), hq66, h.has (by exact ⟨rfl, rfl, rfl, rfl, rfl, rfl, trivial⟩)⟩
    · rw [if_neg (of_decide_eq_false hb)] at hl30
      refine wp_exit ?_
      refine e_thenX ?_
      refine e_thenX ?_
      refine e_blkX ?_
      refine e_thenN ?_
      exact ⟨S4, x7, x9, x13, A14, c15, cs16, (Option.some.inj hl30), le5, up6, hr8, hr10, hq17, h.has (by exact ⟨rfl, rfl, rfl, trivial⟩)⟩
  · rintro a w ⟨S18, x21, x23, x25, A26, c27, cs28, rfl, le19, up20, hr22, hr24, hq29, h⟩
    try dsimp only at hf
    refine e_thenN ?_
    obtain ⟨o86, hc87, hf⟩ := bsome hf
    refine c_cut (fun a w => ∃ (S88 : Snap), ∃ (x91 : Bool × (List UInt8)), ∃ (A92 : Option Addr), ∃ (c93 : Nat), ∃ (cs94 : List Value), x91 = o86 ∧ Snap.le S18 S88 ∧ Up (ownL ([] ++ [.sn S0])) w0 S0 S88 ∧ reps ty8 S88 cs94 x91.2 ∧ St 50 w0 (ownL ([] ++ [.sn S0])) [(3, .pointer (some ⟨g1, 0, none⟩))] [.box g1 76 ([.pointer (selfA x91.1 g1), .slice A92 x91.2.length c93]), .row (.slice A92 x91.2.length c93) 5 1 x91.2.length cs94, .sn S88] a w) ?_ ?_
    · refine c_rs ?_ -- region 12
      refine s_move h rfl _ rfl rfl (by decide) rfl (fun a h => ?_)
      refine s_x h rfl rfl (by decide) (x_bin h.k rfl rfl rfl ib_gtr) (fun a h => ?_)
      refine l_end ?_
      refine c_cond h rfl (fun hb => ?_) (fun hb => ?_)
      · rw [if_pos (of_decide_eq_true hb)] at hc87
        refine c_r ?_ -- region 13
        refine s_move h rfl _ rfl rfl (by decide) rfl (fun a h => ?_)
        refine s_move h rfl _ rfl rfl (by decide) rfl (fun a h => ?_)
        refine s_x h rfl rfl (by decide) (x_bin h.k rfl rfl rfl (ib_sub rfl)) (fun a h => ?_)
        refine s_x h rfl rfl (by decide) (x_convE h.k rfl Tryd.underlying3 Tryd.underlying82 rfl (u64I_wrap _)) (fun a h => ?_)
        refine s_x h rfl rfl (by decide) (x_bin h.k rfl rfl rfl (ib_shl_i64 _ ((u64I (w64 (5 - x23))).toNat))) (fun a h => ?_)
        refine s_x h rfl rfl (by decide) (x_bin h.k rfl rfl rfl (ib_and rfl)) (fun a h => ?_)
        obtain ⟨x97, h98, hc87⟩ := bsome hc87
        obtain ⟨m96, hi99, hm100, hx101⟩ := idx_some h98
        refine s_x h rfl rfl (by decide) (x_indexStr h.k rfl Tryd.underlying9 rfl rfl hi99 hx101) (fun a h => ?_)
        obtain ⟨x102, h103, hc87⟩ := bsome hc87
        have hX := strings_Builder_WriteByte_ok Fu (S0 := S18) x25 g1 A26 c27 cs28 hq29 x97 _ h103 _ (h.sub (Ls := [.box g1 76 ([.pointer (selfA x25.1 g1), .slice A26 x25.2.length c27]), .row (.slice A26 x25.2.length c27) 5 1 x25.2.length cs28]))
        refine q_callY (Ls := [.box g1 76 ([.pointer (selfA x25.1 g1), .slice A26 x25.2.length c27]), .row (.slice A26 x25.2.length c27) 5 1 x25.2.length cs28]) hX h up20 rfl rfl rfl (by decide) Tryd.func43 rfl rfl rfl (fun a w v L1 S105 hR le107 up106 h => ?_)
        obtain ⟨A108, c109, cs110, rfl, rfl, hq111, _⟩ := hR
        refine l_nil ?_
        refine e_thenN ?_
        exact ⟨S105, x102, A108, c109, cs110, (Option.some.inj hc87), le107, up106, hq111, h.has (by exact ⟨rfl, trivial⟩)⟩
      · rw [if_neg (of_decide_eq_false hb)] at hc87
        refine wp_skip ?_
        refine e_thenN ?_
        exact ⟨S18, x25, A26, c27, cs28, (Option.some.inj hc87), (Snap.le.refl _), up20, hq29, h.has (by exact ⟨rfl, trivial⟩)⟩
    · rintro a w ⟨S88, x91, A92, c93, cs94, rfl, le89, up90, hq95, h⟩
      refine c_rs ?_ -- region 14
      obtain ⟨x112, h113, hf⟩ := bsome hf
      have hX := strings_Builder_String_ok Fu (S0 := S88) x91 g1 A92 c93 cs94 hq95 _ h113 _ (h.sub (Ls := [.box g1 76 ([.pointer (selfA x91.1 g1), .slice A92 x91.2.length c93]), .row (.slice A92 x91.2.length c93) 5 1 x91.2.length cs94]))
      refine q_callY (Ls := [.box g1 76 ([.pointer (selfA x91.1 g1), .slice A92 x91.2.length c93]), .row (.slice A92 x91.2.length c93) 5 1 x91.2.length cs94]) hX h up90 rfl rfl rfl (by decide) Tryd.func44 rfl rfl rfl (fun a w v L1 S115 hR le117 up116 h => ?_)
      obtain ⟨rfl, rfl, hr118, _⟩ := hR
      refine s_assign h rfl _ rfl rfl (by decide) rfl (fun a h => ?_)
      refine l_end ?_
      refine wp_ret ?_
      rw [← Option.some.inj hf]
      exact r_ret1 h rfl (rv_tmp h rfl) ⟨_, [], _, rfl, ⟨rfl, rfl, hr118, trivial⟩, rfl, up116, h.m⟩
def code_Groups_l0 (Fu : Nat) (a1 : Int) : Nat → (List UInt8) → (List (List UInt8)) → Option ((List (List UInt8)))
  | 0, _, _ => none
  | k + 1, x3, x5 => if ((decide (0 < a1)) && (!(decide (x3 = ([] : List UInt8))))) = true then ((sub x3 0 (mn a1 (x3.length : Int))).bind fun x20 => (app 16 x5 ([x20])).bind fun x31 => (sub x3 (mn a1 (x3.length : Int)) (x3.length : Int)).bind fun x37 => code_Groups_l0 Fu a1 k x37 x31) else (some x5)
def code_Groups (Fu : Nat) (a0 : List UInt8) (a1 : Int) : Option ((List (List UInt8))) :=
  (code_Groups_l0 Fu a1 Fu a0 ([])).bind fun x10 => some x10
set_option maxRecDepth 100000 in
set_option maxHeartbeats 2000000 in
theorem code_Groups_ok (Fu : Nat) {S0 : Snap} (a0 : List UInt8) (hra0 : a0.length ≤ maxLen) (a1 : Int) (hra1 : r64 a1) (r : (List (List UInt8))) (hf : code_Groups Fu a0 a1 = some r) (w0 : World) (hm : Mem w0 (ownL ([] ++ [.sn S0])) ([] ++ [.sn S0]) w0) :
    Calls Tryd.prog 34 #[.string (sb a0), .int .i64 a1] w0 (Ret w0 S0 [] (fun v L1 S1 => ∃ (A47 : Option Addr), ∃ (c48 : Nat), ∃ (cs49 : List Value), v = .slice A47 r.length c48 ∧ L1 = [.row (.slice A47 r.length c48) 9 1 r.length cs49] ∧ reps tyS S1 cs49 r ∧ True)) := by
  unfold code_Groups at hf
  refine c_enterM Tryd.func34 rfl 27 rfl (by simp) _ hm _ rfl (fun a h => ?_)
  refine c_rs ?_ -- region 0
  refine s_assign h rfl _ rfl rfl (by decide) rfl (fun a h => ?_)
  refine l_end ?_
  refine c_rs ?_ -- region 1
  refine s_assign h rfl _ rfl rfl (by decide) rfl (fun a h => ?_)
  refine l_end ?_
  obtain ⟨o1, hl2, hf⟩ := bsome hf
  refine c_cut (fun a w => ∃ (x10 : List (List UInt8)), ∃ (A11 : Option Addr), ∃ (c12 : Nat), ∃ (cs13 : List Value), x10 = o1 ∧ reps tyS S0 cs13 x10 ∧ St 27 w0 (ownL ([] ++ [.sn S0])) [(5, .slice A11 x10.length c12)] [.row (.slice A11 x10.length c12) 9 1 x10.length cs13, .sn S0] a w) ?_ ?_
  · refine wp_block ?_
    have h := h.mem (h.m.nilrow 9 1)
    refine c_loop (fun m16 a w => ∃ (x3 : List UInt8), ∃ (x5 : List (List UInt8)), ∃ (A6 : Option Addr), ∃ (c7 : Nat), ∃ (cs8 : List Value), code_Groups_l0 Fu a1 m16 x3 x5 = some o1 ∧ x3.length ≤ maxLen ∧ reps tyS S0 cs8 x5 ∧ St 27 w0 (ownL ([] ++ [.sn S0])) [(0, .string (sb x3)), (1, .int .i64 a1), (5, .slice A6 x5.length c7)] [.row (.slice A6 x5.length c7) 9 1 x5.length cs8, .sn S0] a w) Fu ⟨a0, [], none, 0, [], hl2, hra0, (show reps tyS S0 [] [] from rfl), h.has (by exact ⟨rfl, rfl, rfl, trivial⟩)⟩ (fun m16 a w hI => ?_)
    obtain ⟨x3, x5, A6, c7, cs8, hl15, hr4, hq9, h⟩ := hI
    obtain _ | m16 := m16
    · rw [code_Groups_l0] at hl15; cases hl15
    rw [code_Groups_l0] at hl15
    refine wp_seq ?_
    refine c_rs ?_ -- region 2
    refine s_move h rfl _ rfl rfl (by decide) rfl (fun a h => ?_)
    refine s_x h rfl rfl (by decide) (x_bin h.k rfl rfl rfl ib_gtr) (fun a h => ?_)
    refine s_move h rfl _ rfl rfl (by decide) rfl (fun a h => ?_)
    refine q_grp h 3 (t := 9) 12 ((decide (0 < a1)) && (!(decide (x3 = ([] : List UInt8))))) rfl (fun hB2 => ?_) (fun hB2 => ?_) (fun a w h => ?_)
    · refine g_yes h rfl rfl rfl rfl hB2 ?_
      refine s_move h rfl _ rfl rfl (by decide) rfl (fun a h => ?_)
      refine g_yes h rfl rfl rfl rfl hB2 ?_
      refine s_x h rfl rfl (by decide) (x_neqStr h.k rfl rfl rfl) (fun a h => ?_)
      refine s_x h rfl rfl (by decide) (x_pick (u' := undef) h.k rfl rfl (fun _ => rfl) (fun hh => absurd (hB2.symm.trans hh) (by decide))) (fun a h => ?_)
      exact (h.mid 2 rfl).val (by first | rfl | (rw [hB2]; first | rfl | simp))
    · refine g_no h rfl rfl rfl rfl hB2 rfl (by decide) (fun a h => ?_)
      refine g_no h rfl rfl rfl rfl hB2 rfl (by decide) (fun a h => ?_)
      refine s_x h rfl rfl (by decide) (x_pick (u' := undef) h.k rfl rfl (fun hh => absurd (hB2.symm.trans hh) (by decide)) (fun _ => rfl)) (fun a h => ?_)
      exact (h.mid 2 rfl).val (by first | rfl | (rw [hB2]; first | rfl | simp))
    refine l_end ?_
    refine c_cond h rfl (fun hb => ?_) (fun hb => ?_)
    · rw [if_pos hb] at hl15
      refine wp_skip ?_
      refine e_thenN ?_
      refine wp_block ?_
      refine c_rs ?_ -- region 3
      refine s_move h rfl _ rfl rfl (by decide) rfl (fun a h => ?_)
      refine s_move h rfl _ rfl rfl (by decide) rfl (fun a h => ?_)
      refine s_x h rfl rfl (by decide) (x_lenStr h.k rfl Tryd.underlying9 rfl) (fun a h => ?_)
      refine s_x h rfl rfl (by decide) (x_mn h.k rfl rfl rfl) (fun a h => ?_)
      refine s_assign h rfl _ rfl rfl (by decide) rfl (fun a h => ?_)
      refine l_end ?_
      -- region 4 draws
      obtain ⟨x20, h21, hl15⟩ := bsome hl15
      obtain ⟨x31, h32, hl15⟩ := bsome hl15
      obtain ⟨x37, h38, hl15⟩ := bsome hl15
      refine d_start h (Mem _ _ _) 5 11 rfl (by kernel_rfl) (fun _ _ _ _ _ h => h) (fun _ h => h) (fun Q a w HE HN h HS => ?_)
      refine d_takeP h (fun _ => HS) HN 0 rfl (by kernel_rfl) (by kernel_rfl) (by kernel_rfl) (by decide) rfl rfl (by decide) (fun w' => x_move h.k _ rfl rfl) (fun a h => ?_)
      refine d_takeP h (fun _ => HS) HN 1 rfl (by kernel_rfl) (by kernel_rfl) (by kernel_rfl) (by decide) rfl rfl (by decide) (fun w' => x_move h.k _ rfl rfl) (fun a h => ?_)
      refine d_takeP h (fun _ => HS) HN 2 rfl (by kernel_rfl) (by kernel_rfl) (by kernel_rfl) (by decide) rfl rfl (by decide) (fun w' => x_move h.k _ rfl rfl) (fun a h => ?_)
      obtain ⟨m22, n23, hi24, hi25, hm26, hm27, hr28⟩ := sub_some h21
      refine d_takeP h (fun _ => HS) HN 3 rfl (by kernel_rfl) (by kernel_rfl) (by kernel_rfl) (by decide) rfl rfl (by decide) (fun w' => x_sliceStr h.k rfl Tryd.underlying9 rfl hr28 (bd_none (by omega)) (bd_some rfl hi25) hm26 hm27) (fun a h => ?_)
      refine d_takeP h (fun _ => HS) HN 6 rfl (by kernel_rfl) (by kernel_rfl) (by kernel_rfl) (by decide) rfl rfl (by decide) (fun w' => x_move h.k _ rfl rfl) (fun a h => ?_)
      refine d_takeP h (fun _ => HS) HN 7 rfl (by kernel_rfl) (by kernel_rfl) (by kernel_rfl) (by decide) rfl rfl (by decide) (fun w' => x_move h.k _ rfl rfl) (fun a h => ?_)
      obtain ⟨m39, n40, hi41, hi42, hm43, hm44, hr45⟩ := sub_some h38
      refine d_takeP h (fun _ => HS) HN 8 rfl (by kernel_rfl) (by kernel_rfl) (by kernel_rfl) (by decide) rfl rfl (by decide) (fun w' => x_sliceStr h.k rfl Tryd.underlying9 rfl hr45 (bd_some rfl hi41) (bd_none (by omega)) hm43 hm44) (fun a h => ?_)
      refine d_alone 4 rfl (by kernel_rfl) (fun K hK => ?_)
      refine q_bslice (T := tyS) (S := S0) h rfl rfl rfl (by decide) Tryd.underlying66 zi_string (by decide) (by decide) (by decide) (by decide) [.string (sb x20)] rfl rfl (C := [[.string (sb x20)]]) rfl (xs := [x20]) ⟨[.string (sb x20)], _, rfl, ⟨rfl, (by rw [hr28, List.length_drop, List.length_take]; have := hr4; omega)⟩, rfl⟩ (by intro c hc; simp only [List.mem_cons, List.not_mem_nil, or_false] at hc; subst hc; rfl) (fun a w A29 h => ?_)
      have hb30 : reps tyS S0 ([[.string (sb x20)]] : List (List Value)).flatten [x20] := ⟨[.string (sb x20)], _, rfl, ⟨rfl, (by rw [hr28, List.length_drop, List.length_take]; have := hr4; omega)⟩, rfl⟩
      replace HS := h.m.pick [1, 2] [.row (.slice A6 x5.length c7) 9 1 x5.length cs8, .sn S0] (by decide) rfl
      refine hK _ _ (fun _ _ => HS) ?_
      clear hK
      refine d_alone 5 rfl (by kernel_rfl) (fun K hK => ?_)
      refine q_append (T := tyS) (S := S0) h rfl rfl rfl (by decide) Tryd.underlying66 zb_string rfl (by decide) rfl 1 rfl hq9 rfl hb30 (h.m.rdRowA (i := 0) rfl) h32 (fun a w A33 c34 cs35 hq36 h => ?_)
      refine hK _ _ (fun hne _ => absurd rfl hne) ?_
      clear hK
      refine d_takeP h (fun hl => absurd hl (by decide)) HN 9 rfl (by kernel_rfl) (by kernel_rfl) (by kernel_rfl) (by decide) rfl rfl (by decide) (fun w' => x_assign h.k _ rfl rfl) (fun a h => ?_)
      refine d_takeP h (fun hl => absurd hl (by decide)) HN 10 rfl (by kernel_rfl) (by kernel_rfl) (by kernel_rfl) (by decide) rfl rfl (by decide) (fun w' => x_assign h.k _ rfl rfl) (fun a h => ?_)
      refine d_done (by kernel_rfl) (HE _ _ ?_) _
      refine e_blkN ?_
      have h := h.pick [1, 2] (by decide) rfl
      exact e_thenN ⟨m16, Nat.lt_succ_self _, x37, x31, A33, c34, cs35, hl15, (by rw [hr45, List.length_drop, List.length_take]; have := hr4; omega), hq36, h.has (by exact ⟨rfl, rfl, rfl, trivial⟩)⟩
    · rw [if_neg (by rw [hb]; decide)] at hl15
      refine wp_exit ?_
      refine e_thenX ?_
      refine e_thenX ?_
      refine e_blkX ?_
      refine e_thenN ?_
      exact ⟨x5, A6, c7, cs8, (Option.some.inj hl15), hq9, h.has (by exact ⟨rfl, trivial⟩)⟩
  · rintro a w ⟨x10, A11, c12, cs13, rfl, hq14, h⟩
    refine c_rs ?_ -- region 5
    refine s_move h rfl _ rfl rfl (by decide) rfl (fun a h => ?_)
    refine s_assign h rfl _ rfl rfl (by decide) rfl (fun a h => ?_)
    refine l_end ?_
    refine wp_ret ?_
    rw [← Option.some.inj hf]
    exact r_ret1 h rfl (rv_tmp h rfl) ⟨_, [.row (.slice A11 x10.length c12) 9 1 x10.length cs13], _, rfl, ⟨A11, c12, cs13, rfl, rfl, hq14, trivial⟩, rfl, (Up.refl _ _ _), h.m⟩
end Go.Proofs.YtcjleeclpmgbjaaDoor
