/- Lp: Go functions as plain functions, and that they are so (written by xt.py). -/
import Derived.Test.YtcjleeclpmgbjaaLo
set_option linter.unusedVariables false
set_option linter.unusedSimpArgs false
namespace Go.Proofs.Ytcjleeclpmgbjaa
open Go.RowKit
def chatelainelaw43_LotNumbers_l0 (Fu : Nat) (a1 : List Int) : Nat → Int → ((List UInt8) × UInt64 × Bool) → ((List UInt8) × Int) → Option (Sum Bool (((List UInt8) × UInt64 × Bool) × ((List UInt8) × Int)))
  | 0, _, _, _ => none
  | k + 1, x47, x49, x53 => if x47 < (a1.length : Int) then ((idx a1 x47).bind fun x72 => (if 1 ≤ x72 then ((chatelaineref43_Lot_Below Fu x53 x72).bind fun x98 => some (x98.1, x98.2)) else (some (0, x53))).bind fun (x91, x93) => (lot_Lot_Below Fu x49 x72).bind fun x109 => if x109.1 ≠ x91 then (some (.inl false)) else ((lot_Cred Fu x72).bind fun x119 => (if ((decide (1 ≤ x72)) && (decide (x72 ≤ 16))) = true then (chatelaineref43_Cred Fu x72).bind fun x132 => (chatelaineref01_Same Fu x119 x132).bind fun x140 => some (!x140) else some false).bind fun z130 => if ((z130 || (((decide (x72 < 1)) || (decide (16 < x72))) && (decide (0 < (x119.length : Int))))) || (decide (x47 < 0))) = true then (some (.inl false)) else (chatelainelaw43_LotNumbers_l0 Fu a1 k (w64 (x47 + 1)) x109.2 x93))) else (some (.inr (x49, x53)))
def chatelainelaw43_LotNumbers (Fu : Nat) (a0 : List UInt8) (a1 : List Int) (a2 : Int × Int × Int × Int × Int × Int) : Option Bool :=
  (chatelainelaw43_awake Fu).bind fun x18 => if (!x18) = true then (some false) else (if ((decide (100 < (a0.length : Int))) || (decide (60 < (a1.length : Int)))) = true then (some true) else ((lot_Lot_Next_nil0 Fu).bind fun x23 => (lot_Lot_Below_nil0 Fu 5).bind fun x27 => if w64 (x23 + x27) ≠ 0 then (some false) else ((lot_New Fu a0).bind fun x31 => (chatelainelaw43_LotNumbers_l0 Fu a1 Fu 0 x31 (a0, 0)).bind fun o => match o with | .inl r197 => some r197 | .inr (x61, x65) => (lot_Lot_Next Fu x61).bind fun x153 => (chatelaineref43_Lot_Next Fu x65).bind fun x163 => (if x153.1 = x163.1 then (lot_Check Fu a2).bind fun x176 => (chatelaineref43_May Fu a2).bind fun x180 => some ((decide (x176 = 0)) == x180) else some false).bind fun z174 => (if z174 = true then (chatelaineref43_May Fu a2).bind fun x185 => (if x185 = true then some true else (lot_Check Fu a2).bind fun x190 => some (decide (x190 = 2))).bind fun z188 => some z188 else some false).bind fun z183 => some z183)))
set_option maxRecDepth 100000 in
set_option maxHeartbeats 2000000 in
theorem chatelainelaw43_LotNumbers_ok (Fu : Nat) {S0 : Snap} (Aa0 : Option Addr) (ca0 : Nat) (a0 : List UInt8) (hsa0 : slS ty8 S0 Aa0 ca0 a0) (Aa1 : Option Addr) (ca1 : Nat) (a1 : List Int) (hsa1 : slS tyI S0 Aa1 ca1 a1) (csa2 : List Value) (a2 : Int × Int × Int × Int × Int × Int) (hsa2 : (tyP tyI (tyP tyI (tyP tyI (tyP tyI (tyP tyI tyI))))).rep S0 csa2 a2) (r : Bool) (hf : chatelainelaw43_LotNumbers Fu a0 a1 a2 = some r) (w0 : World) (hm : Mem w0 (ownL ([] ++ [.sn S0])) ([] ++ [.sn S0]) w0) :
    Calls Try.prog 3 #[.slice Aa0 a0.length ca0, .slice Aa1 a1.length ca1, .agg csa2.toArray] w0 (Ret w0 S0 [] (fun v L1 S1 => v = .bool r ∧ L1 = [] ∧ True)) := by
  unfold chatelainelaw43_LotNumbers at hf
  obtain ⟨k1, k2, rfl, ⟨rfl, hr3⟩, ⟨k4, k5, rfl, ⟨rfl, hr6⟩, ⟨k7, k8, rfl, ⟨rfl, hr9⟩, ⟨k10, k11, rfl, ⟨rfl, hr12⟩, ⟨k13, k14, rfl, ⟨rfl, hr15⟩, ⟨rfl, hr16⟩⟩⟩⟩⟩⟩ := hsa2
  refine c_enterM Try.func3 rfl 107 rfl (by simp) _ hm _ rfl (fun a h => ?_)
  refine c_rs ?_ -- region 0
  refine s_box h rfl rfl rfl (by decide) rfl (cs := [.int .i64 a2.1, .int .i64 a2.2.1, .int .i64 a2.2.2.1, .int .i64 a2.2.2.2.1, .int .i64 a2.2.2.2.2.1, .int .i64 a2.2.2.2.2.2]) (by rfl) (fun a w g17 h => ?_)
  refine s_assign h rfl _ rfl rfl (by decide) rfl (fun a h => ?_)
  refine l_end ?_
  refine wp_seq ?_
  refine c_rs ?_ -- region 1
  obtain ⟨x18, h19, hf⟩ := bsome hf
  have hX := chatelainelaw43_awake_ok Fu (S0 := snapAll _)  _ h19 _ h.startAll
  refine q_callX hX h rfl rfl rfl (by decide) Try.func6 rfl rfl rfl (fun a w v L1 S1 hR hb1 h => ?_)
  obtain ⟨rfl, rfl, _⟩ := hR
  refine s_x h rfl rfl (by decide) (x_not h.k rfl rfl) (fun a h => ?_)
  refine l_end ?_
  refine c_cond h rfl (fun hb => ?_) (fun hb => ?_)
  · rw [if_pos hb] at hf
    refine c_rs ?_ -- region 2
    refine s_assign h rfl _ rfl rfl (by decide) rfl (fun a h => ?_)
    refine l_end ?_
    refine wp_ret ?_
    refine e_thenR ?_
    rw [← Option.some.inj hf]
    exact r_ret1 h rfl (rv_tmp h rfl) ⟨_, [], _, rfl, ⟨rfl, rfl, trivial⟩, rfl, (Up.refl _ _ _), (h.m.pick [1] _ (by decide) rfl)⟩
  · rw [if_neg (by rw [hb]; decide)] at hf
    refine wp_skip ?_
    refine e_thenN ?_
    refine wp_seq ?_
    refine c_rs ?_ -- region 3
    refine s_move h rfl _ rfl rfl (by decide) rfl (fun a h => ?_)
    refine s_x h rfl rfl (by decide) (x_len h.k rfl Try.underlying22 rfl) (fun a h => ?_)
    refine s_x h rfl rfl (by decide) (x_bin h.k rfl rfl rfl ib_gtr) (fun a h => ?_)
    refine s_move h rfl _ rfl rfl (by decide) rfl (fun a h => ?_)
    refine q_grp h 4 (t := 19) 23 ((decide (100 < (a0.length : Int))) || (decide (60 < (a1.length : Int)))) rfl (fun hB3 => ?_) (fun hB3 => ?_) (fun a w h => ?_)
    · refine g_no h rfl rfl rfl rfl hB3 rfl (by decide) (fun a h => ?_)
      refine g_no h rfl rfl rfl rfl hB3 rfl (by decide) (fun a h => ?_)
      refine g_no h rfl rfl rfl rfl hB3 rfl (by decide) (fun a h => ?_)
      refine s_x h rfl rfl (by decide) (x_pick (u' := undef) h.k rfl rfl (fun _ => rfl) (fun hh => absurd (hB3.symm.trans hh) (by decide))) (fun a h => ?_)
      exact (h.mid 3 rfl).val (by first | rfl | (rw [hB3]; first | rfl | simp))
    · refine g_yes h rfl rfl rfl rfl hB3 ?_
      refine s_move h rfl _ rfl rfl (by decide) rfl (fun a h => ?_)
      refine g_yes h rfl rfl rfl rfl hB3 ?_
      refine s_x h rfl rfl (by decide) (x_len h.k rfl Try.underlying23 rfl) (fun a h => ?_)
      refine g_yes h rfl rfl rfl rfl hB3 ?_
      refine s_x h rfl rfl (by decide) (x_bin h.k rfl rfl rfl ib_gtr) (fun a h => ?_)
      refine s_x h rfl rfl (by decide) (x_pick (u' := undef) h.k rfl rfl (fun hh => absurd (hB3.symm.trans hh) (by decide)) (fun _ => rfl)) (fun a h => ?_)
      exact (h.mid 3 rfl).val (by first | rfl | (rw [hB3]; first | rfl | simp))
    refine l_end ?_
    refine c_cond h rfl (fun hb => ?_) (fun hb => ?_)
    · rw [if_pos hb] at hf
      refine c_rs ?_ -- region 4
      refine s_assign h rfl _ rfl rfl (by decide) rfl (fun a h => ?_)
      refine l_end ?_
      refine wp_ret ?_
      refine e_thenR ?_
      rw [← Option.some.inj hf]
      exact r_ret1 h rfl (rv_tmp h rfl) ⟨_, [], _, rfl, ⟨rfl, rfl, trivial⟩, rfl, (Up.refl _ _ _), (h.m.pick [1] _ (by decide) rfl)⟩
    · rw [if_neg (by rw [hb]; decide)] at hf
      refine wp_skip ?_
      refine e_thenN ?_
      refine c_rs ?_ -- region 5
      refine s_assign h rfl _ rfl rfl (by decide) rfl (fun a h => ?_)
      refine l_end ?_
      refine wp_seq ?_
      refine c_rs ?_ -- region 6
      refine s_move h rfl _ rfl rfl (by decide) rfl (fun a h => ?_)
      obtain ⟨x23, h24, hf⟩ := bsome hf
      have hX := lot_Lot_Next_nil0_ok Fu (S0 := snapAll _)  _ h24 _ h.startAll
      refine q_callX hX h rfl rfl rfl (by decide) Try.func7 rfl rfl rfl (fun a w v L1 S1 hR hb1 h => ?_)
      obtain ⟨rfl, rfl, hr26, _⟩ := hR
      refine s_move h rfl _ rfl rfl (by decide) rfl (fun a h => ?_)
      obtain ⟨x27, h28, hf⟩ := bsome hf
      have hX := lot_Lot_Below_nil0_ok Fu (S0 := snapAll _) 5 (show r64 5 from ⟨by decide, by decide⟩) _ h28 _ h.startAll
      refine q_callX hX h rfl rfl rfl (by decide) Try.func8 rfl rfl rfl (fun a w v L1 S1 hR hb1 h => ?_)
      obtain ⟨rfl, rfl, hr30, _⟩ := hR
      refine s_x h rfl rfl (by decide) (x_bin h.k rfl rfl rfl (ib_add rfl)) (fun a h => ?_)
      refine s_x h rfl rfl (by decide) (x_bin h.k rfl rfl rfl ib_neq) (fun a h => ?_)
      refine l_end ?_
      refine c_cond h rfl (fun hb => ?_) (fun hb => ?_)
      · rw [if_pos (of_decide_eq_true hb)] at hf
        refine c_rs ?_ -- region 7
        refine s_assign h rfl _ rfl rfl (by decide) rfl (fun a h => ?_)
        refine l_end ?_
        refine wp_ret ?_
        refine e_thenR ?_
        rw [← Option.some.inj hf]
        exact r_ret1 h rfl (rv_tmp h rfl) ⟨_, [], _, rfl, ⟨rfl, rfl, trivial⟩, rfl, (Up.refl _ _ _), (h.m.pick [1] _ (by decide) rfl)⟩
      · rw [if_neg (of_decide_eq_false hb)] at hf
        refine wp_skip ?_
        refine e_thenN ?_
        refine c_rs ?_ -- region 8
        refine s_move h rfl _ rfl rfl (by decide) rfl (fun a h => ?_)
        obtain ⟨x31, h32, hf⟩ := bsome hf
        have h := h.pick [1, 0] (by decide) rfl
        have hX := lot_New_ok Fu (S0 := S0) Aa0 ca0 a0 hsa0 _ h32 _ (h.sub (Ls := []))
        refine q_callY (Ls := []) hX h (Up.refl _ _ _) rfl rfl rfl (by decide) Try.func9 rfl rfl rfl (fun a w v L1 S34 hR le36 up35 h => ?_)
        obtain ⟨g37, A38, c39, rfl, rfl, hs40, _⟩ := hR
        refine s_move h rfl _ rfl rfl (by decide) rfl (fun a h => ?_)
        refine s_x h rfl rfl (by decide) (x_build h.k rfl [(0, .slice Aa0 a0.length ca0)] rfl ([.slice Aa0 a0.length ca0, .int .i64 0]) (by kernel_rfl)) (fun a h => ?_)
        refine s_box h rfl rfl rfl (by decide) rfl (cs := [.slice Aa0 a0.length ca0, .int .i64 0]) (by rfl) (fun a w g41 h => ?_)
        refine s_assign h rfl _ rfl rfl (by decide) rfl (fun a h => ?_)
        refine s_assign h rfl _ rfl rfl (by decide) rfl (fun a h => ?_)
        refine l_end ?_
        refine wp_seq ?_
        refine c_rs ?_ -- region 9
        refine s_move h rfl _ rfl rfl (by decide) rfl (fun a h => ?_)
        refine s_x h rfl rfl (by decide) (x_len h.k rfl Try.underlying23 rfl) (fun a h => ?_)
        refine s_move h rfl _ rfl rfl (by decide) rfl (fun a h => ?_)
        refine l_end ?_
        obtain ⟨o42, hl43, hf⟩ := bsome hf
        refine c_fin (fun a w => ∃ (S58 : Snap), ∃ (x61 : (List UInt8) × UInt64 × Bool), ∃ (A62 : Option Addr), ∃ (c63 : Nat), ∃ (x65 : (List UInt8) × Int), ∃ (A66 : Option Addr), ∃ (c67 : Nat), (.inr (x61, x65)) = o42 ∧ Snap.le S34 S58 ∧ Up (ownL ([] ++ [.sn S0])) w0 S0 S58 ∧ slS ty8 S58 A62 c63 x61.1 ∧ slS ty8 S58 A66 c67 x65.1 ∧ r64 x65.2 ∧ St 107 w0 (ownL ([] ++ [.sn S0])) [(5, .pointer (some ⟨g17, 0, none⟩)), (8, .pointer (some ⟨g37, 0, none⟩)), (9, .pointer (some ⟨g41, 0, none⟩))] [.box g17 25 ([.int .i64 a2.1, .int .i64 a2.2.1, .int .i64 a2.2.2.1, .int .i64 a2.2.2.2.1, .int .i64 a2.2.2.2.2.1, .int .i64 a2.2.2.2.2.2]), .box g37 65 ([.slice A62 x61.1.length c63, .int .u64 (x61.2.1.toNat : Int), .bool x61.2.2]), .box g41 33 ([.slice A66 x65.1.length c67, .int .i64 x65.2]), .sn S58] a w) ?_ ?_
        · refine wp_block ?_
          have h := h.pick [3, 1, 0, 2] (by decide) rfl
          refine c_loop (fun m71 a w => ∃ (S44 : Snap), ∃ (x47 : Int), ∃ (x49 : (List UInt8) × UInt64 × Bool), ∃ (A50 : Option Addr), ∃ (c51 : Nat), ∃ (x53 : (List UInt8) × Int), ∃ (A54 : Option Addr), ∃ (c55 : Nat), chatelainelaw43_LotNumbers_l0 Fu a1 m71 x47 x49 x53 = some o42 ∧ Snap.le S34 S44 ∧ Up (ownL ([] ++ [.sn S0])) w0 S0 S44 ∧ r64 x47 ∧ slS ty8 S44 A50 c51 x49.1 ∧ slS ty8 S44 A54 c55 x53.1 ∧ r64 x53.2 ∧ St 107 w0 (ownL ([] ++ [.sn S0])) [(5, .pointer (some ⟨g17, 0, none⟩)), (8, .pointer (some ⟨g37, 0, none⟩)), (9, .pointer (some ⟨g41, 0, none⟩)), (35, .slice Aa1 a1.length ca1), (36, .int .i64 (a1.length : Int)), (37, .int .i64 x47)] [.box g17 25 ([.int .i64 a2.1, .int .i64 a2.2.1, .int .i64 a2.2.2.1, .int .i64 a2.2.2.2.1, .int .i64 a2.2.2.2.2.1, .int .i64 a2.2.2.2.2.2]), .box g37 65 ([.slice A50 x49.1.length c51, .int .u64 (x49.2.1.toNat : Int), .bool x49.2.2]), .box g41 33 ([.slice A54 x53.1.length c55, .int .i64 x53.2]), .sn S44] a w) Fu ⟨S34, 0, x31, A38, c39, (a0, 0), Aa0, ca0, hl43, (Snap.le.refl _), up35, (show r64 0 from ⟨by decide, by decide⟩), hs40, (hsa0.mono le36), (show r64 0 from ⟨by decide, by decide⟩), h.has (by exact ⟨rfl, rfl, rfl, rfl, rfl, rfl, trivial⟩)⟩ (fun m71 a w hI => ?_)
          obtain ⟨S44, x47, x49, A50, c51, x53, A54, c55, hl70, le45, up46, hr48, hs52, hs56, hr57, h⟩ := hI
          obtain _ | m71 := m71
          · rw [chatelainelaw43_LotNumbers_l0] at hl70; cases hl70
          rw [chatelainelaw43_LotNumbers_l0] at hl70
          refine c_rs ?_ -- region 10
          refine s_x h rfl rfl (by decide) (x_bin h.k rfl rfl rfl ib_lss) (fun a h => ?_)
          refine l_end ?_
          refine c_cs h rfl (fun hb => ?_) (fun hb => ?_)
          · rw [if_pos (of_decide_eq_true hb)] at hl70
            refine wp_skip ?_
            refine e_thenN ?_
            refine wp_seq ?_
            refine wp_block ?_
            refine c_rs ?_ -- region 11
            refine s_move h rfl _ rfl rfl (by decide) rfl (fun a h => ?_)
            obtain ⟨x72, h76, hl70⟩ := bsome hl70
            obtain ⟨m73, hi77, hm78, hx79⟩ := idx_some h76
            obtain ⟨b74, off75, k80, hA81, hu82, hc83⟩ := ((hsa1.mono (le36.trans le45))).at1 rfl hx79 (h.m.snOK (i := 3) rfl)
            obtain ⟨e85, hr84⟩ := hu82
            cases e85
            refine s_x h rfl rfl (by decide) (x_iaddrE h.k rfl Try.underlying23 sz_int hA81 rfl rfl hi77 hm78) (fun a h => ?_)
            refine s_x h rfl rfl (by decide) (x_ld h.k rfl Try.underlying3 rfl rfl (hc83 _ (h.m.snOK (i := 3) rfl))) (fun a h => ?_)
            refine s_assign h rfl _ rfl rfl (by decide) rfl (fun a h => ?_)
            refine s_assign h rfl _ rfl rfl (by decide) rfl (fun a h => ?_)
            refine l_end ?_
            refine c_rs ?_ -- region 12
            refine s_assign h rfl _ rfl rfl (by decide) rfl (fun a h => ?_)
            refine l_end ?_
            obtain ⟨o86, hc87, hl70⟩ := bsome hl70
            refine c_cut (fun a w => ∃ (S88 : Snap), ∃ (x91 : Int), ∃ (x93 : (List UInt8) × Int), ∃ (A94 : Option Addr), ∃ (c95 : Nat), (x91, x93) = o86 ∧ Snap.le S44 S88 ∧ Up (ownL ([] ++ [.sn S0])) w0 S0 S88 ∧ r64 x91 ∧ slS ty8 S88 A94 c95 x93.1 ∧ r64 x93.2 ∧ St 107 w0 (ownL ([] ++ [.sn S0])) [(5, .pointer (some ⟨g17, 0, none⟩)), (8, .pointer (some ⟨g37, 0, none⟩)), (9, .pointer (some ⟨g41, 0, none⟩)), (10, .int .i64 x47), (11, .int .i64 x72), (12, .int .i64 x91), (35, .slice Aa1 a1.length ca1), (36, .int .i64 (a1.length : Int)), (37, .int .i64 x47)] [.box g17 25 ([.int .i64 a2.1, .int .i64 a2.2.1, .int .i64 a2.2.2.1, .int .i64 a2.2.2.2.1, .int .i64 a2.2.2.2.2.1, .int .i64 a2.2.2.2.2.2]), .box g37 65 ([.slice A50 x49.1.length c51, .int .u64 (x49.2.1.toNat : Int), .bool x49.2.2]), .box g41 33 ([.slice A94 x93.1.length c95, .int .i64 x93.2]), .sn S88] a w) ?_ ?_
            · refine c_rs ?_ -- region 13
              refine s_move h rfl _ rfl rfl (by decide) rfl (fun a h => ?_)
              refine s_x h rfl rfl (by decide) (x_bin h.k rfl rfl rfl ib_geq) (fun a h => ?_)
              refine l_end ?_
              refine c_cond h rfl (fun hb => ?_) (fun hb => ?_)
              · rw [if_pos (of_decide_eq_true hb)] at hc87
                refine c_r ?_ -- region 14
                refine s_move h rfl _ rfl rfl (by decide) rfl (fun a h => ?_)
                refine s_move h rfl _ rfl rfl (by decide) rfl (fun a h => ?_)
                obtain ⟨x98, h99, hc87⟩ := bsome hc87
                have h := h.pick [2, 3, 0, 1] (by decide) rfl
                have hX := chatelaineref43_Lot_Below_ok Fu (S0 := S44) x53 g41 A54 c55 hs56 hr57 x72 hr84 _ h99 _ (h.sub (Ls := [.box g41 33 ([.slice A54 x53.1.length c55, .int .i64 x53.2])]))
                refine q_callY (Ls := [.box g41 33 ([.slice A54 x53.1.length c55, .int .i64 x53.2])]) hX h up46 rfl rfl rfl (by decide) Try.func10 rfl rfl rfl (fun a w v L1 S101 hR le103 up102 h => ?_)
                obtain ⟨A105, c106, rfl, rfl, hr104, hs107, hr108, _⟩ := hR
                refine s_assign h rfl _ rfl rfl (by decide) rfl (fun a h => ?_)
                refine l_nil ?_
                refine e_thenN ?_
                have h := h.pick [2, 3, 0, 1] (by decide) rfl
                exact ⟨S101, x98.1, x98.2, A105, c106, (Option.some.inj hc87), le103, up102, hr104, hs107, hr108, h.has (by exact ⟨rfl, rfl, rfl, rfl, rfl, rfl, rfl, rfl, rfl, trivial⟩)⟩
              · rw [if_neg (of_decide_eq_false hb)] at hc87
                refine wp_skip ?_
                refine e_thenN ?_
                exact ⟨S44, 0, x53, A54, c55, (Option.some.inj hc87), (Snap.le.refl _), up46, (show r64 0 from ⟨by decide, by decide⟩), hs56, hr57, h.has (by exact ⟨rfl, rfl, rfl, rfl, rfl, rfl, rfl, rfl, rfl, trivial⟩)⟩
            · rintro a w ⟨S88, x91, x93, A94, c95, rfl, le89, up90, hr92, hs96, hr97, h⟩
              try dsimp only at hl70
              refine wp_seq ?_
              refine c_rs ?_ -- region 15
              refine s_move h rfl _ rfl rfl (by decide) rfl (fun a h => ?_)
              refine s_move h rfl _ rfl rfl (by decide) rfl (fun a h => ?_)
              obtain ⟨x109, h110, hl70⟩ := bsome hl70
              have h := h.pick [1, 3, 0, 2] (by decide) rfl
              have hX := lot_Lot_Below_ok Fu (S0 := S88) x49 g37 A50 c51 (hs52.mono le89) x72 hr84 _ h110 _ (h.sub (Ls := [.box g37 65 ([.slice A50 x49.1.length c51, .int .u64 (x49.2.1.toNat : Int), .bool x49.2.2])]))
              refine q_callY (Ls := [.box g37 65 ([.slice A50 x49.1.length c51, .int .u64 (x49.2.1.toNat : Int), .bool x49.2.2])]) hX h up90 rfl rfl rfl (by decide) Try.func8 rfl rfl rfl (fun a w v L1 S112 hR le114 up113 h => ?_)
              obtain ⟨A116, c117, rfl, rfl, hr115, hs118, _⟩ := hR
              refine s_move h rfl _ rfl rfl (by decide) rfl (fun a h => ?_)
              refine s_x h rfl rfl (by decide) (x_bin h.k rfl rfl rfl ib_neq) (fun a h => ?_)
              refine l_end ?_
              refine c_cond h rfl (fun hb => ?_) (fun hb => ?_)
              · rw [if_pos (of_decide_eq_true hb)] at hl70
                refine c_rs ?_ -- region 16
                refine s_assign h rfl _ rfl rfl (by decide) rfl (fun a h => ?_)
                refine l_end ?_
                refine wp_ret ?_
                refine e_thenR ?_
                refine e_blkR ?_
                refine e_thenR ?_
                refine e_thenR ?_
                refine e_blkR ?_
                refine e_thenR ?_
                cases hl70
                try dsimp only at hf
                refine e_thenR ?_
                rw [← Option.some.inj hf]
                exact r_ret1 h rfl (rv_tmp h rfl) ⟨_, [], _, rfl, ⟨rfl, rfl, trivial⟩, rfl, up113, (h.m.pick [1] _ (by decide) rfl)⟩
              · rw [if_neg (of_decide_eq_false hb)] at hl70
                refine wp_skip ?_
                refine e_thenN ?_
                refine c_rs ?_ -- region 17
                refine s_move h rfl _ rfl rfl (by decide) rfl (fun a h => ?_)
                obtain ⟨x119, h120, hl70⟩ := bsome hl70
                have hX := lot_Cred_ok Fu (S0 := snapAll _) x72 hr84 _ h120 _ h.startAll
                refine q_callX hX h rfl rfl rfl (by decide) Try.func11 rfl rfl rfl (fun a w v L1 S1 hR hb1 h => ?_)
                obtain ⟨A122, c123, cs124, rfl, rfl, hq125, _⟩ := hR
                have hq126 := hq125.fl (S' := S112) fl_8
                refine s_assign h rfl _ rfl rfl (by decide) rfl (fun a h => ?_)
                refine l_end ?_
                refine c_rs ?_ -- region 18
                refine s_move h rfl _ rfl rfl (by decide) rfl (fun a h => ?_)
                refine s_x h rfl rfl (by decide) (x_bin h.k rfl rfl rfl ib_geq) (fun a h => ?_)
                refine s_move h rfl _ rfl rfl (by decide) rfl (fun a h => ?_)
                refine q_grp h 3 (t := 56) 59 ((decide (1 ≤ x72)) && (decide (x72 ≤ 16))) rfl (fun hB2 => ?_) (fun hB2 => ?_) (fun a w h => ?_)
                · refine g_yes h rfl rfl rfl rfl hB2 ?_
                  refine s_move h rfl _ rfl rfl (by decide) rfl (fun a h => ?_)
                  refine g_yes h rfl rfl rfl rfl hB2 ?_
                  refine s_x h rfl rfl (by decide) (x_bin h.k rfl rfl rfl ib_leq) (fun a h => ?_)
                  refine s_x h rfl rfl (by decide) (x_pick (u' := undef) h.k rfl rfl (fun _ => rfl) (fun hh => absurd (hB2.symm.trans hh) (by decide))) (fun a h => ?_)
                  exact (h.mid 2 rfl).val (by first | rfl | (rw [hB2]; first | rfl | simp))
                · refine g_no h rfl rfl rfl rfl hB2 rfl (by decide) (fun a h => ?_)
                  refine g_no h rfl rfl rfl rfl hB2 rfl (by decide) (fun a h => ?_)
                  refine s_x h rfl rfl (by decide) (x_pick (u' := undef) h.k rfl rfl (fun hh => absurd (hB2.symm.trans hh) (by decide)) (fun _ => rfl)) (fun a h => ?_)
                  exact (h.mid 2 rfl).val (by first | rfl | (rw [hB2]; first | rfl | simp))
                refine s_move h rfl _ rfl rfl (by decide) rfl (fun a h => ?_)
                obtain ⟨z130, hz129, hl70⟩ := bsome hl70
                refine q_grp h 6 (t := 60) 66 z130 rfl (fun hB6 => ?_) (fun hB6 => ?_) (fun a w h => ?_)
                · rw [if_pos hB6] at hz129
                  refine g_yes h rfl rfl rfl rfl hB6 ?_
                  refine s_move h rfl _ rfl rfl (by decide) rfl (fun a h => ?_)
                  refine g_yes h rfl rfl rfl rfl hB6 ?_
                  refine s_move h rfl _ rfl rfl (by decide) rfl (fun a h => ?_)
                  refine g_yes h rfl rfl rfl rfl hB6 ?_
                  obtain ⟨x132, h133, hz129⟩ := bsome hz129
                  have hX := chatelaineref43_Cred_ok Fu (S0 := snapAll _) x72 hr84 _ h133 _ h.startAll
                  refine q_callX hX h rfl rfl rfl (by decide) Try.func13 rfl rfl rfl (fun a w v L1 S1 hR hb1 h => ?_)
                  obtain ⟨A135, c136, cs137, rfl, rfl, hq138, _⟩ := hR
                  have hq139 := hq138.fl (S' := S112) fl_8
                  refine g_yes h rfl rfl rfl rfl hB6 ?_
                  obtain ⟨x140, h141, hz129⟩ := bsome hz129
                  have hX := chatelaineref01_Same_ok Fu (S0 := snapAll _) A122 c123 x119 (h.m.rowAll (i := 1) rfl (j := 3) rfl hq126) A135 c136 x132 (h.m.rowAll (i := 0) rfl (j := 3) rfl hq139) _ h141 _ h.startAll
                  refine q_callX hX h rfl rfl rfl (by decide) Try.func12 rfl rfl rfl (fun a w v L1 S1 hR hb1 h => ?_)
                  obtain ⟨rfl, rfl, _⟩ := hR
                  refine g_yes h rfl rfl rfl rfl hB6 ?_
                  refine s_x h rfl rfl (by decide) (x_not h.k rfl rfl) (fun a h => ?_)
                  refine s_x h rfl rfl (by decide) (x_pick (u' := undef) h.k rfl rfl (fun _ => rfl) (fun hh => absurd (hB6.symm.trans hh) (by decide))) (fun a h => ?_)
                  have h := h.pick [1, 2, 3, 4, 5] (by decide) rfl
                  exact (h.mid 5 rfl).val (by rw [Option.some.inj hz129])
                · refine g_no h rfl rfl rfl rfl hB6 rfl (by decide) (fun a h => ?_)
                  refine g_no h rfl rfl rfl rfl hB6 rfl (by decide) (fun a h => ?_)
                  refine g_no h rfl rfl rfl rfl hB6 rfl (by decide) (fun a h => ?_)
                  refine g_no h rfl rfl rfl rfl hB6 rfl (by decide) (fun a h => ?_)
                  refine g_no h rfl rfl rfl rfl hB6 rfl (by decide) (fun a h => ?_)
                  rw [if_neg (by rw [hB6]; decide)] at hz129
                  refine s_x h rfl rfl (by decide) (x_pick (u' := undef) h.k rfl rfl (fun hh => absurd (hB6.symm.trans hh) (by decide)) (fun _ => rfl)) (fun a h => ?_)
                  exact (h.mid 5 rfl).val (by rw [Option.some.inj hz129])
                refine s_move h rfl _ rfl rfl (by decide) rfl (fun a h => ?_)
                refine q_grp h 12 (t := 67) 79 (z130 || (((decide (x72 < 1)) || (decide (16 < x72))) && (decide (0 < (x119.length : Int))))) rfl (fun hB13 => ?_) (fun hB13 => ?_) (fun a w h => ?_)
                · refine g_no h rfl rfl rfl rfl hB13 rfl (by decide) (fun a h => ?_)
                  refine g_no h rfl rfl rfl rfl hB13 rfl (by decide) (fun a h => ?_)
                  refine g_no h rfl rfl rfl rfl hB13 rfl (by decide) (fun a h => ?_)
                  refine g_off h rfl rfl rfl rfl rfl (by decide) (fun a h => ?_)
                  refine g_off h rfl rfl rfl rfl rfl (by decide) (fun a h => ?_)
                  refine g_no h rfl rfl rfl rfl hB13 rfl (by decide) (fun a h => ?_)
                  refine g_no h rfl rfl rfl rfl hB13 rfl (by decide) (fun a h => ?_)
                  refine g_off h rfl rfl rfl rfl rfl (by decide) (fun a h => ?_)
                  refine g_off h rfl rfl rfl rfl rfl (by decide) (fun a h => ?_)
                  refine g_off h rfl rfl rfl rfl rfl (by decide) (fun a h => ?_)
                  refine g_no h rfl rfl rfl rfl hB13 rfl (by decide) (fun a h => ?_)
                  refine s_x h rfl rfl (by decide) (x_pick (u' := undef) h.k rfl rfl (fun _ => rfl) (fun hh => absurd (hB13.symm.trans hh) (by decide))) (fun a h => ?_)
                  exact (h.mid 11 rfl).val (by first | rfl | (rw [hB13]; first | rfl | simp))
                · refine g_yes h rfl rfl rfl rfl hB13 ?_
                  refine s_move h rfl _ rfl rfl (by decide) rfl (fun a h => ?_)
                  refine g_yes h rfl rfl rfl rfl hB13 ?_
                  refine s_x h rfl rfl (by decide) (x_bin h.k rfl rfl rfl ib_lss) (fun a h => ?_)
                  refine g_yes h rfl rfl rfl rfl hB13 ?_
                  refine s_move h rfl _ rfl rfl (by decide) rfl (fun a h => ?_)
                  refine q_grp h 3 (t := 70) 73 ((decide (x72 < 1)) || (decide (16 < x72))) rfl (fun hB16 => ?_) (fun hB16 => ?_) (fun a w h => ?_)
                  · refine g_no h rfl rfl rfl rfl hB16 rfl (by decide) (fun a h => ?_)
                    refine g_no h rfl rfl rfl rfl hB16 rfl (by decide) (fun a h => ?_)
                    refine g_yes h rfl rfl rfl rfl hB13 ?_
                    refine s_x h rfl rfl (by decide) (x_pick (u' := undef) h.k rfl rfl (fun _ => rfl) (fun hh => absurd (hB16.symm.trans hh) (by decide))) (fun a h => ?_)
                    exact (h.mid 2 rfl).val (by first | rfl | (rw [hB16]; first | rfl | simp))
                  · refine g_yes h rfl rfl rfl rfl hB16 ?_
                    refine s_move h rfl _ rfl rfl (by decide) rfl (fun a h => ?_)
                    refine g_yes h rfl rfl rfl rfl hB16 ?_
                    refine s_x h rfl rfl (by decide) (x_bin h.k rfl rfl rfl ib_gtr) (fun a h => ?_)
                    refine g_yes h rfl rfl rfl rfl hB13 ?_
                    refine s_x h rfl rfl (by decide) (x_pick (u' := undef) h.k rfl rfl (fun hh => absurd (hB16.symm.trans hh) (by decide)) (fun _ => rfl)) (fun a h => ?_)
                    exact (h.mid 2 rfl).val (by first | rfl | (rw [hB16]; first | rfl | simp))
                  refine g_yes h rfl rfl rfl rfl hB13 ?_
                  refine s_move h rfl _ rfl rfl (by decide) rfl (fun a h => ?_)
                  refine q_grp h 4 (t := 74) 78 (((decide (x72 < 1)) || (decide (16 < x72))) && (decide (0 < (x119.length : Int)))) rfl (fun hB20 => ?_) (fun hB20 => ?_) (fun a w h => ?_)
                  · refine g_yes h rfl rfl rfl rfl hB20 ?_
                    refine s_move h rfl _ rfl rfl (by decide) rfl (fun a h => ?_)
                    refine g_yes h rfl rfl rfl rfl hB20 ?_
                    have hr149 : r64 (x119.length : Int) := len_r (h.m.rowLen (i := 0) rfl)
                    refine s_x h rfl rfl (by decide) (x_len h.k rfl Try.underlying22 rfl) (fun a h => ?_)
                    refine g_yes h rfl rfl rfl rfl hB20 ?_
                    refine s_x h rfl rfl (by decide) (x_bin h.k rfl rfl rfl ib_gtr) (fun a h => ?_)
                    refine g_yes h rfl rfl rfl rfl hB13 ?_
                    refine s_x h rfl rfl (by decide) (x_pick (u' := undef) h.k rfl rfl (fun _ => rfl) (fun hh => absurd (hB20.symm.trans hh) (by decide))) (fun a h => ?_)
                    exact (h.mid 3 rfl).val (by first | rfl | (rw [hB20]; first | rfl | simp))
                  · refine g_no h rfl rfl rfl rfl hB20 rfl (by decide) (fun a h => ?_)
                    refine g_no h rfl rfl rfl rfl hB20 rfl (by decide) (fun a h => ?_)
                    refine g_no h rfl rfl rfl rfl hB20 rfl (by decide) (fun a h => ?_)
                    refine g_yes h rfl rfl rfl rfl hB13 ?_
                    refine s_x h rfl rfl (by decide) (x_pick (u' := undef) h.k rfl rfl (fun hh => absurd (hB20.symm.trans hh) (by decide)) (fun _ => rfl)) (fun a h => ?_)
                    exact (h.mid 3 rfl).val (by first | rfl | (rw [hB20]; first | rfl | simp))
                  refine s_x h rfl rfl (by decide) (x_pick (u' := undef) h.k rfl rfl (fun hh => absurd (hB13.symm.trans hh) (by decide)) (fun _ => rfl)) (fun a h => ?_)
                  exact (h.mid 6 rfl).val (by first | rfl | (rw [hB13]; first | rfl | simp))
                refine s_move h rfl _ rfl rfl (by decide) rfl (fun a h => ?_)
                refine q_grp h 3 (t := 80) 83 ((z130 || (((decide (x72 < 1)) || (decide (16 < x72))) && (decide (0 < (x119.length : Int))))) || (decide (x47 < 0))) rfl (fun hB26 => ?_) (fun hB26 => ?_) (fun a w h => ?_)
                · refine g_no h rfl rfl rfl rfl hB26 rfl (by decide) (fun a h => ?_)
                  refine g_no h rfl rfl rfl rfl hB26 rfl (by decide) (fun a h => ?_)
                  refine s_x h rfl rfl (by decide) (x_pick (u' := undef) h.k rfl rfl (fun _ => rfl) (fun hh => absurd (hB26.symm.trans hh) (by decide))) (fun a h => ?_)
                  exact (h.mid 2 rfl).val (by first | rfl | (rw [hB26]; first | rfl | simp))
                · refine g_yes h rfl rfl rfl rfl hB26 ?_
                  refine s_move h rfl _ rfl rfl (by decide) rfl (fun a h => ?_)
                  refine g_yes h rfl rfl rfl rfl hB26 ?_
                  refine s_x h rfl rfl (by decide) (x_bin h.k rfl rfl rfl ib_lss) (fun a h => ?_)
                  refine s_x h rfl rfl (by decide) (x_pick (u' := undef) h.k rfl rfl (fun hh => absurd (hB26.symm.trans hh) (by decide)) (fun _ => rfl)) (fun a h => ?_)
                  exact (h.mid 2 rfl).val (by first | rfl | (rw [hB26]; first | rfl | simp))
                refine l_end ?_
                refine c_cond h rfl (fun hb => ?_) (fun hb => ?_)
                · rw [if_pos hb] at hl70
                  refine c_rs ?_ -- region 19
                  refine s_assign h rfl _ rfl rfl (by decide) rfl (fun a h => ?_)
                  refine l_end ?_
                  refine wp_ret ?_
                  refine e_blkR ?_
                  refine e_thenR ?_
                  refine e_thenR ?_
                  refine e_blkR ?_
                  refine e_thenR ?_
                  cases hl70
                  try dsimp only at hf
                  refine e_thenR ?_
                  rw [← Option.some.inj hf]
                  exact r_ret1 h rfl (rv_tmp h rfl) ⟨_, [], _, rfl, ⟨rfl, rfl, trivial⟩, rfl, up113, (h.m.pick [2] _ (by decide) rfl)⟩
                · rw [if_neg (by rw [hb]; decide)] at hl70
                  refine wp_skip ?_
                  refine e_blkN ?_
                  refine e_thenN ?_
                  refine c_r ?_ -- region 20
                  refine s_x h rfl rfl (by decide) (x_bin h.k rfl rfl rfl (ib_add rfl)) (fun a h => ?_)
                  refine s_move h rfl _ rfl rfl (by decide) rfl (fun a h => ?_)
                  refine l_nil ?_
                  have h := h.pick [3, 1, 4, 2] (by decide) rfl
                  exact e_thenN ⟨m71, Nat.lt_succ_self _, S112, w64 (x47 + 1), x109.2, A116, c117, x93, A94, c95, hl70, ((le45.trans le89).trans le114), up113, (w64_r _), hs118, (hs96.mono le114), hr97, h.has (by exact ⟨rfl, rfl, rfl, rfl, rfl, rfl, trivial⟩)⟩
          · rw [if_neg (of_decide_eq_false hb)] at hl70
            refine wp_exit ?_
            refine e_thenX ?_
            refine e_thenX ?_
            refine e_blkX ?_
            refine e_thenN ?_
            exact ⟨S44, x49, A50, c51, x53, A54, c55, (Option.some.inj hl70), le45, up46, hs52, hs56, hr57, h.has (by exact ⟨rfl, rfl, rfl, trivial⟩)⟩
        · rintro a w ⟨S58, x61, A62, c63, x65, A66, c67, rfl, le59, up60, hs64, hs68, hr69, h⟩
          try dsimp only at hf
          refine e_thenN ?_
          refine wp_seq ?_
          -- region 21 draws
          obtain ⟨x153, h154, hf⟩ := bsome hf
          obtain ⟨x163, h164, hf⟩ := bsome hf
          obtain ⟨z174, hz175, hf⟩ := bsome hf
          obtain ⟨z183, hz184, hf⟩ := bsome hf
          refine c_fin (fun a w => ∃ (S194 : Snap), Snap.le S58 S194 ∧ Up (ownL ([] ++ [.sn S0])) w0 S0 S194 ∧ St 107 w0 (ownL ([] ++ [.sn S0])) [(6, .bool z183)] [.sn S194] a w) ?_ (fun a w h => ?_)
          · refine d_start h (Mem _ _ _) 23 23 rfl (by kernel_rfl) (fun _ _ _ _ _ h => h) (fun _ h => h.pick [0] [.box g17 25 ([.int .i64 a2.1, .int .i64 a2.2.1, .int .i64 a2.2.2.1, .int .i64 a2.2.2.2.1, .int .i64 a2.2.2.2.2.1, .int .i64 a2.2.2.2.2.2])] (by decide) rfl) (fun Q a w HE HN h HS => ?_)
            refine d_takeP h (fun _ => HS) HN 0 rfl (by kernel_rfl) (by kernel_rfl) (by kernel_rfl) (by decide) rfl rfl (by decide) (fun w' => x_move h.k _ rfl rfl) (fun a h => ?_)
            refine d_takeP h (fun _ => HS) HN 2 rfl (by kernel_rfl) (by kernel_rfl) (by kernel_rfl) (by decide) rfl rfl (by decide) (fun w' => x_move h.k _ rfl rfl) (fun a h => ?_)
            refine d_alone 1 rfl (by kernel_rfl) (fun K hK => ?_)
            have h := h.pick [1, 3, 0, 2] (by decide) rfl
            have hX := lot_Lot_Next_ok Fu (S0 := S58) x61 g37 A62 c63 hs64 _ h154 _ (h.sub (Ls := [.box g37 65 ([.slice A62 x61.1.length c63, .int .u64 (x61.2.1.toNat : Int), .bool x61.2.2])]))
            refine q_callY (Ls := [.box g37 65 ([.slice A62 x61.1.length c63, .int .u64 (x61.2.1.toNat : Int), .bool x61.2.2])]) hX h up60 rfl rfl rfl (by decide) Try.func7 rfl rfl rfl (fun a w v L1 S156 hR le158 up157 h => ?_)
            obtain ⟨A160, c161, rfl, rfl, hr159, hs162, _⟩ := hR
            replace HS := h.m.pick [2] [.box g17 25 ([.int .i64 a2.1, .int .i64 a2.2.1, .int .i64 a2.2.2.1, .int .i64 a2.2.2.2.1, .int .i64 a2.2.2.2.2.1, .int .i64 a2.2.2.2.2.2])] (by decide) rfl
            refine hK _ _ (fun _ _ => HS) ?_
            clear hK
            refine d_alone 3 rfl (by kernel_rfl) (fun K hK => ?_)
            have h := h.pick [3, 1, 0, 2] (by decide) rfl
            have hX := chatelaineref43_Lot_Next_ok Fu (S0 := S156) x65 g41 A66 c67 (hs68.mono le158) hr69 _ h164 _ (h.sub (Ls := [.box g41 33 ([.slice A66 x65.1.length c67, .int .i64 x65.2])]))
            refine q_callY (Ls := [.box g41 33 ([.slice A66 x65.1.length c67, .int .i64 x65.2])]) hX h up157 rfl rfl rfl (by decide) Try.func14 rfl rfl rfl (fun a w v L1 S166 hR le168 up167 h => ?_)
            obtain ⟨A170, c171, rfl, rfl, hr169, hs172, hr173, _⟩ := hR
            replace HS := h.m.pick [3] [.box g17 25 ([.int .i64 a2.1, .int .i64 a2.2.1, .int .i64 a2.2.2.1, .int .i64 a2.2.2.2.1, .int .i64 a2.2.2.2.2.1, .int .i64 a2.2.2.2.2.2])] (by decide) rfl
            refine hK _ _ (fun _ _ => HS) ?_
            clear hK
            refine d_takeP h (fun _ => HS) HN 4 rfl (by kernel_rfl) (by kernel_rfl) (by kernel_rfl) (by decide) rfl rfl (by decide) (fun w' => x_bin h.k rfl rfl rfl ib_eql) (fun a h => ?_)
            refine d_takeP h (fun _ => HS) HN 5 rfl (by kernel_rfl) (by kernel_rfl) (by kernel_rfl) (by decide) rfl rfl (by decide) (fun w' => x_move h.k _ rfl rfl) (fun a h => ?_)
            refine d_split (t := 90) h rfl (fun hB5 => ?_) (fun hB5 => ?_)
            · rw [if_pos (of_decide_eq_true hB5)] at hz175
              obtain ⟨x176, h177, hz175⟩ := bsome hz175
              obtain ⟨x180, h181, hz175⟩ := bsome hz175
              refine d_takeY h HS HN 6 rfl (by kernel_rfl) (by kernel_rfl) (by kernel_rfl) (by kernel_rfl) (by kernel_rfl) (by rw [g_want h rfl rfl rfl rfl hB5]; rfl) rfl (by decide) (fun w' hw => x_ldR h.k rfl ag_api_Load rfl ([.int .i64 a2.1, .int .i64 a2.2.1, .int .i64 a2.2.2.1, .int .i64 a2.2.2.2.1, .int .i64 a2.2.2.2.2.1, .int .i64 a2.2.2.2.2.2]) rfl (hw.range0 (i := 0) rfl)) (fun a h => ?_)
              refine d_takeY h HS HN 9 rfl (by kernel_rfl) (by kernel_rfl) (by kernel_rfl) (by kernel_rfl) (by kernel_rfl) (by rw [g_want h rfl rfl rfl rfl hB5]; rfl) rfl (by decide) (fun w' hw => x_ldR h.k rfl ag_api_Load rfl ([.int .i64 a2.1, .int .i64 a2.2.1, .int .i64 a2.2.2.1, .int .i64 a2.2.2.2.1, .int .i64 a2.2.2.2.2.1, .int .i64 a2.2.2.2.2.2]) rfl (hw.range0 (i := 0) rfl)) (fun a h => ?_)
              refine d_alone 7 rfl (by kernel_rfl) (fun K hK => ?_)
              refine g_yes (j := 5) (t := 90) h rfl rfl rfl rfl hB5 ?_
              have hX := lot_Check_ok Fu (S0 := snapAll _) ([.int .i64 a2.1, .int .i64 a2.2.1, .int .i64 a2.2.2.1, .int .i64 a2.2.2.2.1, .int .i64 a2.2.2.2.2.1, .int .i64 a2.2.2.2.2.2]) a2 ((tyP tyI (tyP tyI (tyP tyI (tyP tyI (tyP tyI tyI))))).mono (h.m.leAll (i := 1) rfl) (show (tyP tyI (tyP tyI (tyP tyI (tyP tyI (tyP tyI tyI))))).rep S166 ([.int .i64 a2.1, .int .i64 a2.2.1, .int .i64 a2.2.2.1, .int .i64 a2.2.2.2.1, .int .i64 a2.2.2.2.2.1, .int .i64 a2.2.2.2.2.2]) a2 from ⟨[.int .i64 a2.1], [.int .i64 a2.2.1, .int .i64 a2.2.2.1, .int .i64 a2.2.2.2.1, .int .i64 a2.2.2.2.2.1, .int .i64 a2.2.2.2.2.2], rfl, ⟨rfl, hr3⟩, ⟨[.int .i64 a2.2.1], [.int .i64 a2.2.2.1, .int .i64 a2.2.2.2.1, .int .i64 a2.2.2.2.2.1, .int .i64 a2.2.2.2.2.2], rfl, ⟨rfl, hr6⟩, ⟨[.int .i64 a2.2.2.1], [.int .i64 a2.2.2.2.1, .int .i64 a2.2.2.2.2.1, .int .i64 a2.2.2.2.2.2], rfl, ⟨rfl, hr9⟩, ⟨[.int .i64 a2.2.2.2.1], [.int .i64 a2.2.2.2.2.1, .int .i64 a2.2.2.2.2.2], rfl, ⟨rfl, hr12⟩, ⟨[.int .i64 a2.2.2.2.2.1], [.int .i64 a2.2.2.2.2.2], rfl, ⟨rfl, hr15⟩, ⟨rfl, hr16⟩⟩⟩⟩⟩⟩)) _ h177 _ h.startAll
              refine q_callX hX h rfl rfl rfl (by decide) Try.func15 rfl rfl rfl (fun a w v L1 S1 hR hb1 h => ?_)
              obtain ⟨rfl, rfl, hr179, _⟩ := hR
              replace HS := h.m.pick [3] [.box g17 25 ([.int .i64 a2.1, .int .i64 a2.2.1, .int .i64 a2.2.2.1, .int .i64 a2.2.2.2.1, .int .i64 a2.2.2.2.2.1, .int .i64 a2.2.2.2.2.2])] (by decide) rfl
              refine hK _ _ (fun _ _ => HS) ?_
              clear hK
              refine d_takeP h (fun _ => HS) HN 8 rfl (by kernel_rfl) (by kernel_rfl) (by kernel_rfl) (by decide) (by rw [g_want h rfl rfl rfl rfl hB5]; rfl) rfl (by decide) (fun w' => x_bin h.k rfl rfl rfl ib_eql) (fun a h => ?_)
              refine d_alone 10 rfl (by kernel_rfl) (fun K hK => ?_)
              refine g_yes (j := 5) (t := 90) h rfl rfl rfl rfl hB5 ?_
              have hX := chatelaineref43_May_ok Fu (S0 := snapAll _) ([.int .i64 a2.1, .int .i64 a2.2.1, .int .i64 a2.2.2.1, .int .i64 a2.2.2.2.1, .int .i64 a2.2.2.2.2.1, .int .i64 a2.2.2.2.2.2]) a2 ((tyP tyI (tyP tyI (tyP tyI (tyP tyI (tyP tyI tyI))))).mono (h.m.leAll (i := 1) rfl) (show (tyP tyI (tyP tyI (tyP tyI (tyP tyI (tyP tyI tyI))))).rep S166 ([.int .i64 a2.1, .int .i64 a2.2.1, .int .i64 a2.2.2.1, .int .i64 a2.2.2.2.1, .int .i64 a2.2.2.2.2.1, .int .i64 a2.2.2.2.2.2]) a2 from ⟨[.int .i64 a2.1], [.int .i64 a2.2.1, .int .i64 a2.2.2.1, .int .i64 a2.2.2.2.1, .int .i64 a2.2.2.2.2.1, .int .i64 a2.2.2.2.2.2], rfl, ⟨rfl, hr3⟩, ⟨[.int .i64 a2.2.1], [.int .i64 a2.2.2.1, .int .i64 a2.2.2.2.1, .int .i64 a2.2.2.2.2.1, .int .i64 a2.2.2.2.2.2], rfl, ⟨rfl, hr6⟩, ⟨[.int .i64 a2.2.2.1], [.int .i64 a2.2.2.2.1, .int .i64 a2.2.2.2.2.1, .int .i64 a2.2.2.2.2.2], rfl, ⟨rfl, hr9⟩, ⟨[.int .i64 a2.2.2.2.1], [.int .i64 a2.2.2.2.2.1, .int .i64 a2.2.2.2.2.2], rfl, ⟨rfl, hr12⟩, ⟨[.int .i64 a2.2.2.2.2.1], [.int .i64 a2.2.2.2.2.2], rfl, ⟨rfl, hr15⟩, ⟨rfl, hr16⟩⟩⟩⟩⟩⟩)) _ h181 _ h.startAll
              refine q_callX hX h rfl rfl rfl (by decide) Try.func16 rfl rfl rfl (fun a w v L1 S1 hR hb1 h => ?_)
              obtain ⟨rfl, rfl, _⟩ := hR
              replace HS := h.m.pick [3] [.box g17 25 ([.int .i64 a2.1, .int .i64 a2.2.1, .int .i64 a2.2.2.1, .int .i64 a2.2.2.2.1, .int .i64 a2.2.2.2.2.1, .int .i64 a2.2.2.2.2.2])] (by decide) rfl
              refine hK _ _ (fun _ _ => HS) ?_
              clear hK
              refine d_takeP h (fun _ => HS) HN 11 rfl (by kernel_rfl) (by kernel_rfl) (by kernel_rfl) (by decide) (by rw [g_want h rfl rfl rfl rfl hB5]; rfl) rfl (by decide) (fun w' => x_eqlB h.k rfl Try.underlying4 rfl rfl) (fun a h => ?_)
              refine d_takeP h (fun _ => HS) HN 12 rfl (by kernel_rfl) (by kernel_rfl) (by kernel_rfl) (by decide) rfl rfl (by decide) (fun w' => x_pick (v := .bool z174) (u' := undef) h.k rfl rfl (fun _ => by rw [← Option.some.inj hz175]; rfl) (fun hh => absurd (hB5.symm.trans hh) (by decide))) (fun a h => ?_)
              refine d_takeP h (fun _ => HS) HN 13 rfl (by kernel_rfl) (by kernel_rfl) (by kernel_rfl) (by decide) rfl rfl (by decide) (fun w' => x_move h.k _ rfl rfl) (fun a h => ?_)
              refine d_split (t := 98) h rfl (fun hB13 => ?_) (fun hB13 => ?_)
              · rw [if_pos hB13] at hz184
                obtain ⟨x185, h186, hz184⟩ := bsome hz184
                obtain ⟨z188, hz189, hz184⟩ := bsome hz184
                refine d_takeY h HS HN 14 rfl (by kernel_rfl) (by kernel_rfl) (by kernel_rfl) (by kernel_rfl) (by kernel_rfl) (by rw [g_want h rfl rfl rfl rfl hB13]; rfl) rfl (by decide) (fun w' hw => x_ldR h.k rfl ag_api_Load rfl ([.int .i64 a2.1, .int .i64 a2.2.1, .int .i64 a2.2.2.1, .int .i64 a2.2.2.2.1, .int .i64 a2.2.2.2.2.1, .int .i64 a2.2.2.2.2.2]) rfl (hw.range0 (i := 0) rfl)) (fun a h => ?_)
                refine d_alone 15 rfl (by kernel_rfl) (fun K hK => ?_)
                refine g_yes (j := 13) (t := 98) h rfl rfl rfl rfl hB13 ?_
                have hX := chatelaineref43_May_ok Fu (S0 := snapAll _) ([.int .i64 a2.1, .int .i64 a2.2.1, .int .i64 a2.2.2.1, .int .i64 a2.2.2.2.1, .int .i64 a2.2.2.2.2.1, .int .i64 a2.2.2.2.2.2]) a2 ((tyP tyI (tyP tyI (tyP tyI (tyP tyI (tyP tyI tyI))))).mono (h.m.leAll (i := 1) rfl) (show (tyP tyI (tyP tyI (tyP tyI (tyP tyI (tyP tyI tyI))))).rep S166 ([.int .i64 a2.1, .int .i64 a2.2.1, .int .i64 a2.2.2.1, .int .i64 a2.2.2.2.1, .int .i64 a2.2.2.2.2.1, .int .i64 a2.2.2.2.2.2]) a2 from ⟨[.int .i64 a2.1], [.int .i64 a2.2.1, .int .i64 a2.2.2.1, .int .i64 a2.2.2.2.1, .int .i64 a2.2.2.2.2.1, .int .i64 a2.2.2.2.2.2], rfl, ⟨rfl, hr3⟩, ⟨[.int .i64 a2.2.1], [.int .i64 a2.2.2.1, .int .i64 a2.2.2.2.1, .int .i64 a2.2.2.2.2.1, .int .i64 a2.2.2.2.2.2], rfl, ⟨rfl, hr6⟩, ⟨[.int .i64 a2.2.2.1], [.int .i64 a2.2.2.2.1, .int .i64 a2.2.2.2.2.1, .int .i64 a2.2.2.2.2.2], rfl, ⟨rfl, hr9⟩, ⟨[.int .i64 a2.2.2.2.1], [.int .i64 a2.2.2.2.2.1, .int .i64 a2.2.2.2.2.2], rfl, ⟨rfl, hr12⟩, ⟨[.int .i64 a2.2.2.2.2.1], [.int .i64 a2.2.2.2.2.2], rfl, ⟨rfl, hr15⟩, ⟨rfl, hr16⟩⟩⟩⟩⟩⟩)) _ h186 _ h.startAll
                refine q_callX hX h rfl rfl rfl (by decide) Try.func16 rfl rfl rfl (fun a w v L1 S1 hR hb1 h => ?_)
                obtain ⟨rfl, rfl, _⟩ := hR
                replace HS := h.m.pick [3] [.box g17 25 ([.int .i64 a2.1, .int .i64 a2.2.1, .int .i64 a2.2.2.1, .int .i64 a2.2.2.2.1, .int .i64 a2.2.2.2.2.1, .int .i64 a2.2.2.2.2.2])] (by decide) rfl
                refine hK _ _ (fun _ _ => HS) ?_
                clear hK
                refine d_takeP h (fun _ => HS) HN 16 rfl (by kernel_rfl) (by kernel_rfl) (by kernel_rfl) (by decide) (by rw [g_want h rfl rfl rfl rfl hB13]; rfl) rfl (by decide) (fun w' => x_move h.k _ rfl rfl) (fun a h => ?_)
                refine d_split (t := 101) h rfl (fun hB16 => ?_) (fun hB16 => ?_)
                · rw [if_pos hB16] at hz189
                  refine d_takeNP h (fun _ => HS) HN 17 rfl (by kernel_rfl) (by kernel_rfl) (by kernel_rfl) (by decide) (by rw [g_want h rfl rfl rfl rfl hB16]; rfl) rfl (by decide) (fun a h => ?_)
                  refine d_takeNP h (fun _ => HS) HN 18 rfl (by kernel_rfl) (by kernel_rfl) (by kernel_rfl) (by decide) (by rw [g_want h rfl rfl rfl rfl hB16]; rfl) rfl (by decide) (fun a h => ?_)
                  refine d_takeNP h (fun _ => HS) HN 19 rfl (by kernel_rfl) (by kernel_rfl) (by kernel_rfl) (by decide) (by rw [g_want h rfl rfl rfl rfl hB16]; rfl) rfl (by decide) (fun a h => ?_)
                  refine d_takeP h (fun _ => HS) HN 20 rfl (by kernel_rfl) (by kernel_rfl) (by kernel_rfl) (by decide) (by rw [g_want h rfl rfl rfl rfl hB13]; rfl) rfl (by decide) (fun w' => x_pick (v := .bool z188) (u' := undef) h.k rfl rfl (fun _ => by rw [← Option.some.inj hz189]; rfl) (fun hh => absurd (hB16.symm.trans hh) (by decide))) (fun a h => ?_)
                  refine d_takeP h (fun _ => HS) HN 21 rfl (by kernel_rfl) (by kernel_rfl) (by kernel_rfl) (by decide) rfl rfl (by decide) (fun w' => x_pick (v := .bool z183) (u' := undef) h.k rfl rfl (fun _ => by rw [← Option.some.inj hz184]; rfl) (fun hh => absurd (hB13.symm.trans hh) (by decide))) (fun a h => ?_)
                  refine d_takeP h (fun _ => HS) HN 22 rfl (by kernel_rfl) (by kernel_rfl) (by kernel_rfl) (by decide) rfl rfl (by decide) (fun w' => x_assign h.k _ rfl rfl) (fun a h => ?_)
                  refine d_done (by kernel_rfl) (HE _ _ ?_) _
                  refine e_thenN ?_
                  have h := h.pick [1] (by decide) rfl
                  exact ⟨S166, (le158.trans le168), up167, h.has (by exact ⟨rfl, trivial⟩)⟩
                · rw [if_neg (by rw [hB16]; decide)] at hz189
                  obtain ⟨x190, h191, hz189⟩ := bsome hz189
                  refine d_takeY h HS HN 17 rfl (by kernel_rfl) (by kernel_rfl) (by kernel_rfl) (by kernel_rfl) (by kernel_rfl) (by rw [g_want h rfl rfl rfl rfl hB16]; rfl) rfl (by decide) (fun w' hw => x_ldR h.k rfl ag_api_Load rfl ([.int .i64 a2.1, .int .i64 a2.2.1, .int .i64 a2.2.2.1, .int .i64 a2.2.2.2.1, .int .i64 a2.2.2.2.2.1, .int .i64 a2.2.2.2.2.2]) rfl (hw.range0 (i := 0) rfl)) (fun a h => ?_)
                  refine d_alone 18 rfl (by kernel_rfl) (fun K hK => ?_)
                  refine g_yes (j := 16) (t := 101) h rfl rfl rfl rfl hB16 ?_
                  have hX := lot_Check_ok Fu (S0 := snapAll _) ([.int .i64 a2.1, .int .i64 a2.2.1, .int .i64 a2.2.2.1, .int .i64 a2.2.2.2.1, .int .i64 a2.2.2.2.2.1, .int .i64 a2.2.2.2.2.2]) a2 ((tyP tyI (tyP tyI (tyP tyI (tyP tyI (tyP tyI tyI))))).mono (h.m.leAll (i := 1) rfl) (show (tyP tyI (tyP tyI (tyP tyI (tyP tyI (tyP tyI tyI))))).rep S166 ([.int .i64 a2.1, .int .i64 a2.2.1, .int .i64 a2.2.2.1, .int .i64 a2.2.2.2.1, .int .i64 a2.2.2.2.2.1, .int .i64 a2.2.2.2.2.2]) a2 from ⟨[.int .i64 a2.1], [.int .i64 a2.2.1, .int .i64 a2.2.2.1, .int .i64 a2.2.2.2.1, .int .i64 a2.2.2.2.2.1, .int .i64 a2.2.2.2.2.2], rfl, ⟨rfl, hr3⟩, ⟨[.int .i64 a2.2.1], [.int .i64 a2.2.2.1, .int .i64 a2.2.2.2.1, .int .i64 a2.2.2.2.2.1, .int .i64 a2.2.2.2.2.2], rfl, ⟨rfl, hr6⟩, ⟨[.int .i64 a2.2.2.1], [.int .i64 a2.2.2.2.1, .int .i64 a2.2.2.2.2.1, .int .i64 a2.2.2.2.2.2], rfl, ⟨rfl, hr9⟩, ⟨[.int .i64 a2.2.2.2.1], [.int .i64 a2.2.2.2.2.1, .int .i64 a2.2.2.2.2.2], rfl, ⟨rfl, hr12⟩, ⟨[.int .i64 a2.2.2.2.2.1], [.int .i64 a2.2.2.2.2.2], rfl, ⟨rfl, hr15⟩, ⟨rfl, hr16⟩⟩⟩⟩⟩⟩)) _ h191 _ h.startAll
                  refine q_callX hX h rfl rfl rfl (by decide) Try.func15 rfl rfl rfl (fun a w v L1 S1 hR hb1 h => ?_)
                  obtain ⟨rfl, rfl, hr193, _⟩ := hR
                  replace HS := h.m.pick [3] [.box g17 25 ([.int .i64 a2.1, .int .i64 a2.2.1, .int .i64 a2.2.2.1, .int .i64 a2.2.2.2.1, .int .i64 a2.2.2.2.2.1, .int .i64 a2.2.2.2.2.2])] (by decide) rfl
                  refine hK _ _ (fun _ _ => HS) ?_
                  clear hK
                  refine d_takeP h (fun _ => HS) HN 19 rfl (by kernel_rfl) (by kernel_rfl) (by kernel_rfl) (by decide) (by rw [g_want h rfl rfl rfl rfl hB16]; rfl) rfl (by decide) (fun w' => x_bin h.k rfl rfl rfl ib_eql) (fun a h => ?_)
                  refine d_takeP h (fun _ => HS) HN 20 rfl (by kernel_rfl) (by kernel_rfl) (by kernel_rfl) (by decide) (by rw [g_want h rfl rfl rfl rfl hB13]; rfl) rfl (by decide) (fun w' => x_pick (v := .bool z188) (u' := undef) h.k rfl rfl (fun hh => absurd (hB16.symm.trans hh) (by decide)) (fun _ => by rw [← Option.some.inj hz189]; rfl)) (fun a h => ?_)
                  refine d_takeP h (fun _ => HS) HN 21 rfl (by kernel_rfl) (by kernel_rfl) (by kernel_rfl) (by decide) rfl rfl (by decide) (fun w' => x_pick (v := .bool z183) (u' := undef) h.k rfl rfl (fun _ => by rw [← Option.some.inj hz184]; rfl) (fun hh => absurd (hB13.symm.trans hh) (by decide))) (fun a h => ?_)
                  refine d_takeP h (fun _ => HS) HN 22 rfl (by kernel_rfl) (by kernel_rfl) (by kernel_rfl) (by decide) rfl rfl (by decide) (fun w' => x_assign h.k _ rfl rfl) (fun a h => ?_)
                  refine d_done (by kernel_rfl) (HE _ _ ?_) _
                  refine e_thenN ?_
                  have h := h.pick [1] (by decide) rfl
                  exact ⟨S166, (le158.trans le168), up167, h.has (by exact ⟨rfl, trivial⟩)⟩
              · rw [if_neg (by rw [hB13]; decide)] at hz184
                refine d_takeNP h (fun _ => HS) HN 14 rfl (by kernel_rfl) (by kernel_rfl) (by kernel_rfl) (by decide) (by rw [g_want h rfl rfl rfl rfl hB13]; rfl) rfl (by decide) (fun a h => ?_)
                refine d_takeNP h (fun _ => HS) HN 15 rfl (by kernel_rfl) (by kernel_rfl) (by kernel_rfl) (by decide) (by rw [g_want h rfl rfl rfl rfl hB13]; rfl) rfl (by decide) (fun a h => ?_)
                refine d_takeNP h (fun _ => HS) HN 16 rfl (by kernel_rfl) (by kernel_rfl) (by kernel_rfl) (by decide) (by rw [g_want h rfl rfl rfl rfl hB13]; rfl) rfl (by decide) (fun a h => ?_)
                refine d_takeNP h (fun _ => HS) HN 17 rfl (by kernel_rfl) (by kernel_rfl) (by kernel_rfl) (by decide) (g_wantU h rfl rfl rfl rfl) rfl (by decide) (fun a h => ?_)
                refine d_takeNP h (fun _ => HS) HN 18 rfl (by kernel_rfl) (by kernel_rfl) (by kernel_rfl) (by decide) (g_wantU h rfl rfl rfl rfl) rfl (by decide) (fun a h => ?_)
                refine d_takeNP h (fun _ => HS) HN 19 rfl (by kernel_rfl) (by kernel_rfl) (by kernel_rfl) (by decide) (g_wantU h rfl rfl rfl rfl) rfl (by decide) (fun a h => ?_)
                refine d_takeNP h (fun _ => HS) HN 20 rfl (by kernel_rfl) (by kernel_rfl) (by kernel_rfl) (by decide) (by rw [g_want h rfl rfl rfl rfl hB13]; rfl) rfl (by decide) (fun a h => ?_)
                refine d_takeP h (fun _ => HS) HN 21 rfl (by kernel_rfl) (by kernel_rfl) (by kernel_rfl) (by decide) rfl rfl (by decide) (fun w' => x_pick (v := .bool z183) (u' := undef) h.k rfl rfl (fun hh => absurd (hB13.symm.trans hh) (by decide)) (fun _ => by rw [← Option.some.inj hz184]; rfl)) (fun a h => ?_)
                refine d_takeP h (fun _ => HS) HN 22 rfl (by kernel_rfl) (by kernel_rfl) (by kernel_rfl) (by decide) rfl rfl (by decide) (fun w' => x_assign h.k _ rfl rfl) (fun a h => ?_)
                refine d_done (by kernel_rfl) (HE _ _ ?_) _
                refine e_thenN ?_
                have h := h.pick [1] (by decide) rfl
                exact ⟨S166, (le158.trans le168), up167, h.has (by exact ⟨rfl, trivial⟩)⟩
            · rw [if_neg (of_decide_eq_false hB5)] at hz175
              refine d_takeNP h (fun _ => HS) HN 6 rfl (by kernel_rfl) (by kernel_rfl) (by kernel_rfl) (by decide) (by rw [g_want h rfl rfl rfl rfl hB5]; rfl) rfl (by decide) (fun a h => ?_)
              refine d_takeNP h (fun _ => HS) HN 7 rfl (by kernel_rfl) (by kernel_rfl) (by kernel_rfl) (by decide) (by rw [g_want h rfl rfl rfl rfl hB5]; rfl) rfl (by decide) (fun a h => ?_)
              refine d_takeNP h (fun _ => HS) HN 8 rfl (by kernel_rfl) (by kernel_rfl) (by kernel_rfl) (by decide) (by rw [g_want h rfl rfl rfl rfl hB5]; rfl) rfl (by decide) (fun a h => ?_)
              refine d_takeNP h (fun _ => HS) HN 9 rfl (by kernel_rfl) (by kernel_rfl) (by kernel_rfl) (by decide) (by rw [g_want h rfl rfl rfl rfl hB5]; rfl) rfl (by decide) (fun a h => ?_)
              refine d_takeNP h (fun _ => HS) HN 10 rfl (by kernel_rfl) (by kernel_rfl) (by kernel_rfl) (by decide) (by rw [g_want h rfl rfl rfl rfl hB5]; rfl) rfl (by decide) (fun a h => ?_)
              refine d_takeNP h (fun _ => HS) HN 11 rfl (by kernel_rfl) (by kernel_rfl) (by kernel_rfl) (by decide) (by rw [g_want h rfl rfl rfl rfl hB5]; rfl) rfl (by decide) (fun a h => ?_)
              refine d_takeP h (fun _ => HS) HN 12 rfl (by kernel_rfl) (by kernel_rfl) (by kernel_rfl) (by decide) rfl rfl (by decide) (fun w' => x_pick (v := .bool z174) (u' := undef) h.k rfl rfl (fun hh => absurd (hB5.symm.trans hh) (by decide)) (fun _ => by rw [← Option.some.inj hz175]; rfl)) (fun a h => ?_)
              refine d_takeP h (fun _ => HS) HN 13 rfl (by kernel_rfl) (by kernel_rfl) (by kernel_rfl) (by decide) rfl rfl (by decide) (fun w' => x_move h.k _ rfl rfl) (fun a h => ?_)
              have hB13 : z174 = false := (Option.some.inj hz175).symm
              rw [if_neg (by rw [hB13]; decide)] at hz184
              refine d_takeNP h (fun _ => HS) HN 14 rfl (by kernel_rfl) (by kernel_rfl) (by kernel_rfl) (by decide) (by rw [g_want h rfl rfl rfl rfl hB13]; rfl) rfl (by decide) (fun a h => ?_)
              refine d_takeNP h (fun _ => HS) HN 15 rfl (by kernel_rfl) (by kernel_rfl) (by kernel_rfl) (by decide) (by rw [g_want h rfl rfl rfl rfl hB13]; rfl) rfl (by decide) (fun a h => ?_)
              refine d_takeNP h (fun _ => HS) HN 16 rfl (by kernel_rfl) (by kernel_rfl) (by kernel_rfl) (by decide) (by rw [g_want h rfl rfl rfl rfl hB13]; rfl) rfl (by decide) (fun a h => ?_)
              refine d_takeNP h (fun _ => HS) HN 17 rfl (by kernel_rfl) (by kernel_rfl) (by kernel_rfl) (by decide) (g_wantU h rfl rfl rfl rfl) rfl (by decide) (fun a h => ?_)
              refine d_takeNP h (fun _ => HS) HN 18 rfl (by kernel_rfl) (by kernel_rfl) (by kernel_rfl) (by decide) (g_wantU h rfl rfl rfl rfl) rfl (by decide) (fun a h => ?_)
              refine d_takeNP h (fun _ => HS) HN 19 rfl (by kernel_rfl) (by kernel_rfl) (by kernel_rfl) (by decide) (g_wantU h rfl rfl rfl rfl) rfl (by decide) (fun a h => ?_)
              refine d_takeNP h (fun _ => HS) HN 20 rfl (by kernel_rfl) (by kernel_rfl) (by kernel_rfl) (by decide) (by rw [g_want h rfl rfl rfl rfl hB13]; rfl) rfl (by decide) (fun a h => ?_)
              refine d_takeP h (fun _ => HS) HN 21 rfl (by kernel_rfl) (by kernel_rfl) (by kernel_rfl) (by decide) rfl rfl (by decide) (fun w' => x_pick (v := .bool z183) (u' := undef) h.k rfl rfl (fun hh => absurd (hB13.symm.trans hh) (by decide)) (fun _ => by rw [← Option.some.inj hz184]; rfl)) (fun a h => ?_)
              refine d_takeP h (fun _ => HS) HN 22 rfl (by kernel_rfl) (by kernel_rfl) (by kernel_rfl) (by decide) rfl rfl (by decide) (fun w' => x_assign h.k _ rfl rfl) (fun a h => ?_)
              refine d_done (by kernel_rfl) (HE _ _ ?_) _
              refine e_thenN ?_
              have h := h.pick [1] (by decide) rfl
              exact ⟨S166, (le158.trans le168), up167, h.has (by exact ⟨rfl, trivial⟩)⟩
          obtain ⟨S194, le195, up196, h⟩ := h
          refine e_thenN ?_
          refine wp_ret ?_
          rw [← Option.some.inj hf]
          exact r_ret1 h rfl (rv_tmp h rfl) ⟨_, [], _, rfl, ⟨rfl, rfl, trivial⟩, rfl, up196, h.m⟩
end Go.Proofs.Ytcjleeclpmgbjaa
