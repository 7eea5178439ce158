/- Kb2: Go functions as plain functions, and that they are so (written by xt.py). -/
import Derived.Test.YtohgmggdfmjgnaaKa
set_option linter.unusedVariables false
set_option linter.unusedSimpArgs false
namespace Go.Proofs.Ytohgmggdfmjgnaa
open Go.RowKit
def keytree_Make_1 (Fu : Nat) (a0 : Int) (a1 : Int) (a2 : List UInt8) : Option ((List UInt8)) :=
  (keytree_fresh Fu a2 a0 a1).bind fun x6 => some x6
set_option maxRecDepth 100000 in
set_option maxHeartbeats 2000000 in
theorem keytree_Make_1_ok (Fu : Nat) {S0 : Snap} (a0 : Int) (hra0 : r64 a0) (a1 : Int) (hra1 : r64 a1) (ga2 : Nat) (a2 : List UInt8) (hpa2 : ptS (tyL ty8) S0 ga2 a2) (r : (List UInt8)) (hf : keytree_Make_1 Fu a0 a1 a2 = some r) (w0 : World) (hm : Mem w0 (ownL ([] ++ [.sn S0])) ([] ++ [.sn S0]) w0) :
    Calls Try.prog 24 #[.int .i64 a0, .int .i64 a1, .pointer (some ⟨ga2, 0, none⟩)] w0 (Ret w0 S0 [] (fun v L1 S1 => ∃ (A15 : Option Addr), ∃ (c16 : Nat), v = .slice A15 r.length c16 ∧ L1 = [] ∧ slS ty8 S1 A15 c16 r ∧ True)) := by
  unfold keytree_Make_1 at hf
  refine c_enterM Try.func24 rfl 10 rfl (by simp) _ hm _ rfl (fun a h => ?_)
  refine c_rs ?_
  refine sAV h (fun a h => ?_)
  refine l_end ?_
  refine c_rs ?_
  obtain ⟨k1, hc2, ⟨A3, c4, rfl, hs5⟩⟩ := id hpa2
  refine sX h (x_ld h.k rfl Try.underlying22 rfl rfl (hc2 _ (h.m.snOK (i := 0) rfl) 0 _ rfl)) (fun a h => ?_)
  refine sMV h (fun a h => ?_)
  refine sMV h (fun a h => ?_)
  obtain ⟨x6, h7, hf⟩ := bsome hf
  have hX := keytree_fresh_ok Fu (S0 := S0) A3 c4 a2 hs5 a0 hra0 a1 hra1 _ h7 _ (h.sub (Ls := []))
  refine q_callY (Ls := []) hX h (Up.refl _ _ _) rfl rfl rfl (by decide) Try.func25 rfl rfl rfl (fun a w v L1 S9 hR le11 up10 h => ?_)
  obtain ⟨A12, c13, rfl, rfl, hs14, _⟩ := hR
  refine sAV h (fun a h => ?_)
  refine l_end ?_
  refine wp_ret ?_
  rw [← Option.some.inj hf]
  exact r_ret1 h rfl (rv_tmp h rfl) ⟨_, [], _, rfl, ⟨A12, c13, rfl, rfl, hs14, trivial⟩, rfl, up10, h.m⟩
def keytree_lay_1_kf4_24_0_1_self6_l0 (rec : Int → Int → (List UInt8) → Int → (List UInt8) → (List (List UInt8)) → Option ((List (List UInt8)))) (Fu : Nat) (a2 : List UInt8) (a3 : Int) (a4b0 : List UInt8) (x9 : (List Int)) : Nat → Int → (List (List UInt8)) → Option ((List (List UInt8)))
  | 0, _, _ => none
  | k + 1, x23, x25 => if x23 < (x9.length : Int) then ((ix x9.length x23).bind fun m40 => (x9[m40]?).bind fun x46 => (path_Node Fu a3 x46).bind fun x56 => (keytree_Make_1 Fu x56.1 x56.2.1 a4b0).bind fun x61 => (wrap_Wrap Fu a2 x61).bind fun x70 => (ix x25.length x46).bind fun m79 => (rec x56.1 x56.2.1 x61 a3 a4b0 (x25.set m79 x70.1)).bind fun x92 => keytree_lay_1_kf4_24_0_1_self6_l0 rec Fu a2 a3 a4b0 x9 k (w64 (x23 + 1)) x92) else (some x25)
def keytree_lay_1_kf4_24_0_1_self6_k (Fu : Nat) : Nat → Int → Int → (List UInt8) → Int → (List UInt8) → (List (List UInt8)) → Option ((List (List UInt8)))
  | 0, _, _, _, _, _, _ => none
  | kf + 1, a0, a1, a2, a3, a4b0, a5 => (path_Children Fu a3 a0 a1).bind fun x9 => (keytree_lay_1_kf4_24_0_1_self6_l0 (keytree_lay_1_kf4_24_0_1_self6_k Fu kf) Fu a2 a3 a4b0 x9 Fu 0 a5).bind fun x33 => some x33
def keytree_lay_1_kf4_24_0_1_self6 (Fu : Nat) (a0 : Int) (a1 : Int) (a2 : List UInt8) (a3 : Int) (a4b0 : List UInt8) (a5 : List (List UInt8)) : Option ((List (List UInt8))) :=
  keytree_lay_1_kf4_24_0_1_self6_k Fu Fu a0 a1 a2 a3 a4b0 a5
set_option maxRecDepth 100000 in
set_option maxHeartbeats 2000000 in
theorem keytree_lay_1_kf4_24_0_1_self6_kok (Fu kf : Nat) : ∀ {S0 : Snap} (a0 : Int) (hra0 : r64 a0) (a1 : Int) (hra1 : r64 a1) (Aa2 : Option Addr) (ca2 : Nat) (a2 : List UInt8) (hsa2 : slS ty8 S0 Aa2 ca2 a2) (ga3 : Nat) (a3 : Int) (hpa3 : ptS tyI S0 ga3 a3) (ga4b0 : Nat) (a4b0 : List UInt8) (hpa4b0 : ptS (tyL ty8) S0 ga4b0 a4b0) (ga4 : Nat) (hka4 : fzB S0 ga4 [.func (.func 24) [].toArray [.pointer (some ⟨ga4b0, 0, none⟩)].toArray]) (a5 : List (List UInt8)) (g1 : Nat) (A2 : Option Addr) (c3 : Nat) (cs4 : List Value) (hq5 : reps (tyL ty8) S0 cs4 a5) (ga6 : Nat) (hka6 : fzB S0 ga6 [.func (.func 44) [].toArray [.pointer (some ⟨ga3, 0, none⟩), .pointer (some ⟨ga4, 0, none⟩), .pointer (some ⟨g1, 0, none⟩), .pointer (some ⟨ga6, 0, none⟩)].toArray]) (r : (List (List UInt8))) (hf : keytree_lay_1_kf4_24_0_1_self6_k Fu kf a0 a1 a2 a3 a4b0 a5 = some r) (w0 : World) (hm : Mem w0 (ownL ([.box g1 24 ([.slice A2 a5.length c3]), .row (.slice A2 a5.length c3) 22 1 a5.length cs4] ++ [.sn S0])) ([.box g1 24 ([.slice A2 a5.length c3]), .row (.slice A2 a5.length c3) 22 1 a5.length cs4] ++ [.sn S0]) w0),
    Calls Try.prog 44 #[.int .i64 a0, .int .i64 a1, .slice Aa2 a2.length ca2, .pointer (some ⟨ga3, 0, none⟩), .pointer (some ⟨ga4, 0, none⟩), .pointer (some ⟨g1, 0, none⟩), .pointer (some ⟨ga6, 0, none⟩)] w0 (Ret w0 S0 [.box g1 24 ([.slice A2 a5.length c3]), .row (.slice A2 a5.length c3) 22 1 a5.length cs4] (fun v L1 S1 => ∃ (A103 : Option Addr), ∃ (c104 : Nat), ∃ (cs105 : List Value), v = .tuple #[] ∧ L1 = [.box g1 24 ([.slice A103 r.length c104]), .row (.slice A103 r.length c104) 22 1 r.length cs105] ∧ reps (tyL ty8) S1 cs105 r ∧ True)) := by
  induction kf with
  | zero => intro S0 a0 hra0 a1 hra1 Aa2 ca2 a2 hsa2 ga3 a3 hpa3 ga4b0 a4b0 hpa4b0 ga4 hka4 a5 g1 A2 c3 cs4 hq5 ga6 hka6 r hf w0 hm; rw [keytree_lay_1_kf4_24_0_1_self6_k] at hf; cases hf
  | succ kf ih =>
    intro S0 a0 hra0 a1 hra1 Aa2 ca2 a2 hsa2 ga3 a3 hpa3 ga4b0 a4b0 hpa4b0 ga4 hka4 a5 g1 A2 c3 cs4 hq5 ga6 hka6 r hf w0 hm
    rw [keytree_lay_1_kf4_24_0_1_self6_k] at hf
    obtain ⟨B0, hB0⟩ : ∃ B0, B0 = (ownL ([.box g1 24 ([.slice A2 a5.length c3]), .row (.slice A2 a5.length c3) 22 1 a5.length cs4] ++ [.sn S0])) := ⟨_, rfl⟩
    rw [← hB0] at hm
    refine c_enterM Try.func44 rfl 51 rfl (by simp) _ hm _ rfl (fun a h => ?_)
    refine c_rs ?_
    obtain ⟨k6, hc7, ⟨rfl, hr8⟩⟩ := id hpa3
    refine sX h (x_ld h.k rfl Try.underlying3 rfl rfl (hc7 _ (h.m.snOK (i := 2) rfl) 0 _ rfl)) (fun a h => ?_)
    refine sMV h (fun a h => ?_)
    refine sMV h (fun a h => ?_)
    obtain ⟨x9, h10, hf⟩ := bsome hf
    have hX := path_Children_ok Fu (S0 := snapAll _) a3 hr8 a0 hra0 a1 hra1 _ h10 _ h.startAll
    refine q_callX hX h rfl rfl rfl (by decide) Try.func38 rfl rfl rfl (fun a w v L1 S1 hR hb1 h => ?_)
    obtain ⟨A12, c13, cs14, rfl, rfl, hq15, _⟩ := hR
    have hq16 := hq15.fl (S' := S0) fl_I
    have hr17 : r64 (x9.length : Int) := len_r (h.m.rowLen (i := 0) rfl)
    refine sX h (x_len h.k rfl Try.underlying51 rfl) (fun a h => ?_)
    refine sMV h (fun a h => ?_)
    refine l_end ?_
    obtain ⟨o18, hl19, hf⟩ := bsome hf
    refine c_fin (fun a w => ∃ (S30 : Snap), ∃ (x33 : List (List UInt8)), ∃ (A34 : Option Addr), ∃ (c35 : Nat), ∃ (cs36 : List Value), x33 = o18 ∧ Snap.le S0 S30 ∧ Up B0 w0 S0 S30 ∧ reps (tyL ty8) S30 cs36 x33 ∧ St 51 w0 B0 [] [.box g1 24 ([.slice A34 x33.length c35]), .row (.slice A34 x33.length c35) 22 1 x33.length cs36, .sn S30] a w) ?_ ?_
    · refine wp_block ?_
      have h := h.pick [1, 2, 0, 3] (by decide) rfl
      refine c_loop (fun m39 a w => ∃ (S20 : Snap), ∃ (x23 : Int), ∃ (x25 : List (List UInt8)), ∃ (A26 : Option Addr), ∃ (c27 : Nat), ∃ (cs28 : List Value), keytree_lay_1_kf4_24_0_1_self6_l0 (keytree_lay_1_kf4_24_0_1_self6_k Fu kf) Fu a2 a3 a4b0 x9 m39 x23 x25 = some o18 ∧ Snap.le S0 S20 ∧ Up B0 w0 S0 S20 ∧ r64 x23 ∧ reps (tyL ty8) S20 cs28 x25 ∧ St 51 w0 B0 [(2, .slice Aa2 a2.length ca2), (3, .pointer (some ⟨ga3, 0, none⟩)), (4, .pointer (some ⟨ga4, 0, none⟩)), (5, .pointer (some ⟨g1, 0, none⟩)), (6, .pointer (some ⟨ga6, 0, none⟩)), (19, .slice A12 x9.length c13), (20, .int .i64 (x9.length : Int)), (21, .int .i64 x23)] [.box g1 24 ([.slice A26 x25.length c27]), .row (.slice A26 x25.length c27) 22 1 x25.length cs28, .row (.slice A12 x9.length c13) 3 1 x9.length cs14, .sn S20] a w) Fu ⟨S0, 0, a5, A2, c3, cs4, hl19, (Snap.le.refl _), (Up.refl _ _ _), (show r64 0 from ⟨by decide, by decide⟩), hq5, h.has (by exact ⟨rfl, rfl, rfl, rfl, rfl, rfl, rfl, rfl, trivial⟩)⟩ (fun m39 a w hI => ?_)
      obtain ⟨S20, x23, x25, A26, c27, cs28, hl38, le21, up22, hr24, hq29, h⟩ := hI
      obtain _ | m39 := m39
      · rw [keytree_lay_1_kf4_24_0_1_self6_l0] at hl38; cases hl38
      rw [keytree_lay_1_kf4_24_0_1_self6_l0] at hl38
      refine c_rs ?_
      refine sX h (x_bin h.k rfl rfl rfl ib_lss) (fun a h => ?_)
      refine l_end ?_
      refine c_cs h rfl (fun hb => ?_) (fun hb => ?_)
      · rw [if_pos (of_decide_eq_true hb)] at hl38
        refine wp_skip ?_
        refine e_thenN ?_
        refine wp_seq ?_
        refine wp_block ?_
        refine c_rs ?_
        obtain ⟨m40, h41, hl38⟩ := bsome hl38
        obtain ⟨hi42, hm43⟩ := ix_some h41
        obtain ⟨g45, hA44⟩ := h.m.rowHead (i := 2) rfl (Nat.lt_of_le_of_lt (Nat.zero_le _) hm43)
        refine sX h (x_iaddrE h.k rfl Try.underlying51 sz_int hA44 rfl rfl hi42 hm43) (fun a h => ?_)
        obtain ⟨x46, h47, hl38⟩ := bsome hl38
        obtain ⟨u48, hv49, hu50⟩ := ((hq16.mono le21)).cell rfl h47
        obtain ⟨e52, hr51⟩ := hu50
        cases e52
        refine sX h (x_ld h.k rfl Try.underlying3 rfl rfl (h.m.cellRowE (i := 2) rfl hA44 _ (by rw [Nat.mul_one]; exact hv49))) (fun a h => ?_)
        refine sAV h (fun a h => ?_)
        refine l_end ?_
        refine c_rs ?_
        obtain ⟨k53, hc54, ⟨rfl, hr55⟩⟩ := id (hpa3.mono le21)
        refine sX h (x_ld h.k rfl Try.underlying3 rfl rfl (hc54 _ (h.m.snOK (i := 3) rfl) 0 _ rfl)) (fun a h => ?_)
        refine sMV h (fun a h => ?_)
        obtain ⟨x56, h57, hl38⟩ := bsome hl38
        have hX := path_Node_ok Fu (S0 := snapAll _) a3 hr55 x46 hr51 _ h57 _ h.startAll
        refine q_callX hX h rfl rfl rfl (by decide) Try.func39 rfl rfl rfl (fun a w v L1 S1 hR hb1 h => ?_)
        obtain ⟨rfl, rfl, hr59, hr60, _⟩ := hR
        refine sMV h (fun a h => ?_)
        refine sX h (x_ext h.k rfl rfl rfl) (fun a h => ?_)
        refine sX h (x_ext h.k rfl rfl rfl) (fun a h => ?_)
        refine sX h (x_ext h.k rfl rfl rfl) (fun a h => ?_)
        refine sAV h (fun a h => ?_)
        refine sAV h (fun a h => ?_)
        refine sAV h (fun a h => ?_)
        refine l_end ?_
        refine c_rs ?_
        refine sX h (x_ld h.k rfl Try.underlying48 rfl rfl ((hka4.mono le21) _ (h.m.snOK (i := 3) rfl) 0 _ rfl)) (fun a h => ?_)
        refine sMV h (fun a h => ?_)
        refine sMV h (fun a h => ?_)
        obtain ⟨x61, h62, hl38⟩ := bsome hl38
        have h := h.pick [3, 0, 1, 2] (by decide) rfl
        have hX := keytree_Make_1_ok Fu (S0 := S20) x56.1 hr59 x56.2.1 hr60 ga4b0 a4b0 (hpa4b0.mono le21) _ h62 _ (h.sub (Ls := []))
        refine q_callYV (Ls := []) hX h up22 rfl rfl rfl (by decide) rfl Try.func24 rfl rfl [.int .i64 x56.1, .int .i64 x56.2.1] rfl rfl (fun a w v L1 S64 hR le66 up65 h => ?_)
        obtain ⟨A67, c68, rfl, rfl, hs69, _⟩ := hR
        refine sAV h (fun a h => ?_)
        refine l_end ?_
        refine wp_seq ?_
        -- region 5 draws
        obtain ⟨x70, h71, hl38⟩ := bsome hl38
        obtain ⟨m79, h80, hl38⟩ := bsome hl38
        refine d_start h (Mem _ _ _) 9 10 rfl (by kernel_rfl) (fun _ _ _ _ _ h => h) (fun _ h => h) (fun Q a w HE HN h HS => ?_)
        refine d_take h HS HN 0 rfl (by kernel_rfl) (by kernel_rfl) (by kernel_rfl) (by kernel_rfl) (by kernel_rfl) rfl rfl (by decide) (fun w' hw => x_ld h.k rfl Try.underlying24 rfl rfl ((hw.cell (i := 1) rfl 0).trans rfl)) (fun a h => ?_)
        refine d_takeP h (fun _ => HS) HN 1 rfl (by kernel_rfl) (by kernel_rfl) (by kernel_rfl) (by decide) rfl rfl (by decide) (fun w' => x_move h.k _ rfl rfl) (fun a h => ?_)
        refine d_takeP h (fun _ => HS) HN 2 rfl (by kernel_rfl) (by kernel_rfl) (by kernel_rfl) (by decide) rfl rfl (by decide) (fun w' => x_move h.k _ rfl rfl) (fun a h => ?_)
        refine d_takeP h (fun _ => HS) HN 3 rfl (by kernel_rfl) (by kernel_rfl) (by kernel_rfl) (by decide) rfl rfl (by decide) (fun w' => x_move h.k _ rfl rfl) (fun a h => ?_)
        refine d_alone 4 rfl (by kernel_rfl) (fun K hK => ?_)
        have hX := wrap_Wrap_ok Fu (S0 := snapAll _) Aa2 ca2 a2 ((hsa2.mono (le21.trans le66)).mono (h.m.leAll (i := 0) rfl)) A67 c68 x61 (hs69.mono (h.m.leAll (i := 0) rfl)) _ h71 _ h.startAll
        refine q_callX hX h rfl rfl rfl (by decide) Try.func41 rfl rfl rfl (fun a w v L1 S1 hR hb1 h => ?_)
        obtain ⟨A73, c74, cs75, rfl, rfl, hq76, hr77, _⟩ := hR
        have hq78 := hq76.fl (S' := S64) fl_8
        refine hK _ _ (fun _ _ => HS.ext hb1) ?_
        replace HS := HS.ext hb1
        clear hK
        refine d_takeP h (fun _ => HS) HN 5 rfl (by kernel_rfl) (by kernel_rfl) (by kernel_rfl) (by decide) rfl rfl (by decide) (fun w' => x_move h.k _ rfl rfl) (fun a h => ?_)
        refine d_takeP h (fun _ => HS) HN 6 rfl (by kernel_rfl) (by kernel_rfl) (by kernel_rfl) (by decide) rfl rfl (by decide) (fun w' => x_ext h.k rfl rfl rfl) (fun a h => ?_)
        refine d_takeP h (fun _ => HS) HN 7 rfl (by kernel_rfl) (by kernel_rfl) (by kernel_rfl) (by decide) rfl rfl (by decide) (fun w' => x_ext h.k rfl rfl rfl) (fun a h => ?_)
        obtain ⟨hi81, hm82⟩ := ix_some h80
        obtain ⟨g84, hA83⟩ := h.m.rowHead (i := 3) rfl (Nat.lt_of_le_of_lt (Nat.zero_le _) hm82)
        refine d_takeP h (fun _ => HS) HN 8 rfl (by kernel_rfl) (by kernel_rfl) (by kernel_rfl) (by decide) rfl rfl (by decide) (fun w' => x_iaddrE h.k rfl Try.underlying24 sz_Suint8 hA83 rfl rfl hi81 hm82) (fun a h => ?_)
        refine d_alone 9 rfl (by kernel_rfl) (fun K hK => ?_)
        obtain ⟨S85, le86, up87, hs88, h⟩ := q_freeze (T := ty8) h up65 hq78
        refine q_setRow (T := tyL ty8) (q := x70.1) h rfl rfl rfl sz_Suint8 hA83 rfl rfl 2 rfl rfl (hq29.mono (le66.trans le86)) ⟨_, _, rfl, hs88⟩ (by first | exact hm82 | simpa using hm82) (fun a w cs89 hq90 h => ?_)
        have hl91 : x25.length = (x25.set m79 x70.1).length := by simp only [List.length_set]
        rw [hl91] at h
        refine hK _ _ (fun hne _ => absurd rfl hne) ?_
        clear hK
        refine d_done (by kernel_rfl) (HE _ _ ?_) _
        refine e_thenN ?_
        refine c_r ?_
        refine sX h (x_ld h.k rfl Try.underlying66 rfl rfl ((hka6.mono ((le21.trans le66).trans le86)) _ (h.m.snOK (i := 0) rfl) 0 _ rfl)) (fun a h => ?_)
        refine sMV h (fun a h => ?_)
        refine sMV h (fun a h => ?_)
        refine sMV h (fun a h => ?_)
        obtain ⟨x92, h93, hl38⟩ := bsome hl38
        have h := h.pick [1, 2, 0, 3] (by decide) rfl
        have hX := ih (S0 := S85) x56.1 hr59 x56.2.1 hr60 A67 c68 x61 (hs69.mono le86) ga3 a3 (hpa3.mono ((le21.trans le66).trans le86)) ga4b0 a4b0 (hpa4b0.mono ((le21.trans le66).trans le86)) ga4 (hka4.mono ((le21.trans le66).trans le86)) (x25.set m79 x70.1) g1 A26 c27 cs89 hq90 ga6 (hka6.mono ((le21.trans le66).trans le86)) _ h93 _ (h.sub (Ls := [.box g1 24 ([.slice A26 (x25.set m79 x70.1).length c27]), .row (.slice A26 (x25.set m79 x70.1).length c27) 22 1 (x25.set m79 x70.1).length cs89]))
        refine q_callYV (Ls := [.box g1 24 ([.slice A26 (x25.set m79 x70.1).length c27]), .row (.slice A26 (x25.set m79 x70.1).length c27) 22 1 (x25.set m79 x70.1).length cs89]) hX h up87 rfl rfl rfl (by decide) rfl Try.func44 rfl rfl [.int .i64 x56.1, .int .i64 x56.2.1, .slice A67 x61.length c68] rfl rfl (fun a w v L1 S95 hR le97 up96 h => ?_)
        obtain ⟨A98, c99, cs100, rfl, rfl, hq101, _⟩ := hR
        refine l_nil ?_
        refine e_blkN ?_
        refine e_thenN ?_
        refine c_r ?_
        refine sX h (x_bin h.k rfl rfl rfl (ib_add rfl)) (fun a h => ?_)
        refine sMV h (fun a h => ?_)
        refine l_nil ?_
        have h := h.pick [0, 1, 3, 2] (by decide) rfl
        exact e_thenN ⟨m39, Nat.lt_succ_self _, S95, w64 (x23 + 1), x92, A98, c99, cs100, hl38, (((le21.trans le66).trans le86).trans le97), up96, (w64_r _), hq101, h.has (by exact ⟨rfl, rfl, rfl, rfl, rfl, rfl, rfl, rfl, trivial⟩)⟩
      · rw [if_neg (of_decide_eq_false hb)] at hl38
        refine wp_exit ?_
        refine e_thenX ?_
        refine e_thenX ?_
        refine e_blkX ?_
        refine e_thenN ?_
        have h := h.pick [0, 1, 3] (by decide) rfl
        exact ⟨S20, x25, A26, c27, cs28, (Option.some.inj hl38), le21, up22, hq29, h.has trivial⟩
    · rintro a w ⟨S30, x33, A34, c35, cs36, rfl, le31, up32, hq37, h⟩
      rw [← Option.some.inj hf]
      subst hB0
      exact r_ret0 h rfl  ⟨_, [.box g1 24 ([.slice A34 x33.length c35]), .row (.slice A34 x33.length c35) 22 1 x33.length cs36], _, rfl, ⟨A34, c35, cs36, rfl, rfl, hq37, trivial⟩, rfl, up32, h.m⟩
theorem keytree_lay_1_kf4_24_0_1_self6_ok (Fu : Nat) : ∀ {S0 : Snap} (a0 : Int) (hra0 : r64 a0) (a1 : Int) (hra1 : r64 a1) (Aa2 : Option Addr) (ca2 : Nat) (a2 : List UInt8) (hsa2 : slS ty8 S0 Aa2 ca2 a2) (ga3 : Nat) (a3 : Int) (hpa3 : ptS tyI S0 ga3 a3) (ga4b0 : Nat) (a4b0 : List UInt8) (hpa4b0 : ptS (tyL ty8) S0 ga4b0 a4b0) (ga4 : Nat) (hka4 : fzB S0 ga4 [.func (.func 24) [].toArray [.pointer (some ⟨ga4b0, 0, none⟩)].toArray]) (a5 : List (List UInt8)) (g1 : Nat) (A2 : Option Addr) (c3 : Nat) (cs4 : List Value) (hq5 : reps (tyL ty8) S0 cs4 a5) (ga6 : Nat) (hka6 : fzB S0 ga6 [.func (.func 44) [].toArray [.pointer (some ⟨ga3, 0, none⟩), .pointer (some ⟨ga4, 0, none⟩), .pointer (some ⟨g1, 0, none⟩), .pointer (some ⟨ga6, 0, none⟩)].toArray]) (r : (List (List UInt8))) (hf : keytree_lay_1_kf4_24_0_1_self6 Fu a0 a1 a2 a3 a4b0 a5 = some r) (w0 : World) (hm : Mem w0 (ownL ([.box g1 24 ([.slice A2 a5.length c3]), .row (.slice A2 a5.length c3) 22 1 a5.length cs4] ++ [.sn S0])) ([.box g1 24 ([.slice A2 a5.length c3]), .row (.slice A2 a5.length c3) 22 1 a5.length cs4] ++ [.sn S0]) w0),
    Calls Try.prog 44 #[.int .i64 a0, .int .i64 a1, .slice Aa2 a2.length ca2, .pointer (some ⟨ga3, 0, none⟩), .pointer (some ⟨ga4, 0, none⟩), .pointer (some ⟨g1, 0, none⟩), .pointer (some ⟨ga6, 0, none⟩)] w0 (Ret w0 S0 [.box g1 24 ([.slice A2 a5.length c3]), .row (.slice A2 a5.length c3) 22 1 a5.length cs4] (fun v L1 S1 => ∃ (A103 : Option Addr), ∃ (c104 : Nat), ∃ (cs105 : List Value), v = .tuple #[] ∧ L1 = [.box g1 24 ([.slice A103 r.length c104]), .row (.slice A103 r.length c104) 22 1 r.length cs105] ∧ reps (tyL ty8) S1 cs105 r ∧ True)) := keytree_lay_1_kf4_24_0_1_self6_kok Fu Fu
def keytree_lay_clo2_24_0_1 (Fu : Nat) (a0 : Int) (a1 : List UInt8) (a2b0 : List UInt8) : Option ((List (List UInt8))) :=
  (path_Total Fu a0).bind fun x3 => (mkN 24 x3).bind fun n7 => (keytree_lay_1_kf4_24_0_1_self6 Fu 0 0 a1 a0 a2b0 (List.replicate n7 ([] : List UInt8))).bind fun x30 => some x30
set_option maxRecDepth 100000 in
set_option maxHeartbeats 2000000 in
theorem keytree_lay_clo2_24_0_1_ok (Fu : Nat) {S0 : Snap} (a0 : Int) (hra0 : r64 a0) (Aa1 : Option Addr) (ca1 : Nat) (a1 : List UInt8) (hsa1 : slS ty8 S0 Aa1 ca1 a1) (ga2b0 : Nat) (a2b0 : List UInt8) (hpa2b0 : ptS (tyL ty8) S0 ga2b0 a2b0) (r : (List (List UInt8))) (hf : keytree_lay_clo2_24_0_1 Fu a0 a1 a2b0 = some r) (w0 : World) (hm : Mem w0 (ownL ([] ++ [.sn S0])) ([] ++ [.sn S0]) w0) :
    Calls Try.prog 23 #[.int .i64 a0, .slice Aa1 a1.length ca1, .func (.func 24) [].toArray [.pointer (some ⟨ga2b0, 0, none⟩)].toArray] w0 (Ret w0 S0 [] (fun v L1 S1 => ∃ (A40 : Option Addr), ∃ (c41 : Nat), ∃ (cs42 : List Value), v = .slice A40 r.length c41 ∧ L1 = [.row (.slice A40 r.length c41) 22 1 r.length cs42] ∧ reps (tyL ty8) S1 cs42 r ∧ True)) := by
  unfold keytree_lay_clo2_24_0_1 at hf
  refine c_enterM Try.func23 rfl 17 rfl (by simp) _ hm _ rfl (fun a h => ?_)
  refine c_rs ?_
  refine s_box h rfl rfl rfl (by decide) rfl (cs := [.int .i64 a0]) (by rfl) (fun a w g1 h => ?_)
  refine s_box h rfl rfl rfl (by decide) rfl (cs := [.func (.func 24) [].toArray [.pointer (some ⟨ga2b0, 0, none⟩)].toArray]) (by rfl) (fun a w g2 h => ?_)
  refine sAV h (fun a h => ?_)
  refine l_end ?_
  refine c_rs ?_
  refine sX h (x_ld h.k rfl Try.underlying3 rfl rfl ((h.m.cell (i := 1) rfl 0).trans rfl)) (fun a h => ?_)
  obtain ⟨x3, h4, hf⟩ := bsome hf
  have hX := path_Total_ok Fu (S0 := snapAll _) a0 hra0 _ h4 _ h.startAll
  refine q_callX hX h rfl rfl rfl (by decide) Try.func26 rfl rfl rfl (fun a w v L1 S1 hR hb1 h => ?_)
  obtain ⟨rfl, rfl, hr6, _⟩ := hR
  obtain ⟨n7, h8, hf⟩ := bsome hf
  refine q_make (T := tyL ty8) (S := S0) h rfl rfl rfl (by decide) Try.underlying24 zb_Suint8 rfl rfl (q := []) ⟨_, _, rfl, (slS.nil ty8 _)⟩ rfl rfl h8 (fun a w A9 cs10 hq11 h => ?_)
  refine s_alloc h rfl rfl rfl (by decide) zi_SSuint8 rfl (fun a w g12 h => ?_)
  have h := h.mem (h.m.nilrow 22 1)
  refine s_stb h rfl rfl rfl sz_SSuint8 rfl rfl rfl 1 rfl (by first | decide | simp) (fun a w h => ?_)
  refine l_end ?_
  refine c_rs ?_
  refine s_alloc h rfl rfl rfl (by decide) zi_func_int_int_Suint8_ rfl (fun a w g14 h => ?_)
  refine l_end ?_
  refine c_rs ?_
  have h := h.pick [5, 6, 0, 1, 2, 3, 4] (by decide) rfl
  obtain ⟨S15, le16, up17, hc18, h⟩ := q_freezeBox h (Up.refl _ _ _)
  have hp19 : ptS tyI S15 g1 a0 := ⟨[.int .i64 a0], hc18, ⟨rfl, hra0⟩⟩
  have h := h.pick [5, 0, 1, 2, 3, 4] (by decide) rfl
  obtain ⟨S20, le21, up22, hc23, h⟩ := q_freezeBox h up17
  have hk24 : fzB S20 g2 [.func (.func 24) [].toArray [.pointer (some ⟨ga2b0, 0, none⟩)].toArray] := hc23
  refine s_makeFunc h rfl rfl rfl (by decide) (us := []) (vs := [.pointer (some ⟨g1, 0, none⟩), .pointer (some ⟨g2, 0, none⟩), .pointer (some ⟨g12, 0, none⟩), .pointer (some ⟨g14, 0, none⟩)]) rfl rfl (fun a h => ?_)
  refine s_stb h rfl rfl rfl sz_func_int_int_Suint8_ rfl rfl rfl 1 rfl (by first | decide | simp) (fun a w h => ?_)
  refine l_end ?_
  refine c_rs ?_
  refine sX h (x_ld h.k rfl Try.underlying66 rfl rfl ((h.m.cell (i := 1) rfl 0).trans rfl)) (fun a h => ?_)
  refine sMV h (fun a h => ?_)
  have h := h.pick [1, 0, 2, 3, 4] (by decide) rfl
  obtain ⟨S25, le26, up27, hc28, h⟩ := q_freezeBox h up22
  have hk29 : fzB S25 g14 [.func (.func 44) [].toArray [.pointer (some ⟨g1, 0, none⟩), .pointer (some ⟨g2, 0, none⟩), .pointer (some ⟨g12, 0, none⟩), .pointer (some ⟨g14, 0, none⟩)].toArray] := hc28
  obtain ⟨x30, h31, hf⟩ := bsome hf
  have h := h.pick [2, 3, 0, 1] (by decide) rfl
  have hX := keytree_lay_1_kf4_24_0_1_self6_ok Fu (S0 := S25) 0 (show r64 0 from ⟨by decide, by decide⟩) 0 (show r64 0 from ⟨by decide, by decide⟩) Aa1 ca1 a1 (hsa1.mono ((le16.trans le21).trans le26)) g1 a0 (hp19.mono (le21.trans le26)) ga2b0 a2b0 (hpa2b0.mono ((le16.trans le21).trans le26)) g2 (hk24.mono le26) (List.replicate n7 ([] : List UInt8)) g12 A9 n7 cs10 (hq11.mono ((le16.trans le21).trans le26)) g14 hk29 _ h31 _ (h.sub (Ls := [.box g12 24 ([.slice A9 (List.replicate n7 ([] : List UInt8)).length n7]), .row (.slice A9 (List.replicate n7 ([] : List UInt8)).length n7) 22 1 (List.replicate n7 ([] : List UInt8)).length cs10]))
  refine q_callYV (Ls := [.box g12 24 ([.slice A9 (List.replicate n7 ([] : List UInt8)).length n7]), .row (.slice A9 (List.replicate n7 ([] : List UInt8)).length n7) 22 1 (List.replicate n7 ([] : List UInt8)).length cs10]) hX h up27 rfl rfl rfl (by decide) rfl Try.func44 rfl rfl [.int .i64 0, .int .i64 0, .slice Aa1 a1.length ca1] rfl rfl (fun a w v L1 S33 hR le35 up34 h => ?_)
  obtain ⟨A36, c37, cs38, rfl, rfl, hq39, _⟩ := hR
  refine l_end ?_
  refine c_rs ?_
  refine sX h (x_ld h.k rfl Try.underlying24 rfl rfl ((h.m.cell (i := 0) rfl 0).trans rfl)) (fun a h => ?_)
  refine sAV h (fun a h => ?_)
  refine l_end ?_
  refine wp_ret ?_
  rw [← Option.some.inj hf]
  exact r_ret1 h rfl (rv_tmp h rfl) ⟨_, [.row (.slice A36 x30.length c37) 22 1 x30.length cs38], _, rfl, ⟨A36, c37, cs38, rfl, rfl, hq39, trivial⟩, rfl, up34, (h.m.pick [1, 2] _ (by decide) rfl)⟩
def keytree_Make (Fu : Nat) (a0 : List UInt8) (a1 : List UInt8) (a2 : Int) : Option ((List (List UInt8)) × Int) :=
  (path_Depth Fu a2).bind fun x2 => if x2 = 0 then (some ([], 2)) else ((keytree_keys Fu a1 ([a0])).bind fun x9 => if (!x9) = true then (some ([], 20)) else ((keytree_lay_clo2_24_0_1 Fu a2 a0 a1).bind fun x18 => some (x18, 0)))
set_option maxRecDepth 100000 in
set_option maxHeartbeats 2000000 in
theorem keytree_Make_ok (Fu : Nat) {S0 : Snap} (Aa0 : Option Addr) (ca0 : Nat) (a0 : List UInt8) (hsa0 : slS ty8 S0 Aa0 ca0 a0) (Aa1 : Option Addr) (ca1 : Nat) (a1 : List UInt8) (hsa1 : slS ty8 S0 Aa1 ca1 a1) (a2 : Int) (hra2 : r64 a2) (r : (List (List UInt8)) × Int) (hf : keytree_Make Fu a0 a1 a2 = some r) (w0 : World) (hm : Mem w0 (ownL ([] ++ [.sn S0])) ([] ++ [.sn S0]) w0) :
    Calls Try.prog 8 #[.slice Aa0 a0.length ca0, .slice Aa1 a1.length ca1, .int .i64 a2] w0 (Ret w0 S0 [] (fun v L1 S1 => ∃ (A28 : Option Addr), ∃ (c29 : Nat), ∃ (cs30 : List Value), v = .tuple #[.slice A28 r.1.length c29, .int .i64 r.2] ∧ L1 = [.row (.slice A28 r.1.length c29) 22 1 r.1.length cs30] ∧ reps (tyL ty8) S1 cs30 r.1 ∧ r64 r.2 ∧ True)) := by
  unfold keytree_Make at hf
  refine c_enterM Try.func8 rfl 20 rfl (by simp) _ hm _ rfl (fun a h => ?_)
  refine c_rs ?_
  refine s_box h rfl rfl rfl (by decide) rfl (cs := [.slice Aa1 a1.length ca1]) (by rfl) (fun a w g1 h => ?_)
  refine sAV h (fun a h => ?_)
  refine sAV h (fun a h => ?_)
  refine l_end ?_
  refine wp_seq ?_
  refine c_rs ?_
  refine sMV h (fun a h => ?_)
  obtain ⟨x2, h3, hf⟩ := bsome hf
  have hX := path_Depth_ok Fu (S0 := snapAll _) a2 hra2 _ h3 _ h.startAll
  refine q_callX hX h rfl rfl rfl (by decide) Try.func21 rfl rfl rfl (fun a w v L1 S1 hR hb1 h => ?_)
  obtain ⟨rfl, rfl, hr5, _⟩ := hR
  refine sX h (x_bin h.k rfl rfl rfl ib_eql) (fun a h => ?_)
  refine l_end ?_
  refine c_cond h rfl (fun hb => ?_) (fun hb => ?_)
  · rw [if_pos (of_decide_eq_true hb)] at hf
    refine c_rs ?_
    refine sAV h (fun a h => ?_)
    refine sAV h (fun a h => ?_)
    refine l_end ?_
    refine wp_ret ?_
    refine e_thenR ?_
    obtain rfl := Option.some.inj hf
    have h := h.mem (h.m.nilrow 22 1)
    exact r_ret2 h rfl (rv_tmp h rfl) (rv_tmp h rfl) ⟨_, [.row (.slice none ([]).length 0) 22 1 ([]).length []], _, rfl, ⟨none, 0, [], rfl, rfl, (show reps (tyL ty8) S0 [] [] from rfl), (show r64 2 from ⟨by decide, by decide⟩), trivial⟩, rfl, (Up.refl _ _ _), (h.m.pick [0, 2] _ (by decide) rfl)⟩
  · rw [if_neg (of_decide_eq_false hb)] at hf
    refine wp_skip ?_
    refine e_thenN ?_
    refine wp_seq ?_
    refine c_rs ?_
    refine sX h (x_ld h.k rfl Try.underlying22 rfl rfl ((h.m.cell (i := 0) rfl 0).trans rfl)) (fun a h => ?_)
    refine sMV h (fun a h => ?_)
    refine q_bslice (T := tyL ty8) (S := S0) h rfl rfl rfl (by decide) Try.underlying24 zi_Suint8 (by decide) (by decide) (by decide) (by decide) [.slice Aa0 a0.length ca0] rfl rfl (C := [[.slice Aa0 a0.length ca0]]) rfl (xs := [a0]) ⟨[.slice Aa0 a0.length ca0], _, rfl, ⟨_, _, rfl, hsa0⟩, rfl⟩ (by intro c hc; simp only [List.mem_cons, List.not_mem_nil, or_false] at hc; subst hc; rfl) (fun a w A7 h => ?_)
    have hb8 : reps (tyL ty8) S0 ([[.slice Aa0 a0.length ca0]] : List (List Value)).flatten [a0] := ⟨[.slice Aa0 a0.length ca0], _, rfl, ⟨_, _, rfl, hsa0⟩, rfl⟩
    obtain ⟨x9, h10, hf⟩ := bsome hf
    have hX := keytree_keys_ok Fu (S0 := snapAll _) Aa1 ca1 a1 (hsa1.mono (h.m.leAll (i := 2) rfl)) A7 1 ([a0]) (h.m.rowAll (i := 0) rfl (j := 2) rfl hb8) _ h10 _ h.startAll
    refine q_callX hX h rfl rfl rfl (by decide) Try.func22 rfl rfl rfl (fun a w v L1 S1 hR hb1 h => ?_)
    obtain ⟨rfl, rfl, _⟩ := hR
    refine sX h (x_not h.k rfl rfl) (fun a h => ?_)
    refine l_end ?_
    refine c_cond h rfl (fun hb => ?_) (fun hb => ?_)
    · rw [if_pos hb] at hf
      refine c_rs ?_
      refine sAV h (fun a h => ?_)
      refine sAV h (fun a h => ?_)
      refine l_end ?_
      refine wp_ret ?_
      refine e_thenR ?_
      obtain rfl := Option.some.inj hf
      have h := h.mem (h.m.nilrow 22 1)
      exact r_ret2 h rfl (rv_tmp h rfl) (rv_tmp h rfl) ⟨_, [.row (.slice none ([]).length 0) 22 1 ([]).length []], _, rfl, ⟨none, 0, [], rfl, rfl, (show reps (tyL ty8) S0 [] [] from rfl), (show r64 20 from ⟨by decide, by decide⟩), trivial⟩, rfl, (Up.refl _ _ _), (h.m.pick [0, 3] _ (by decide) rfl)⟩
    · rw [if_neg (by rw [hb]; decide)] at hf
      refine wp_skip ?_
      refine e_thenN ?_
      refine c_rs ?_
      refine sMV h (fun a h => ?_)
      refine sMV h (fun a h => ?_)
      have h := h.pick [1, 2, 0] (by decide) rfl
      obtain ⟨S13, le14, up15, hc16, h⟩ := q_freezeBox h (Up.refl _ _ _)
      have hp17 : ptS (tyL ty8) S13 g1 a1 := ⟨[.slice Aa1 a1.length ca1], hc16, ⟨_, _, rfl, (hsa1.mono le14)⟩⟩
      refine s_makeFunc h rfl rfl rfl (by decide) (us := []) (vs := [.pointer (some ⟨g1, 0, none⟩)]) rfl rfl (fun a h => ?_)
      obtain ⟨x18, h19, hf⟩ := bsome hf
      have hX := keytree_lay_clo2_24_0_1_ok Fu (S0 := S13) a2 hra2 Aa0 ca0 a0 (hsa0.mono le14) g1 a1 hp17 _ h19 _ (h.sub (Ls := []))
      refine q_callY (Ls := []) hX h up15 rfl rfl rfl (by decide) Try.func23 rfl rfl rfl (fun a w v L1 S21 hR le23 up22 h => ?_)
      obtain ⟨A24, c25, cs26, rfl, rfl, hq27, _⟩ := hR
      refine sAV h (fun a h => ?_)
      refine sAV h (fun a h => ?_)
      refine l_end ?_
      refine wp_ret ?_
      obtain rfl := Option.some.inj hf
      exact r_ret2 h rfl (rv_tmp h rfl) (rv_tmp h rfl) ⟨_, [.row (.slice A24 x18.length c25) 22 1 x18.length cs26], _, rfl, ⟨A24, c25, cs26, rfl, rfl, hq27, (show r64 0 from ⟨by decide, by decide⟩), trivial⟩, rfl, up22, (h.m.pick [0, 1] _ (by decide) rfl)⟩
def keytree_Puncture_1_self11_l0 (rec : Int → Int → (List UInt8) → (List UInt8) → Int → (List (List UInt8)) → Int → Int → Int → (List (List UInt8)) → (List UInt8) → Option (Int × (List (List UInt8)))) (Fu : Nat) (a2 : List UInt8) (a3 : List UInt8) (a4 : Int) (a5 : List (List UInt8)) (a7 : Int) (a8 : Int) (a10 : List UInt8) (x11 : (List Int)) : Nat → Int → Int → (List (List UInt8)) → Option (Sum (Int × (List (List UInt8))) (Int × (List (List UInt8))))
  | 0, _, _, _ => none
  | k + 1, x25, x27, x29 => if x25 < (x11.length : Int) then (((ix x11.length x25).bind fun m58 => (x11[m58]?).bind fun x64 => (path_Node Fu a4 x64).bind fun x74 => (idx a5 x64).bind fun x84 => (wrap_Unwrap Fu a2 x84).bind fun x100 => (if ((decide (x100.2 ≠ 0)) && (decide (x27 = 0))) = true then (some x100.2) else (some x27)).bind fun x112 => if x112 ≠ 0 then (some (.inl (x112, x29))) else ((keytree_hits Fu a4 x74.1 x74.2.1 a7 a8).bind fun x125 => if (!x125) = true then ((wrap_Wrap Fu a3 x100.1).bind fun x128 => (ix x29.length x64).bind fun m137 => some (.inr (x112, (x29.set m137 x128.1)))) else ((keytree_fresh Fu a10 x74.1 x74.2.1).bind fun x155 => (wrap_Wrap Fu a3 x155).bind fun x164 => (ix x29.length x64).bind fun m173 => (rec x74.1 x74.2.1 x100.1 x155 a4 a5 x112 a7 a8 (x29.set m173 x164.1) a10).bind fun x186 => some (.inr (x186.1, x186.2)))) : Option (Sum (Int × (List (List UInt8))) (Int × (List (List UInt8))))).bind fun o => match o with | .inl r198 => some (.inl r198) | .inr (x51, x53) => keytree_Puncture_1_self11_l0 rec Fu a2 a3 a4 a5 a7 a8 a10 x11 k (w64 (x25 + 1)) x51 x53) else (some (.inr (x27, x29)))
def keytree_Puncture_1_self11_k (Fu : Nat) : Nat → Int → Int → (List UInt8) → (List UInt8) → Int → (List (List UInt8)) → Int → Int → Int → (List (List UInt8)) → (List UInt8) → Option (Int × (List (List UInt8)))
  | 0, _, _, _, _, _, _, _, _, _, _, _ => none
  | kf + 1, a0, a1, a2, a3, a4, a5, a6, a7, a8, a9, a10 => (path_Children Fu a4 a0 a1).bind fun x11 => (keytree_Puncture_1_self11_l0 (keytree_Puncture_1_self11_k Fu kf) Fu a2 a3 a4 a5 a7 a8 a10 x11 Fu 0 a6 a9).bind fun o => match o with | .inl r199 => some r199 | .inr (x37, x39) => some (x37, x39)
def keytree_Puncture_1_self11 (Fu : Nat) (a0 : Int) (a1 : Int) (a2 : List UInt8) (a3 : List UInt8) (a4 : Int) (a5 : List (List UInt8)) (a6 : Int) (a7 : Int) (a8 : Int) (a9 : List (List UInt8)) (a10 : List UInt8) : Option (Int × (List (List UInt8))) :=
  keytree_Puncture_1_self11_k Fu Fu a0 a1 a2 a3 a4 a5 a6 a7 a8 a9 a10
set_option maxRecDepth 100000 in
set_option maxHeartbeats 2000000 in
theorem keytree_Puncture_1_self11_kok (Fu kf : Nat) : ∀ {S0 : Snap} (a0 : Int) (hra0 : r64 a0) (a1 : Int) (hra1 : r64 a1) (Aa2 : Option Addr) (ca2 : Nat) (a2 : List UInt8) (hsa2 : slS ty8 S0 Aa2 ca2 a2) (Aa3 : Option Addr) (ca3 : Nat) (a3 : List UInt8) (hsa3 : slS ty8 S0 Aa3 ca3 a3) (ga4 : Nat) (a4 : Int) (hpa4 : ptS tyI S0 ga4 a4) (ga5 : Nat) (a5 : List (List UInt8)) (hpa5 : ptS (tyL (tyL ty8)) S0 ga5 a5) (a6 : Int) (g1 : Nat) (hr2 : r64 a6) (ga7 : Nat) (a7 : Int) (hpa7 : ptS tyI S0 ga7 a7) (ga8 : Nat) (a8 : Int) (hpa8 : ptS tyI S0 ga8 a8) (a9 : List (List UInt8)) (g3 : Nat) (A4 : Option Addr) (c5 : Nat) (cs6 : List Value) (hq7 : reps (tyL ty8) S0 cs6 a9) (ga10 : Nat) (a10 : List UInt8) (hpa10 : ptS (tyL ty8) S0 ga10 a10) (ga11 : Nat) (hka11 : fzB S0 ga11 [.func (.func 37) [].toArray [.pointer (some ⟨ga4, 0, none⟩), .pointer (some ⟨ga5, 0, none⟩), .pointer (some ⟨g1, 0, none⟩), .pointer (some ⟨ga7, 0, none⟩), .pointer (some ⟨ga8, 0, none⟩), .pointer (some ⟨g3, 0, none⟩), .pointer (some ⟨ga10, 0, none⟩), .pointer (some ⟨ga11, 0, none⟩)].toArray]) (r : Int × (List (List UInt8))) (hf : keytree_Puncture_1_self11_k Fu kf a0 a1 a2 a3 a4 a5 a6 a7 a8 a9 a10 = some r) (w0 : World) (hm : Mem w0 (ownL ([.box g1 25 ([.int .i64 a6]), .box g3 24 ([.slice A4 a9.length c5]), .row (.slice A4 a9.length c5) 22 1 a9.length cs6] ++ [.sn S0])) ([.box g1 25 ([.int .i64 a6]), .box g3 24 ([.slice A4 a9.length c5]), .row (.slice A4 a9.length c5) 22 1 a9.length cs6] ++ [.sn S0]) w0),
    Calls Try.prog 37 #[.int .i64 a0, .int .i64 a1, .slice Aa2 a2.length ca2, .slice Aa3 a3.length ca3, .pointer (some ⟨ga4, 0, none⟩), .pointer (some ⟨ga5, 0, none⟩), .pointer (some ⟨g1, 0, none⟩), .pointer (some ⟨ga7, 0, none⟩), .pointer (some ⟨ga8, 0, none⟩), .pointer (some ⟨g3, 0, none⟩), .pointer (some ⟨ga10, 0, none⟩), .pointer (some ⟨ga11, 0, none⟩)] w0 (Ret w0 S0 [.box g1 25 ([.int .i64 a6]), .box g3 24 ([.slice A4 a9.length c5]), .row (.slice A4 a9.length c5) 22 1 a9.length cs6] (fun v L1 S1 => ∃ (A201 : Option Addr), ∃ (c202 : Nat), ∃ (cs203 : List Value), v = .tuple #[] ∧ L1 = [.box g1 25 ([.int .i64 r.1]), .box g3 24 ([.slice A201 r.2.length c202]), .row (.slice A201 r.2.length c202) 22 1 r.2.length cs203] ∧ r64 r.1 ∧ reps (tyL ty8) S1 cs203 r.2 ∧ True)) := by
  induction kf with
  | zero => intro S0 a0 hra0 a1 hra1 Aa2 ca2 a2 hsa2 Aa3 ca3 a3 hsa3 ga4 a4 hpa4 ga5 a5 hpa5 a6 g1 hr2 ga7 a7 hpa7 ga8 a8 hpa8 a9 g3 A4 c5 cs6 hq7 ga10 a10 hpa10 ga11 hka11 r hf w0 hm; rw [keytree_Puncture_1_self11_k] at hf; cases hf
  | succ kf ih =>
    intro S0 a0 hra0 a1 hra1 Aa2 ca2 a2 hsa2 Aa3 ca3 a3 hsa3 ga4 a4 hpa4 ga5 a5 hpa5 a6 g1 hr2 ga7 a7 hpa7 ga8 a8 hpa8 a9 g3 A4 c5 cs6 hq7 ga10 a10 hpa10 ga11 hka11 r hf w0 hm
    rw [keytree_Puncture_1_self11_k] at hf
    obtain ⟨B0, hB0⟩ : ∃ B0, B0 = (ownL ([.box g1 25 ([.int .i64 a6]), .box g3 24 ([.slice A4 a9.length c5]), .row (.slice A4 a9.length c5) 22 1 a9.length cs6] ++ [.sn S0])) := ⟨_, rfl⟩
    rw [← hB0] at hm
    refine c_enterM Try.func37 rfl 94 rfl (by simp) _ hm _ rfl (fun a h => ?_)
    refine c_rs ?_
    obtain ⟨k8, hc9, ⟨rfl, hr10⟩⟩ := id hpa4
    refine sX h (x_ld h.k rfl Try.underlying3 rfl rfl (hc9 _ (h.m.snOK (i := 3) rfl) 0 _ rfl)) (fun a h => ?_)
    refine sMV h (fun a h => ?_)
    refine sMV h (fun a h => ?_)
    obtain ⟨x11, h12, hf⟩ := bsome hf
    have hX := path_Children_ok Fu (S0 := snapAll _) a4 hr10 a0 hra0 a1 hra1 _ h12 _ h.startAll
    refine q_callX hX h rfl rfl rfl (by decide) Try.func38 rfl rfl rfl (fun a w v L1 S1 hR hb1 h => ?_)
    obtain ⟨A14, c15, cs16, rfl, rfl, hq17, _⟩ := hR
    have hq18 := hq17.fl (S' := S0) fl_I
    have hr19 : r64 (x11.length : Int) := len_r (h.m.rowLen (i := 0) rfl)
    refine sX h (x_len h.k rfl Try.underlying51 rfl) (fun a h => ?_)
    refine sMV h (fun a h => ?_)
    refine l_end ?_
    obtain ⟨o20, hl21, hf⟩ := bsome hf
    refine c_fin (fun a w => ∃ (S34 : Snap), ∃ (x37 : Int), ∃ (x39 : List (List UInt8)), ∃ (A40 : Option Addr), ∃ (c41 : Nat), ∃ (cs42 : List Value), (.inr (x37, x39)) = o20 ∧ Snap.le S0 S34 ∧ Up B0 w0 S0 S34 ∧ r64 x37 ∧ reps (tyL ty8) S34 cs42 x39 ∧ St 94 w0 B0 [] [.box g1 25 ([.int .i64 x37]), .box g3 24 ([.slice A40 x39.length c41]), .row (.slice A40 x39.length c41) 22 1 x39.length cs42, .sn S34] a w) ?_ ?_
    · refine wp_block ?_
      have h := h.pick [1, 2, 3, 0, 4] (by decide) rfl
      refine c_loop (fun m45 a w => ∃ (S22 : Snap), ∃ (x25 : Int), ∃ (x27 : Int), ∃ (x29 : List (List UInt8)), ∃ (A30 : Option Addr), ∃ (c31 : Nat), ∃ (cs32 : List Value), keytree_Puncture_1_self11_l0 (keytree_Puncture_1_self11_k Fu kf) Fu a2 a3 a4 a5 a7 a8 a10 x11 m45 x25 x27 x29 = some o20 ∧ Snap.le S0 S22 ∧ Up B0 w0 S0 S22 ∧ r64 x25 ∧ r64 x27 ∧ reps (tyL ty8) S22 cs32 x29 ∧ St 94 w0 B0 [(2, .slice Aa2 a2.length ca2), (3, .slice Aa3 a3.length ca3), (4, .pointer (some ⟨ga4, 0, none⟩)), (5, .pointer (some ⟨ga5, 0, none⟩)), (6, .pointer (some ⟨g1, 0, none⟩)), (7, .pointer (some ⟨ga7, 0, none⟩)), (8, .pointer (some ⟨ga8, 0, none⟩)), (9, .pointer (some ⟨g3, 0, none⟩)), (10, .pointer (some ⟨ga10, 0, none⟩)), (11, .pointer (some ⟨ga11, 0, none⟩)), (27, .slice A14 x11.length c15), (28, .int .i64 (x11.length : Int)), (29, .int .i64 x25)] [.box g1 25 ([.int .i64 x27]), .box g3 24 ([.slice A30 x29.length c31]), .row (.slice A30 x29.length c31) 22 1 x29.length cs32, .row (.slice A14 x11.length c15) 3 1 x11.length cs16, .sn S22] a w) Fu ⟨S0, 0, a6, a9, A4, c5, cs6, hl21, (Snap.le.refl _), (Up.refl _ _ _), (show r64 0 from ⟨by decide, by decide⟩), hr2, hq7, h.has (by exact ⟨rfl, rfl, rfl, rfl, rfl, rfl, rfl, rfl, rfl, rfl, rfl, rfl, rfl, trivial⟩)⟩ (fun m45 a w hI => ?_)
      obtain ⟨S22, x25, x27, x29, A30, c31, cs32, hl44, le23, up24, hr26, hr28, hq33, h⟩ := hI
      obtain _ | m45 := m45
      · rw [keytree_Puncture_1_self11_l0] at hl44; cases hl44
      rw [keytree_Puncture_1_self11_l0] at hl44
      refine c_rs ?_
      refine sX h (x_bin h.k rfl rfl rfl ib_lss) (fun a h => ?_)
      refine l_end ?_
      refine c_cs h rfl (fun hb => ?_) (fun hb => ?_)
      · rw [if_pos (of_decide_eq_true hb)] at hl44
        refine wp_skip ?_
        refine e_thenN ?_
        obtain ⟨o46, hc47, hl44⟩ := bsome hl44
        refine c_cut (fun a w => ∃ (S48 : Snap), ∃ (x51 : Int), ∃ (x53 : List (List UInt8)), ∃ (A54 : Option Addr), ∃ (c55 : Nat), ∃ (cs56 : List Value), (.inr (x51, x53)) = o46 ∧ Snap.le S22 S48 ∧ Up B0 w0 S0 S48 ∧ r64 x51 ∧ reps (tyL ty8) S48 cs56 x53 ∧ St 94 w0 B0 [(2, .slice Aa2 a2.length ca2), (3, .slice Aa3 a3.length ca3), (4, .pointer (some ⟨ga4, 0, none⟩)), (5, .pointer (some ⟨ga5, 0, none⟩)), (6, .pointer (some ⟨g1, 0, none⟩)), (7, .pointer (some ⟨ga7, 0, none⟩)), (8, .pointer (some ⟨ga8, 0, none⟩)), (9, .pointer (some ⟨g3, 0, none⟩)), (10, .pointer (some ⟨ga10, 0, none⟩)), (11, .pointer (some ⟨ga11, 0, none⟩)), (27, .slice A14 x11.length c15), (28, .int .i64 (x11.length : Int)), (29, .int .i64 x25)] [.box g1 25 ([.int .i64 x51]), .box g3 24 ([.slice A54 x53.length c55]), .row (.slice A54 x53.length c55) 22 1 x53.length cs56, .row (.slice A14 x11.length c15) 3 1 x11.length cs16, .sn S48] a w) ?_ ?_
        · refine wp_block ?_
          refine c_rs ?_
          obtain ⟨m58, h59, hc47⟩ := bsome hc47
          obtain ⟨hi60, hm61⟩ := ix_some h59
          obtain ⟨g63, hA62⟩ := h.m.rowHead (i := 3) rfl (Nat.lt_of_le_of_lt (Nat.zero_le _) hm61)
          refine sX h (x_iaddrE h.k rfl Try.underlying51 sz_int hA62 rfl rfl hi60 hm61) (fun a h => ?_)
          obtain ⟨x64, h65, hc47⟩ := bsome hc47
          obtain ⟨u66, hv67, hu68⟩ := ((hq18.mono le23)).cell rfl h65
          obtain ⟨e70, hr69⟩ := hu68
          cases e70
          refine sX h (x_ld h.k rfl Try.underlying3 rfl rfl (h.m.cellRowE (i := 3) rfl hA62 _ (by rw [Nat.mul_one]; exact hv67))) (fun a h => ?_)
          refine sAV h (fun a h => ?_)
          refine l_end ?_
          refine c_rs ?_
          obtain ⟨k71, hc72, ⟨rfl, hr73⟩⟩ := id (hpa4.mono le23)
          refine sX h (x_ld h.k rfl Try.underlying3 rfl rfl (hc72 _ (h.m.snOK (i := 4) rfl) 0 _ rfl)) (fun a h => ?_)
          refine sMV h (fun a h => ?_)
          obtain ⟨x74, h75, hc47⟩ := bsome hc47
          have hX := path_Node_ok Fu (S0 := snapAll _) a4 hr73 x64 hr69 _ h75 _ h.startAll
          refine q_callX hX h rfl rfl rfl (by decide) Try.func39 rfl rfl rfl (fun a w v L1 S1 hR hb1 h => ?_)
          obtain ⟨rfl, rfl, hr77, hr78, _⟩ := hR
          refine sMV h (fun a h => ?_)
          refine sX h (x_ext h.k rfl rfl rfl) (fun a h => ?_)
          refine sX h (x_ext h.k rfl rfl rfl) (fun a h => ?_)
          refine sX h (x_ext h.k rfl rfl rfl) (fun a h => ?_)
          refine sAV h (fun a h => ?_)
          refine sAV h (fun a h => ?_)
          refine sAV h (fun a h => ?_)
          refine l_end ?_
          refine c_rs ?_
          refine sMV h (fun a h => ?_)
          obtain ⟨k79, hc80, ⟨A81, c82, rfl, hs83⟩⟩ := id (hpa5.mono le23)
          refine sX h (x_ld h.k rfl Try.underlying24 rfl rfl (hc80 _ (h.m.snOK (i := 4) rfl) 0 _ rfl)) (fun a h => ?_)
          refine sMV h (fun a h => ?_)
          obtain ⟨x84, h88, hc47⟩ := bsome hc47
          obtain ⟨m85, hi89, hm90, hx91⟩ := idx_some h88
          obtain ⟨b86, off87, k92, hA93, hu94, hc95⟩ := (hs83).at1 rfl hx91 (h.m.snOK (i := 4) rfl)
          obtain ⟨A96, c97, e99, hs98⟩ := hu94
          cases e99
          refine sX h (x_iaddrE h.k rfl Try.underlying24 sz_Suint8 hA93 rfl rfl hi89 hm90) (fun a h => ?_)
          refine sX h (x_ld h.k rfl Try.underlying22 rfl rfl (hc95 _ (h.m.snOK (i := 4) rfl))) (fun a h => ?_)
          obtain ⟨x100, h101, hc47⟩ := bsome hc47
          have h := h.pick [4, 0, 1, 2, 3] (by decide) rfl
          have hX := wrap_Unwrap_ok Fu (S0 := S22) Aa2 ca2 a2 (hsa2.mono le23) A96 c97 x84 hs98 _ h101 _ (h.sub (Ls := []))
          refine q_callY (Ls := []) hX h up24 rfl rfl rfl (by decide) Try.func32 rfl rfl rfl (fun a w v L1 S103 hR le105 up104 h => ?_)
          obtain ⟨A106, c107, rfl, rfl, hs108, hr109, _⟩ := hR
          refine sMV h (fun a h => ?_)
          refine sX h (x_ext h.k rfl rfl rfl) (fun a h => ?_)
          refine sX h (x_ext h.k rfl rfl rfl) (fun a h => ?_)
          refine sAV h (fun a h => ?_)
          refine sAV h (fun a h => ?_)
          refine l_end ?_
          obtain ⟨o110, hc111, hc47⟩ := bsome hc47
          refine c_cut (fun a w => ∃ (x112 : Int), x112 = o110 ∧ r64 x112 ∧ St 94 w0 B0 [(2, .slice Aa2 a2.length ca2), (3, .slice Aa3 a3.length ca3), (4, .pointer (some ⟨ga4, 0, none⟩)), (5, .pointer (some ⟨ga5, 0, none⟩)), (6, .pointer (some ⟨g1, 0, none⟩)), (7, .pointer (some ⟨ga7, 0, none⟩)), (8, .pointer (some ⟨ga8, 0, none⟩)), (9, .pointer (some ⟨g3, 0, none⟩)), (10, .pointer (some ⟨ga10, 0, none⟩)), (11, .pointer (some ⟨ga11, 0, none⟩)), (17, .int .i64 x64), (18, .int .i64 x74.1), (19, .int .i64 x74.2.1), (21, .slice A106 x100.1.length c107), (27, .slice A14 x11.length c15), (28, .int .i64 (x11.length : Int)), (29, .int .i64 x25)] [.box g1 25 ([.int .i64 x112]), .box g3 24 ([.slice A30 x29.length c31]), .row (.slice A30 x29.length c31) 22 1 x29.length cs32, .row (.slice A14 x11.length c15) 3 1 x11.length cs16, .sn S103] a w) ?_ ?_
          · refine c_rs ?_
            refine sMV h (fun a h => ?_)
            refine sX h (x_bin h.k rfl rfl rfl ib_neq) (fun a h => ?_)
            refine sMV h (fun a h => ?_)
            refine q_grp h 3 (t := 51) 54 ((decide (x100.2 ≠ 0)) && (decide (x27 = 0))) rfl (fun hB2 => ?_) (fun hB2 => ?_) (fun a w h => ?_)
            · refine g_yes h rfl rfl rfl rfl hB2 ?_
              refine sX h (x_ld h.k rfl Try.underlying25 rfl rfl ((h.m.cell (i := 1) rfl 0).trans rfl)) (fun a h => ?_)
              refine g_yes h rfl rfl rfl rfl hB2 ?_
              refine sX h (x_bin h.k rfl rfl rfl ib_eql) (fun a h => ?_)
              refine sX h (x_pick (u' := undef) h.k rfl rfl (fun _ => rfl) (fun hh => absurd (hB2.symm.trans hh) (by decide))) (fun a h => ?_)
              exact (h.mid 2 rfl).val (by first | rfl | (rw [hB2]; first | rfl | simp))
            · refine g_no h rfl rfl rfl rfl hB2 rfl (by decide) (fun a h => ?_)
              refine g_no h rfl rfl rfl rfl hB2 rfl (by decide) (fun a h => ?_)
              refine sX h (x_pick (u' := undef) h.k rfl rfl (fun hh => absurd (hB2.symm.trans hh) (by decide)) (fun _ => rfl)) (fun a h => ?_)
              exact (h.mid 2 rfl).val (by first | rfl | (rw [hB2]; first | rfl | simp))
            refine l_end ?_
            refine c_cond h rfl (fun hb => ?_) (fun hb => ?_)
            · rw [if_pos hb] at hc111
              refine c_r ?_
              refine sMV h (fun a h => ?_)
              refine s_stb h rfl rfl rfl sz_api_Errno rfl rfl rfl 1 rfl (by first | decide | simp) (fun a w h => ?_)
              refine l_nil ?_
              refine e_thenN ?_
              have h := h.pick [1, 2, 3, 4, 0] (by decide) rfl
              exact ⟨x100.2, (Option.some.inj hc111), hr109, h.has (by exact ⟨rfl, rfl, rfl, rfl, rfl, rfl, rfl, rfl, rfl, rfl, rfl, rfl, rfl, rfl, rfl, rfl, rfl, trivial⟩)⟩
            · rw [if_neg (by rw [hb]; decide)] at hc111
              refine wp_skip ?_
              refine e_thenN ?_
              have h := h.pick [1, 2, 3, 4, 0] (by decide) rfl
              exact ⟨x27, (Option.some.inj hc111), hr28, h.has (by exact ⟨rfl, rfl, rfl, rfl, rfl, rfl, rfl, rfl, rfl, rfl, rfl, rfl, rfl, rfl, rfl, rfl, rfl, trivial⟩)⟩
          · rintro a w ⟨x112, rfl, hr113, h⟩
            refine wp_seq ?_
            refine c_rs ?_
            refine sX h (x_ld h.k rfl Try.underlying25 rfl rfl ((h.m.cell (i := 0) rfl 0).trans rfl)) (fun a h => ?_)
            refine sX h (x_bin h.k rfl rfl rfl ib_neq) (fun a h => ?_)
            refine l_end ?_
            refine c_cond h rfl (fun hb => ?_) (fun hb => ?_)
            · rw [if_pos (of_decide_eq_true hb)] at hc47
              refine wp_ret ?_
              refine e_thenR ?_
              refine e_blkR ?_
              refine e_thenR ?_
              cases hc47
              try dsimp only at hl44
              refine e_thenR ?_
              refine e_blkR ?_
              refine e_thenR ?_
              cases hl44
              try dsimp only at hf
              obtain rfl := Option.some.inj hf
              subst hB0
              exact r_ret0 h rfl  ⟨_, [.box g1 25 ([.int .i64 x112]), .box g3 24 ([.slice A30 x29.length c31]), .row (.slice A30 x29.length c31) 22 1 x29.length cs32], _, rfl, ⟨A30, c31, cs32, rfl, rfl, hr113, (hq33.mono le105), trivial⟩, rfl, up104, (h.m.pick [0, 1, 2, 4] _ (by decide) rfl)⟩
            · rw [if_neg (of_decide_eq_false hb)] at hc47
              refine wp_skip ?_
              refine e_thenN ?_
              refine wp_seq ?_
              refine c_rs ?_
              obtain ⟨k116, hc117, ⟨rfl, hr118⟩⟩ := id (hpa4.mono (le23.trans le105))
              refine sX h (x_ld h.k rfl Try.underlying3 rfl rfl (hc117 _ (h.m.snOK (i := 4) rfl) 0 _ rfl)) (fun a h => ?_)
              refine sMV h (fun a h => ?_)
              refine sMV h (fun a h => ?_)
              obtain ⟨k119, hc120, ⟨rfl, hr121⟩⟩ := id (hpa7.mono (le23.trans le105))
              refine sX h (x_ld h.k rfl Try.underlying3 rfl rfl (hc120 _ (h.m.snOK (i := 4) rfl) 0 _ rfl)) (fun a h => ?_)
              obtain ⟨k122, hc123, ⟨rfl, hr124⟩⟩ := id (hpa8.mono (le23.trans le105))
              refine sX h (x_ld h.k rfl Try.underlying3 rfl rfl (hc123 _ (h.m.snOK (i := 4) rfl) 0 _ rfl)) (fun a h => ?_)
              obtain ⟨x125, h126, hc47⟩ := bsome hc47
              have hX := keytree_hits_ok Fu (S0 := snapAll _) a4 hr118 x74.1 hr77 x74.2.1 hr78 a7 hr121 a8 hr124 _ h126 _ h.startAll
              refine q_callX hX h rfl rfl rfl (by decide) Try.func40 rfl rfl rfl (fun a w v L1 S1 hR hb1 h => ?_)
              obtain ⟨rfl, rfl, _⟩ := hR
              refine sX h (x_not h.k rfl rfl) (fun a h => ?_)
              refine l_end ?_
              refine c_cond h rfl (fun hb => ?_) (fun hb => ?_)
              · rw [if_pos hb] at hc47
                refine wp_seq ?_
                -- region 9 draws
                obtain ⟨x128, h129, hc47⟩ := bsome hc47
                obtain ⟨m137, h138, hc47⟩ := bsome hc47
                refine d_start h (Mem _ _ _) 9 10 rfl (by kernel_rfl) (fun _ _ _ _ _ h => h) (fun _ h => h) (fun Q a w HE HN h HS => ?_)
                refine d_take h HS HN 0 rfl (by kernel_rfl) (by kernel_rfl) (by kernel_rfl) (by kernel_rfl) (by kernel_rfl) rfl rfl (by decide) (fun w' hw => x_ld h.k rfl Try.underlying24 rfl rfl ((hw.cell (i := 1) rfl 0).trans rfl)) (fun a h => ?_)
                refine d_takeP h (fun _ => HS) HN 1 rfl (by kernel_rfl) (by kernel_rfl) (by kernel_rfl) (by decide) rfl rfl (by decide) (fun w' => x_move h.k _ rfl rfl) (fun a h => ?_)
                refine d_takeP h (fun _ => HS) HN 2 rfl (by kernel_rfl) (by kernel_rfl) (by kernel_rfl) (by decide) rfl rfl (by decide) (fun w' => x_move h.k _ rfl rfl) (fun a h => ?_)
                refine d_takeP h (fun _ => HS) HN 3 rfl (by kernel_rfl) (by kernel_rfl) (by kernel_rfl) (by decide) rfl rfl (by decide) (fun w' => x_move h.k _ rfl rfl) (fun a h => ?_)
                refine d_alone 4 rfl (by kernel_rfl) (fun K hK => ?_)
                have hX := wrap_Wrap_ok Fu (S0 := snapAll _) Aa3 ca3 a3 ((hsa3.mono (le23.trans le105)).mono (h.m.leAll (i := 4) rfl)) A106 c107 x100.1 (hs108.mono (h.m.leAll (i := 4) rfl)) _ h129 _ h.startAll
                refine q_callX hX h rfl rfl rfl (by decide) Try.func41 rfl rfl rfl (fun a w v L1 S1 hR hb1 h => ?_)
                obtain ⟨A131, c132, cs133, rfl, rfl, hq134, hr135, _⟩ := hR
                have hq136 := hq134.fl (S' := S103) fl_8
                refine hK _ _ (fun _ _ => HS.ext hb1) ?_
                replace HS := HS.ext hb1
                clear hK
                refine d_takeP h (fun _ => HS) HN 5 rfl (by kernel_rfl) (by kernel_rfl) (by kernel_rfl) (by decide) rfl rfl (by decide) (fun w' => x_move h.k _ rfl rfl) (fun a h => ?_)
                refine d_takeP h (fun _ => HS) HN 6 rfl (by kernel_rfl) (by kernel_rfl) (by kernel_rfl) (by decide) rfl rfl (by decide) (fun w' => x_ext h.k rfl rfl rfl) (fun a h => ?_)
                refine d_takeP h (fun _ => HS) HN 7 rfl (by kernel_rfl) (by kernel_rfl) (by kernel_rfl) (by decide) rfl rfl (by decide) (fun w' => x_ext h.k rfl rfl rfl) (fun a h => ?_)
                obtain ⟨hi139, hm140⟩ := ix_some h138
                obtain ⟨g142, hA141⟩ := h.m.rowHead (i := 3) rfl (Nat.lt_of_le_of_lt (Nat.zero_le _) hm140)
                refine d_takeP h (fun _ => HS) HN 8 rfl (by kernel_rfl) (by kernel_rfl) (by kernel_rfl) (by decide) rfl rfl (by decide) (fun w' => x_iaddrE h.k rfl Try.underlying24 sz_Suint8 hA141 rfl rfl hi139 hm140) (fun a h => ?_)
                refine d_alone 9 rfl (by kernel_rfl) (fun K hK => ?_)
                have h := h.pick [0, 5, 1, 2, 3, 4] (by decide) rfl
                obtain ⟨S143, le144, up145, hs146, h⟩ := q_freeze (T := ty8) h up104 hq136
                refine q_setRow (T := tyL ty8) (q := x128.1) h rfl rfl rfl sz_Suint8 hA141 rfl rfl 3 rfl rfl (hq33.mono (le105.trans le144)) ⟨_, _, rfl, hs146⟩ (by first | exact hm140 | simpa using hm140) (fun a w cs147 hq148 h => ?_)
                have hl149 : x29.length = (x29.set m137 x128.1).length := by simp only [List.length_set]
                rw [hl149] at h
                refine hK _ _ (fun hne _ => absurd rfl hne) ?_
                clear hK
                refine d_done (by kernel_rfl) (HE _ _ ?_) _
                refine e_thenN ?_
                refine wp_exit ?_
                refine e_thenX ?_
                refine e_blkX ?_
                refine e_thenN ?_
                have h := h.pick [1, 2, 3, 4, 0] (by decide) rfl
                exact ⟨S143, x112, (x29.set m137 x128.1), A30, c31, cs147, (Option.some.inj hc47), (le105.trans le144), up145, hr113, hq148, h.has (by exact ⟨rfl, rfl, rfl, rfl, rfl, rfl, rfl, rfl, rfl, rfl, rfl, rfl, rfl, trivial⟩)⟩
              · rw [if_neg (by rw [hb]; decide)] at hc47
                refine wp_skip ?_
                refine e_thenN ?_
                refine c_rs ?_
                obtain ⟨k150, hc151, ⟨A152, c153, rfl, hs154⟩⟩ := id (hpa10.mono (le23.trans le105))
                refine sX h (x_ld h.k rfl Try.underlying22 rfl rfl (hc151 _ (h.m.snOK (i := 4) rfl) 0 _ rfl)) (fun a h => ?_)
                refine sMV h (fun a h => ?_)
                refine sMV h (fun a h => ?_)
                obtain ⟨x155, h156, hc47⟩ := bsome hc47
                have h := h.pick [4, 0, 1, 2, 3] (by decide) rfl
                have hX := keytree_fresh_ok Fu (S0 := S103) A152 c153 a10 hs154 x74.1 hr77 x74.2.1 hr78 _ h156 _ (h.sub (Ls := []))
                refine q_callY (Ls := []) hX h up104 rfl rfl rfl (by decide) Try.func25 rfl rfl rfl (fun a w v L1 S158 hR le160 up159 h => ?_)
                obtain ⟨A161, c162, rfl, rfl, hs163, _⟩ := hR
                refine sAV h (fun a h => ?_)
                refine l_end ?_
                refine wp_seq ?_
                -- region 11 draws
                obtain ⟨x164, h165, hc47⟩ := bsome hc47
                obtain ⟨m173, h174, hc47⟩ := bsome hc47
                refine d_start h (Mem _ _ _) 9 10 rfl (by kernel_rfl) (fun _ _ _ _ _ h => h) (fun _ h => h) (fun Q a w HE HN h HS => ?_)
                refine d_take h HS HN 0 rfl (by kernel_rfl) (by kernel_rfl) (by kernel_rfl) (by kernel_rfl) (by kernel_rfl) rfl rfl (by decide) (fun w' hw => x_ld h.k rfl Try.underlying24 rfl rfl ((hw.cell (i := 2) rfl 0).trans rfl)) (fun a h => ?_)
                refine d_takeP h (fun _ => HS) HN 1 rfl (by kernel_rfl) (by kernel_rfl) (by kernel_rfl) (by decide) rfl rfl (by decide) (fun w' => x_move h.k _ rfl rfl) (fun a h => ?_)
                refine d_takeP h (fun _ => HS) HN 2 rfl (by kernel_rfl) (by kernel_rfl) (by kernel_rfl) (by decide) rfl rfl (by decide) (fun w' => x_move h.k _ rfl rfl) (fun a h => ?_)
                refine d_takeP h (fun _ => HS) HN 3 rfl (by kernel_rfl) (by kernel_rfl) (by kernel_rfl) (by decide) rfl rfl (by decide) (fun w' => x_move h.k _ rfl rfl) (fun a h => ?_)
                refine d_alone 4 rfl (by kernel_rfl) (fun K hK => ?_)
                have hX := wrap_Wrap_ok Fu (S0 := snapAll _) Aa3 ca3 a3 ((hsa3.mono ((le23.trans le105).trans le160)).mono (h.m.leAll (i := 0) rfl)) A161 c162 x155 (hs163.mono (h.m.leAll (i := 0) rfl)) _ h165 _ h.startAll
                refine q_callX hX h rfl rfl rfl (by decide) Try.func41 rfl rfl rfl (fun a w v L1 S1 hR hb1 h => ?_)
                obtain ⟨A167, c168, cs169, rfl, rfl, hq170, hr171, _⟩ := hR
                have hq172 := hq170.fl (S' := S158) fl_8
                refine hK _ _ (fun _ _ => HS.ext hb1) ?_
                replace HS := HS.ext hb1
                clear hK
                refine d_takeP h (fun _ => HS) HN 5 rfl (by kernel_rfl) (by kernel_rfl) (by kernel_rfl) (by decide) rfl rfl (by decide) (fun w' => x_move h.k _ rfl rfl) (fun a h => ?_)
                refine d_takeP h (fun _ => HS) HN 6 rfl (by kernel_rfl) (by kernel_rfl) (by kernel_rfl) (by decide) rfl rfl (by decide) (fun w' => x_ext h.k rfl rfl rfl) (fun a h => ?_)
                refine d_takeP h (fun _ => HS) HN 7 rfl (by kernel_rfl) (by kernel_rfl) (by kernel_rfl) (by decide) rfl rfl (by decide) (fun w' => x_ext h.k rfl rfl rfl) (fun a h => ?_)
                obtain ⟨hi175, hm176⟩ := ix_some h174
                obtain ⟨g178, hA177⟩ := h.m.rowHead (i := 4) rfl (Nat.lt_of_le_of_lt (Nat.zero_le _) hm176)
                refine d_takeP h (fun _ => HS) HN 8 rfl (by kernel_rfl) (by kernel_rfl) (by kernel_rfl) (by decide) rfl rfl (by decide) (fun w' => x_iaddrE h.k rfl Try.underlying24 sz_Suint8 hA177 rfl rfl hi175 hm176) (fun a h => ?_)
                refine d_alone 9 rfl (by kernel_rfl) (fun K hK => ?_)
                obtain ⟨S179, le180, up181, hs182, h⟩ := q_freeze (T := ty8) h up159 hq172
                refine q_setRow (T := tyL ty8) (q := x164.1) h rfl rfl rfl sz_Suint8 hA177 rfl rfl 3 rfl rfl (hq33.mono ((le105.trans le160).trans le180)) ⟨_, _, rfl, hs182⟩ (by first | exact hm176 | simpa using hm176) (fun a w cs183 hq184 h => ?_)
                have hl185 : x29.length = (x29.set m173 x164.1).length := by simp only [List.length_set]
                rw [hl185] at h
                refine hK _ _ (fun hne _ => absurd rfl hne) ?_
                clear hK
                refine d_done (by kernel_rfl) (HE _ _ ?_) _
                refine e_thenN ?_
                refine c_r ?_
                refine sX h (x_ld h.k rfl Try.underlying61 rfl rfl ((hka11.mono (((le23.trans le105).trans le160).trans le180)) _ (h.m.snOK (i := 0) rfl) 0 _ rfl)) (fun a h => ?_)
                refine sMV h (fun a h => ?_)
                refine sMV h (fun a h => ?_)
                refine sMV h (fun a h => ?_)
                refine sMV h (fun a h => ?_)
                obtain ⟨x186, h187, hc47⟩ := bsome hc47
                have h := h.pick [1, 2, 3, 0, 4] (by decide) rfl
                have hX := ih (S0 := S179) x74.1 hr77 x74.2.1 hr78 A106 c107 x100.1 (hs108.mono (le160.trans le180)) A161 c162 x155 (hs163.mono le180) ga4 a4 (hpa4.mono (((le23.trans le105).trans le160).trans le180)) ga5 a5 (hpa5.mono (((le23.trans le105).trans le160).trans le180)) x112 g1 hr113 ga7 a7 (hpa7.mono (((le23.trans le105).trans le160).trans le180)) ga8 a8 (hpa8.mono (((le23.trans le105).trans le160).trans le180)) (x29.set m173 x164.1) g3 A30 c31 cs183 hq184 ga10 a10 (hpa10.mono (((le23.trans le105).trans le160).trans le180)) ga11 (hka11.mono (((le23.trans le105).trans le160).trans le180)) _ h187 _ (h.sub (Ls := [.box g1 25 ([.int .i64 x112]), .box g3 24 ([.slice A30 (x29.set m173 x164.1).length c31]), .row (.slice A30 (x29.set m173 x164.1).length c31) 22 1 (x29.set m173 x164.1).length cs183]))
                refine q_callYV (Ls := [.box g1 25 ([.int .i64 x112]), .box g3 24 ([.slice A30 (x29.set m173 x164.1).length c31]), .row (.slice A30 (x29.set m173 x164.1).length c31) 22 1 (x29.set m173 x164.1).length cs183]) hX h up181 rfl rfl rfl (by decide) rfl Try.func37 rfl rfl [.int .i64 x74.1, .int .i64 x74.2.1, .slice A106 x100.1.length c107, .slice A161 x155.length c162] rfl rfl (fun a w v L1 S189 hR le191 up190 h => ?_)
                obtain ⟨A193, c194, cs195, rfl, rfl, hr192, hq196, _⟩ := hR
                refine l_nil ?_
                refine e_blkN ?_
                refine e_thenN ?_
                have h := h.pick [0, 1, 2, 4, 3] (by decide) rfl
                exact ⟨S189, x186.1, x186.2, A193, c194, cs195, (Option.some.inj hc47), (((le105.trans le160).trans le180).trans le191), up190, hr192, hq196, h.has (by exact ⟨rfl, rfl, rfl, rfl, rfl, rfl, rfl, rfl, rfl, rfl, rfl, rfl, rfl, trivial⟩)⟩
        · rintro a w ⟨S48, x51, x53, A54, c55, cs56, rfl, le49, up50, hr52, hq57, h⟩
          try dsimp only at hl44
          refine c_r ?_
          refine sX h (x_bin h.k rfl rfl rfl (ib_add rfl)) (fun a h => ?_)
          refine sMV h (fun a h => ?_)
          refine l_nil ?_
          exact e_thenN ⟨m45, Nat.lt_succ_self _, S48, w64 (x25 + 1), x51, x53, A54, c55, cs56, hl44, (le23.trans le49), up50, (w64_r _), hr52, hq57, h.has (by exact ⟨rfl, rfl, rfl, rfl, rfl, rfl, rfl, rfl, rfl, rfl, rfl, rfl, rfl, trivial⟩)⟩
      · rw [if_neg (of_decide_eq_false hb)] at hl44
        refine wp_exit ?_
        refine e_thenX ?_
        refine e_thenX ?_
        refine e_blkX ?_
        refine e_thenN ?_
        have h := h.pick [0, 1, 2, 4] (by decide) rfl
        exact ⟨S22, x27, x29, A30, c31, cs32, (Option.some.inj hl44), le23, up24, hr28, hq33, h.has trivial⟩
    · rintro a w ⟨S34, x37, x39, A40, c41, cs42, rfl, le35, up36, hr38, hq43, h⟩
      try dsimp only at hf
      obtain rfl := Option.some.inj hf
      subst hB0
      exact r_ret0 h rfl  ⟨_, [.box g1 25 ([.int .i64 x37]), .box g3 24 ([.slice A40 x39.length c41]), .row (.slice A40 x39.length c41) 22 1 x39.length cs42], _, rfl, ⟨A40, c41, cs42, rfl, rfl, hr38, hq43, trivial⟩, rfl, up36, h.m⟩
theorem keytree_Puncture_1_self11_ok (Fu : Nat) : ∀ {S0 : Snap} (a0 : Int) (hra0 : r64 a0) (a1 : Int) (hra1 : r64 a1) (Aa2 : Option Addr) (ca2 : Nat) (a2 : List UInt8) (hsa2 : slS ty8 S0 Aa2 ca2 a2) (Aa3 : Option Addr) (ca3 : Nat) (a3 : List UInt8) (hsa3 : slS ty8 S0 Aa3 ca3 a3) (ga4 : Nat) (a4 : Int) (hpa4 : ptS tyI S0 ga4 a4) (ga5 : Nat) (a5 : List (List UInt8)) (hpa5 : ptS (tyL (tyL ty8)) S0 ga5 a5) (a6 : Int) (g1 : Nat) (hr2 : r64 a6) (ga7 : Nat) (a7 : Int) (hpa7 : ptS tyI S0 ga7 a7) (ga8 : Nat) (a8 : Int) (hpa8 : ptS tyI S0 ga8 a8) (a9 : List (List UInt8)) (g3 : Nat) (A4 : Option Addr) (c5 : Nat) (cs6 : List Value) (hq7 : reps (tyL ty8) S0 cs6 a9) (ga10 : Nat) (a10 : List UInt8) (hpa10 : ptS (tyL ty8) S0 ga10 a10) (ga11 : Nat) (hka11 : fzB S0 ga11 [.func (.func 37) [].toArray [.pointer (some ⟨ga4, 0, none⟩), .pointer (some ⟨ga5, 0, none⟩), .pointer (some ⟨g1, 0, none⟩), .pointer (some ⟨ga7, 0, none⟩), .pointer (some ⟨ga8, 0, none⟩), .pointer (some ⟨g3, 0, none⟩), .pointer (some ⟨ga10, 0, none⟩), .pointer (some ⟨ga11, 0, none⟩)].toArray]) (r : Int × (List (List UInt8))) (hf : keytree_Puncture_1_self11 Fu a0 a1 a2 a3 a4 a5 a6 a7 a8 a9 a10 = some r) (w0 : World) (hm : Mem w0 (ownL ([.box g1 25 ([.int .i64 a6]), .box g3 24 ([.slice A4 a9.length c5]), .row (.slice A4 a9.length c5) 22 1 a9.length cs6] ++ [.sn S0])) ([.box g1 25 ([.int .i64 a6]), .box g3 24 ([.slice A4 a9.length c5]), .row (.slice A4 a9.length c5) 22 1 a9.length cs6] ++ [.sn S0]) w0),
    Calls Try.prog 37 #[.int .i64 a0, .int .i64 a1, .slice Aa2 a2.length ca2, .slice Aa3 a3.length ca3, .pointer (some ⟨ga4, 0, none⟩), .pointer (some ⟨ga5, 0, none⟩), .pointer (some ⟨g1, 0, none⟩), .pointer (some ⟨ga7, 0, none⟩), .pointer (some ⟨ga8, 0, none⟩), .pointer (some ⟨g3, 0, none⟩), .pointer (some ⟨ga10, 0, none⟩), .pointer (some ⟨ga11, 0, none⟩)] w0 (Ret w0 S0 [.box g1 25 ([.int .i64 a6]), .box g3 24 ([.slice A4 a9.length c5]), .row (.slice A4 a9.length c5) 22 1 a9.length cs6] (fun v L1 S1 => ∃ (A201 : Option Addr), ∃ (c202 : Nat), ∃ (cs203 : List Value), v = .tuple #[] ∧ L1 = [.box g1 25 ([.int .i64 r.1]), .box g3 24 ([.slice A201 r.2.length c202]), .row (.slice A201 r.2.length c202) 22 1 r.2.length cs203] ∧ r64 r.1 ∧ reps (tyL ty8) S1 cs203 r.2 ∧ True)) := keytree_Puncture_1_self11_kok Fu Fu
def keytree_Puncture (Fu : Nat) (a0 : List UInt8) (a1 : Int) (a2 : List (List UInt8)) (a3 : Int) (a4 : Int) (a5 : List UInt8) (a6 : List UInt8) : Option ((List (List UInt8)) × Int) :=
  (keytree_Right Fu a1 a2).bind fun x6 => if ((((!x6) || (decide (a3 < 0))) || (decide (a4 ≤ a3))) || (decide (a1 < a4))) = true then (some ([], 2)) else ((keytree_keys Fu a6 ([a0, a5])).bind fun x18 => if (!x18) = true then (some ([], 20)) else ((slices_Clone_____byte___byte Fu a2).bind fun x22 => (keytree_Puncture_1_self11 Fu 0 0 a0 a5 a1 a2 0 a3 a4 x22 a6).bind fun x66 => if x66.1 ≠ 0 then (some ([], x66.1)) else (some (x66.2, 0))))
set_option maxRecDepth 100000 in
set_option maxHeartbeats 2000000 in
theorem keytree_Puncture_ok (Fu : Nat) {S0 : Snap} (Aa0 : Option Addr) (ca0 : Nat) (a0 : List UInt8) (hsa0 : slS ty8 S0 Aa0 ca0 a0) (a1 : Int) (hra1 : r64 a1) (Aa2 : Option Addr) (ca2 : Nat) (a2 : List (List UInt8)) (hsa2 : slS (tyL ty8) S0 Aa2 ca2 a2) (a3 : Int) (hra3 : r64 a3) (a4 : Int) (hra4 : r64 a4) (Aa5 : Option Addr) (ca5 : Nat) (a5 : List UInt8) (hsa5 : slS ty8 S0 Aa5 ca5 a5) (Aa6 : Option Addr) (ca6 : Nat) (a6 : List UInt8) (hsa6 : slS ty8 S0 Aa6 ca6 a6) (r : (List (List UInt8)) × Int) (hf : keytree_Puncture Fu a0 a1 a2 a3 a4 a5 a6 = some r) (w0 : World) (hm : Mem w0 (ownL ([] ++ [.sn S0])) ([] ++ [.sn S0]) w0) :
    Calls Try.prog 20 #[.slice Aa0 a0.length ca0, .int .i64 a1, .slice Aa2 a2.length ca2, .int .i64 a3, .int .i64 a4, .slice Aa5 a5.length ca5, .slice Aa6 a6.length ca6] w0 (Ret w0 S0 [] (fun v L1 S1 => ∃ (A78 : Option Addr), ∃ (c79 : Nat), ∃ (cs80 : List Value), v = .tuple #[.slice A78 r.1.length c79, .int .i64 r.2] ∧ L1 = [.row (.slice A78 r.1.length c79) 22 1 r.1.length cs80] ∧ reps (tyL ty8) S1 cs80 r.1 ∧ r64 r.2 ∧ True)) := by
  unfold keytree_Puncture at hf
  refine c_enterM Try.func20 rfl 54 rfl (by simp) _ hm _ rfl (fun a h => ?_)
  refine c_rs ?_
  refine s_box h rfl rfl rfl (by decide) rfl (cs := [.int .i64 a1]) (by rfl) (fun a w g1 h => ?_)
  refine s_box h rfl rfl rfl (by decide) rfl (cs := [.slice Aa2 a2.length ca2]) (by rfl) (fun a w g2 h => ?_)
  refine s_box h rfl rfl rfl (by decide) rfl (cs := [.int .i64 a3]) (by rfl) (fun a w g3 h => ?_)
  refine s_box h rfl rfl rfl (by decide) rfl (cs := [.int .i64 a4]) (by rfl) (fun a w g4 h => ?_)
  refine s_box h rfl rfl rfl (by decide) rfl (cs := [.slice Aa6 a6.length ca6]) (by rfl) (fun a w g5 h => ?_)
  refine sAV h (fun a h => ?_)
  refine sAV h (fun a h => ?_)
  refine l_end ?_
  refine wp_seq ?_
  refine c_rs ?_
  refine sX h (x_ld h.k rfl Try.underlying3 rfl rfl ((h.m.cell (i := 4) rfl 0).trans rfl)) (fun a h => ?_)
  refine sX h (x_ld h.k rfl Try.underlying24 rfl rfl ((h.m.cell (i := 3) rfl 0).trans rfl)) (fun a h => ?_)
  obtain ⟨x6, h7, hf⟩ := bsome hf
  have hX := keytree_Right_ok Fu (S0 := snapAll _) a1 hra1 Aa2 ca2 a2 (hsa2.mono (h.m.leAll (i := 5) rfl)) _ h7 _ h.startAll
  refine q_callX hX h rfl rfl rfl (by decide) Try.func10 rfl rfl rfl (fun a w v L1 S1 hR hb1 h => ?_)
  obtain ⟨rfl, rfl, _⟩ := hR
  refine sX h (x_not h.k rfl rfl) (fun a h => ?_)
  refine sMV h (fun a h => ?_)
  refine q_grp h 3 (t := 23) 26 ((!x6) || (decide (a3 < 0))) rfl (fun hB4 => ?_) (fun hB4 => ?_) (fun a w h => ?_)
  · refine g_no h rfl rfl rfl rfl hB4 rfl (by decide) (fun a h => ?_)
    refine g_no h rfl rfl rfl rfl hB4 rfl (by decide) (fun a h => ?_)
    refine sX h (x_pick (u' := undef) h.k rfl rfl (fun _ => rfl) (fun hh => absurd (hB4.symm.trans hh) (by decide))) (fun a h => ?_)
    exact (h.mid 2 rfl).val (by first | rfl | (rw [hB4]; first | rfl | simp))
  · refine g_yes h rfl rfl rfl rfl hB4 ?_
    refine sX h (x_ld h.k rfl Try.underlying3 rfl rfl ((h.m.cell (i := 2) rfl 0).trans rfl)) (fun a h => ?_)
    refine g_yes h rfl rfl rfl rfl hB4 ?_
    refine sX h (x_bin h.k rfl rfl rfl ib_lss) (fun a h => ?_)
    refine sX h (x_pick (u' := undef) h.k rfl rfl (fun hh => absurd (hB4.symm.trans hh) (by decide)) (fun _ => rfl)) (fun a h => ?_)
    exact (h.mid 2 rfl).val (by first | rfl | (rw [hB4]; first | rfl | simp))
  refine sMV h (fun a h => ?_)
  refine q_grp h 4 (t := 27) 31 (((!x6) || (decide (a3 < 0))) || (decide (a4 ≤ a3))) rfl (fun hB8 => ?_) (fun hB8 => ?_) (fun a w h => ?_)
  · refine g_no h rfl rfl rfl rfl hB8 rfl (by decide) (fun a h => ?_)
    refine g_no h rfl rfl rfl rfl hB8 rfl (by decide) (fun a h => ?_)
    refine g_no h rfl rfl rfl rfl hB8 rfl (by decide) (fun a h => ?_)
    refine sX h (x_pick (u' := undef) h.k rfl rfl (fun _ => rfl) (fun hh => absurd (hB8.symm.trans hh) (by decide))) (fun a h => ?_)
    exact (h.mid 3 rfl).val (by first | rfl | (rw [hB8]; first | rfl | simp))
  · refine g_yes h rfl rfl rfl rfl hB8 ?_
    refine sX h (x_ld h.k rfl Try.underlying3 rfl rfl ((h.m.cell (i := 1) rfl 0).trans rfl)) (fun a h => ?_)
    refine g_yes h rfl rfl rfl rfl hB8 ?_
    refine sX h (x_ld h.k rfl Try.underlying3 rfl rfl ((h.m.cell (i := 2) rfl 0).trans rfl)) (fun a h => ?_)
    refine g_yes h rfl rfl rfl rfl hB8 ?_
    refine sX h (x_bin h.k rfl rfl rfl ib_leq) (fun a h => ?_)
    refine sX h (x_pick (u' := undef) h.k rfl rfl (fun hh => absurd (hB8.symm.trans hh) (by decide)) (fun _ => rfl)) (fun a h => ?_)
    exact (h.mid 3 rfl).val (by first | rfl | (rw [hB8]; first | rfl | simp))
  refine sMV h (fun a h => ?_)
  refine q_grp h 4 (t := 32) 36 ((((!x6) || (decide (a3 < 0))) || (decide (a4 ≤ a3))) || (decide (a1 < a4))) rfl (fun hB13 => ?_) (fun hB13 => ?_) (fun a w h => ?_)
  · refine g_no h rfl rfl rfl rfl hB13 rfl (by decide) (fun a h => ?_)
    refine g_no h rfl rfl rfl rfl hB13 rfl (by decide) (fun a h => ?_)
    refine g_no h rfl rfl rfl rfl hB13 rfl (by decide) (fun a h => ?_)
    refine sX h (x_pick (u' := undef) h.k rfl rfl (fun _ => rfl) (fun hh => absurd (hB13.symm.trans hh) (by decide))) (fun a h => ?_)
    exact (h.mid 3 rfl).val (by first | rfl | (rw [hB13]; first | rfl | simp))
  · refine g_yes h rfl rfl rfl rfl hB13 ?_
    refine sX h (x_ld h.k rfl Try.underlying3 rfl rfl ((h.m.cell (i := 1) rfl 0).trans rfl)) (fun a h => ?_)
    refine g_yes h rfl rfl rfl rfl hB13 ?_
    refine sX h (x_ld h.k rfl Try.underlying3 rfl rfl ((h.m.cell (i := 4) rfl 0).trans rfl)) (fun a h => ?_)
    refine g_yes h rfl rfl rfl rfl hB13 ?_
    refine sX h (x_bin h.k rfl rfl rfl ib_gtr) (fun a h => ?_)
    refine sX h (x_pick (u' := undef) h.k rfl rfl (fun hh => absurd (hB13.symm.trans hh) (by decide)) (fun _ => rfl)) (fun a h => ?_)
    exact (h.mid 3 rfl).val (by first | rfl | (rw [hB13]; first | rfl | simp))
  refine l_end ?_
  refine c_cond h rfl (fun hb => ?_) (fun hb => ?_)
  · rw [if_pos hb] at hf
    refine c_rs ?_
    refine sAV h (fun a h => ?_)
    refine sAV h (fun a h => ?_)
    refine l_end ?_
    refine wp_ret ?_
    refine e_thenR ?_
    obtain rfl := Option.some.inj hf
    have h := h.mem (h.m.nilrow 22 1)
    exact r_ret2 h rfl (rv_tmp h rfl) (rv_tmp h rfl) ⟨_, [.row (.slice none ([]).length 0) 22 1 ([]).length []], _, rfl, ⟨none, 0, [], rfl, rfl, (show reps (tyL ty8) S0 [] [] from rfl), (show r64 2 from ⟨by decide, by decide⟩), trivial⟩, rfl, (Up.refl _ _ _), (h.m.pick [0, 6] _ (by decide) rfl)⟩
  · rw [if_neg (by rw [hb]; decide)] at hf
    refine wp_skip ?_
    refine e_thenN ?_
    refine wp_seq ?_
    refine c_rs ?_
    refine sX h (x_ld h.k rfl Try.underlying22 rfl rfl ((h.m.cell (i := 0) rfl 0).trans rfl)) (fun a h => ?_)
    refine sMV h (fun a h => ?_)
    refine sMV h (fun a h => ?_)
    refine q_bslice (T := tyL ty8) (S := S0) h rfl rfl rfl (by decide) Try.underlying24 zi_Suint8 (by decide) (by decide) (by decide) (by decide) [.slice Aa0 a0.length ca0, .slice Aa5 a5.length ca5] rfl rfl (C := [[.slice Aa0 a0.length ca0], [.slice Aa5 a5.length ca5]]) rfl (xs := [a0, a5]) ⟨[.slice Aa0 a0.length ca0], _, rfl, ⟨_, _, rfl, hsa0⟩, ⟨[.slice Aa5 a5.length ca5], _, rfl, ⟨_, _, rfl, hsa5⟩, rfl⟩⟩ (by simp only [List.mem_cons, List.not_mem_nil, or_false]; rintro c (rfl | rfl) <;> rfl) (fun a w A16 h => ?_)
    have hb17 : reps (tyL ty8) S0 ([[.slice Aa0 a0.length ca0], [.slice Aa5 a5.length ca5]] : List (List Value)).flatten [a0, a5] := ⟨[.slice Aa0 a0.length ca0], _, rfl, ⟨_, _, rfl, hsa0⟩, ⟨[.slice Aa5 a5.length ca5], _, rfl, ⟨_, _, rfl, hsa5⟩, rfl⟩⟩
    obtain ⟨x18, h19, hf⟩ := bsome hf
    have hX := keytree_keys_ok Fu (S0 := snapAll _) Aa6 ca6 a6 (hsa6.mono (h.m.leAll (i := 6) rfl)) A16 2 ([a0, a5]) (h.m.rowAll (i := 0) rfl (j := 6) rfl hb17) _ h19 _ h.startAll
    refine q_callX hX h rfl rfl rfl (by decide) Try.func22 rfl rfl rfl (fun a w v L1 S1 hR hb1 h => ?_)
    obtain ⟨rfl, rfl, _⟩ := hR
    refine sX h (x_not h.k rfl rfl) (fun a h => ?_)
    refine l_end ?_
    refine c_cond h rfl (fun hb => ?_) (fun hb => ?_)
    · rw [if_pos hb] at hf
      refine c_rs ?_
      refine sAV h (fun a h => ?_)
      refine sAV h (fun a h => ?_)
      refine l_end ?_
      refine wp_ret ?_
      refine e_thenR ?_
      obtain rfl := Option.some.inj hf
      have h := h.mem (h.m.nilrow 22 1)
      exact r_ret2 h rfl (rv_tmp h rfl) (rv_tmp h rfl) ⟨_, [.row (.slice none ([]).length 0) 22 1 ([]).length []], _, rfl, ⟨none, 0, [], rfl, rfl, (show reps (tyL ty8) S0 [] [] from rfl), (show r64 20 from ⟨by decide, by decide⟩), trivial⟩, rfl, (Up.refl _ _ _), (h.m.pick [0, 7] _ (by decide) rfl)⟩
    · rw [if_neg (by rw [hb]; decide)] at hf
      refine wp_skip ?_
      refine e_thenN ?_
      refine c_rs ?_
      refine sX h (x_ld h.k rfl Try.underlying24 rfl rfl ((h.m.cell (i := 4) rfl 0).trans rfl)) (fun a h => ?_)
      obtain ⟨x22, h23, hf⟩ := bsome hf
      have h := h.pick [6, 0, 1, 2, 3, 4, 5] (by decide) rfl
      have hX := slices_Clone_____byte___byte_ok Fu (S0 := S0) Aa2 ca2 a2 hsa2 _ h23 _ (h.sub (Ls := []))
      refine q_callY (Ls := []) hX h (Up.refl _ _ _) rfl rfl rfl (by decide) Try.func36 rfl rfl rfl (fun a w v L1 S25 hR le27 up26 h => ?_)
      obtain ⟨A28, c29, cs30, rfl, rfl, hq31, _⟩ := hR
      refine s_alloc h rfl rfl rfl (by decide) zi_SSuint8 rfl (fun a w g32 h => ?_)
      have h := h.mem (h.m.nilrow 22 1)
      refine s_stb h rfl rfl rfl sz_SSuint8 rfl rfl rfl 1 rfl (by first | decide | simp) (fun a w h => ?_)
      refine l_end ?_
      refine c_rs ?_
      refine s_alloc h rfl rfl rfl (by decide) zi_api_Errno rfl (fun a w g34 h => ?_)
      refine s_stb h rfl rfl rfl sz_api_Errno rfl rfl rfl 0 rfl (by first | decide | simp) (fun a w h => ?_)
      refine l_end ?_
      refine c_rs ?_
      refine s_alloc h rfl rfl rfl (by decide) zi_func_int_int_Suint8_Suint8_ rfl (fun a w g35 h => ?_)
      refine l_end ?_
      refine c_rs ?_
      have h := h.pick [11, 5, 0, 1, 2, 3, 4, 6, 7, 8, 9, 10] (by decide) rfl
      obtain ⟨S36, le37, up38, hc39, h⟩ := q_freezeBox h up26
      have hp40 : ptS tyI S36 g1 a1 := ⟨[.int .i64 a1], hc39, ⟨rfl, hra1⟩⟩
      have h := h.pick [10, 0, 1, 2, 3, 4, 5, 6, 7, 8, 9] (by decide) rfl
      obtain ⟨S41, le42, up43, hc44, h⟩ := q_freezeBox h up38
      have hp45 : ptS (tyL (tyL ty8)) S41 g2 a2 := ⟨[.slice Aa2 a2.length ca2], hc44, ⟨_, _, rfl, (hsa2.mono ((le27.trans le37).trans le42))⟩⟩
      have h := h.pick [9, 0, 1, 2, 3, 4, 5, 6, 7, 8] (by decide) rfl
      obtain ⟨S46, le47, up48, hc49, h⟩ := q_freezeBox h up43
      have hp50 : ptS tyI S46 g3 a3 := ⟨[.int .i64 a3], hc49, ⟨rfl, hra3⟩⟩
      have h := h.pick [8, 0, 1, 2, 3, 4, 5, 6, 7] (by decide) rfl
      obtain ⟨S51, le52, up53, hc54, h⟩ := q_freezeBox h up48
      have hp55 : ptS tyI S51 g4 a4 := ⟨[.int .i64 a4], hc54, ⟨rfl, hra4⟩⟩
      have h := h.pick [7, 0, 1, 2, 3, 4, 5, 6] (by decide) rfl
      obtain ⟨S56, le57, up58, hc59, h⟩ := q_freezeBox h up53
      have hp60 : ptS (tyL ty8) S56 g5 a6 := ⟨[.slice Aa6 a6.length ca6], hc59, ⟨_, _, rfl, (hsa6.mono (((((le27.trans le37).trans le42).trans le47).trans le52).trans le57))⟩⟩
      refine s_makeFunc h rfl rfl rfl (by decide) (us := []) (vs := [.pointer (some ⟨g1, 0, none⟩), .pointer (some ⟨g2, 0, none⟩), .pointer (some ⟨g34, 0, none⟩), .pointer (some ⟨g3, 0, none⟩), .pointer (some ⟨g4, 0, none⟩), .pointer (some ⟨g32, 0, none⟩), .pointer (some ⟨g5, 0, none⟩), .pointer (some ⟨g35, 0, none⟩)]) rfl rfl (fun a h => ?_)
      refine s_stb h rfl rfl rfl sz_func_int_int_Suint8_Suint8_ rfl rfl rfl 1 rfl (by first | decide | simp) (fun a w h => ?_)
      refine l_end ?_
      refine c_rs ?_
      refine sX h (x_ld h.k rfl Try.underlying61 rfl rfl ((h.m.cell (i := 1) rfl 0).trans rfl)) (fun a h => ?_)
      refine sMV h (fun a h => ?_)
      refine sMV h (fun a h => ?_)
      have h := h.pick [1, 0, 2, 3, 4, 5, 6] (by decide) rfl
      obtain ⟨S61, le62, up63, hc64, h⟩ := q_freezeBox h up58
      have hk65 : fzB S61 g35 [.func (.func 37) [].toArray [.pointer (some ⟨g1, 0, none⟩), .pointer (some ⟨g2, 0, none⟩), .pointer (some ⟨g34, 0, none⟩), .pointer (some ⟨g3, 0, none⟩), .pointer (some ⟨g4, 0, none⟩), .pointer (some ⟨g32, 0, none⟩), .pointer (some ⟨g5, 0, none⟩), .pointer (some ⟨g35, 0, none⟩)].toArray] := hc64
      obtain ⟨x66, h67, hf⟩ := bsome hf
      have h := h.pick [1, 3, 4, 0, 2, 5] (by decide) rfl
      have hX := keytree_Puncture_1_self11_ok Fu (S0 := S61) 0 (show r64 0 from ⟨by decide, by decide⟩) 0 (show r64 0 from ⟨by decide, by decide⟩) Aa0 ca0 a0 (hsa0.mono ((((((le27.trans le37).trans le42).trans le47).trans le52).trans le57).trans le62)) Aa5 ca5 a5 (hsa5.mono ((((((le27.trans le37).trans le42).trans le47).trans le52).trans le57).trans le62)) g1 a1 (hp40.mono ((((le42.trans le47).trans le52).trans le57).trans le62)) g2 a2 (hp45.mono (((le47.trans le52).trans le57).trans le62)) 0 g34 (show r64 0 from ⟨by decide, by decide⟩) g3 a3 (hp50.mono ((le52.trans le57).trans le62)) g4 a4 (hp55.mono (le57.trans le62)) x22 g32 A28 c29 cs30 (hq31.mono (((((le37.trans le42).trans le47).trans le52).trans le57).trans le62)) g5 a6 (hp60.mono le62) g35 hk65 _ h67 _ (h.sub (Ls := [.box g34 25 ([.int .i64 0]), .box g32 24 ([.slice A28 x22.length c29]), .row (.slice A28 x22.length c29) 22 1 x22.length cs30]))
      refine q_callYV (Ls := [.box g34 25 ([.int .i64 0]), .box g32 24 ([.slice A28 x22.length c29]), .row (.slice A28 x22.length c29) 22 1 x22.length cs30]) hX h up63 rfl rfl rfl (by decide) rfl Try.func37 rfl rfl [.int .i64 0, .int .i64 0, .slice Aa0 a0.length ca0, .slice Aa5 a5.length ca5] rfl rfl (fun a w v L1 S69 hR le71 up70 h => ?_)
      obtain ⟨A73, c74, cs75, rfl, rfl, hr72, hq76, _⟩ := hR
      refine l_end ?_
      refine wp_seq ?_
      refine c_rs ?_
      refine sX h (x_ld h.k rfl Try.underlying25 rfl rfl ((h.m.cell (i := 0) rfl 0).trans rfl)) (fun a h => ?_)
      refine sX h (x_bin h.k rfl rfl rfl ib_neq) (fun a h => ?_)
      refine l_end ?_
      refine c_cond h rfl (fun hb => ?_) (fun hb => ?_)
      · rw [if_pos (of_decide_eq_true hb)] at hf
        refine wp_seq ?_
        -- region 11 draws
        refine d_start h (Mem _ _ _) 3 3 rfl (by kernel_rfl) (fun _ _ _ _ _ h => h) (fun _ h => h) (fun Q a w HE HN h HS => ?_)
        refine d_take h HS HN 0 rfl (by kernel_rfl) (by kernel_rfl) (by kernel_rfl) (by kernel_rfl) (by kernel_rfl) rfl rfl (by decide) (fun w' hw => x_ld h.k rfl Try.underlying25 rfl rfl ((hw.cell (i := 0) rfl 0).trans rfl)) (fun a h => ?_)
        refine d_takeP h (fun _ => HS) HN 1 rfl (by kernel_rfl) (by kernel_rfl) (by kernel_rfl) (by decide) rfl rfl (by decide) (fun w' => x_assign h.k _ rfl rfl) (fun a h => ?_)
        refine d_takeP h (fun _ => HS) HN 2 rfl (by kernel_rfl) (by kernel_rfl) (by kernel_rfl) (by decide) rfl rfl (by decide) (fun w' => x_assign h.k _ rfl rfl) (fun a h => ?_)
        refine d_done (by kernel_rfl) (HE _ _ ?_) _
        refine e_thenN ?_
        refine wp_ret ?_
        refine e_thenR ?_
        obtain rfl := Option.some.inj hf
        have h := h.mem (h.m.nilrow 22 1)
        exact r_ret2 h rfl (rv_tmp h rfl) (rv_tmp h rfl) ⟨_, [.row (.slice none ([]).length 0) 22 1 ([]).length []], _, rfl, ⟨none, 0, [], rfl, rfl, (show reps (tyL ty8) S69 [] [] from rfl), hr72, trivial⟩, rfl, up70, (h.m.pick [0, 4] _ (by decide) rfl)⟩
      · rw [if_neg (of_decide_eq_false hb)] at hf
        refine wp_skip ?_
        refine e_thenN ?_
        refine c_rs ?_
        refine sX h (x_ld h.k rfl Try.underlying24 rfl rfl ((h.m.cell (i := 1) rfl 0).trans rfl)) (fun a h => ?_)
        refine sAV h (fun a h => ?_)
        refine sAV h (fun a h => ?_)
        refine l_end ?_
        refine wp_ret ?_
        obtain rfl := Option.some.inj hf
        exact r_ret2 h rfl (rv_tmp h rfl) (rv_tmp h rfl) ⟨_, [.row (.slice A73 x66.2.length c74) 22 1 x66.2.length cs75], _, rfl, ⟨A73, c74, cs75, rfl, rfl, hq76, (show r64 0 from ⟨by decide, by decide⟩), trivial⟩, rfl, up70, (h.m.pick [2, 3] _ (by decide) rfl)⟩
end Go.Proofs.Ytohgmggdfmjgnaa
