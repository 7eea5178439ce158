/- Kb2: Go functions as plain functions, and that they are so (written by xt.py). -/
import Derived.Test.YtohgmggdfmjgnaaKa
set_option linter.unusedVariables false
set_option linter.unusedSimpArgs false
namespace Go.Proofs.Ytohgmggdfmjgnaa
open Go.RowKit
def keytree_Make_1 (Fu : Nat) (a0 : Int) (a1 : Int) (a2 : List UInt8) : Option ((List UInt8)) :=
  (keytree_fresh Fu a2 a0 a1).bind fun x6 => some x6
set_option maxRecDepth 100000 in
set_option maxHeartbeats 2000000 in
theorem keytree_Make_1_ok (Fu : Nat) {S0 : Snap} (a0 : Int) (hra0 : r64 a0) (a1 : Int) (hra1 : r64 a1) (ga2 : Nat) (a2 : List UInt8) (hpa2 : ptS (tyL ty8) S0 ga2 a2) (r : (List UInt8)) (hf : keytree_Make_1 Fu a0 a1 a2 = some r) (w0 : World) (hm : Mem w0 (ownL ([] ++ [.sn S0])) ([] ++ [.sn S0]) w0) :
    Calls Try.prog 24 #[.int .i64 a0, .int .i64 a1, .pointer (some ⟨ga2, 0, none⟩)] w0 (Ret w0 S0 [] (fun v L1 S1 => ∃ (A15 : Option Addr), ∃ (c16 : Nat), v = .slice A15 r.length c16 ∧ L1 = [] ∧ slS ty8 S1 A15 c16 r ∧ True)) := by
  unfold keytree_Make_1 at hf
  refine c_enterM Try.func24 rfl 10 rfl (by simp) _ hm _ rfl (fun a h => ?_)
  refine c_rs ?_
  refine sAV h (fun a h => ?_)
  refine l_end ?_
  refine c_rs ?_
  obtain ⟨k1, hc2, ⟨A3, c4, rfl, hs5⟩⟩ := id hpa2
  refine sX h (x_ld h.k rfl Try.underlying22 rfl rfl (hc2 _ (h.m.snOK (i := 0) rfl) 0 _ rfl)) (fun a h => ?_)
  refine sMV h (fun a h => ?_)
  refine sMV h (fun a h => ?_)
  obtain ⟨x6, h7, hf⟩ := bsome hf
  have hX := keytree_fresh_ok Fu (S0 := S0) A3 c4 a2 hs5 a0 hra0 a1 hra1 _ h7 _ (h.sub (Ls := []))
  refine q_callY (Ls := []) hX h (Up.refl _ _ _) rfl rfl rfl (by decide) Try.func25 rfl rfl rfl (fun a w v L1 S9 hR le11 up10 h => ?_)
  obtain ⟨A12, c13, rfl, rfl, hs14, _⟩ := hR
  refine sAV h (fun a h => ?_)
  refine l_end ?_
  refine wp_ret ?_
  rw [← Option.some.inj hf]
  exact r_ret1 h rfl (rv_tmp h rfl) ⟨_, [], _, rfl, ⟨A12, c13, rfl, rfl, hs14, trivial⟩, rfl, up10, h.m⟩
def keytree_lay_1_kf4_24_0_1_self6_l0 (rec : Int → Int → (List UInt8) → Int → (List UInt8) → (List (List UInt8)) → Option ((List (List UInt8)))) (Fu : Nat) (a2 : List UInt8) (a3 : Int) (a4b0 : List UInt8) (x9 : (List Int)) : Nat → Int → (List (List UInt8)) → Option ((List (List UInt8)))
  | 0, _, _ => none
  | k + 1, x23, x25 => if x23 < (x9.length : Int) then ((ix x9.length x23).bind fun m40 => (x9[m40]?).bind fun x46 => (path_Node Fu a3 x46).bind fun x56 => (keytree_Make_1 Fu x56.1 x56.2.1 a4b0).bind fun x61 => (wrap_Wrap Fu a2 x61).bind fun x70 => (ix x25.length x46).bind fun m79 => (rec x56.1 x56.2.1 x61 a3 a4b0 (x25.set m79 x70.1)).bind fun x92 => keytree_lay_1_kf4_24_0_1_self6_l0 rec Fu a2 a3 a4b0 x9 k (w64 (x23 + 1)) x92) else (some x25)
def keytree_lay_1_kf4_24_0_1_self6_k (Fu : Nat) : Nat → Int → Int → (List UInt8) → Int → (List UInt8) → (List (List UInt8)) → Option ((List (List UInt8)))
  | 0, _, _, _, _, _, _ => none
  | kf + 1, a0, a1, a2, a3, a4b0, a5 => (path_Children Fu a3 a0 a1).bind fun x9 => (keytree_lay_1_kf4_24_0_1_self6_l0 (keytree_lay_1_kf4_24_0_1_self6_k Fu kf) Fu a2 a3 a4b0 x9 Fu 0 a5).bind fun x33 => some x33
def keytree_lay_1_kf4_24_0_1_self6 (Fu : Nat) (a0 : Int) (a1 : Int) (a2 : List UInt8) (a3 : Int) (a4b0 : List UInt8) (a5 : List (List UInt8)) : Option ((List (List UInt8))) :=
  keytree_lay_1_kf4_24_0_1_self6_k Fu Fu a0 a1 a2 a3 a4b0 a5
set_option maxRecDepth 100000 in
set_option maxHeartbeats 2000000 in
theorem keytree_lay_1_kf4_24_0_1_self6_kok (Fu kf : Nat) : ∀ {S0 : Snap} (a0 : Int) (hra0 : r64 a0) (a1 : Int) (hra1 : r64 a1) (Aa2 : Option Addr) (ca2 : Nat) (a2 : List UInt8) (hsa2 : slS ty8 S0 Aa2 ca2 a2) (ga3 : Nat) (a3 : Int) (hpa3 : ptS tyI S0 ga3 a3) (ga4b0 : Nat) (a4b0 : List UInt8) (hpa4b0 : ptS (tyL ty8) S0 ga4b0 a4b0) (ga4 : Nat) (hka4 : fzB S0 ga4 [.func (.func 24) [].toArray [.pointer (some ⟨ga4b0, 0, none⟩)].toArray]) (a5 : List (List UInt8)) (g1 : Nat) (A2 : Option Addr) (c3 : Nat) (cs4 : List Value) (hq5 : reps (tyL ty8) S0 cs4 a5) (ga6 : Nat) (hka6 : fzB S0 ga6 [.func (.func 44) [].toArray [.pointer (some ⟨ga3, 0, none⟩), .pointer (some ⟨ga4, 0, none⟩), .pointer (some ⟨g1, 0, none⟩), .pointer (some ⟨ga6, 0, none⟩)].toArray]) (r : (List (List UInt8))) (hf : keytree_lay_1_kf4_24_0_1_self6_k Fu kf a0 a1 a2 a3 a4b0 a5 = some r) (w0 : World) (hm : Mem w0 (ownL ([.box g1 24 ([.slice A2 a5.length c3]), .row (.slice A2 a5.length c3) 22 1 a5.length cs4] ++ [.sn S0])) ([.box g1 24 ([.slice A2 a5.length c3]), .row (.slice A2 a5.length c3) 22 1 a5.length cs4] ++ [.sn S0]) w0),
    Calls Try.prog 44 #[.int .i64 a0, .int .i64 a1, .slice Aa2 a2.length ca2, .pointer (some ⟨ga3, 0, none⟩), .pointer (some ⟨ga4, 0, none⟩), .pointer (some ⟨g1, 0, none⟩), .pointer (some ⟨ga6, 0, none⟩)] w0 (Ret w0 S0 [.box g1 24 ([.slice A2 a5.length c3]), .row (.slice A2 a5.length c3) 22 1 a5.length cs4] (fun v L1 S1 => ∃ (A103 : Option Addr), ∃ (c104 : Nat), ∃ (cs105 : List Value), v = .tuple #[] ∧ L1 = [.box g1 24 ([.slice A103 r.length c104]), .row (.slice A103 r.length c104) 22 1 r.length cs105] ∧ reps (tyL ty8) S1 cs105 r ∧ True)) := by
  induction kf with
  | zero => intro S0 a0 hra0 a1 hra1 Aa2 ca2 a2 hsa2 ga3 a3 hpa3 ga4b0 a4b0 hpa4b0 ga4 hka4 a5 g1 A2 c3 cs4 hq5 ga6 hka6 r hf w0 hm; rw [keytree_lay_1_kf4_24_0_1_self6_k] at hf; cases hf
  | succ kf ih =>
    intro S0 a0 hra0 a1 hra1 Aa2 ca2 a2 hsa2 ga3 a3 hpa3 ga4b0 a4b0 hpa4b0 ga4 hka4 a5 g1 A2 c3 cs4 hq5 ga6 hka6 r hf w0 hm
    rw [keytree_lay_1_kf4_24_0_1_self6_k] at hf
    obtain ⟨B0, hB0⟩ : ∃ B0, B0 = (ownL ([.box g1 24 ([.slice A2 a5.length c3]), .row (.slice A2 a5.length c3) 22 1 a5.length cs4] ++ [.sn S0])) := ⟨_, rfl⟩
    rw [← hB0] at hm
    refine c_enterM Try.func44 rfl 51 rfl (by simp) _ hm _ rfl (fun a h => ?_)
    refine c_rs ?_
    obtain ⟨k6, hc7, ⟨rfl, hr8⟩⟩ := id hpa3
    refine sX h (x_ld h.k rfl Try.underlying3 rfl rfl (hc7 _ (h.m.snOK (i := 2) rfl) 0 _ rfl)) (fun a h => ?_)
    refine sMV h (fun a h => ?_)
    refine sMV h (fun a h => ?_)
    obtain ⟨x9, h10, hf⟩ := bsome hf
    have hX := path_Children_ok Fu (S0 := snapAll _) a3 hr8 a0 hra0 a1 hra1 _ h10 _ h.startAll
    refine q_callX hX h rfl rfl rfl (by decide) Try.func38 rfl rfl rfl (fun a w v L1 S1 hR hb1 h => ?_)
    obtain ⟨A12, c13, cs14, rfl, rfl, hq15, _⟩ := hR
    have hq16 := hq15.fl (S' := S0) fl_I
    have hr17 : r64 (x9.length : Int) := len_r (h.m.rowLen (i := 0) rfl)
    refine sX h (x_len h.k rfl Try.underlying51 rfl) (fun a h => ?_)
    refine sMV h (fun a h => ?_)
    refine l_end ?_
    obtain ⟨o18, hl19, hf⟩ := bsome hf
    refine c_fin (fun a w => ∃ (S30 : Snap), ∃ (x33 : List (List UInt8)), ∃ (A34 : Option Addr), ∃ (c35 : Nat), ∃ (cs36 : List Value), x33 = o18 ∧ Snap.le S0 S30 ∧ Up B0 w0 S0 S30 ∧ reps (tyL ty8) S30 cs36 x33 ∧ St 51 w0 B0 [] [.box g1 24 ([.slice A34 x33.length c35]), .row (.slice A34 x33.length c35) 22 1 x33.length cs36, .sn S30] a w) ?_ ?_
    · refine wp_block ?_
      have h := h.pick [1, 2, 0, 3] (by decide) rfl
      refine c_loop (fun m39 a w => ∃ (S20 : Snap), ∃ (x23 : Int), ∃ (x25 : List (List UInt8)), ∃ (A26 : Option Addr), ∃ (c27 : Nat), ∃ (cs28 : List Value), keytree_lay_1_kf4_24_0_1_self6_l0 (keytree_lay_1_kf4_24_0_1_self6_k Fu kf) Fu a2 a3 a4b0 x9 m39 x23 x25 = some o18 ∧ Snap.le S0 S20 ∧ Up B0 w0 S0 S20 ∧ r64 x23 ∧ reps (tyL ty8) S20 cs28 x25 ∧ St 51 w0 B0 [(2, .slice Aa2 a2.length ca2), (3, .pointer (some ⟨ga3, 0, none⟩)), (4, .pointer (some ⟨ga4, 0, none⟩)), (5, .pointer (some ⟨g1, 0, none⟩)), (6, .pointer (some ⟨ga6, 0, none⟩)), (19, .slice A12 x9.length c13), (20, .int .i64 (x9.length : Int)), (21, .int .i64 x23)] [.box g1 24 ([.slice A26 x25.length c27]), .row (.slice A26 x25.length c27) 22 1 x25.length cs28, .row (.slice A12 x9.length c13) 3 1 x9.length cs14, .sn S20] a w) Fu ⟨S0, 0, a5, A2, c3, cs4, hl19, (Snap.le.refl _), (Up.refl _ _ _), (show r64 0 from ⟨by decide, by decide⟩), hq5, h.has (by exact ⟨rfl, rfl, rfl, rfl, rfl, rfl, rfl, rfl, trivial⟩)⟩ (fun m39 a w hI => ?_)
      obtain ⟨S20, x23, x25, A26, c27, cs28, hl38, le21, up22, hr24, hq29, h⟩ := hI
      obtain _ | m39 := m39
      · rw [keytree_lay_1_kf4_24_0_1_self6_l0] at hl38; cases hl38
      rw [keytree_lay_1_kf4_24_0_1_self6_l0] at hl38
      refine c_rs ?_
      refine sX h (x_bin h.k rfl rfl rfl ib_lss) (fun a h => ?_)
      refine l_end ?_
      refine c_cs h rfl (fun hb => ?_) (fun hb => ?_)
      · rw [if_pos (of_decide_eq_true hb)] at hl38
        refine wp_skip ?_
        refine e_thenN ?_
        refine wp_seq ?_
        refine wp_block ?_
        refine c_rs ?_
        obtain ⟨m40, h41, hl38⟩ := bsome hl38
        obtain ⟨hi42, hm43⟩ := ix_some h41
        obtain ⟨g45, hA44⟩ := h.m.rowHead (i := 2) rfl (Nat.lt_of_le_of_lt (Nat.zero_le _) hm43)
        refine sX h (x_iaddrE h.k rfl Try.underlying51 sz_int hA44 rfl rfl hi42 hm43) (fun a h => ?_)
        obtain ⟨x46, h47, hl38⟩ := bsome hl38
        obtain ⟨u48, hv49, hu50⟩ := ((hq16.mono le21)).cell rfl h47
        obtain ⟨e52, hr51⟩ := hu50
        cases e52
        refine sX h (x_ld h.k rfl Try.underlying3 rfl rfl (h.m.cellRowE (i := 2) rfl hA44 _ (by rw [Nat.mul_one]; exact hv49))) (fun a h => ?_)
        refine sAV h (fun a h => ?_)
        refine l_end ?_
        refine c_rs ?_
        obtain ⟨k53, hc54, ⟨rfl, hr55⟩⟩ := id (hpa3.mono le21)
        refine sX h (x_ld h.k rfl Try.underlying3 rfl rfl (hc54 _ (h.m.snOK (i := 3) rfl) 0 _ rfl)) (fun a h => ?_)
        refine sMV h (fun a h => ?_)
        obtain ⟨x56, h57, hl38⟩ := bsome hl38
        have hX := path_Node_ok Fu (S0 := snapAll _) a3 hr55 x46 hr51 _ h57 _ h.startAll
        refine q_callX hX h rfl rfl rfl (by decide) Try.func39 rfl rfl rfl (fun a w v L1 S1 hR hb1 h => ?_)
        obtain ⟨rfl, rfl, hr59, hr60, _⟩ := hR
        refine sMV h (fun a h => ?_)
        refine sX h (x_ext h.k rfl rfl rfl) (fun a h => ?_)
        refine sX h (x_ext h.k rfl rfl rfl) (fun a h => ?_)
        refine sX h (x_ext h.k rfl rfl rfl) (fun a h => ?_)
        refine sAV h (fun a h => ?_)
        refine sAV h (fun a h => ?_)
        refine sAV h (fun a h => ?_)
        refine l_end ?_
        refine c_rs ?_
        refine sX h (x_ld h.k rfl Try.underlying48 rfl rfl ((hka4.mono le21) _ (h.m.snOK (i := 3) rfl) 0 _ rfl)) (fun a h => ?_)
        refine sMV h (fun a h => ?_)
        refine sMV h (fun a h => ?_)
        obtain ⟨x61, h62, hl38⟩ := bsome hl38
        have h := h.pick [3, 0, 1, 2] (by decide) rfl
        have hX := keytree_Make_1_ok Fu (S0 := S20) x56.1 hr59 x56.2.1 hr60 ga4b0 a4b0 (hpa4b0.mono le21) _ h62 _ (h.sub (Ls := []))
        refine q_callYV (Ls := []) hX h up22 rfl rfl rfl (by decide) rfl Try.func24 rfl rfl [.int .i64 x56.1, .int .i64 x56.2.1] rfl rfl (fun a w v L1 S64 hR le66 up65 h => ?_)
        obtain ⟨A67, c68, rfl, rfl, hs69, _⟩ := hR
        refine sAV h (fun a h => ?_)
        refine l_end ?_
        refine wp_seq ?_
        -- region 5 draws
        obtain ⟨x70, h71, hl38⟩ := bsome hl38
        obtain ⟨m79, h80, hl38⟩ := bsome hl38
        refine d_start h (Mem _ _ _) 9 10 rfl (by kernel_rfl) (fun _ _ _ _ _ h => h) (fun _ h => h) (fun Q a w HE HN h HS => ?_)
        refine d_take h HS HN 0 rfl (by kernel_rfl) (by kernel_rfl) (by kernel_rfl) (by kernel_rfl) (by kernel_rfl) rfl rfl (by decide) (fun w' hw => x_ld h.k rfl Try.underlying24 rfl rfl ((hw.cell (i := 1) rfl 0).trans rfl)) (fun a h => ?_)
        refine d_takeP h (fun _ => HS) HN 1 rfl (by kernel_rfl) (by kernel_rfl) (by kernel_rfl) (by decide) rfl rfl (by decide) (fun w' => x_move h.k _ rfl rfl) (fun a h => ?_)
        refine d_takeP h (fun _ => HS) HN 2 rfl (by kernel_rfl) (by kernel_rfl) (by kernel_rfl) (by decide) rfl rfl (by decide) (fun w' => x_move h.k _ rfl rfl) (fun a h => ?_)
        refine d_takeP h (fun _ => HS) HN 3 rfl (by kernel_rfl) (by kernel_rfl) (by kernel_rfl) (by decide) rfl rfl (by decide) (fun w' => x_move h.k _ rfl rfl) (fun a h => ?_)
        refine d_alone 4 rfl (by kernel_rfl) (fun K hK => ?_)
        have hX := wrap_Wrap_ok Fu (S0 := snapAll _) Aa2 ca2 a2 ((hsa2.mono (le21.trans le66)).mono (h.m.leAll (i := 0) rfl)) A67 c68 x61 (hs69.mono (h.m.leAll (i := 0) rfl)) _ h71 _ h.startAll
        refine q_callX hX h rfl rfl rfl (by decide) Try.func41 rfl rfl rfl (fun a w v L1 S1 hR hb1 h => ?_)
        obtain ⟨A73, c74, cs75, rfl, rfl, hq76, hr77, _⟩ := hR
        have hq78 := hq76.fl (S' := S64) fl_8
        refine hK _ _ (fun _ _ => HS.ext hb1) ?_
        replace HS := HS.ext hb1
        clear hK
        refine d_takeP h (fun _ => HS) HN 5 rfl (by kernel_rfl) (by kernel_rfl) (by kernel_rfl) (by decide) rfl rfl (by decide) (fun w' => x_move h.k _ rfl rfl) (fun a h => ?_)
        refine d_takeP h (fun _ => HS) HN 6 rfl (by kernel_rfl) (by kernel_rfl) (by kernel_rfl) (by decide) rfl rfl (by decide) (fun w' => x_ext h.k rfl rfl rfl) (fun a h => ?_)
        refine d_takeP h (fun _ => HS) HN 7 rfl (by kernel_rfl) (by kernel_rfl) (by kernel_rfl) (by decide) rfl rfl (by decide) (fun w' => x_ext h.k rfl rfl rfl) (fun a h => ?_)
        obtain ⟨hi81, hm82⟩ := ix_some h80
        obtain ⟨g84, hA83⟩ := h.m.rowHead (i := 3) rfl (Nat.lt_of_le_of_lt (Nat.zero_le _) hm82)
        refine d_takeP h (fun _ => HS) HN 8 rfl (by kernel_rfl) (by kernel_rfl) (by kernel_rfl) (by decide) rfl rfl (by decide) (fun w' => x_iaddrE h.k rfl Try.underlying24 sz_Suint8 hA83 rfl rfl hi81 hm82) (fun a h => ?_)
        refine d_alone 9 rfl (by kernel_rfl) (fun K hK => ?_)
        obtain ⟨S85, le86, up87, hs88, h⟩ := q_freeze (T := ty8) h up65 hq78
        refine q_setRow (T := tyL ty8) (q := x70.1) h rfl rfl rfl sz_Suint8 hA83 rfl rfl 2 rfl rfl (hq29.mono (le66.trans le86)) ⟨_, _, rfl, hs88⟩ (by first | exact hm82 | simpa using hm82) (fun a w cs89 hq90 h => ?_)
        have hl91 : x25.length = (x25.set m79 x70.1).length := by simp only [List.length_set]
        rw [hl91] at h
        refine hK _ _ (fun hne _ => absurd rfl hne) ?_
        clear hK
        refine d_done (by kernel_rfl) (HE _ _ ?_) _
        refine e_thenN ?_
        refine c_r ?_
        refine sX h (x_ld h.k rfl Try.underlying66 rfl rfl ((hka6.mono ((le21.trans le66).trans le86)) _ (h.m.snOK (i := 0) rfl) 0 _ rfl)) (fun a h => ?_)
        refine sMV h (fun a h => ?_)
        refine sMV h (fun a h => ?_)
        refine sMV h (fun a h => ?_)
        obtain ⟨x92, h93, hl38⟩ := bsome hl38
        have h := h.pick [1, 2, 0, 3] (by decide) rfl
        have hX := ih (S0 := S85) x56.1 hr59 x56.2.1 hr60 A67 c68 x61 (hs69.mono le86) ga3 a3 (hpa3.mono ((le21.trans le66).trans le86)) ga4b0 a4b0 (hpa4b0.mono ((le21.trans le66).trans le86)) ga4 (hka4.mono ((le21.trans le66).trans le86)) (x25.set m79 x70.1) g1 A26 c27 cs89 hq90 ga6 (hka6.mono ((le21.trans le66).trans le86)) _ h93 _ (h.sub (Ls := [.box g1 24 ([.slice A26 (x25.set m79 x70.1).length c27]), .row (.slice A26 (x25.set m79 x70.1).length c27) 22 1 (x25.set m79 x70.1).length cs89]))
        refine q_callYV (Ls := [.box g1 24 ([.slice A26 (x25.set m79 x70.1).length c27]), .row (.slice A26 (x25.set m79 x70.1).length c27) 22 1 (x25.set m79 x70.1).length cs89]) hX h up87 rfl rfl rfl (by decide) rfl Try.func44 rfl rfl [.int .i64 x56.1, .int .i64 x56.2.1, .slice A67 x61.length c68] rfl rfl (fun a w v L1 S95 hR le97 up96 h => ?_)
        obtain ⟨A98, c99, cs100, rfl, rfl, hq101, _⟩ := hR
        refine l_nil ?_
        refine e_blkN ?_
        refine e_thenN ?_
        refine c_r ?_
        refine sX h (x_bin h.k rfl rfl rfl (ib_add rfl)) (fun a h => ?_)
        refine sMV h (fun a h => ?_)
        refine l_nil ?_
        have h := h.pick [0, 1, 3, 2] (by decide) rfl
        exact e_thenN ⟨m39, Nat.lt_succ_self _, S95, w64 (x23 + 1), x92, A98, c99, cs100, hl38, (((le21.trans le66).trans le86).trans le97), up96, (w64_r _), hq101, h.has (by exact ⟨rfl, rfl, rfl, rfl, rfl, rfl, rfl, rfl, trivial⟩)⟩
      · rw [if_neg (of_decide_eq_false hb)] at hl38
        refine wp_exit ?_
        refine e_thenX ?_
        refine e_thenX ?_
        refine e_blkX ?_
        refine e_thenN ?_
        have h := h.pick [0, 1, 3] (by decide) rfl
        exact ⟨S20, x25, A26, c27, cs28, (Option.some.inj hl38), le21, up22, hq29, h.has trivial⟩
    · rintro a w ⟨S30, x33, A34, c35, cs36, rfl, le31, up32, hq37, h⟩
      rw [← Option.some.inj hf]
      subst hB0
      exact r_ret0 h rfl  ⟨_, [.box g1 24 ([.slice A34 x33.length c35]), .row (.slice A34 x33.length c35) 22 1 x33.length cs36], _, rfl, ⟨A34, c35, cs36, rfl, rfl, hq37, trivial⟩, rfl, up32, h.m⟩
theorem keytree_lay_1_kf4_24_0_1_self6_ok (Fu : Nat) : ∀ {S0 : Snap} (a0 : Int) (hra0 : r64 a0) (a1 : Int) (hra1 : r64 a1) (Aa2 : Option Addr) (ca2 : Nat) (a2 : List UInt8) (hsa2 : slS ty8 S0 Aa2 ca2 a2) (ga3 : Nat) (a3 : Int) (hpa3 : ptS tyI S0 ga3 a3) (ga4b0 : Nat) (a4b0 : List UInt8) (hpa4b0 : ptS (tyL ty8) S0 ga4b0 a4b0) (ga4 : Nat) (hka4 : fzB S0 ga4 [.func (.func 24) [].toArray [.pointer (some ⟨ga4b0, 0, none⟩)].toArray]) (a5 : List (List UInt8)) (g1 : Nat) (A2 : Option Addr) (c3 : Nat) (cs4 : List Value) (hq5 : reps (tyL ty8) S0 cs4 a5) (ga6 : Nat) (hka6 : fzB S0 ga6 [.func (.func 44) [].toArray [.pointer (some ⟨ga3, 0, none⟩), .pointer (some ⟨ga4, 0, none⟩), .pointer (some ⟨g1, 0, none⟩), .pointer (some ⟨ga6, 0, none⟩)].toArray]) (r : (List (List UInt8))) (hf : keytree_lay_1_kf4_24_0_1_self6 Fu a0 a1 a2 a3 a4b0 a5 = some r) (w0 : World) (hm : Mem w0 (ownL ([.box g1 24 ([.slice A2 a5.length c3]), .row (.slice A2 a5.length c3) 22 1 a5.length cs4] ++ [.sn S0])) ([.box g1 24 ([.slice A2 a5.length c3]), .row (.slice A2 a5.length c3) 22 1 a5.length cs4] ++ [.sn S0]) w0),
    Calls Try.prog 44 #[.int .i64 a0, .int .i64 a1, .slice Aa2 a2.length ca2, .pointer (some ⟨ga3, 0, none⟩), .pointer (some ⟨ga4, 0, none⟩), .pointer (some ⟨g1, 0, none⟩), .pointer (some ⟨ga6, 0, none⟩)] w0 (Ret w0 S0 [.box g1 24 ([.slice A2 a5.length c3]), .row (.slice A2 a5.length c3) 22 1 a5.length cs4] (fun v L1 S1 => ∃ (A103 : Option Addr), ∃ (c104 : Nat), ∃ (cs105 : List Value), v = .tuple #[] ∧ L1 = [.box g1 24 ([.slice A103 r.length c104]), .row (.slice A103 r.length c104) 22 1 r.length cs105] ∧ reps (tyL ty8) S1 cs105 r ∧ True)) := keytree_lay_1_kf4_24_0_1_self6_kok Fu Fu
def keytree_lay_clo2_24_0_1 (Fu : Nat) (a0 : Int) (a1 : List UInt8) (a2b0 : List UInt8) : Option ((List (List UInt8))) :=
  (path_Total Fu a0).bind fun x3 => (mkN 24 x3).bind fun n7 => (keytree_lay_1_kf4_24_0_1_self6 Fu 0 0 a1 a0 a2b0 (List.replicate n7 ([] : List UInt8))).bind fun x30 => some x30
set_option maxRecDepth 100000 in
set_option maxHeartbeats 2000000 in
theorem keytree_lay_clo2_24_0_1_ok (Fu : Nat) {S0 : Snap} (a0 : Int) (hra0 : r64 a0) (Aa1 : Option Addr) (ca1 : Nat) (a1 : List UInt8) (hsa1 : slS ty8 S0 Aa1 ca1 a1) (ga2b0 : Nat) (a2b0 : List UInt8) (hpa2b0 : ptS (tyL ty8) S0 ga2b0 a2b0) (r : (List (List UInt8))) (hf : keytree_lay_clo2_24_0_1 Fu a0 a1 a2b0 = some r) (w0 : World) (hm : Mem w0 (ownL ([] ++ [.sn S0])) ([] ++ [.sn S0]) w0) :
    Calls Try.prog 23 #[.int .i64 a0, .slice Aa1 a1.length ca1, .func (.func 24) [].toArray [.pointer (some ⟨ga2b0, 0, none⟩)].toArray] w0 (Ret w0 S0 [] (fun v L1 S1 => ∃ (A40 : Option Addr), ∃ (c41 : Nat), ∃ (cs42 : List Value), v = .slice A40 r.length c41 ∧ L1 = [.row (.slice A40 r.length c41) 22 1 r.length cs42] ∧ reps (tyL ty8) S1 cs42 r ∧ True)) := by
  unfold keytree_lay_clo2_24_0_1 at hf
  refine c_enterM Try.func23 rfl 17 rfl (by simp) _ hm _ rfl (fun a h => ?_)
  refine c_rs ?_
  refine s_box h rfl rfl rfl (by decide) rfl (cs := [.int .i64 a0]) (by rfl) (fun a w g1 h => ?_)
  refine s_box h rfl rfl rfl (by decide) rfl (cs := [.func (.func 24) [].toArray [.pointer (some ⟨ga2b0, 0, none⟩)].toArray]) (by rfl) (fun a w g2 h => ?_)
  refine sAV h (fun a h => ?_)
  refine l_end ?_
  refine c_rs ?_
  refine sX h (x_ld h.k rfl Try.underlying3 rfl rfl ((h.m.cell (i := 1) rfl 0).trans rfl)) (fun a h => ?_)
  obtain ⟨x3, h4, hf⟩ := bsome hf
  have hX := path_Total_ok Fu (S0 := snapAll _) a0 hra0 _ h4 _ h.startAll
  refine q_callX hX h rfl rfl rfl (by decide) Try.func26 rfl rfl rfl (fun a w v L1 S1 hR hb1 h => ?_)
  obtain ⟨rfl, rfl, hr6, _⟩ := hR
  obtain ⟨n7, h8, hf⟩ := bsome hf
  refine q_make (T := tyL ty8) (S := S0) h rfl rfl rfl (by decide) Try.underlying24 zb_Suint8 rfl rfl (q := []) ⟨_, _, rfl, (slS.nil ty8 _)⟩ rfl rfl h8 (fun a w A9 cs10 hq11 h => ?_)
  refine s_alloc h rfl rfl rfl (by decide) zi_SSuint8 rfl (fun a w g12 h => ?_)
  have h := h.mem (h.m.nilrow 22 1)
  refine s_stb h rfl rfl rfl sz_SSuint8 rfl rfl rfl 1 rfl (by first | decide | simp) (fun a w h => ?_)
  refine l_end ?_
  refine c_rs ?_
  refine s_alloc h rfl rfl rfl (by decide) zi_func_int_int_Suint8_ rfl (fun a w g14 h => ?_)
  refine l_end ?_
  refine c_rs ?_
  have h := h.pick [5, 6, 0, 1, 2, 3, 4] (by decide) rfl
  obtain ⟨S15, le16, up17, hc18, h⟩ := q_freezeBox h (Up.refl _ _ _)
  have hp19 : ptS tyI S15 g1 a0 := ⟨[.int .i64 a0], hc18, ⟨rfl, hra0⟩⟩
  have h := h.pick [5, 0, 1, 2, 3, 4] (by decide) rfl
  obtain ⟨S20, le21, up22, hc23, h⟩ := q_freezeBox h up17
  have hk24 : fzB S20 g2 [.func (.func 24) [].toArray [.pointer (some ⟨ga2b0, 0, none⟩)].toArray] := hc23
  refine s_makeFunc h rfl rfl rfl (by decide) (us := []) (vs := [.pointer (some ⟨g1, 0, none⟩), .pointer (some ⟨g2, 0, none⟩), .pointer (some ⟨g12, 0, none⟩), .pointer (some ⟨g14, 0, none⟩)]) rfl rfl (fun a h => ?_)
  refine s_stb h rfl rfl rfl sz_func_int_int_Suint8_ rfl rfl rfl 1 rfl (by first | decide | simp) (fun a w h => ?_)
  refine l_end ?_
  refine c_rs ?_
  refine sX h (x_ld h.k rfl Try.underlying66 rfl rfl ((h.m.cell (i := 1) rfl 0).trans rfl)) (fun a h => ?_)
  refine sMV h (fun a h => ?_)
  have h := h.pick [1, 0, 2, 3, 4] (by decide) rfl
  obtain ⟨S25, le26, up27, hc28, h⟩ := q_freezeBox h up22
  have hk29 : fzB S25 g14 [.func (.func 44) [].toArray [.pointer (some ⟨g1, 0, none⟩), .pointer (some ⟨g2, 0, none⟩), .pointer (some ⟨g12, 0, none⟩), .pointer (some ⟨g14, 0, none⟩)].toArray] := hc28
  obtain ⟨x30, h31, hf⟩ := bsome hf
  have h := h.pick [2, 3, 0, 1] (by decide) rfl
  have hX := keytree_lay_1_kf4_24_0_1_self6_ok Fu (S0 := S25) 0 (show r64 0 from ⟨by decide, by decide⟩) 0 (show r64 0 from ⟨by decide, by decide⟩) Aa1 ca1 a1 (hsa1.mono ((le16.trans le21).trans le26)) g1 a0 (hp19.mono (le21.trans le26)) ga2b0 a2b0 (hpa2b0.mono ((le16.trans le21).trans le26)) g2 (hk24.mono le26) (List.replicate n7 ([] : List UInt8)) g12 A9 n7 cs10 (hq11.mono ((le16.trans le21).trans le26)) g14 hk29 _ h31 _ (h.sub (Ls := [.box g12 24 ([.slice A9 (List.replicate n7 ([] : List UInt8)).length n7]), .row (.slice A9 (List.replicate n7 ([] : List UInt8)).length n7) 22 1 (List.replicate n7 ([] : List UInt8)).length cs10]))
  refine q_callYV (Ls := [.box g12 24 ([.slice A9 (List.replicate n7 ([] : List UInt8)).length n7]), .row (.slice A9 (List.replicate n7 ([] : List UInt8)).length n7) 22 1 (List.replicate n7 ([] : List UInt8)).length cs10]) hX h up27 rfl rfl rfl (by decide) rfl Try.func44 rfl rfl [.int .i64 0, .int .i64 0, .slice Aa1 a1.length ca1] rfl rfl (fun a w v L1 S33 hR le35 up34 h => ?_)
  obtain ⟨A36, c37, cs38, rfl, rfl, hq39, _⟩ := hR
  refine l_end ?_
  refine c_rs ?_
  refine sX h (x_ld h.k rfl Try.underlying24 rfl rfl ((h.m.cell (i := 0) rfl 0).trans rfl)) (fun a h => ?_)
  refine sAV h (fun a h => ?_)
  refine l_end ?_
  refine wp_ret ?_
  rw [← Option.some.inj hf]
  exact r_ret1 h rfl (rv_tmp h rfl) ⟨_, [.row (.slice A36 x30.length c37) 22 1 x30.length cs38], _, rfl, ⟨A36, c37, cs38, rfl, rfl, hq39, trivial⟩, rfl, up34, (h.m.pick [1, 2] _ (by decide) rfl)⟩
def keytree_Make (Fu : Nat) (a0 : List UInt8) (a1 : List UInt8) (a2 : Int) : Option ((List (List UInt8)) × Int) :=
  (path_Depth Fu a2).bind fun x2 => if x2 = 0 then (some ([], 2)) else ((keytree_keys Fu a1 ([a0])).bind fun x9 => if (!x9) = true then (some ([], 20)) else ((keytree_lay_clo2_24_0_1 Fu a2 a0 a1).bind fun x18 => some (x18, 0)))
set_option maxRecDepth 100000 in
set_option maxHeartbeats 2000000 in
theorem keytree_Make_ok (Fu : Nat) {S0 : Snap} (Aa0 : Option Addr) (ca0 : Nat) (a0 : List UInt8) (hsa0 : slS ty8 S0 Aa0 ca0 a0) (Aa1 : Option Addr) (ca1 : Nat) (a1 : List UInt8) (hsa1 : slS ty8 S0 Aa1 ca1 a1) (a2 : Int) (hra2 : r64 a2) (r : (List (List UInt8)) × Int) (hf : keytree_Make Fu a0 a1 a2 = some r) (w0 : World) (hm : Mem w0 (ownL ([] ++ [.sn S0])) ([] ++ [.sn S0]) w0) :
    Calls Try.prog 8 #[.slice Aa0 a0.length ca0, .slice Aa1 a1.length ca1, .int .i64 a2] w0 (Ret w0 S0 [] (fun v L1 S1 => ∃ (A28 : Option Addr), ∃ (c29 : Nat), ∃ (cs30 : List Value), v = .tuple #[.slice A28 r.1.length c29, .int .i64 r.2] ∧ L1 = [.row (.slice A28 r.1.length c29) 22 1 r.1.length cs30] ∧ reps (tyL ty8) S1 cs30 r.1 ∧ r64 r.2 ∧ True)) := by
  unfold keytree_Make at hf
  refine c_enterM Try.func8 rfl 20 rfl (by simp) _ hm _ rfl (fun a h => ?_)
  refine c_rs ?_
  refine s_box h rfl rfl rfl (by decide) rfl (cs := [.slice Aa1 a1.length ca1]) (by rfl) (fun a w g1 h => ?_)
  refine sAV h (fun a h => ?_)
  refine sAV h (fun a h => ?_)
  refine l_end ?_
  refine wp_seq ?_
  refine c_rs ?_
  refine sMV h (fun a h => ?_)
  obtain ⟨x2, h3, hf⟩ := bsome hf
  have hX := path_Depth_ok Fu (S0 := snapAll _) a2 hra2 _ h3 _ h.startAll
  refine q_callX hX h rfl rfl rfl (by decide) Try.func21 rfl rfl rfl (fun a w v L1 S1 hR hb1 h => ?_)
  obtain ⟨rfl, rfl, hr5, _⟩ := hR
  refine sX h (x_bin h.k rfl rfl rfl ib_eql) (fun a h => ?_)
  refine l_end ?_
  refine c_cond h rfl (fun hb => ?_) (fun hb => ?_)
  · rw [if_pos (of_decide_eq_true hb)] at hf
    refine c_rs ?_
    refine sAV h (fun a h => ?_)
    refine sAV h (fun a h => ?_)
    refine l_end ?_
    refine wp_ret ?_
    refine e_thenR ?_
    obtain rfl := Option.some.inj hf
    have h := h.mem (h.m.nilrow 22 1)
    exact r_ret2 h rfl (rv_tmp h rfl) (rv_tmp h rfl) ⟨_, [.row (.slice none ([]).length 0) 22 1 ([]).length []], _, rfl, ⟨none, 0, [], rfl, rfl, (show reps (tyL ty8) S0 [] [] from rfl), (show r64 2 from ⟨by decide, by decide⟩), trivial⟩, rfl, (Up.refl _ _ _), (h.m.pick [0, 2] _ (by decide) rfl)⟩
  · rw [if_neg (of_decide_eq_false hb)] at hf
    refine wp_skip ?_
    refine e_thenN ?_
    refine wp_seq ?_
    refine c_rs ?_
    refine sX h (x_ld h.k rfl Try.underlying22 rfl rfl ((h.m.cell (i := 0) rfl 0).trans rfl)) (fun a h => ?_)
    refine sMV h (fun a h => ?_)
    refine q_bslice (T := tyL ty8) (S := S0) h rfl rfl rfl (by decide) Try.underlying24 zi_Suint8 (by decide) (by decide) (by decide) (by decide) [.slice Aa0 a0.length ca0] rfl rfl (C := [[.slice Aa0 a0.length ca0]]) rfl (xs := [a0]) ⟨[.slice Aa0 a0.length ca0], _, rfl, ⟨_, _, rfl, hsa0⟩, rfl⟩ (by intro c hc; simp only [List.mem_cons, List.not_mem_nil, or_false] at hc; subst hc; rfl) (fun a w A7 h => ?_)
    have hb8 : reps (tyL ty8) S0 ([[.slice Aa0 a0.length ca0]] : List (List Value)).flatten [a0] := ⟨[.slice Aa0 a0.length ca0], _, rfl, ⟨_, _, rfl, hsa0⟩, rfl⟩
    obtain ⟨x9, h10, hf⟩ := bsome hf
    have hX := keytree_keys_ok Fu (S0 := snapAll _) Aa1 ca1 a1 (hsa1.mono (h.m.leAll (i := 2) rfl)) A7 1 ([a0]) (h.m.rowAll (i := 0) rfl (j := 2) rfl hb8) _ h10 _ h.startAll
    refine q_callX hX h rfl rfl rfl (by decide) Try.func22 rfl rfl rfl (fun a w v L1 S1 hR hb1 h => ?_)
    obtain ⟨rfl, rfl, _⟩ := hR
    refine sX h (x_not h.k rfl rfl) (fun a h => ?_)
    refine l_end ?_
    refine c_cond h rfl (fun hb => ?_) (fun hb => ?_)
    · rw [if_pos hb] at hf
      refine c_rs ?_
      refine sAV h (fun a h => ?_)
      refine sAV h (fun a h => ?_)
      refine l_end ?_
      refine wp_ret ?_
      refine e_thenR ?_
      obtain rfl := Option.some.inj hf
      have h := h.mem (h.m.nilrow 22 1)
      exact r_ret2 h rfl (rv_tmp h rfl) (rv_tmp h rfl) ⟨_, [.row (.slice none ([]).length 0) 22 1 ([]).length []], _, rfl, ⟨none, 0, [], rfl, rfl, (show reps (tyL ty8) S0 [] [] from rfl), (show r64 20 from ⟨by decide, by decide⟩), trivial⟩, rfl, (Up.refl _ _ _), (h.m.pick [0, 3] _ (by decide) rfl)⟩
    · rw [if_neg (by rw [hb]; decide)] at hf
      refine wp_skip ?_
      refine e_thenN ?_
      refine c_rs ?_
      refine sMV h (fun a h => ?_)
      refine sMV h (fun a h => ?_)
      have h := h.pick [1, 2, 0] (by decide) rfl
      obtain ⟨S13, le14, up15, hc16, h⟩ := q_freezeBox h (Up.refl _ _ _)
      have hp17 : ptS (tyL ty8) S13 g1 a1 := ⟨[.slice Aa1 a1.length ca1], hc16, ⟨_, _, rfl, (hsa1.mono le14)⟩⟩
      refine s_makeFunc h rfl rfl rfl (by decide) (us := []) (vs := [.pointer (some ⟨g1, 0, none⟩)]) rfl rfl (fun a h => ?_)
      obtain ⟨x18, h19, hf⟩ := bsome hf
      have hX := keytree_lay_clo2_24_0_1_ok Fu (S0 := S13) a2 hra2 Aa0 ca0 a0 (hsa0.mono le14) g1 a1 hp17 _ h19 _ (h.sub (Ls := []))
      refine q_callY (Ls := []) hX h up15 rfl rfl rfl (by decide) Try.func23 rfl rfl rfl (fun a w v L1 S21 hR le23 up22 h => ?_)
      obtain ⟨A24, c25, cs26, rfl, rfl, hq27, _⟩ := hR
      refine sAV h (fun a h => ?_)
      refine sAV h (fun a h => ?_)
      refine l_end ?_
      refine wp_ret ?_
      obtain rfl := Option.some.inj hf
      exact r_ret2 h rfl (rv_tmp h rfl) (rv_tmp h rfl) ⟨_, [.row (.slice A24 x18.length c25) 22 1 x18.length cs26], _, rfl, ⟨A24, c25, cs26, rfl, rfl, hq27, (show r64 0 from ⟨by decide, by decide⟩), trivial⟩, rfl, up22, (h.m.pick [0, 1] _ (by decide) rfl)⟩
end Go.Proofs.Ytohgmggdfmjgnaa
