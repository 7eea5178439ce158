/- Kr: Go functions as plain functions, and that they are so (written by xt.py). -/
import Derived.Test.YtnjmlihmnkbgdaaEt
import Derived.Test.YtnjmlihmnkbgdaaPj
set_option linter.unusedVariables false
set_option linter.unusedSimpArgs false
namespace Go.Proofs.Ytnjmlihmnkbgdaa
open Go.RowKit
def chatelaineref37_Known_l0 (Fu : Nat) (a1 : List Int) : Nat → Int → (List Bool) → Option ((List Bool))
  | 0, _, _ => none
  | k + 1, x8, x10 => if x8 < (a1.length : Int) then ((idx a1 x8).bind fun x22 => (ix x10.length x22).bind fun m36 => chatelaineref37_Known_l0 Fu a1 k (w64 (x8 + 1)) (x10.set m36 true)) else (some x10)
def chatelaineref37_Known_l2 (Fu : Nat) (a0 : List (Int × Int × Int)) (x47 : List Bool) : Nat → Int → (List Bool) → Option ((List Bool))
  | 0, _, _ => none
  | k + 1, x61, x63 => if x61 < (a0.length : Int) then ((((ix x47.length x61).bind fun m89 => (x47[m89]?).bind fun x95 => if x95 = true then ((ix x63.length x61).bind fun m100 => some (x63.set m100 true)) else (some x63)).bind fun x84 => ((idx a0 x61).bind fun x116 => (if x116.1 = 2 then (idx a0 x61).bind fun x138 => (ix x47.length x138.2.1).bind fun m157 => (x47[m157]?).bind fun x163 => some x163 else some false).bind fun z136 => if z136 = true then ((ix x84.length x61).bind fun m168 => some (x84.set m168 true)) else (some x84)).bind fun x111 => (idx a0 x61).bind fun x177 => (if x177.1 = 3 then (ix x47.length x61).bind fun m199 => (x47[m199]?).bind fun x205 => some x205 else some false).bind fun z197 => (if z197 = true then (idx a0 x61).bind fun x213 => (ix x47.length x213.2.1).bind fun m232 => (x47[m232]?).bind fun x238 => some x238 else some false).bind fun z211 => if z211 = true then ((idx a0 x61).bind fun x243 => (ix x111.length x243.2.2).bind fun m262 => some (x111.set m262 true)) else (some x111)).bind fun x77 => chatelaineref37_Known_l2 Fu a0 x47 k (w64 (x61 + 1)) x77) else (some x63)
def chatelaineref37_Known_l3 (Fu : Nat) (a0 : List (Int × Int × Int)) (x47 : List Bool) (x68 : List Bool) : Nat → Bool → Int → Option Bool
  | 0, _, _ => none
  | k + 1, x276, x277 => if x277 < (a0.length : Int) then (((ix x68.length x277).bind fun m285 => (x68[m285]?).bind fun x291 => (if x291 = true then (ix x47.length x277).bind fun m299 => (x47[m299]?).bind fun x305 => some (!x305) else some false).bind fun z297 => if z297 = true then (some true) else (some x276)).bind fun x284 => chatelaineref37_Known_l3 Fu a0 x47 x68 k x284 (w64 (x277 + 1))) else (some x276)
def chatelaineref37_Known_l1 (Fu : Nat) (a0 : List (Int × Int × Int)) : Nat → (List Bool) → Option ((List Bool))
  | 0, _ => none
  | k + 1, x47 => (mkN 1 (a0.length : Int)).bind fun n54 => (chatelaineref37_Known_l2 Fu a0 x47 Fu 0 (List.replicate n54 (false : Bool))).bind fun x68 => (chatelaineref37_Known_l3 Fu a0 x47 x68 Fu false 0).bind fun x279 => if (!x279) = true then (some x47) else (chatelaineref37_Known_l1 Fu a0 k x68)
def chatelaineref37_Known (Fu : Nat) (a0 : List (Int × Int × Int)) (a1 : List Int) : Option ((List Bool)) :=
  (mkN 1 (a0.length : Int)).bind fun n1 => (chatelaineref37_Known_l0 Fu a1 Fu 0 (List.replicate n1 (false : Bool))).bind fun x15 => (chatelaineref37_Known_l1 Fu a0 Fu x15).bind fun r313 => some r313
set_option maxRecDepth 100000 in
set_option maxHeartbeats 2000000 in
theorem chatelaineref37_Known_ok (Fu : Nat) {S0 : Snap} (Aa0 : Option Addr) (ca0 : Nat) (a0 : List (Int × Int × Int)) (hsa0 : slS (tyP tyI (tyP tyI tyI)) S0 Aa0 ca0 a0) (Aa1 : Option Addr) (ca1 : Nat) (a1 : List Int) (hsa1 : slS tyI S0 Aa1 ca1 a1) (r : (List Bool)) (hf : chatelaineref37_Known Fu a0 a1 = some r) (w0 : World) (hm : Mem w0 (ownL ([] ++ [.sn S0])) ([] ++ [.sn S0]) w0) :
    Calls Try.prog 9 #[.slice Aa0 a0.length ca0, .slice Aa1 a1.length ca1] w0 (Ret w0 S0 [] (fun v L1 S1 => ∃ (A315 : Option Addr), ∃ (c316 : Nat), ∃ (cs317 : List Value), v = .slice A315 r.length c316 ∧ L1 = [.row (.slice A315 r.length c316) 4 1 r.length cs317] ∧ reps tyB S1 cs317 r ∧ True)) := by
  unfold chatelaineref37_Known at hf
  refine c_enterM Try.func9 rfl 111 rfl (by simp) _ hm _ rfl (fun a h => ?_)
  refine c_rs ?_ -- region 0
  refine s_assign h rfl _ rfl rfl (by decide) rfl (fun a h => ?_)
  refine l_end ?_
  refine c_rs ?_ -- region 1
  refine s_move h rfl _ rfl rfl (by decide) rfl (fun a h => ?_)
  refine s_x h rfl rfl (by decide) (x_len h.k rfl Try.underlying22 rfl) (fun a h => ?_)
  obtain ⟨n1, h2, hf⟩ := bsome hf
  refine q_make (T := tyB) (S := S0) h rfl rfl rfl (by decide) Try.underlying33 zb_bool rfl rfl (q := false) rfl rfl rfl h2 (fun a w A3 cs4 hq5 h => ?_)
  refine s_assign h rfl _ rfl rfl (by decide) rfl (fun a h => ?_)
  refine l_end ?_
  refine wp_seq ?_
  refine c_rs ?_ -- region 2
  refine s_assign h rfl _ rfl rfl (by decide) rfl (fun a h => ?_)
  refine l_end ?_
  obtain ⟨o6, hl7, hf⟩ := bsome hf
  refine c_fin (fun a w => ∃ (x15 : List Bool), ∃ (A16 : Option Addr), ∃ (c17 : Nat), ∃ (cs18 : List Value), x15 = o6 ∧ reps tyB S0 cs18 x15 ∧ St 111 w0 (ownL ([] ++ [.sn S0])) [(0, .slice Aa0 a0.length ca0), (5, .slice A16 x15.length c17)] [.row (.slice A16 x15.length c17) 4 1 x15.length cs18, .sn S0] a w) ?_ ?_
  · refine wp_block ?_
    refine c_loop (fun m21 a w => ∃ (x8 : Int), ∃ (x10 : List Bool), ∃ (A11 : Option Addr), ∃ (c12 : Nat), ∃ (cs13 : List Value), chatelaineref37_Known_l0 Fu a1 m21 x8 x10 = some o6 ∧ r64 x8 ∧ reps tyB S0 cs13 x10 ∧ St 111 w0 (ownL ([] ++ [.sn S0])) [(0, .slice Aa0 a0.length ca0), (1, .slice Aa1 a1.length ca1), (5, .slice A11 x10.length c12), (6, .int .i64 x8)] [.row (.slice A11 x10.length c12) 4 1 x10.length cs13, .sn S0] a w) Fu ⟨0, (List.replicate n1 (false : Bool)), A3, n1, cs4, hl7, (show r64 0 from ⟨by decide, by decide⟩), hq5, h.has (by exact ⟨rfl, rfl, rfl, rfl, trivial⟩)⟩ (fun m21 a w hI => ?_)
    obtain ⟨x8, x10, A11, c12, cs13, hl20, hr9, hq14, h⟩ := hI
    obtain _ | m21 := m21
    · rw [chatelaineref37_Known_l0] at hl20; cases hl20
    rw [chatelaineref37_Known_l0] at hl20
    refine wp_seq ?_
    refine c_rs ?_ -- region 3
    refine s_move h rfl _ rfl rfl (by decide) rfl (fun a h => ?_)
    refine s_move h rfl _ rfl rfl (by decide) rfl (fun a h => ?_)
    refine s_x h rfl rfl (by decide) (x_len h.k rfl Try.underlying23 rfl) (fun a h => ?_)
    refine s_x h rfl rfl (by decide) (x_bin h.k rfl rfl rfl ib_lss) (fun a h => ?_)
    refine l_end ?_
    refine c_cond h rfl (fun hb => ?_) (fun hb => ?_)
    · rw [if_pos (of_decide_eq_true hb)] at hl20
      refine wp_skip ?_
      refine e_thenN ?_
      refine wp_seq ?_
      refine wp_block ?_
      refine c_r ?_ -- region 5
      refine s_move h rfl _ rfl rfl (by decide) rfl (fun a h => ?_)
      refine s_move h rfl _ rfl rfl (by decide) rfl (fun a h => ?_)
      refine s_move h rfl _ rfl rfl (by decide) rfl (fun a h => ?_)
      obtain ⟨x22, h26, hl20⟩ := bsome hl20
      obtain ⟨m23, hi27, hm28, hx29⟩ := idx_some h26
      obtain ⟨b24, off25, k30, hA31, hu32, hc33⟩ := (hsa1).at1 rfl hx29 (h.m.snOK (i := 1) rfl)
      obtain ⟨e35, hr34⟩ := hu32
      cases e35
      refine s_x h rfl rfl (by decide) (x_iaddrE h.k rfl Try.underlying23 sz_int hA31 rfl rfl hi27 hm28) (fun a h => ?_)
      refine s_x h rfl rfl (by decide) (x_ld h.k rfl Try.underlying3 rfl rfl (hc33 _ (h.m.snOK (i := 1) rfl))) (fun a h => ?_)
      obtain ⟨m36, h37, hl20⟩ := bsome hl20
      obtain ⟨hi38, hm39⟩ := ix_some h37
      obtain ⟨g41, hA40⟩ := h.m.rowHead (i := 0) rfl (Nat.lt_of_le_of_lt (Nat.zero_le _) hm39)
      refine s_x h rfl rfl (by decide) (x_iaddrE h.k rfl Try.underlying33 sz_bool hA40 rfl rfl hi38 hm39) (fun a h => ?_)
      refine q_setRow (T := tyB) (q := true) h rfl rfl rfl sz_bool hA40 rfl rfl 0 rfl rfl hq14 rfl (by first | exact hm39 | simpa using hm39) (fun a w cs42 hq43 h => ?_)
      have hl44 : x10.length = (x10.set m36 true).length := by simp only [List.length_set]
      rw [hl44] at h
      refine l_nil ?_
      refine e_blkN ?_
      refine e_thenN ?_
      refine c_r ?_ -- region 4
      refine s_move h rfl _ rfl rfl (by decide) rfl (fun a h => ?_)
      refine s_x h rfl rfl (by decide) (x_bin h.k rfl rfl rfl (ib_add rfl)) (fun a h => ?_)
      refine s_assign h rfl _ rfl rfl (by decide) rfl (fun a h => ?_)
      refine l_nil ?_
      exact e_thenN ⟨m21, Nat.lt_succ_self _, w64 (x8 + 1), (x10.set m36 true), A11, c12, cs42, hl20, (w64_r _), hq43, h.has (by exact ⟨rfl, rfl, rfl, rfl, trivial⟩)⟩
    · rw [if_neg (of_decide_eq_false hb)] at hl20
      refine wp_exit ?_
      refine e_thenX ?_
      refine e_thenX ?_
      refine e_blkX ?_
      refine e_thenN ?_
      exact ⟨x10, A11, c12, cs13, (Option.some.inj hl20), hq14, h.has (by exact ⟨rfl, rfl, trivial⟩)⟩
  · rintro a w ⟨x15, A16, c17, cs18, rfl, hq19, h⟩
    refine e_thenN ?_
    obtain ⟨o45, hl46, hf⟩ := bsome hf
    refine c_fin (fun _ _ => False) ?_ ?_
    · refine wp_block ?_
      refine c_loop (fun m53 a w => ∃ (x47 : List Bool), ∃ (A48 : Option Addr), ∃ (c49 : Nat), ∃ (cs50 : List Value), chatelaineref37_Known_l1 Fu a0 m53 x47 = some o45 ∧ reps tyB S0 cs50 x47 ∧ St 111 w0 (ownL ([] ++ [.sn S0])) [(0, .slice Aa0 a0.length ca0), (5, .slice A48 x47.length c49)] [.row (.slice A48 x47.length c49) 4 1 x47.length cs50, .sn S0] a w) Fu ⟨x15, A16, c17, cs18, hl46, hq19, h.has (by exact ⟨rfl, rfl, trivial⟩)⟩ (fun m53 a w hI => ?_)
      obtain ⟨x47, A48, c49, cs50, hl52, hq51, h⟩ := hI
      obtain _ | m53 := m53
      · rw [chatelaineref37_Known_l1] at hl52; cases hl52
      rw [chatelaineref37_Known_l1] at hl52
      refine wp_block ?_
      refine c_rs ?_ -- region 6
      refine s_move h rfl _ rfl rfl (by decide) rfl (fun a h => ?_)
      refine s_x h rfl rfl (by decide) (x_len h.k rfl Try.underlying22 rfl) (fun a h => ?_)
      obtain ⟨n54, h55, hl52⟩ := bsome hl52
      refine q_make (T := tyB) (S := S0) h rfl rfl rfl (by decide) Try.underlying33 zb_bool rfl rfl (q := false) rfl rfl rfl h55 (fun a w A56 cs57 hq58 h => ?_)
      refine s_assign h rfl _ rfl rfl (by decide) rfl (fun a h => ?_)
      refine l_end ?_
      refine c_rs ?_ -- region 7
      refine s_assign h rfl _ rfl rfl (by decide) rfl (fun a h => ?_)
      refine l_end ?_
      refine wp_seq ?_
      refine c_rs ?_ -- region 8
      refine s_assign h rfl _ rfl rfl (by decide) rfl (fun a h => ?_)
      refine l_end ?_
      obtain ⟨o59, hl60, hl52⟩ := bsome hl52
      refine c_fin (fun a w => ∃ (x68 : List Bool), ∃ (A69 : Option Addr), ∃ (c70 : Nat), ∃ (cs71 : List Value), x68 = o59 ∧ reps tyB S0 cs71 x68 ∧ St 111 w0 (ownL ([] ++ [.sn S0])) [(0, .slice Aa0 a0.length ca0), (5, .slice A48 x47.length c49), (7, .slice A69 x68.length c70), (8, .bool false)] [.row (.slice A48 x47.length c49) 4 1 x47.length cs50, .row (.slice A69 x68.length c70) 4 1 x68.length cs71, .sn S0] a w) ?_ ?_
      · refine wp_block ?_
        have h := h.pick [1, 0, 2] (by decide) rfl
        refine c_loop (fun m74 a w => ∃ (x61 : Int), ∃ (x63 : List Bool), ∃ (A64 : Option Addr), ∃ (c65 : Nat), ∃ (cs66 : List Value), chatelaineref37_Known_l2 Fu a0 x47 m74 x61 x63 = some o59 ∧ r64 x61 ∧ reps tyB S0 cs66 x63 ∧ St 111 w0 (ownL ([] ++ [.sn S0])) [(0, .slice Aa0 a0.length ca0), (5, .slice A48 x47.length c49), (7, .slice A64 x63.length c65), (8, .bool false), (9, .int .i64 x61)] [.row (.slice A48 x47.length c49) 4 1 x47.length cs50, .row (.slice A64 x63.length c65) 4 1 x63.length cs66, .sn S0] a w) Fu ⟨0, (List.replicate n54 (false : Bool)), A56, n54, cs57, hl60, (show r64 0 from ⟨by decide, by decide⟩), hq58, h.has (by exact ⟨rfl, rfl, rfl, rfl, rfl, trivial⟩)⟩ (fun m74 a w hI => ?_)
        obtain ⟨x61, x63, A64, c65, cs66, hl73, hr62, hq67, h⟩ := hI
        obtain _ | m74 := m74
        · rw [chatelaineref37_Known_l2] at hl73; cases hl73
        rw [chatelaineref37_Known_l2] at hl73
        refine wp_seq ?_
        refine c_rs ?_ -- region 9
        refine s_move h rfl _ rfl rfl (by decide) rfl (fun a h => ?_)
        refine s_move h rfl _ rfl rfl (by decide) rfl (fun a h => ?_)
        refine s_x h rfl rfl (by decide) (x_len h.k rfl Try.underlying22 rfl) (fun a h => ?_)
        refine s_x h rfl rfl (by decide) (x_bin h.k rfl rfl rfl ib_lss) (fun a h => ?_)
        refine l_end ?_
        refine c_cond h rfl (fun hb => ?_) (fun hb => ?_)
        · rw [if_pos (of_decide_eq_true hb)] at hl73
          refine wp_skip ?_
          refine e_thenN ?_
          obtain ⟨o75, hc76, hl73⟩ := bsome hl73
          refine c_cut (fun a w => ∃ (x77 : List Bool), ∃ (A78 : Option Addr), ∃ (c79 : Nat), ∃ (cs80 : List Value), x77 = o75 ∧ reps tyB S0 cs80 x77 ∧ St 111 w0 (ownL ([] ++ [.sn S0])) [(0, .slice Aa0 a0.length ca0), (5, .slice A48 x47.length c49), (7, .slice A78 x77.length c79), (8, .bool false), (9, .int .i64 x61)] [.row (.slice A48 x47.length c49) 4 1 x47.length cs50, .row (.slice A78 x77.length c79) 4 1 x77.length cs80, .sn S0] a w) ?_ ?_
          · refine wp_block ?_
            obtain ⟨o82, hc83, hc76⟩ := bsome hc76
            refine c_cut (fun a w => ∃ (x84 : List Bool), ∃ (A85 : Option Addr), ∃ (c86 : Nat), ∃ (cs87 : List Value), x84 = o82 ∧ reps tyB S0 cs87 x84 ∧ St 111 w0 (ownL ([] ++ [.sn S0])) [(0, .slice Aa0 a0.length ca0), (5, .slice A48 x47.length c49), (7, .slice A85 x84.length c86), (8, .bool false), (9, .int .i64 x61)] [.row (.slice A48 x47.length c49) 4 1 x47.length cs50, .row (.slice A85 x84.length c86) 4 1 x84.length cs87, .sn S0] a w) ?_ ?_
            · refine c_rs ?_ -- region 11
              refine s_move h rfl _ rfl rfl (by decide) rfl (fun a h => ?_)
              refine s_move h rfl _ rfl rfl (by decide) rfl (fun a h => ?_)
              obtain ⟨m89, h90, hc83⟩ := bsome hc83
              obtain ⟨hi91, hm92⟩ := ix_some h90
              obtain ⟨g94, hA93⟩ := h.m.rowHead (i := 0) rfl (Nat.lt_of_le_of_lt (Nat.zero_le _) hm92)
              refine s_x h rfl rfl (by decide) (x_iaddrE h.k rfl Try.underlying33 sz_bool hA93 rfl rfl hi91 hm92) (fun a h => ?_)
              obtain ⟨x95, h96, hc83⟩ := bsome hc83
              obtain ⟨u97, hv98, hu99⟩ := (hq51).cell rfl h96
              cases hu99
              refine s_x h rfl rfl (by decide) (x_ld h.k rfl Try.underlying4 rfl rfl (h.m.cellRowE (i := 0) rfl hA93 _ (by rw [Nat.mul_one]; exact hv98))) (fun a h => ?_)
              refine l_end ?_
              refine c_cond h rfl (fun hb => ?_) (fun hb => ?_)
              · rw [if_pos hb] at hc83
                refine c_r ?_ -- region 12
                refine s_move h rfl _ rfl rfl (by decide) rfl (fun a h => ?_)
                refine s_move h rfl _ rfl rfl (by decide) rfl (fun a h => ?_)
                obtain ⟨m100, h101, hc83⟩ := bsome hc83
                obtain ⟨hi102, hm103⟩ := ix_some h101
                obtain ⟨g105, hA104⟩ := h.m.rowHead (i := 1) rfl (Nat.lt_of_le_of_lt (Nat.zero_le _) hm103)
                refine s_x h rfl rfl (by decide) (x_iaddrE h.k rfl Try.underlying33 sz_bool hA104 rfl rfl hi102 hm103) (fun a h => ?_)
                refine q_setRow (T := tyB) (q := true) h rfl rfl rfl sz_bool hA104 rfl rfl 1 rfl rfl hq67 rfl (by first | exact hm103 | simpa using hm103) (fun a w cs106 hq107 h => ?_)
                have hl108 : x63.length = (x63.set m100 true).length := by simp only [List.length_set]
                rw [hl108] at h
                refine l_nil ?_
                refine e_thenN ?_
                exact ⟨(x63.set m100 true), A64, c65, cs106, (Option.some.inj hc83), hq107, h.has (by exact ⟨rfl, rfl, rfl, rfl, rfl, trivial⟩)⟩
              · rw [if_neg (by rw [hb]; decide)] at hc83
                refine wp_skip ?_
                refine e_thenN ?_
                exact ⟨x63, A64, c65, cs66, (Option.some.inj hc83), hq67, h.has (by exact ⟨rfl, rfl, rfl, rfl, rfl, trivial⟩)⟩
            · rintro a w ⟨x84, A85, c86, cs87, rfl, hq88, h⟩
              obtain ⟨o109, hc110, hc76⟩ := bsome hc76
              refine c_cut (fun a w => ∃ (x111 : List Bool), ∃ (A112 : Option Addr), ∃ (c113 : Nat), ∃ (cs114 : List Value), x111 = o109 ∧ reps tyB S0 cs114 x111 ∧ St 111 w0 (ownL ([] ++ [.sn S0])) [(0, .slice Aa0 a0.length ca0), (5, .slice A48 x47.length c49), (7, .slice A112 x111.length c113), (8, .bool false), (9, .int .i64 x61)] [.row (.slice A48 x47.length c49) 4 1 x47.length cs50, .row (.slice A112 x111.length c113) 4 1 x111.length cs114, .sn S0] a w) ?_ ?_
              · refine c_rs ?_ -- region 13
                refine s_move h rfl _ rfl rfl (by decide) rfl (fun a h => ?_)
                refine s_move h rfl _ rfl rfl (by decide) rfl (fun a h => ?_)
                obtain ⟨x116, h120, hc110⟩ := bsome hc110
                obtain ⟨m117, hi121, hm122, hx123⟩ := idx_some h120
                obtain ⟨b118, off119, k124, hA125, hu126, hc127⟩ := (hsa0).at (by decide) hx123 (h.m.snOK (i := 2) rfl)
                obtain ⟨k128, k129, rfl, ⟨rfl, hr130⟩, ⟨k131, k132, rfl, ⟨rfl, hr133⟩, ⟨rfl, hr134⟩⟩⟩ := hu126
                refine s_x h rfl rfl (by decide) (x_iaddrE h.k rfl Try.underlying22 sz_api_Term hA125 rfl rfl hi121 hm122) (fun a h => ?_)
                refine s_x h rfl rfl (by decide) (x_faddr h.k rfl Try.underlying46 rfl sz_int rfl) (fun a h => ?_)
                refine s_x h rfl rfl (by decide) (x_ld h.k rfl Try.underlying3 rfl rfl (hc127 _ (h.m.snOK (i := 2) rfl) 0 _ rfl)) (fun a h => ?_)
                refine s_x h rfl rfl (by decide) (x_bin h.k rfl rfl rfl ib_eql) (fun a h => ?_)
                refine s_move h rfl _ rfl rfl (by decide) rfl (fun a h => ?_)
                obtain ⟨z136, hz135, hc110⟩ := bsome hc110
                refine q_grp h 9 (t := 48) 57 z136 rfl (fun hB6 => ?_) (fun hB6 => ?_) (fun a w h => ?_)
                · rw [if_pos (of_decide_eq_true hB6)] at hz135
                  refine g_yes h rfl rfl rfl rfl hB6 ?_
                  refine s_move h rfl _ rfl rfl (by decide) rfl (fun a h => ?_)
                  refine g_yes h rfl rfl rfl rfl hB6 ?_
                  refine s_move h rfl _ rfl rfl (by decide) rfl (fun a h => ?_)
                  refine g_yes h rfl rfl rfl rfl hB6 ?_
                  refine s_move h rfl _ rfl rfl (by decide) rfl (fun a h => ?_)
                  refine g_yes h rfl rfl rfl rfl hB6 ?_
                  obtain ⟨x138, h142, hz135⟩ := bsome hz135
                  obtain ⟨m139, hi143, hm144, hx145⟩ := idx_some h142
                  obtain ⟨b140, off141, k146, hA147, hu148, hc149⟩ := (hsa0).at (by decide) hx145 (h.m.snOK (i := 2) rfl)
                  obtain ⟨k150, k151, rfl, ⟨rfl, hr152⟩, ⟨k153, k154, rfl, ⟨rfl, hr155⟩, ⟨rfl, hr156⟩⟩⟩ := hu148
                  refine s_x h rfl rfl (by decide) (x_iaddrE h.k rfl Try.underlying22 sz_api_Term hA147 rfl rfl hi143 hm144) (fun a h => ?_)
                  refine g_yes h rfl rfl rfl rfl hB6 ?_
                  refine s_x h rfl rfl (by decide) (x_faddr h.k rfl Try.underlying46 rfl sz_int rfl) (fun a h => ?_)
                  refine g_yes h rfl rfl rfl rfl hB6 ?_
                  refine s_x h rfl rfl (by decide) (x_ld h.k rfl Try.underlying3 rfl rfl (hc149 _ (h.m.snOK (i := 2) rfl) 1 _ rfl)) (fun a h => ?_)
                  refine g_yes h rfl rfl rfl rfl hB6 ?_
                  obtain ⟨m157, h158, hz135⟩ := bsome hz135
                  obtain ⟨hi159, hm160⟩ := ix_some h158
                  obtain ⟨g162, hA161⟩ := h.m.rowHead (i := 0) rfl (Nat.lt_of_le_of_lt (Nat.zero_le _) hm160)
                  refine s_x h rfl rfl (by decide) (x_iaddrE h.k rfl Try.underlying33 sz_bool hA161 rfl rfl hi159 hm160) (fun a h => ?_)
                  refine g_yes h rfl rfl rfl rfl hB6 ?_
                  obtain ⟨x163, h164, hz135⟩ := bsome hz135
                  obtain ⟨u165, hv166, hu167⟩ := (hq51).cell rfl h164
                  cases hu167
                  refine s_x h rfl rfl (by decide) (x_ld h.k rfl Try.underlying4 rfl rfl (h.m.cellRowE (i := 0) rfl hA161 _ (by rw [Nat.mul_one]; exact hv166))) (fun a h => ?_)
                  refine s_x h rfl rfl (by decide) (x_pick (u' := undef) h.k rfl rfl (fun _ => rfl) (fun hh => absurd (hB6.symm.trans hh) (by decide))) (fun a h => ?_)
                  exact (h.mid 8 rfl).val (by rw [Option.some.inj hz135])
                · refine g_no h rfl rfl rfl rfl hB6 rfl (by decide) (fun a h => ?_)
                  refine g_no h rfl rfl rfl rfl hB6 rfl (by decide) (fun a h => ?_)
                  refine g_no h rfl rfl rfl rfl hB6 rfl (by decide) (fun a h => ?_)
                  refine g_no h rfl rfl rfl rfl hB6 rfl (by decide) (fun a h => ?_)
                  refine g_no h rfl rfl rfl rfl hB6 rfl (by decide) (fun a h => ?_)
                  refine g_no h rfl rfl rfl rfl hB6 rfl (by decide) (fun a h => ?_)
                  refine g_no h rfl rfl rfl rfl hB6 rfl (by decide) (fun a h => ?_)
                  refine g_no h rfl rfl rfl rfl hB6 rfl (by decide) (fun a h => ?_)
                  rw [if_neg (of_decide_eq_false hB6)] at hz135
                  refine s_x h rfl rfl (by decide) (x_pick (u' := undef) h.k rfl rfl (fun hh => absurd (hB6.symm.trans hh) (by decide)) (fun _ => rfl)) (fun a h => ?_)
                  exact (h.mid 8 rfl).val (by rw [Option.some.inj hz135])
                refine l_end ?_
                refine c_cond h rfl (fun hb => ?_) (fun hb => ?_)
                · rw [if_pos hb] at hc110
                  refine c_r ?_ -- region 14
                  refine s_move h rfl _ rfl rfl (by decide) rfl (fun a h => ?_)
                  refine s_move h rfl _ rfl rfl (by decide) rfl (fun a h => ?_)
                  obtain ⟨m168, h169, hc110⟩ := bsome hc110
                  obtain ⟨hi170, hm171⟩ := ix_some h169
                  obtain ⟨g173, hA172⟩ := h.m.rowHead (i := 1) rfl (Nat.lt_of_le_of_lt (Nat.zero_le _) hm171)
                  refine s_x h rfl rfl (by decide) (x_iaddrE h.k rfl Try.underlying33 sz_bool hA172 rfl rfl hi170 hm171) (fun a h => ?_)
                  refine q_setRow (T := tyB) (q := true) h rfl rfl rfl sz_bool hA172 rfl rfl 1 rfl rfl hq88 rfl (by first | exact hm171 | simpa using hm171) (fun a w cs174 hq175 h => ?_)
                  have hl176 : x84.length = (x84.set m168 true).length := by simp only [List.length_set]
                  rw [hl176] at h
                  refine l_nil ?_
                  refine e_thenN ?_
                  exact ⟨(x84.set m168 true), A85, c86, cs174, (Option.some.inj hc110), hq175, h.has (by exact ⟨rfl, rfl, rfl, rfl, rfl, trivial⟩)⟩
                · rw [if_neg (by rw [hb]; decide)] at hc110
                  refine wp_skip ?_
                  refine e_thenN ?_
                  exact ⟨x84, A85, c86, cs87, (Option.some.inj hc110), hq88, h.has (by exact ⟨rfl, rfl, rfl, rfl, rfl, trivial⟩)⟩
              · rintro a w ⟨x111, A112, c113, cs114, rfl, hq115, h⟩
                refine c_rs ?_ -- region 15
                refine s_move h rfl _ rfl rfl (by decide) rfl (fun a h => ?_)
                refine s_move h rfl _ rfl rfl (by decide) rfl (fun a h => ?_)
                obtain ⟨x177, h181, hc76⟩ := bsome hc76
                obtain ⟨m178, hi182, hm183, hx184⟩ := idx_some h181
                obtain ⟨b179, off180, k185, hA186, hu187, hc188⟩ := (hsa0).at (by decide) hx184 (h.m.snOK (i := 2) rfl)
                obtain ⟨k189, k190, rfl, ⟨rfl, hr191⟩, ⟨k192, k193, rfl, ⟨rfl, hr194⟩, ⟨rfl, hr195⟩⟩⟩ := hu187
                refine s_x h rfl rfl (by decide) (x_iaddrE h.k rfl Try.underlying22 sz_api_Term hA186 rfl rfl hi182 hm183) (fun a h => ?_)
                refine s_x h rfl rfl (by decide) (x_faddr h.k rfl Try.underlying46 rfl sz_int rfl) (fun a h => ?_)
                refine s_x h rfl rfl (by decide) (x_ld h.k rfl Try.underlying3 rfl rfl (hc188 _ (h.m.snOK (i := 2) rfl) 0 _ rfl)) (fun a h => ?_)
                refine s_x h rfl rfl (by decide) (x_bin h.k rfl rfl rfl ib_eql) (fun a h => ?_)
                refine s_move h rfl _ rfl rfl (by decide) rfl (fun a h => ?_)
                obtain ⟨z197, hz196, hc76⟩ := bsome hc76
                refine q_grp h 5 (t := 67) 72 z197 rfl (fun hB6 => ?_) (fun hB6 => ?_) (fun a w h => ?_)
                · rw [if_pos (of_decide_eq_true hB6)] at hz196
                  refine g_yes h rfl rfl rfl rfl hB6 ?_
                  refine s_move h rfl _ rfl rfl (by decide) rfl (fun a h => ?_)
                  refine g_yes h rfl rfl rfl rfl hB6 ?_
                  refine s_move h rfl _ rfl rfl (by decide) rfl (fun a h => ?_)
                  refine g_yes h rfl rfl rfl rfl hB6 ?_
                  obtain ⟨m199, h200, hz196⟩ := bsome hz196
                  obtain ⟨hi201, hm202⟩ := ix_some h200
                  obtain ⟨g204, hA203⟩ := h.m.rowHead (i := 0) rfl (Nat.lt_of_le_of_lt (Nat.zero_le _) hm202)
                  refine s_x h rfl rfl (by decide) (x_iaddrE h.k rfl Try.underlying33 sz_bool hA203 rfl rfl hi201 hm202) (fun a h => ?_)
                  refine g_yes h rfl rfl rfl rfl hB6 ?_
                  obtain ⟨x205, h206, hz196⟩ := bsome hz196
                  obtain ⟨u207, hv208, hu209⟩ := (hq51).cell rfl h206
                  cases hu209
                  refine s_x h rfl rfl (by decide) (x_ld h.k rfl Try.underlying4 rfl rfl (h.m.cellRowE (i := 0) rfl hA203 _ (by rw [Nat.mul_one]; exact hv208))) (fun a h => ?_)
                  refine s_x h rfl rfl (by decide) (x_pick (u' := undef) h.k rfl rfl (fun _ => rfl) (fun hh => absurd (hB6.symm.trans hh) (by decide))) (fun a h => ?_)
                  exact (h.mid 4 rfl).val (by rw [Option.some.inj hz196])
                · refine g_no h rfl rfl rfl rfl hB6 rfl (by decide) (fun a h => ?_)
                  refine g_no h rfl rfl rfl rfl hB6 rfl (by decide) (fun a h => ?_)
                  refine g_no h rfl rfl rfl rfl hB6 rfl (by decide) (fun a h => ?_)
                  refine g_no h rfl rfl rfl rfl hB6 rfl (by decide) (fun a h => ?_)
                  rw [if_neg (of_decide_eq_false hB6)] at hz196
                  refine s_x h rfl rfl (by decide) (x_pick (u' := undef) h.k rfl rfl (fun hh => absurd (hB6.symm.trans hh) (by decide)) (fun _ => rfl)) (fun a h => ?_)
                  exact (h.mid 4 rfl).val (by rw [Option.some.inj hz196])
                refine s_move h rfl _ rfl rfl (by decide) rfl (fun a h => ?_)
                obtain ⟨z211, hz210, hc76⟩ := bsome hc76
                refine q_grp h 9 (t := 73) 82 z211 rfl (fun hB12 => ?_) (fun hB12 => ?_) (fun a w h => ?_)
                · rw [if_pos hB12] at hz210
                  refine g_yes h rfl rfl rfl rfl hB12 ?_
                  refine s_move h rfl _ rfl rfl (by decide) rfl (fun a h => ?_)
                  refine g_yes h rfl rfl rfl rfl hB12 ?_
                  refine s_move h rfl _ rfl rfl (by decide) rfl (fun a h => ?_)
                  refine g_yes h rfl rfl rfl rfl hB12 ?_
                  refine s_move h rfl _ rfl rfl (by decide) rfl (fun a h => ?_)
                  refine g_yes h rfl rfl rfl rfl hB12 ?_
                  obtain ⟨x213, h217, hz210⟩ := bsome hz210
                  obtain ⟨m214, hi218, hm219, hx220⟩ := idx_some h217
                  obtain ⟨b215, off216, k221, hA222, hu223, hc224⟩ := (hsa0).at (by decide) hx220 (h.m.snOK (i := 2) rfl)
                  obtain ⟨k225, k226, rfl, ⟨rfl, hr227⟩, ⟨k228, k229, rfl, ⟨rfl, hr230⟩, ⟨rfl, hr231⟩⟩⟩ := hu223
                  refine s_x h rfl rfl (by decide) (x_iaddrE h.k rfl Try.underlying22 sz_api_Term hA222 rfl rfl hi218 hm219) (fun a h => ?_)
                  refine g_yes h rfl rfl rfl rfl hB12 ?_
                  refine s_x h rfl rfl (by decide) (x_faddr h.k rfl Try.underlying46 rfl sz_int rfl) (fun a h => ?_)
                  refine g_yes h rfl rfl rfl rfl hB12 ?_
                  refine s_x h rfl rfl (by decide) (x_ld h.k rfl Try.underlying3 rfl rfl (hc224 _ (h.m.snOK (i := 2) rfl) 1 _ rfl)) (fun a h => ?_)
                  refine g_yes h rfl rfl rfl rfl hB12 ?_
                  obtain ⟨m232, h233, hz210⟩ := bsome hz210
                  obtain ⟨hi234, hm235⟩ := ix_some h233
                  obtain ⟨g237, hA236⟩ := h.m.rowHead (i := 0) rfl (Nat.lt_of_le_of_lt (Nat.zero_le _) hm235)
                  refine s_x h rfl rfl (by decide) (x_iaddrE h.k rfl Try.underlying33 sz_bool hA236 rfl rfl hi234 hm235) (fun a h => ?_)
                  refine g_yes h rfl rfl rfl rfl hB12 ?_
                  obtain ⟨x238, h239, hz210⟩ := bsome hz210
                  obtain ⟨u240, hv241, hu242⟩ := (hq51).cell rfl h239
                  cases hu242
                  refine s_x h rfl rfl (by decide) (x_ld h.k rfl Try.underlying4 rfl rfl (h.m.cellRowE (i := 0) rfl hA236 _ (by rw [Nat.mul_one]; exact hv241))) (fun a h => ?_)
                  refine s_x h rfl rfl (by decide) (x_pick (u' := undef) h.k rfl rfl (fun _ => rfl) (fun hh => absurd (hB12.symm.trans hh) (by decide))) (fun a h => ?_)
                  exact (h.mid 8 rfl).val (by rw [Option.some.inj hz210])
                · refine g_no h rfl rfl rfl rfl hB12 rfl (by decide) (fun a h => ?_)
                  refine g_no h rfl rfl rfl rfl hB12 rfl (by decide) (fun a h => ?_)
                  refine g_no h rfl rfl rfl rfl hB12 rfl (by decide) (fun a h => ?_)
                  refine g_no h rfl rfl rfl rfl hB12 rfl (by decide) (fun a h => ?_)
                  refine g_no h rfl rfl rfl rfl hB12 rfl (by decide) (fun a h => ?_)
                  refine g_no h rfl rfl rfl rfl hB12 rfl (by decide) (fun a h => ?_)
                  refine g_no h rfl rfl rfl rfl hB12 rfl (by decide) (fun a h => ?_)
                  refine g_no h rfl rfl rfl rfl hB12 rfl (by decide) (fun a h => ?_)
                  rw [if_neg (by rw [hB12]; decide)] at hz210
                  refine s_x h rfl rfl (by decide) (x_pick (u' := undef) h.k rfl rfl (fun hh => absurd (hB12.symm.trans hh) (by decide)) (fun _ => rfl)) (fun a h => ?_)
                  exact (h.mid 8 rfl).val (by rw [Option.some.inj hz210])
                refine l_end ?_
                refine c_cond h rfl (fun hb => ?_) (fun hb => ?_)
                · rw [if_pos hb] at hc76
                  refine c_r ?_ -- region 16
                  refine s_move h rfl _ rfl rfl (by decide) rfl (fun a h => ?_)
                  refine s_move h rfl _ rfl rfl (by decide) rfl (fun a h => ?_)
                  refine s_move h rfl _ rfl rfl (by decide) rfl (fun a h => ?_)
                  obtain ⟨x243, h247, hc76⟩ := bsome hc76
                  obtain ⟨m244, hi248, hm249, hx250⟩ := idx_some h247
                  obtain ⟨b245, off246, k251, hA252, hu253, hc254⟩ := (hsa0).at (by decide) hx250 (h.m.snOK (i := 2) rfl)
                  obtain ⟨k255, k256, rfl, ⟨rfl, hr257⟩, ⟨k258, k259, rfl, ⟨rfl, hr260⟩, ⟨rfl, hr261⟩⟩⟩ := hu253
                  refine s_x h rfl rfl (by decide) (x_iaddrE h.k rfl Try.underlying22 sz_api_Term hA252 rfl rfl hi248 hm249) (fun a h => ?_)
                  refine s_x h rfl rfl (by decide) (x_faddr h.k rfl Try.underlying46 rfl sz_int rfl) (fun a h => ?_)
                  refine s_x h rfl rfl (by decide) (x_ld h.k rfl Try.underlying3 rfl rfl (hc254 _ (h.m.snOK (i := 2) rfl) 2 _ rfl)) (fun a h => ?_)
                  obtain ⟨m262, h263, hc76⟩ := bsome hc76
                  obtain ⟨hi264, hm265⟩ := ix_some h263
                  obtain ⟨g267, hA266⟩ := h.m.rowHead (i := 1) rfl (Nat.lt_of_le_of_lt (Nat.zero_le _) hm265)
                  refine s_x h rfl rfl (by decide) (x_iaddrE h.k rfl Try.underlying33 sz_bool hA266 rfl rfl hi264 hm265) (fun a h => ?_)
                  refine q_setRow (T := tyB) (q := true) h rfl rfl rfl sz_bool hA266 rfl rfl 1 rfl rfl hq115 rfl (by first | exact hm265 | simpa using hm265) (fun a w cs268 hq269 h => ?_)
                  have hl270 : x111.length = (x111.set m262 true).length := by simp only [List.length_set]
                  rw [hl270] at h
                  refine l_nil ?_
                  refine e_blkN ?_
                  refine e_thenN ?_
                  exact ⟨(x111.set m262 true), A112, c113, cs268, (Option.some.inj hc76), hq269, h.has (by exact ⟨rfl, rfl, rfl, rfl, rfl, trivial⟩)⟩
                · rw [if_neg (by rw [hb]; decide)] at hc76
                  refine wp_skip ?_
                  refine e_blkN ?_
                  refine e_thenN ?_
                  exact ⟨x111, A112, c113, cs114, (Option.some.inj hc76), hq115, h.has (by exact ⟨rfl, rfl, rfl, rfl, rfl, trivial⟩)⟩
          · rintro a w ⟨x77, A78, c79, cs80, rfl, hq81, h⟩
            refine c_r ?_ -- region 10
            refine s_move h rfl _ rfl rfl (by decide) rfl (fun a h => ?_)
            refine s_x h rfl rfl (by decide) (x_bin h.k rfl rfl rfl (ib_add rfl)) (fun a h => ?_)
            refine s_assign h rfl _ rfl rfl (by decide) rfl (fun a h => ?_)
            refine l_nil ?_
            exact e_thenN ⟨m74, Nat.lt_succ_self _, w64 (x61 + 1), x77, A78, c79, cs80, hl73, (w64_r _), hq81, h.has (by exact ⟨rfl, rfl, rfl, rfl, rfl, trivial⟩)⟩
        · rw [if_neg (of_decide_eq_false hb)] at hl73
          refine wp_exit ?_
          refine e_thenX ?_
          refine e_thenX ?_
          refine e_blkX ?_
          refine e_thenN ?_
          exact ⟨x63, A64, c65, cs66, (Option.some.inj hl73), hq67, h.has (by exact ⟨rfl, rfl, rfl, rfl, trivial⟩)⟩
      · rintro a w ⟨x68, A69, c70, cs71, rfl, hq72, h⟩
        refine e_thenN ?_
        refine wp_seq ?_
        refine c_rs ?_ -- region 17
        refine s_assign h rfl _ rfl rfl (by decide) rfl (fun a h => ?_)
        refine l_end ?_
        obtain ⟨o274, hl275, hl52⟩ := bsome hl52
        refine c_fin (fun a w => ∃ (x279 : Bool), x279 = o274 ∧ St 111 w0 (ownL ([] ++ [.sn S0])) [(0, .slice Aa0 a0.length ca0), (5, .slice A48 x47.length c49), (7, .slice A69 x68.length c70), (8, .bool x279)] [.row (.slice A48 x47.length c49) 4 1 x47.length cs50, .row (.slice A69 x68.length c70) 4 1 x68.length cs71, .sn S0] a w) ?_ ?_
        · refine wp_block ?_
          refine c_loop (fun m281 a w => ∃ (x276 : Bool), ∃ (x277 : Int), chatelaineref37_Known_l3 Fu a0 x47 x68 m281 x276 x277 = some o274 ∧ r64 x277 ∧ St 111 w0 (ownL ([] ++ [.sn S0])) [(0, .slice Aa0 a0.length ca0), (5, .slice A48 x47.length c49), (7, .slice A69 x68.length c70), (8, .bool x276), (10, .int .i64 x277)] [.row (.slice A48 x47.length c49) 4 1 x47.length cs50, .row (.slice A69 x68.length c70) 4 1 x68.length cs71, .sn S0] a w) Fu ⟨false, 0, hl275, (show r64 0 from ⟨by decide, by decide⟩), h.has (by exact ⟨rfl, rfl, rfl, rfl, rfl, trivial⟩)⟩ (fun m281 a w hI => ?_)
          obtain ⟨x276, x277, hl280, hr278, h⟩ := hI
          obtain _ | m281 := m281
          · rw [chatelaineref37_Known_l3] at hl280; cases hl280
          rw [chatelaineref37_Known_l3] at hl280
          refine wp_seq ?_
          refine c_rs ?_ -- region 18
          refine s_move h rfl _ rfl rfl (by decide) rfl (fun a h => ?_)
          refine s_move h rfl _ rfl rfl (by decide) rfl (fun a h => ?_)
          refine s_x h rfl rfl (by decide) (x_len h.k rfl Try.underlying22 rfl) (fun a h => ?_)
          refine s_x h rfl rfl (by decide) (x_bin h.k rfl rfl rfl ib_lss) (fun a h => ?_)
          refine l_end ?_
          refine c_cond h rfl (fun hb => ?_) (fun hb => ?_)
          · rw [if_pos (of_decide_eq_true hb)] at hl280
            refine wp_skip ?_
            refine e_thenN ?_
            obtain ⟨o282, hc283, hl280⟩ := bsome hl280
            refine c_cut (fun a w => ∃ (x284 : Bool), x284 = o282 ∧ St 111 w0 (ownL ([] ++ [.sn S0])) [(0, .slice Aa0 a0.length ca0), (5, .slice A48 x47.length c49), (7, .slice A69 x68.length c70), (8, .bool x284), (10, .int .i64 x277)] [.row (.slice A48 x47.length c49) 4 1 x47.length cs50, .row (.slice A69 x68.length c70) 4 1 x68.length cs71, .sn S0] a w) ?_ ?_
            · refine wp_block ?_
              refine c_rs ?_ -- region 20
              refine s_move h rfl _ rfl rfl (by decide) rfl (fun a h => ?_)
              refine s_move h rfl _ rfl rfl (by decide) rfl (fun a h => ?_)
              obtain ⟨m285, h286, hc283⟩ := bsome hc283
              obtain ⟨hi287, hm288⟩ := ix_some h286
              obtain ⟨g290, hA289⟩ := h.m.rowHead (i := 1) rfl (Nat.lt_of_le_of_lt (Nat.zero_le _) hm288)
              refine s_x h rfl rfl (by decide) (x_iaddrE h.k rfl Try.underlying33 sz_bool hA289 rfl rfl hi287 hm288) (fun a h => ?_)
              obtain ⟨x291, h292, hc283⟩ := bsome hc283
              obtain ⟨u293, hv294, hu295⟩ := (hq72).cell rfl h292
              cases hu295
              refine s_x h rfl rfl (by decide) (x_ld h.k rfl Try.underlying4 rfl rfl (h.m.cellRowE (i := 1) rfl hA289 _ (by rw [Nat.mul_one]; exact hv294))) (fun a h => ?_)
              refine s_move h rfl _ rfl rfl (by decide) rfl (fun a h => ?_)
              obtain ⟨z297, hz296, hc283⟩ := bsome hc283
              refine q_grp h 6 (t := 100) 106 z297 rfl (fun hB4 => ?_) (fun hB4 => ?_) (fun a w h => ?_)
              · rw [if_pos hB4] at hz296
                refine g_yes h rfl rfl rfl rfl hB4 ?_
                refine s_move h rfl _ rfl rfl (by decide) rfl (fun a h => ?_)
                refine g_yes h rfl rfl rfl rfl hB4 ?_
                refine s_move h rfl _ rfl rfl (by decide) rfl (fun a h => ?_)
                refine g_yes h rfl rfl rfl rfl hB4 ?_
                obtain ⟨m299, h300, hz296⟩ := bsome hz296
                obtain ⟨hi301, hm302⟩ := ix_some h300
                obtain ⟨g304, hA303⟩ := h.m.rowHead (i := 0) rfl (Nat.lt_of_le_of_lt (Nat.zero_le _) hm302)
                refine s_x h rfl rfl (by decide) (x_iaddrE h.k rfl Try.underlying33 sz_bool hA303 rfl rfl hi301 hm302) (fun a h => ?_)
                refine g_yes h rfl rfl rfl rfl hB4 ?_
                obtain ⟨x305, h306, hz296⟩ := bsome hz296
                obtain ⟨u307, hv308, hu309⟩ := (hq51).cell rfl h306
                cases hu309
                refine s_x h rfl rfl (by decide) (x_ld h.k rfl Try.underlying4 rfl rfl (h.m.cellRowE (i := 0) rfl hA303 _ (by rw [Nat.mul_one]; exact hv308))) (fun a h => ?_)
                refine g_yes h rfl rfl rfl rfl hB4 ?_
                refine s_x h rfl rfl (by decide) (x_not h.k rfl rfl) (fun a h => ?_)
                refine s_x h rfl rfl (by decide) (x_pick (u' := undef) h.k rfl rfl (fun _ => rfl) (fun hh => absurd (hB4.symm.trans hh) (by decide))) (fun a h => ?_)
                exact (h.mid 5 rfl).val (by rw [Option.some.inj hz296])
              · refine g_no h rfl rfl rfl rfl hB4 rfl (by decide) (fun a h => ?_)
                refine g_no h rfl rfl rfl rfl hB4 rfl (by decide) (fun a h => ?_)
                refine g_no h rfl rfl rfl rfl hB4 rfl (by decide) (fun a h => ?_)
                refine g_no h rfl rfl rfl rfl hB4 rfl (by decide) (fun a h => ?_)
                refine g_no h rfl rfl rfl rfl hB4 rfl (by decide) (fun a h => ?_)
                rw [if_neg (by rw [hB4]; decide)] at hz296
                refine s_x h rfl rfl (by decide) (x_pick (u' := undef) h.k rfl rfl (fun hh => absurd (hB4.symm.trans hh) (by decide)) (fun _ => rfl)) (fun a h => ?_)
                exact (h.mid 5 rfl).val (by rw [Option.some.inj hz296])
              refine l_end ?_
              refine c_cond h rfl (fun hb => ?_) (fun hb => ?_)
              · rw [if_pos hb] at hc283
                refine c_r ?_ -- region 21
                refine s_assign h rfl _ rfl rfl (by decide) rfl (fun a h => ?_)
                refine l_nil ?_
                refine e_blkN ?_
                refine e_thenN ?_
                exact ⟨true, (Option.some.inj hc283), h.has (by exact ⟨rfl, rfl, rfl, rfl, rfl, trivial⟩)⟩
              · rw [if_neg (by rw [hb]; decide)] at hc283
                refine wp_skip ?_
                refine e_blkN ?_
                refine e_thenN ?_
                exact ⟨x276, (Option.some.inj hc283), h.has (by exact ⟨rfl, rfl, rfl, rfl, rfl, trivial⟩)⟩
            · rintro a w ⟨x284, rfl, h⟩
              refine c_r ?_ -- region 19
              refine s_move h rfl _ rfl rfl (by decide) rfl (fun a h => ?_)
              refine s_x h rfl rfl (by decide) (x_bin h.k rfl rfl rfl (ib_add rfl)) (fun a h => ?_)
              refine s_assign h rfl _ rfl rfl (by decide) rfl (fun a h => ?_)
              refine l_nil ?_
              exact e_thenN ⟨m281, Nat.lt_succ_self _, x284, w64 (x277 + 1), hl280, (w64_r _), h.has (by exact ⟨rfl, rfl, rfl, rfl, rfl, trivial⟩)⟩
          · rw [if_neg (of_decide_eq_false hb)] at hl280
            refine wp_exit ?_
            refine e_thenX ?_
            refine e_thenX ?_
            refine e_blkX ?_
            refine e_thenN ?_
            exact ⟨x276, (Option.some.inj hl280), h.has (by exact ⟨rfl, rfl, rfl, rfl, trivial⟩)⟩
        · rintro a w ⟨x279, rfl, h⟩
          refine e_thenN ?_
          refine wp_seq ?_
          refine c_rs ?_ -- region 22
          refine s_move h rfl _ rfl rfl (by decide) rfl (fun a h => ?_)
          refine s_x h rfl rfl (by decide) (x_not h.k rfl rfl) (fun a h => ?_)
          refine l_end ?_
          refine c_cond h rfl (fun hb => ?_) (fun hb => ?_)
          · rw [if_pos hb] at hl52
            refine c_rs ?_ -- region 23
            refine s_move h rfl _ rfl rfl (by decide) rfl (fun a h => ?_)
            refine s_assign h rfl _ rfl rfl (by decide) rfl (fun a h => ?_)
            refine l_end ?_
            refine wp_ret ?_
            refine e_thenR ?_
            refine e_blkR ?_
            refine e_thenR ?_
            refine e_blkR ?_
            refine e_thenR ?_
            rw [← Option.some.inj hl52] at hf
            try dsimp only at hf
            rw [← Option.some.inj hf]
            exact r_ret1 h rfl (rv_tmp h rfl) ⟨_, [.row (.slice A48 x47.length c49) 4 1 x47.length cs50], _, rfl, ⟨A48, c49, cs50, rfl, rfl, hq51, trivial⟩, rfl, (Up.refl _ _ _), (h.m.pick [0, 2] _ (by decide) rfl)⟩
          · rw [if_neg (by rw [hb]; decide)] at hl52
            refine wp_skip ?_
            refine e_thenN ?_
            refine c_r ?_ -- region 24
            refine s_move h rfl _ rfl rfl (by decide) rfl (fun a h => ?_)
            refine s_assign h rfl _ rfl rfl (by decide) rfl (fun a h => ?_)
            refine l_nil ?_
            refine e_blkN ?_
            have h := h.pick [1, 2] (by decide) rfl
            exact e_thenN ⟨m53, Nat.lt_succ_self _, x68, A69, c70, cs71, hl52, hq72, h.has (by exact ⟨rfl, rfl, trivial⟩)⟩
    · exact fun a w hR => hR.elim
def chatelainelaw37_made_l0 (Fu : Nat) (a0 : List (Int × Int × Int)) : Nat → (List (Int × Int × Int)) → Int → ((List (Int × Int × Int)) × (List ((Int × Int × Int) × Int)) × (List (Int × Int))) → Option ((List (Int × Int × Int)) × ((List (Int × Int × Int)) × (List ((Int × Int × Int) × Int)) × (List (Int × Int))))
  | 0, _, _, _ => none
  | k + 1, x25, x30, x32 => if x30 < (a0.length : Int) then (((idx a0 x30).bind fun x92 => (term_Store_Len Fu x32).bind fun x112 => (term_Store_Put Fu x32 x92).bind fun x116 => if ((decide (x116.2.1 = 0)) && (decide (x116.1 = x112))) = true then ((app 24 x25 ([x92])).bind fun x140 => some (x116.2.2, x140)) else (some (x116.2.2, x25))).bind fun (x74, x87) => chatelainelaw37_made_l0 Fu a0 k x87 (w64 (x30 + 1)) x74) else (some (x25, x32))
def chatelainelaw37_made (Fu : Nat) (a0 : List (Int × Int × Int)) : Option (((List (Int × Int × Int)) × (List ((Int × Int × Int) × Int)) × (List (Int × Int))) × (List (Int × Int × Int))) :=
  (term_New Fu).bind fun x1 => (chatelainelaw37_made_l0 Fu a0 Fu ([]) 0 x1).bind fun (x48, x53) => some (x53, x48)
set_option maxRecDepth 100000 in
set_option maxHeartbeats 2000000 in
theorem chatelainelaw37_made_ok (Fu : Nat) {S0 : Snap} (Aa0 : Option Addr) (ca0 : Nat) (a0 : List (Int × Int × Int)) (hsa0 : slS (tyP tyI (tyP tyI tyI)) S0 Aa0 ca0 a0) (r : ((List (Int × Int × Int)) × (List ((Int × Int × Int) × Int)) × (List (Int × Int))) × (List (Int × Int × Int))) (hf : chatelainelaw37_made Fu a0 = some r) (w0 : World) (hm : Mem w0 (ownL ([] ++ [.sn S0])) ([] ++ [.sn S0]) w0) :
    Calls Try.prog 7 #[.slice Aa0 a0.length ca0] w0 (Ret w0 S0 [] (fun v L1 S1 => ∃ (g148 : Nat), ∃ (A149 : Option Addr), ∃ (c150 : Nat), ∃ (cs151 : List Value), ∃ (g153 : Nat), ∃ (es154 : Array MapEntry), ∃ (cl155 : Nat), ∃ (g157 : Nat), ∃ (es158 : Array MapEntry), ∃ (cl159 : Nat), ∃ (A161 : Option Addr), ∃ (c162 : Nat), ∃ (cs163 : List Value), v = .tuple #[.pointer (some ⟨g148, 0, none⟩), .slice A161 r.2.length c162] ∧ L1 = [.box g148 52 ([.slice A149 r.1.1.length c150, .map (some g153), .map (some g157)]), .row (.slice A149 r.1.1.length c150) 46 3 r.1.1.length cs151, .obj g153 (.map es154 cl155), .obj g157 (.map es158 cl159), .row (.slice A161 r.2.length c162) 46 3 r.2.length cs163] ∧ reps (tyP tyI (tyP tyI tyI)) S1 cs151 r.1.1 ∧ mpS keyT tyI false S1 es154 cl155 r.1.2.1 ∧ mpS keyI tyI false S1 es158 cl159 r.1.2.2 ∧ reps (tyP tyI (tyP tyI tyI)) S1 cs163 r.2 ∧ True)) := by
  unfold chatelainelaw37_made at hf
  refine c_enterM Try.func7 rfl 40 rfl (by simp) _ hm _ rfl (fun a h => ?_)
  refine c_rs ?_ -- region 0
  refine s_assign h rfl _ rfl rfl (by decide) rfl (fun a h => ?_)
  refine s_assign h rfl _ rfl rfl (by decide) rfl (fun a h => ?_)
  refine l_end ?_
  refine c_rs ?_ -- region 1
  obtain ⟨x1, h2, hf⟩ := bsome hf
  have hX := term_New_ok Fu (S0 := S0)  _ h2 _ (h.sub (Ls := []))
  refine q_callY (Ls := []) hX h (Up.refl _ _ _) rfl rfl rfl (by decide) Try.func15 rfl rfl rfl (fun a w v L1 S4 hR le6 up5 h => ?_)
  obtain ⟨g7, A8, c9, cs10, g12, es13, cl14, g16, es17, cl18, rfl, rfl, hq11, hm15, hm19, _⟩ := hR
  refine s_assign h rfl _ rfl rfl (by decide) rfl (fun a h => ?_)
  refine l_end ?_
  refine c_rs ?_ -- region 2
  refine s_assign h rfl _ rfl rfl (by decide) rfl (fun a h => ?_)
  refine l_end ?_
  refine wp_seq ?_
  refine c_rs ?_ -- region 3
  refine s_move h rfl _ rfl rfl (by decide) rfl (fun a h => ?_)
  refine s_x h rfl rfl (by decide) (x_len h.k rfl Try.underlying22 rfl) (fun a h => ?_)
  refine s_move h rfl _ rfl rfl (by decide) rfl (fun a h => ?_)
  refine l_end ?_
  obtain ⟨o20, hl21, hf⟩ := bsome hf
  refine c_fin (fun a w => ∃ (S45 : Snap), ∃ (x48 : List (Int × Int × Int)), ∃ (A49 : Option Addr), ∃ (c50 : Nat), ∃ (cs51 : List Value), ∃ (x53 : (List (Int × Int × Int)) × (List ((Int × Int × Int) × Int)) × (List (Int × Int))), ∃ (A54 : Option Addr), ∃ (c55 : Nat), ∃ (cs56 : List Value), ∃ (g58 : Nat), ∃ (es59 : Array MapEntry), ∃ (cl60 : Nat), ∃ (g62 : Nat), ∃ (es63 : Array MapEntry), ∃ (cl64 : Nat), (x48, x53) = o20 ∧ Snap.le S4 S45 ∧ Up (ownL ([] ++ [.sn S0])) w0 S0 S45 ∧ reps (tyP tyI (tyP tyI tyI)) S45 cs51 x48 ∧ reps (tyP tyI (tyP tyI tyI)) S45 cs56 x53.1 ∧ mpS keyT tyI false S45 es59 cl60 x53.2.1 ∧ mpS keyI tyI false S45 es63 cl64 x53.2.2 ∧ St 40 w0 (ownL ([] ++ [.sn S0])) [(4, .pointer (some ⟨g7, 0, none⟩)), (5, .slice A49 x48.length c50)] [.box g7 52 ([.slice A54 x53.1.length c55, .map (some g58), .map (some g62)]), .row (.slice A54 x53.1.length c55) 46 3 x53.1.length cs56, .obj g58 (.map es59 cl60), .obj g62 (.map es63 cl64), .row (.slice A49 x48.length c50) 46 3 x48.length cs51, .sn S45] a w) ?_ ?_
  · refine wp_block ?_
    have h := h.mem (h.m.nilrow 46 3)
    have h := h.pick [1, 2, 3, 4, 0, 5] (by decide) rfl
    refine c_loop (fun m67 a w => ∃ (S22 : Snap), ∃ (x25 : List (Int × Int × Int)), ∃ (A26 : Option Addr), ∃ (c27 : Nat), ∃ (cs28 : List Value), ∃ (x30 : Int), ∃ (x32 : (List (Int × Int × Int)) × (List ((Int × Int × Int) × Int)) × (List (Int × Int))), ∃ (A33 : Option Addr), ∃ (c34 : Nat), ∃ (cs35 : List Value), ∃ (g37 : Nat), ∃ (es38 : Array MapEntry), ∃ (cl39 : Nat), ∃ (g41 : Nat), ∃ (es42 : Array MapEntry), ∃ (cl43 : Nat), chatelainelaw37_made_l0 Fu a0 m67 x25 x30 x32 = some o20 ∧ Snap.le S4 S22 ∧ Up (ownL ([] ++ [.sn S0])) w0 S0 S22 ∧ reps (tyP tyI (tyP tyI tyI)) S22 cs28 x25 ∧ r64 x30 ∧ reps (tyP tyI (tyP tyI tyI)) S22 cs35 x32.1 ∧ mpS keyT tyI false S22 es38 cl39 x32.2.1 ∧ mpS keyI tyI false S22 es42 cl43 x32.2.2 ∧ St 40 w0 (ownL ([] ++ [.sn S0])) [(4, .pointer (some ⟨g7, 0, none⟩)), (5, .slice A26 x25.length c27), (12, .slice Aa0 a0.length ca0), (13, .int .i64 (a0.length : Int)), (14, .int .i64 x30)] [.box g7 52 ([.slice A33 x32.1.length c34, .map (some g37), .map (some g41)]), .row (.slice A33 x32.1.length c34) 46 3 x32.1.length cs35, .obj g37 (.map es38 cl39), .obj g41 (.map es42 cl43), .row (.slice A26 x25.length c27) 46 3 x25.length cs28, .sn S22] a w) Fu ⟨S4, [], none, 0, [], 0, x1, A8, c9, cs10, g12, es13, cl14, g16, es17, cl18, hl21, (Snap.le.refl _), up5, (show reps (tyP tyI (tyP tyI tyI)) S4 [] [] from rfl), (show r64 0 from ⟨by decide, by decide⟩), hq11, hm15, hm19, h.has (by exact ⟨rfl, rfl, rfl, rfl, rfl, trivial⟩)⟩ (fun m67 a w hI => ?_)
    obtain ⟨S22, x25, A26, c27, cs28, x30, x32, A33, c34, cs35, g37, es38, cl39, g41, es42, cl43, hl66, le23, up24, hq29, hr31, hq36, hm40, hm44, h⟩ := hI
    obtain _ | m67 := m67
    · rw [chatelainelaw37_made_l0] at hl66; cases hl66
    rw [chatelainelaw37_made_l0] at hl66
    refine c_rs ?_ -- region 4
    refine s_x h rfl rfl (by decide) (x_bin h.k rfl rfl rfl ib_lss) (fun a h => ?_)
    refine l_end ?_
    refine c_cs h rfl (fun hb => ?_) (fun hb => ?_)
    · rw [if_pos (of_decide_eq_true hb)] at hl66
      refine wp_skip ?_
      refine e_thenN ?_
      obtain ⟨o69, hc70, hl66⟩ := bsome hl66
      refine c_cut (fun a w => ∃ (S71 : Snap), ∃ (x74 : (List (Int × Int × Int)) × (List ((Int × Int × Int) × Int)) × (List (Int × Int))), ∃ (A75 : Option Addr), ∃ (c76 : Nat), ∃ (cs77 : List Value), ∃ (g79 : Nat), ∃ (es80 : Array MapEntry), ∃ (cl81 : Nat), ∃ (g83 : Nat), ∃ (es84 : Array MapEntry), ∃ (cl85 : Nat), ∃ (x87 : List (Int × Int × Int)), ∃ (A88 : Option Addr), ∃ (c89 : Nat), ∃ (cs90 : List Value), (x74, x87) = o69 ∧ Snap.le S22 S71 ∧ Up (ownL ([] ++ [.sn S0])) w0 S0 S71 ∧ reps (tyP tyI (tyP tyI tyI)) S71 cs77 x74.1 ∧ mpS keyT tyI false S71 es80 cl81 x74.2.1 ∧ mpS keyI tyI false S71 es84 cl85 x74.2.2 ∧ reps (tyP tyI (tyP tyI tyI)) S71 cs90 x87 ∧ St 40 w0 (ownL ([] ++ [.sn S0])) [(4, .pointer (some ⟨g7, 0, none⟩)), (5, .slice A88 x87.length c89), (12, .slice Aa0 a0.length ca0), (13, .int .i64 (a0.length : Int)), (14, .int .i64 x30)] [.box g7 52 ([.slice A75 x74.1.length c76, .map (some g79), .map (some g83)]), .row (.slice A75 x74.1.length c76) 46 3 x74.1.length cs77, .obj g79 (.map es80 cl81), .obj g83 (.map es84 cl85), .row (.slice A88 x87.length c89) 46 3 x87.length cs90, .sn S71] a w) ?_ ?_
      · refine wp_block ?_
        refine c_rs ?_ -- region 5
        obtain ⟨x92, h96, hc70⟩ := bsome hc70
        obtain ⟨m93, hi97, hm98, hx99⟩ := idx_some h96
        obtain ⟨b94, off95, k100, hA101, hu102, hc103⟩ := ((hsa0.mono (le6.trans le23))).at (by decide) hx99 (h.m.snOK (i := 5) rfl)
        obtain ⟨k104, k105, rfl, ⟨rfl, hr106⟩, ⟨k107, k108, rfl, ⟨rfl, hr109⟩, ⟨rfl, hr110⟩⟩⟩ := hu102
        refine s_x h rfl rfl (by decide) (x_iaddrE h.k rfl Try.underlying22 sz_api_Term hA101 rfl rfl hi97 hm98) (fun a h => ?_)
        refine s_x h rfl rfl (by decide) (x_ldR h.k rfl ag_api_Term rfl ([.int .i64 x92.1, .int .i64 x92.2.1, .int .i64 x92.2.2]) rfl (hc103 _ (h.m.snOK (i := 5) rfl))) (fun a h => ?_)
        refine s_alloc h rfl rfl rfl (by decide) zi_api_Term rfl (fun a w g111 h => ?_)
        refine s_stW h rfl rfl rfl ag_api_Term rfl (es := [.int .i64 x92.1, .int .i64 x92.2.1, .int .i64 x92.2.2]) rfl rfl (by simp [Value.oneCell']) 0 rfl rfl (fun a w h => ?_)
        refine l_end ?_
        refine c_rs ?_ -- region 6
        refine s_move h rfl _ rfl rfl (by decide) rfl (fun a h => ?_)
        obtain ⟨x112, h113, hc70⟩ := bsome hc70
        have hX := term_Store_Len_ok Fu (S0 := snapAll _) g7 x32 ⟨[.slice A33 x32.1.length c34, .map (some g37), .map (some g41)], h.m.boxAll (i := 1) rfl, ⟨[.slice A33 x32.1.length c34], [.map (some g37), .map (some g41)], rfl, ⟨_, _, rfl, h.m.rowAll (i := 2) rfl (j := 6) rfl hq36⟩, ⟨[.map (some g37)], [.map (some g41)], rfl, ⟨_, rfl, h.m.mapAll (i := 3) rfl (j := 6) rfl hm40⟩, ⟨_, rfl, h.m.mapAll (i := 4) rfl (j := 6) rfl hm44⟩⟩⟩⟩ _ h113 _ h.startAll
        refine q_callX hX h rfl rfl rfl (by decide) Try.func8 rfl rfl rfl (fun a w v L1 S1 hR hb1 h => ?_)
        obtain ⟨rfl, rfl, hr115, _⟩ := hR
        refine s_assign h rfl _ rfl rfl (by decide) rfl (fun a h => ?_)
        refine l_end ?_
        refine c_rs ?_ -- region 7
        refine s_move h rfl _ rfl rfl (by decide) rfl (fun a h => ?_)
        refine s_x h rfl rfl (by decide) (x_ldR h.k rfl ag_api_Term rfl ([.int .i64 x92.1, .int .i64 x92.2.1, .int .i64 x92.2.2]) rfl (h.m.range0 (i := 0) rfl)) (fun a h => ?_)
        obtain ⟨x116, h117, hc70⟩ := bsome hc70
        have h := h.pick [1, 2, 3, 4, 6, 0, 5] (by decide) rfl
        have hX := term_Store_Put_ok Fu (S0 := S22) x32 g7 A33 c34 cs35 g37 es38 cl39 g41 es42 cl43 hq36 hm40 hm44 ([.int .i64 x92.1, .int .i64 x92.2.1, .int .i64 x92.2.2]) x92 (⟨[.int .i64 x92.1], [.int .i64 x92.2.1, .int .i64 x92.2.2], rfl, ⟨rfl, hr106⟩, ⟨[.int .i64 x92.2.1], [.int .i64 x92.2.2], rfl, ⟨rfl, hr109⟩, ⟨rfl, hr110⟩⟩⟩) _ h117 _ (h.sub (Ls := [.box g7 52 ([.slice A33 x32.1.length c34, .map (some g37), .map (some g41)]), .row (.slice A33 x32.1.length c34) 46 3 x32.1.length cs35, .obj g37 (.map es38 cl39), .obj g41 (.map es42 cl43)]))
        refine q_callY (Ls := [.box g7 52 ([.slice A33 x32.1.length c34, .map (some g37), .map (some g41)]), .row (.slice A33 x32.1.length c34) 46 3 x32.1.length cs35, .obj g37 (.map es38 cl39), .obj g41 (.map es42 cl43)]) hX h up24 rfl rfl rfl (by decide) Try.func17 rfl rfl rfl (fun a w v L1 S119 hR le121 up120 h => ?_)
        obtain ⟨A124, c125, cs126, g128, es129, cl130, g132, es133, cl134, rfl, rfl, hr122, hr123, hq127, hm131, hm135, _⟩ := hR
        refine s_move h rfl _ rfl rfl (by decide) rfl (fun a h => ?_)
        refine s_x h rfl rfl (by decide) (x_ext h.k rfl rfl rfl) (fun a h => ?_)
        refine s_x h rfl rfl (by decide) (x_ext h.k rfl rfl rfl) (fun a h => ?_)
        refine s_assign h rfl _ rfl rfl (by decide) rfl (fun a h => ?_)
        refine s_assign h rfl _ rfl rfl (by decide) rfl (fun a h => ?_)
        refine l_end ?_
        refine c_rs ?_ -- region 8
        refine s_move h rfl _ rfl rfl (by decide) rfl (fun a h => ?_)
        refine s_x h rfl rfl (by decide) (x_bin h.k rfl rfl rfl ib_eql) (fun a h => ?_)
        refine s_move h rfl _ rfl rfl (by decide) rfl (fun a h => ?_)
        refine q_grp h 4 (t := 28) 32 ((decide (x116.2.1 = 0)) && (decide (x116.1 = x112))) rfl (fun hB2 => ?_) (fun hB2 => ?_) (fun a w h => ?_)
        · refine g_yes h rfl rfl rfl rfl hB2 ?_
          refine s_move h rfl _ rfl rfl (by decide) rfl (fun a h => ?_)
          refine g_yes h rfl rfl rfl rfl hB2 ?_
          refine s_move h rfl _ rfl rfl (by decide) rfl (fun a h => ?_)
          refine g_yes h rfl rfl rfl rfl hB2 ?_
          refine s_x h rfl rfl (by decide) (x_bin h.k rfl rfl rfl ib_eql) (fun a h => ?_)
          refine s_x h rfl rfl (by decide) (x_pick (u' := undef) h.k rfl rfl (fun _ => rfl) (fun hh => absurd (hB2.symm.trans hh) (by decide))) (fun a h => ?_)
          exact (h.mid 3 rfl).val (by first | rfl | (rw [hB2]; first | rfl | simp))
        · refine g_no h rfl rfl rfl rfl hB2 rfl (by decide) (fun a h => ?_)
          refine g_no h rfl rfl rfl rfl hB2 rfl (by decide) (fun a h => ?_)
          refine g_no h rfl rfl rfl rfl hB2 rfl (by decide) (fun a h => ?_)
          refine s_x h rfl rfl (by decide) (x_pick (u' := undef) h.k rfl rfl (fun hh => absurd (hB2.symm.trans hh) (by decide)) (fun _ => rfl)) (fun a h => ?_)
          exact (h.mid 3 rfl).val (by first | rfl | (rw [hB2]; first | rfl | simp))
        refine l_end ?_
        refine c_cond h rfl (fun hb => ?_) (fun hb => ?_)
        · rw [if_pos hb] at hc70
          refine c_r ?_ -- region 9
          refine s_move h rfl _ rfl rfl (by decide) rfl (fun a h => ?_)
          refine s_x h rfl rfl (by decide) (x_ldR h.k rfl ag_api_Term rfl ([.int .i64 x92.1, .int .i64 x92.2.1, .int .i64 x92.2.2]) rfl (h.m.range0 (i := 5) rfl)) (fun a h => ?_)
          refine q_bslice (T := tyP tyI (tyP tyI tyI)) (S := S119) h rfl rfl rfl (by decide) Try.underlying22 zi_api_Term (by decide) (by decide) (by decide) (by decide) [.agg ([.int .i64 x92.1, .int .i64 x92.2.1, .int .i64 x92.2.2]).toArray] rfl rfl (C := [[.int .i64 x92.1, .int .i64 x92.2.1, .int .i64 x92.2.2]]) rfl (xs := [x92]) ⟨[.int .i64 x92.1, .int .i64 x92.2.1, .int .i64 x92.2.2], _, rfl, ⟨[.int .i64 x92.1], [.int .i64 x92.2.1, .int .i64 x92.2.2], rfl, ⟨rfl, hr106⟩, ⟨[.int .i64 x92.2.1], [.int .i64 x92.2.2], rfl, ⟨rfl, hr109⟩, ⟨rfl, hr110⟩⟩⟩, rfl⟩ (by intro c hc; simp only [List.mem_cons, List.not_mem_nil, or_false] at hc; subst hc; rfl) (fun a w A138 h => ?_)
          have hb139 : reps (tyP tyI (tyP tyI tyI)) S119 ([[.int .i64 x92.1, .int .i64 x92.2.1, .int .i64 x92.2.2]] : List (List Value)).flatten [x92] := ⟨[.int .i64 x92.1, .int .i64 x92.2.1, .int .i64 x92.2.2], _, rfl, ⟨[.int .i64 x92.1], [.int .i64 x92.2.1, .int .i64 x92.2.2], rfl, ⟨rfl, hr106⟩, ⟨[.int .i64 x92.2.1], [.int .i64 x92.2.2], rfl, ⟨rfl, hr109⟩, ⟨rfl, hr110⟩⟩⟩, rfl⟩
          obtain ⟨x140, h141, hc70⟩ := bsome hc70
          refine q_append (T := tyP tyI (tyP tyI tyI)) (S := S119) h rfl rfl rfl (by decide) Try.underlying22 zb_api_Term rfl (by decide) rfl 7 rfl (hq29.mono le121) rfl hb139 (h.m.rdRowA (i := 0) rfl) h141 (fun a w A142 c143 cs144 hq145 h => ?_)
          refine s_assign h rfl _ rfl rfl (by decide) rfl (fun a h => ?_)
          refine l_nil ?_
          refine e_blkN ?_
          refine e_thenN ?_
          have h := h.pick [1, 2, 3, 4, 7, 5] (by decide) rfl
          exact ⟨S119, x116.2.2, A124, c125, cs126, g128, es129, cl130, g132, es133, cl134, x140, A142, c143, cs144, (Option.some.inj hc70), le121, up120, hq127, hm131, hm135, hq145, h.has (by exact ⟨rfl, rfl, rfl, rfl, rfl, trivial⟩)⟩
        · rw [if_neg (by rw [hb]; decide)] at hc70
          refine wp_skip ?_
          refine e_blkN ?_
          refine e_thenN ?_
          have h := h.pick [0, 1, 2, 3, 6, 4] (by decide) rfl
          exact ⟨S119, x116.2.2, A124, c125, cs126, g128, es129, cl130, g132, es133, cl134, x25, A26, c27, cs28, (Option.some.inj hc70), le121, up120, hq127, hm131, hm135, (hq29.mono le121), h.has (by exact ⟨rfl, rfl, rfl, rfl, rfl, trivial⟩)⟩
      · rintro a w ⟨S71, x74, A75, c76, cs77, g79, es80, cl81, g83, es84, cl85, x87, A88, c89, cs90, rfl, le72, up73, hq78, hm82, hm86, hq91, h⟩
        try dsimp only at hl66
        refine c_r ?_ -- region 10
        refine s_x h rfl rfl (by decide) (x_bin h.k rfl rfl rfl (ib_add rfl)) (fun a h => ?_)
        refine s_move h rfl _ rfl rfl (by decide) rfl (fun a h => ?_)
        refine l_nil ?_
        exact e_thenN ⟨m67, Nat.lt_succ_self _, S71, x87, A88, c89, cs90, w64 (x30 + 1), x74, A75, c76, cs77, g79, es80, cl81, g83, es84, cl85, hl66, (le23.trans le72), up73, hq91, (w64_r _), hq78, hm82, hm86, h.has (by exact ⟨rfl, rfl, rfl, rfl, rfl, trivial⟩)⟩
    · rw [if_neg (of_decide_eq_false hb)] at hl66
      refine wp_exit ?_
      refine e_thenX ?_
      refine e_thenX ?_
      refine e_blkX ?_
      refine e_thenN ?_
      exact ⟨S22, x25, A26, c27, cs28, x32, A33, c34, cs35, g37, es38, cl39, g41, es42, cl43, (Option.some.inj hl66), le23, up24, hq29, hq36, hm40, hm44, h.has (by exact ⟨rfl, rfl, trivial⟩)⟩
  · rintro a w ⟨S45, x48, A49, c50, cs51, x53, A54, c55, cs56, g58, es59, cl60, g62, es63, cl64, rfl, le46, up47, hq52, hq57, hm61, hm65, h⟩
    try dsimp only at hf
    refine e_thenN ?_
    refine c_rs ?_ -- region 11
    refine s_move h rfl _ rfl rfl (by decide) rfl (fun a h => ?_)
    refine s_move h rfl _ rfl rfl (by decide) rfl (fun a h => ?_)
    refine s_assign h rfl _ rfl rfl (by decide) rfl (fun a h => ?_)
    refine s_assign h rfl _ rfl rfl (by decide) rfl (fun a h => ?_)
    refine l_end ?_
    refine wp_ret ?_
    obtain rfl := Option.some.inj hf
    exact r_ret2 h rfl (rv_tmp h rfl) (rv_tmp h rfl) ⟨_, [.box g7 52 ([.slice A54 x53.1.length c55, .map (some g58), .map (some g62)]), .row (.slice A54 x53.1.length c55) 46 3 x53.1.length cs56, .obj g58 (.map es59 cl60), .obj g62 (.map es63 cl64), .row (.slice A49 x48.length c50) 46 3 x48.length cs51], _, rfl, ⟨g7, A54, c55, cs56, g58, es59, cl60, g62, es63, cl64, A49, c50, cs51, rfl, rfl, hq57, hm61, hm65, hq52, trivial⟩, rfl, up47, h.m⟩
end Go.Proofs.Ytnjmlihmnkbgdaa
