/- Cm: Go functions as plain functions, and that they are so (written by xt.py). -/
import Derived.Test.YtcjleeclpmgbjaaDoorTy
import Derived.Test.YtcjleeclpmgbjaaDoorPs
import Derived.Test.YtcjleeclpmgbjaaDoorPc
set_option linter.unusedVariables false
set_option linter.unusedSimpArgs false
namespace Go.Proofs.YtcjleeclpmgbjaaDoor
open Go.RowKit
def chatelaineref46_Letters_l1 (Fu : Nat) (x18 : UInt8) : Nat → Int → (List Int) → Option ((List Int))
  | 0, _, _ => none
  | k + 1, x32, x34 => if 0 < x32 then ((quoI (x18.toNat : Int) x32).bind fun x46 => (app 8 x34 ([Int.tmod x46 2])).bind fun x50 => chatelaineref46_Letters_l1 Fu x18 k (w64 (Int.tdiv x32 2)) x50) else (some x34)
def chatelaineref46_Letters_l0 (Fu : Nat) (a0 : List UInt8) : Nat → (List Int) → Int → Option ((List Int))
  | 0, _, _ => none
  | k + 1, x3, x8 => if x8 < (a0.length : Int) then ((idx a0 x8).bind fun x18 => (chatelaineref46_Letters_l1 Fu x18 Fu 128 x3).bind fun x39 => chatelaineref46_Letters_l0 Fu a0 k x39 (w64 (x8 + 1))) else (some x3)
def chatelaineref46_Letters_l2 (Fu : Nat) : Nat → (List Int) → Option ((List Int))
  | 0, _ => none
  | k + 1, x59 => if Int.tmod (x59.length : Int) 5 ≠ 0 then ((app 8 x59 ([0])).bind fun x74 => chatelaineref46_Letters_l2 Fu k x74) else (some x59)
def chatelaineref46_Letters_l3 (Fu : Nat) (x64 : List Int) : Nat → (List UInt8) → Int → Option ((List UInt8))
  | 0, _, _ => none
  | k + 1, x82, x84 => if x84 < (x64.length : Int) then ((ix x64.length x84).bind fun m91 => (x64[m91]?).bind fun x97 => (ix x64.length (w64 (x84 + 1))).bind fun m104 => (x64[m104]?).bind fun x110 => (ix x64.length (w64 (x84 + 2))).bind fun m117 => (x64[m117]?).bind fun x123 => (ix x64.length (w64 (x84 + 3))).bind fun m130 => (x64[m130]?).bind fun x136 => (ix x64.length (w64 (x84 + 4))).bind fun m143 => (x64[m143]?).bind fun x149 => (sub ([97, 98, 99, 100, 101, 102, 103, 104, 105, 106, 107, 108, 109, 110, 111, 112, 113, 114, 115, 116, 117, 118, 119, 120, 121, 122, 50, 51, 52, 53, 54, 55] : List UInt8) (w64 ((w64 ((w64 ((w64 ((w64 (16 * x97)) + (w64 (8 * x110)))) + (w64 (4 * x123)))) + (w64 (2 * x136)))) + x149)) (w64 ((w64 ((w64 ((w64 ((w64 ((w64 (16 * x97)) + (w64 (8 * x110)))) + (w64 (4 * x123)))) + (w64 (2 * x136)))) + x149)) + 1))).bind fun x156 => (sapp x82 x156).bind fun x165 => chatelaineref46_Letters_l3 Fu x64 k x165 (w64 (x84 + 5))) else (some x82)
def chatelaineref46_Letters (Fu : Nat) (a0 : List UInt8) : Option ((List UInt8)) :=
  (chatelaineref46_Letters_l0 Fu a0 Fu ([]) 0).bind fun x10 => (chatelaineref46_Letters_l2 Fu Fu x10).bind fun x64 => (chatelaineref46_Letters_l3 Fu x64 Fu ([] : List UInt8) 0).bind fun x86 => some x86
set_option maxRecDepth 100000 in
set_option maxHeartbeats 2000000 in
theorem chatelaineref46_Letters_ok (Fu : Nat) {S0 : Snap} (Aa0 : Option Addr) (ca0 : Nat) (a0 : List UInt8) (hsa0 : slS ty8 S0 Aa0 ca0 a0) (r : (List UInt8)) (hf : chatelaineref46_Letters Fu a0 = some r) (w0 : World) (hm : Mem w0 (ownL ([] ++ [.sn S0])) ([] ++ [.sn S0]) w0) :
    Calls Tryd.prog 37 #[.slice Aa0 a0.length ca0] w0 (Ret w0 S0 [] (fun v L1 S1 => v = .string (sb r) ∧ L1 = [] ∧ r.length ≤ maxLen ∧ True)) := by
  unfold chatelaineref46_Letters at hf
  refine c_enterM Tryd.func37 rfl 84 rfl (by simp) _ hm _ rfl (fun a h => ?_)
  refine c_rs ?_ -- region 0
  refine s_assign h rfl _ rfl rfl (by decide) rfl (fun a h => ?_)
  refine l_end ?_
  refine c_rs ?_ -- region 1
  refine s_assign h rfl _ rfl rfl (by decide) rfl (fun a h => ?_)
  refine l_end ?_
  refine wp_seq ?_
  refine c_rs ?_ -- region 2
  refine s_assign h rfl _ rfl rfl (by decide) rfl (fun a h => ?_)
  refine l_end ?_
  obtain ⟨o1, hl2, hf⟩ := bsome hf
  refine c_fin (fun a w => ∃ (x10 : List Int), ∃ (A11 : Option Addr), ∃ (c12 : Nat), ∃ (cs13 : List Value), x10 = o1 ∧ reps tyI S0 cs13 x10 ∧ St 84 w0 (ownL ([] ++ [.sn S0])) [(3, .slice A11 x10.length c12)] [.row (.slice A11 x10.length c12) 3 1 x10.length cs13, .sn S0] a w) ?_ ?_
  · refine wp_block ?_
    have h := h.mem (h.m.nilrow 3 1)
    refine c_loop (fun m16 a w => ∃ (x3 : List Int), ∃ (A4 : Option Addr), ∃ (c5 : Nat), ∃ (cs6 : List Value), ∃ (x8 : Int), chatelaineref46_Letters_l0 Fu a0 m16 x3 x8 = some o1 ∧ reps tyI S0 cs6 x3 ∧ r64 x8 ∧ St 84 w0 (ownL ([] ++ [.sn S0])) [(0, .slice Aa0 a0.length ca0), (3, .slice A4 x3.length c5), (4, .int .i64 x8)] [.row (.slice A4 x3.length c5) 3 1 x3.length cs6, .sn S0] a w) Fu ⟨[], none, 0, [], 0, hl2, (show reps tyI S0 [] [] from rfl), (show r64 0 from ⟨by decide, by decide⟩), h.has (by exact ⟨rfl, rfl, rfl, trivial⟩)⟩ (fun m16 a w hI => ?_)
    obtain ⟨x3, A4, c5, cs6, x8, hl15, hq7, hr9, h⟩ := hI
    obtain _ | m16 := m16
    · rw [chatelaineref46_Letters_l0] at hl15; cases hl15
    rw [chatelaineref46_Letters_l0] at hl15
    refine wp_seq ?_
    refine c_rs ?_ -- region 3
    refine s_move h rfl _ rfl rfl (by decide) rfl (fun a h => ?_)
    refine s_move h rfl _ rfl rfl (by decide) rfl (fun a h => ?_)
    refine s_x h rfl rfl (by decide) (x_len h.k rfl Tryd.underlying23 rfl) (fun a h => ?_)
    refine s_x h rfl rfl (by decide) (x_bin h.k rfl rfl rfl ib_lss) (fun a h => ?_)
    refine l_end ?_
    refine c_cond h rfl (fun hb => ?_) (fun hb => ?_)
    · rw [if_pos (of_decide_eq_true hb)] at hl15
      refine wp_skip ?_
      refine e_thenN ?_
      refine wp_seq ?_
      refine wp_block ?_
      refine c_rs ?_ -- region 5
      refine s_move h rfl _ rfl rfl (by decide) rfl (fun a h => ?_)
      refine s_move h rfl _ rfl rfl (by decide) rfl (fun a h => ?_)
      obtain ⟨x18, h22, hl15⟩ := bsome hl15
      obtain ⟨m19, hi23, hm24, hx25⟩ := idx_some h22
      obtain ⟨b20, off21, k26, hA27, hu28, hc29⟩ := (hsa0).at1 rfl hx25 (h.m.snOK (i := 1) rfl)
      cases hu28
      refine s_x h rfl rfl (by decide) (x_iaddrE h.k rfl Tryd.underlying23 sz_uint8 hA27 rfl rfl hi23 hm24) (fun a h => ?_)
      refine s_x h rfl rfl (by decide) (x_ld h.k rfl Tryd.underlying5 rfl rfl (hc29 _ (h.m.snOK (i := 1) rfl))) (fun a h => ?_)
      refine s_x h rfl rfl (by decide) (x_convE h.k rfl Tryd.underlying5 Tryd.underlying3 rfl (nw64 (u8_r _))) (fun a h => ?_)
      refine s_assign h rfl _ rfl rfl (by decide) rfl (fun a h => ?_)
      refine l_end ?_
      refine c_rs ?_ -- region 6
      refine s_assign h rfl _ rfl rfl (by decide) rfl (fun a h => ?_)
      refine l_end ?_
      obtain ⟨o30, hl31, hl15⟩ := bsome hl15
      refine c_fin (fun a w => ∃ (x39 : List Int), ∃ (A40 : Option Addr), ∃ (c41 : Nat), ∃ (cs42 : List Value), x39 = o30 ∧ reps tyI S0 cs42 x39 ∧ St 84 w0 (ownL ([] ++ [.sn S0])) [(0, .slice Aa0 a0.length ca0), (3, .slice A40 x39.length c41), (4, .int .i64 x8)] [.row (.slice A40 x39.length c41) 3 1 x39.length cs42, .sn S0] a w) ?_ ?_
      · refine wp_block ?_
        refine c_loop (fun m45 a w => ∃ (x32 : Int), ∃ (x34 : List Int), ∃ (A35 : Option Addr), ∃ (c36 : Nat), ∃ (cs37 : List Value), chatelaineref46_Letters_l1 Fu x18 m45 x32 x34 = some o30 ∧ r64 x32 ∧ reps tyI S0 cs37 x34 ∧ St 84 w0 (ownL ([] ++ [.sn S0])) [(0, .slice Aa0 a0.length ca0), (3, .slice A35 x34.length c36), (4, .int .i64 x8), (5, .int .i64 (x18.toNat : Int)), (6, .int .i64 x32)] [.row (.slice A35 x34.length c36) 3 1 x34.length cs37, .sn S0] a w) Fu ⟨128, x3, A4, c5, cs6, hl31, (show r64 128 from ⟨by decide, by decide⟩), hq7, h.has (by exact ⟨rfl, rfl, rfl, rfl, rfl, trivial⟩)⟩ (fun m45 a w hI => ?_)
        obtain ⟨x32, x34, A35, c36, cs37, hl44, hr33, hq38, h⟩ := hI
        obtain _ | m45 := m45
        · rw [chatelaineref46_Letters_l1] at hl44; cases hl44
        rw [chatelaineref46_Letters_l1] at hl44
        refine wp_seq ?_
        refine c_rs ?_ -- region 7
        refine s_move h rfl _ rfl rfl (by decide) rfl (fun a h => ?_)
        refine s_x h rfl rfl (by decide) (x_bin h.k rfl rfl rfl ib_gtr) (fun a h => ?_)
        refine l_end ?_
        refine c_cond h rfl (fun hb => ?_) (fun hb => ?_)
        · rw [if_pos (of_decide_eq_true hb)] at hl44
          refine wp_skip ?_
          refine e_thenN ?_
          refine wp_block ?_
          refine c_rs ?_ -- region 8
          refine s_move h rfl _ rfl rfl (by decide) rfl (fun a h => ?_)
          refine s_move h rfl _ rfl rfl (by decide) rfl (fun a h => ?_)
          refine s_move h rfl _ rfl rfl (by decide) rfl (fun a h => ?_)
          obtain ⟨x46, h47, hl44⟩ := bsome hl44
          refine s_x h rfl rfl (by decide) (x_bin h.k rfl rfl rfl (ib_quo_ h47)) (fun a h => ?_)
          refine s_x h rfl rfl (by decide) (x_bin h.k rfl rfl rfl (ib_remw (by decide))) (fun a h => ?_)
          refine q_bslice (T := tyI) (S := S0) h rfl rfl rfl (by decide) Tryd.underlying99 zi_int (by decide) (by decide) (by decide) (by decide) [.int .i64 (Int.tmod x46 2)] rfl rfl (C := [[.int .i64 (Int.tmod x46 2)]]) rfl (xs := [Int.tmod x46 2]) ⟨[.int .i64 (Int.tmod x46 2)], _, rfl, ⟨rfl, (tmod_r (quoI_r h47 (u8_r _)) _)⟩, rfl⟩ (by intro c hc; simp only [List.mem_cons, List.not_mem_nil, or_false] at hc; subst hc; rfl) (fun a w A48 h => ?_)
          have hb49 : reps tyI S0 ([[.int .i64 (Int.tmod x46 2)]] : List (List Value)).flatten [Int.tmod x46 2] := ⟨[.int .i64 (Int.tmod x46 2)], _, rfl, ⟨rfl, (tmod_r (quoI_r h47 (u8_r _)) _)⟩, rfl⟩
          obtain ⟨x50, h51, hl44⟩ := bsome hl44
          refine q_append (T := tyI) (S := S0) h rfl rfl rfl (by decide) Tryd.underlying99 zb_int rfl (by decide) rfl 1 rfl hq38 rfl hb49 (h.m.rdRowA (i := 0) rfl) h51 (fun a w A52 c53 cs54 hq55 h => ?_)
          refine s_assign h rfl _ rfl rfl (by decide) rfl (fun a h => ?_)
          refine l_end ?_
          refine c_r ?_ -- region 9
          refine s_move h rfl _ rfl rfl (by decide) rfl (fun a h => ?_)
          refine s_x h rfl rfl (by decide) (x_bin h.k rfl rfl rfl (ib_quow (by decide))) (fun a h => ?_)
          refine s_assign h rfl _ rfl rfl (by decide) rfl (fun a h => ?_)
          refine l_nil ?_
          refine e_blkN ?_
          have h := h.pick [1, 2] (by decide) rfl
          exact e_thenN ⟨m45, Nat.lt_succ_self _, w64 (Int.tdiv x32 2), x50, A52, c53, cs54, hl44, (w64_r _), hq55, h.has (by exact ⟨rfl, rfl, rfl, rfl, rfl, trivial⟩)⟩
        · rw [if_neg (of_decide_eq_false hb)] at hl44
          refine wp_exit ?_
          refine e_thenX ?_
          refine e_thenX ?_
          refine e_blkX ?_
          refine e_thenN ?_
          exact ⟨x34, A35, c36, cs37, (Option.some.inj hl44), hq38, h.has (by exact ⟨rfl, rfl, rfl, trivial⟩)⟩
      · rintro a w ⟨x39, A40, c41, cs42, rfl, hq43, h⟩
        refine e_blkN ?_
        refine e_thenN ?_
        refine c_r ?_ -- region 4
        refine s_move h rfl _ rfl rfl (by decide) rfl (fun a h => ?_)
        refine s_x h rfl rfl (by decide) (x_bin h.k rfl rfl rfl (ib_add rfl)) (fun a h => ?_)
        refine s_assign h rfl _ rfl rfl (by decide) rfl (fun a h => ?_)
        refine l_nil ?_
        exact e_thenN ⟨m16, Nat.lt_succ_self _, x39, A40, c41, cs42, w64 (x8 + 1), hl15, hq43, (w64_r _), h.has (by exact ⟨rfl, rfl, rfl, trivial⟩)⟩
    · rw [if_neg (of_decide_eq_false hb)] at hl15
      refine wp_exit ?_
      refine e_thenX ?_
      refine e_thenX ?_
      refine e_blkX ?_
      refine e_thenN ?_
      exact ⟨x3, A4, c5, cs6, (Option.some.inj hl15), hq7, h.has (by exact ⟨rfl, trivial⟩)⟩
  · rintro a w ⟨x10, A11, c12, cs13, rfl, hq14, h⟩
    refine e_thenN ?_
    obtain ⟨o57, hl58, hf⟩ := bsome hf
    refine c_cut (fun a w => ∃ (x64 : List Int), ∃ (A65 : Option Addr), ∃ (c66 : Nat), ∃ (cs67 : List Value), x64 = o57 ∧ reps tyI S0 cs67 x64 ∧ St 84 w0 (ownL ([] ++ [.sn S0])) [(3, .slice A65 x64.length c66)] [.row (.slice A65 x64.length c66) 3 1 x64.length cs67, .sn S0] a w) ?_ ?_
    · refine wp_block ?_
      refine c_loop (fun m70 a w => ∃ (x59 : List Int), ∃ (A60 : Option Addr), ∃ (c61 : Nat), ∃ (cs62 : List Value), chatelaineref46_Letters_l2 Fu m70 x59 = some o57 ∧ reps tyI S0 cs62 x59 ∧ St 84 w0 (ownL ([] ++ [.sn S0])) [(3, .slice A60 x59.length c61)] [.row (.slice A60 x59.length c61) 3 1 x59.length cs62, .sn S0] a w) Fu ⟨x10, A11, c12, cs13, hl58, hq14, h.has (by exact ⟨rfl, trivial⟩)⟩ (fun m70 a w hI => ?_)
      obtain ⟨x59, A60, c61, cs62, hl69, hq63, h⟩ := hI
      obtain _ | m70 := m70
      · rw [chatelaineref46_Letters_l2] at hl69; cases hl69
      rw [chatelaineref46_Letters_l2] at hl69
      refine wp_seq ?_
      refine c_rs ?_ -- region 10
      refine s_move h rfl _ rfl rfl (by decide) rfl (fun a h => ?_)
      have hr71 : r64 (x59.length : Int) := len_r (h.m.rowLen (i := 0) rfl)
      refine s_x h rfl rfl (by decide) (x_len h.k rfl Tryd.underlying99 rfl) (fun a h => ?_)
      refine s_x h rfl rfl (by decide) (x_bin h.k rfl rfl rfl (ib_remw (by decide))) (fun a h => ?_)
      refine s_x h rfl rfl (by decide) (x_bin h.k rfl rfl rfl ib_neq) (fun a h => ?_)
      refine l_end ?_
      refine c_cond h rfl (fun hb => ?_) (fun hb => ?_)
      · rw [if_pos (of_decide_eq_true hb)] at hl69
        refine wp_skip ?_
        refine e_thenN ?_
        refine wp_block ?_
        refine c_r ?_ -- region 11
        refine s_move h rfl _ rfl rfl (by decide) rfl (fun a h => ?_)
        refine q_bslice (T := tyI) (S := S0) h rfl rfl rfl (by decide) Tryd.underlying99 zi_int (by decide) (by decide) (by decide) (by decide) [.int .i64 0] rfl rfl (C := [[.int .i64 0]]) rfl (xs := [0]) ⟨[.int .i64 0], _, rfl, ⟨rfl, (show r64 0 from ⟨by decide, by decide⟩)⟩, rfl⟩ (by intro c hc; simp only [List.mem_cons, List.not_mem_nil, or_false] at hc; subst hc; rfl) (fun a w A72 h => ?_)
        have hb73 : reps tyI S0 ([[.int .i64 0]] : List (List Value)).flatten [0] := ⟨[.int .i64 0], _, rfl, ⟨rfl, (show r64 0 from ⟨by decide, by decide⟩)⟩, rfl⟩
        obtain ⟨x74, h75, hl69⟩ := bsome hl69
        refine q_append (T := tyI) (S := S0) h rfl rfl rfl (by decide) Tryd.underlying99 zb_int rfl (by decide) rfl 1 rfl hq63 rfl hb73 (h.m.rdRowA (i := 0) rfl) h75 (fun a w A76 c77 cs78 hq79 h => ?_)
        refine s_assign h rfl _ rfl rfl (by decide) rfl (fun a h => ?_)
        refine l_nil ?_
        refine e_blkN ?_
        have h := h.pick [1, 2] (by decide) rfl
        exact e_thenN ⟨m70, Nat.lt_succ_self _, x74, A76, c77, cs78, hl69, hq79, h.has (by exact ⟨rfl, trivial⟩)⟩
      · rw [if_neg (of_decide_eq_false hb)] at hl69
        refine wp_exit ?_
        refine e_thenX ?_
        refine e_thenX ?_
        refine e_blkX ?_
        refine e_thenN ?_
        exact ⟨x59, A60, c61, cs62, (Option.some.inj hl69), hq63, h.has (by exact ⟨rfl, trivial⟩)⟩
    · rintro a w ⟨x64, A65, c66, cs67, rfl, hq68, h⟩
      refine c_rs ?_ -- region 12
      refine s_assign h rfl _ rfl rfl (by decide) rfl (fun a h => ?_)
      refine l_end ?_
      refine wp_seq ?_
      refine c_rs ?_ -- region 13
      refine s_assign h rfl _ rfl rfl (by decide) rfl (fun a h => ?_)
      refine l_end ?_
      obtain ⟨o80, hl81, hf⟩ := bsome hf
      refine c_fin (fun a w => ∃ (x86 : List UInt8), x86 = o80 ∧ x86.length ≤ maxLen ∧ St 84 w0 (ownL ([] ++ [.sn S0])) [(7, .string (sb x86))] [.sn S0] a w) ?_ ?_
      · refine wp_block ?_
        refine c_loop (fun m89 a w => ∃ (x82 : List UInt8), ∃ (x84 : Int), chatelaineref46_Letters_l3 Fu x64 m89 x82 x84 = some o80 ∧ x82.length ≤ maxLen ∧ r64 x84 ∧ St 84 w0 (ownL ([] ++ [.sn S0])) [(3, .slice A65 x64.length c66), (7, .string (sb x82)), (8, .int .i64 x84)] [.row (.slice A65 x64.length c66) 3 1 x64.length cs67, .sn S0] a w) Fu ⟨([] : List UInt8), 0, hl81, (by decide), (show r64 0 from ⟨by decide, by decide⟩), h.has (by exact ⟨rfl, rfl, rfl, trivial⟩)⟩ (fun m89 a w hI => ?_)
        obtain ⟨x82, x84, hl88, hr83, hr85, h⟩ := hI
        obtain _ | m89 := m89
        · rw [chatelaineref46_Letters_l3] at hl88; cases hl88
        rw [chatelaineref46_Letters_l3] at hl88
        refine wp_seq ?_
        refine c_rs ?_ -- region 14
        refine s_move h rfl _ rfl rfl (by decide) rfl (fun a h => ?_)
        refine s_move h rfl _ rfl rfl (by decide) rfl (fun a h => ?_)
        have hr90 : r64 (x64.length : Int) := len_r (h.m.rowLen (i := 0) rfl)
        refine s_x h rfl rfl (by decide) (x_len h.k rfl Tryd.underlying99 rfl) (fun a h => ?_)
        refine s_x h rfl rfl (by decide) (x_bin h.k rfl rfl rfl ib_lss) (fun a h => ?_)
        refine l_end ?_
        refine c_cond h rfl (fun hb => ?_) (fun hb => ?_)
        · rw [if_pos (of_decide_eq_true hb)] at hl88
          refine wp_skip ?_
          refine e_thenN ?_
          refine wp_seq ?_
          refine wp_block ?_
          refine wp_seq ?_
          -- region 16 draws
          obtain ⟨m91, h92, hl88⟩ := bsome hl88
          obtain ⟨x97, h98, hl88⟩ := bsome hl88
          obtain ⟨m104, h105, hl88⟩ := bsome hl88
          obtain ⟨x110, h111, hl88⟩ := bsome hl88
          obtain ⟨m117, h118, hl88⟩ := bsome hl88
          obtain ⟨x123, h124, hl88⟩ := bsome hl88
          obtain ⟨m130, h131, hl88⟩ := bsome hl88
          obtain ⟨x136, h137, hl88⟩ := bsome hl88
          obtain ⟨m143, h144, hl88⟩ := bsome hl88
          obtain ⟨x149, h150, hl88⟩ := bsome hl88
          refine d_start h (Mem _ _ _) 33 33 rfl (by kernel_rfl) (fun _ _ _ _ _ h => h) (fun _ h => h) (fun Q a w HE HN h HS => ?_)
          refine d_takeP h (fun _ => HS) HN 0 rfl (by kernel_rfl) (by kernel_rfl) (by kernel_rfl) (by decide) rfl rfl (by decide) (fun w' => x_move h.k _ rfl rfl) (fun a h => ?_)
          refine d_takeP h (fun _ => HS) HN 1 rfl (by kernel_rfl) (by kernel_rfl) (by kernel_rfl) (by decide) rfl rfl (by decide) (fun w' => x_move h.k _ rfl rfl) (fun a h => ?_)
          obtain ⟨hi93, hm94⟩ := ix_some h92
          obtain ⟨g96, hA95⟩ := h.m.rowHead (i := 0) rfl (Nat.lt_of_le_of_lt (Nat.zero_le _) hm94)
          refine d_takeP h (fun _ => HS) HN 2 rfl (by kernel_rfl) (by kernel_rfl) (by kernel_rfl) (by decide) rfl rfl (by decide) (fun w' => x_iaddrE h.k rfl Tryd.underlying99 sz_int hA95 rfl rfl hi93 hm94) (fun a h => ?_)
          obtain ⟨u99, hv100, hu101⟩ := (hq68).cell rfl h98
          obtain ⟨e103, hr102⟩ := hu101
          cases e103
          refine d_take h HS HN 3 rfl (by kernel_rfl) (by kernel_rfl) (by kernel_rfl) (by kernel_rfl) (by kernel_rfl) rfl rfl (by decide) (fun w' hw => x_ld h.k rfl Tryd.underlying3 rfl rfl (hw.cellRowE (i := 0) rfl hA95 _ (by rw [Nat.mul_one]; exact hv100))) (fun a h => ?_)
          refine d_takeP h (fun _ => HS) HN 4 rfl (by kernel_rfl) (by kernel_rfl) (by kernel_rfl) (by decide) rfl rfl (by decide) (fun w' => x_bin h.k rfl rfl rfl (ib_mul rfl)) (fun a h => ?_)
          refine d_takeP h (fun _ => HS) HN 5 rfl (by kernel_rfl) (by kernel_rfl) (by kernel_rfl) (by decide) rfl rfl (by decide) (fun w' => x_move h.k _ rfl rfl) (fun a h => ?_)
          refine d_takeP h (fun _ => HS) HN 6 rfl (by kernel_rfl) (by kernel_rfl) (by kernel_rfl) (by decide) rfl rfl (by decide) (fun w' => x_move h.k _ rfl rfl) (fun a h => ?_)
          refine d_takeP h (fun _ => HS) HN 7 rfl (by kernel_rfl) (by kernel_rfl) (by kernel_rfl) (by decide) rfl rfl (by decide) (fun w' => x_bin h.k rfl rfl rfl (ib_add rfl)) (fun a h => ?_)
          obtain ⟨hi106, hm107⟩ := ix_some h105
          obtain ⟨g109, hA108⟩ := h.m.rowHead (i := 0) rfl (Nat.lt_of_le_of_lt (Nat.zero_le _) hm107)
          refine d_takeP h (fun _ => HS) HN 8 rfl (by kernel_rfl) (by kernel_rfl) (by kernel_rfl) (by decide) rfl rfl (by decide) (fun w' => x_iaddrE h.k rfl Tryd.underlying99 sz_int hA108 rfl rfl hi106 hm107) (fun a h => ?_)
          obtain ⟨u112, hv113, hu114⟩ := (hq68).cell rfl h111
          obtain ⟨e116, hr115⟩ := hu114
          cases e116
          refine d_take h HS HN 9 rfl (by kernel_rfl) (by kernel_rfl) (by kernel_rfl) (by kernel_rfl) (by kernel_rfl) rfl rfl (by decide) (fun w' hw => x_ld h.k rfl Tryd.underlying3 rfl rfl (hw.cellRowE (i := 0) rfl hA108 _ (by rw [Nat.mul_one]; exact hv113))) (fun a h => ?_)
          refine d_takeP h (fun _ => HS) HN 10 rfl (by kernel_rfl) (by kernel_rfl) (by kernel_rfl) (by decide) rfl rfl (by decide) (fun w' => x_bin h.k rfl rfl rfl (ib_mul rfl)) (fun a h => ?_)
          refine d_takeP h (fun _ => HS) HN 11 rfl (by kernel_rfl) (by kernel_rfl) (by kernel_rfl) (by decide) rfl rfl (by decide) (fun w' => x_bin h.k rfl rfl rfl (ib_add rfl)) (fun a h => ?_)
          refine d_takeP h (fun _ => HS) HN 12 rfl (by kernel_rfl) (by kernel_rfl) (by kernel_rfl) (by decide) rfl rfl (by decide) (fun w' => x_move h.k _ rfl rfl) (fun a h => ?_)
          refine d_takeP h (fun _ => HS) HN 13 rfl (by kernel_rfl) (by kernel_rfl) (by kernel_rfl) (by decide) rfl rfl (by decide) (fun w' => x_move h.k _ rfl rfl) (fun a h => ?_)
          refine d_takeP h (fun _ => HS) HN 14 rfl (by kernel_rfl) (by kernel_rfl) (by kernel_rfl) (by decide) rfl rfl (by decide) (fun w' => x_bin h.k rfl rfl rfl (ib_add rfl)) (fun a h => ?_)
          obtain ⟨hi119, hm120⟩ := ix_some h118
          obtain ⟨g122, hA121⟩ := h.m.rowHead (i := 0) rfl (Nat.lt_of_le_of_lt (Nat.zero_le _) hm120)
          refine d_takeP h (fun _ => HS) HN 15 rfl (by kernel_rfl) (by kernel_rfl) (by kernel_rfl) (by decide) rfl rfl (by decide) (fun w' => x_iaddrE h.k rfl Tryd.underlying99 sz_int hA121 rfl rfl hi119 hm120) (fun a h => ?_)
          obtain ⟨u125, hv126, hu127⟩ := (hq68).cell rfl h124
          obtain ⟨e129, hr128⟩ := hu127
          cases e129
          refine d_take h HS HN 16 rfl (by kernel_rfl) (by kernel_rfl) (by kernel_rfl) (by kernel_rfl) (by kernel_rfl) rfl rfl (by decide) (fun w' hw => x_ld h.k rfl Tryd.underlying3 rfl rfl (hw.cellRowE (i := 0) rfl hA121 _ (by rw [Nat.mul_one]; exact hv126))) (fun a h => ?_)
          refine d_takeP h (fun _ => HS) HN 17 rfl (by kernel_rfl) (by kernel_rfl) (by kernel_rfl) (by decide) rfl rfl (by decide) (fun w' => x_bin h.k rfl rfl rfl (ib_mul rfl)) (fun a h => ?_)
          refine d_takeP h (fun _ => HS) HN 18 rfl (by kernel_rfl) (by kernel_rfl) (by kernel_rfl) (by decide) rfl rfl (by decide) (fun w' => x_bin h.k rfl rfl rfl (ib_add rfl)) (fun a h => ?_)
          refine d_takeP h (fun _ => HS) HN 19 rfl (by kernel_rfl) (by kernel_rfl) (by kernel_rfl) (by decide) rfl rfl (by decide) (fun w' => x_move h.k _ rfl rfl) (fun a h => ?_)
          refine d_takeP h (fun _ => HS) HN 20 rfl (by kernel_rfl) (by kernel_rfl) (by kernel_rfl) (by decide) rfl rfl (by decide) (fun w' => x_move h.k _ rfl rfl) (fun a h => ?_)
          refine d_takeP h (fun _ => HS) HN 21 rfl (by kernel_rfl) (by kernel_rfl) (by kernel_rfl) (by decide) rfl rfl (by decide) (fun w' => x_bin h.k rfl rfl rfl (ib_add rfl)) (fun a h => ?_)
          obtain ⟨hi132, hm133⟩ := ix_some h131
          obtain ⟨g135, hA134⟩ := h.m.rowHead (i := 0) rfl (Nat.lt_of_le_of_lt (Nat.zero_le _) hm133)
          refine d_takeP h (fun _ => HS) HN 22 rfl (by kernel_rfl) (by kernel_rfl) (by kernel_rfl) (by decide) rfl rfl (by decide) (fun w' => x_iaddrE h.k rfl Tryd.underlying99 sz_int hA134 rfl rfl hi132 hm133) (fun a h => ?_)
          obtain ⟨u138, hv139, hu140⟩ := (hq68).cell rfl h137
          obtain ⟨e142, hr141⟩ := hu140
          cases e142
          refine d_take h HS HN 23 rfl (by kernel_rfl) (by kernel_rfl) (by kernel_rfl) (by kernel_rfl) (by kernel_rfl) rfl rfl (by decide) (fun w' hw => x_ld h.k rfl Tryd.underlying3 rfl rfl (hw.cellRowE (i := 0) rfl hA134 _ (by rw [Nat.mul_one]; exact hv139))) (fun a h => ?_)
          refine d_takeP h (fun _ => HS) HN 24 rfl (by kernel_rfl) (by kernel_rfl) (by kernel_rfl) (by decide) rfl rfl (by decide) (fun w' => x_bin h.k rfl rfl rfl (ib_mul rfl)) (fun a h => ?_)
          refine d_takeP h (fun _ => HS) HN 25 rfl (by kernel_rfl) (by kernel_rfl) (by kernel_rfl) (by decide) rfl rfl (by decide) (fun w' => x_bin h.k rfl rfl rfl (ib_add rfl)) (fun a h => ?_)
          refine d_takeP h (fun _ => HS) HN 26 rfl (by kernel_rfl) (by kernel_rfl) (by kernel_rfl) (by decide) rfl rfl (by decide) (fun w' => x_move h.k _ rfl rfl) (fun a h => ?_)
          refine d_takeP h (fun _ => HS) HN 27 rfl (by kernel_rfl) (by kernel_rfl) (by kernel_rfl) (by decide) rfl rfl (by decide) (fun w' => x_move h.k _ rfl rfl) (fun a h => ?_)
          refine d_takeP h (fun _ => HS) HN 28 rfl (by kernel_rfl) (by kernel_rfl) (by kernel_rfl) (by decide) rfl rfl (by decide) (fun w' => x_bin h.k rfl rfl rfl (ib_add rfl)) (fun a h => ?_)
          obtain ⟨hi145, hm146⟩ := ix_some h144
          obtain ⟨g148, hA147⟩ := h.m.rowHead (i := 0) rfl (Nat.lt_of_le_of_lt (Nat.zero_le _) hm146)
          refine d_takeP h (fun _ => HS) HN 29 rfl (by kernel_rfl) (by kernel_rfl) (by kernel_rfl) (by decide) rfl rfl (by decide) (fun w' => x_iaddrE h.k rfl Tryd.underlying99 sz_int hA147 rfl rfl hi145 hm146) (fun a h => ?_)
          obtain ⟨u151, hv152, hu153⟩ := (hq68).cell rfl h150
          obtain ⟨e155, hr154⟩ := hu153
          cases e155
          refine d_take h HS HN 30 rfl (by kernel_rfl) (by kernel_rfl) (by kernel_rfl) (by kernel_rfl) (by kernel_rfl) rfl rfl (by decide) (fun w' hw => x_ld h.k rfl Tryd.underlying3 rfl rfl (hw.cellRowE (i := 0) rfl hA147 _ (by rw [Nat.mul_one]; exact hv152))) (fun a h => ?_)
          refine d_takeP h (fun _ => HS) HN 31 rfl (by kernel_rfl) (by kernel_rfl) (by kernel_rfl) (by decide) rfl rfl (by decide) (fun w' => x_bin h.k rfl rfl rfl (ib_add rfl)) (fun a h => ?_)
          refine d_takeP h (fun _ => HS) HN 32 rfl (by kernel_rfl) (by kernel_rfl) (by kernel_rfl) (by decide) rfl rfl (by decide) (fun w' => x_assign h.k _ rfl rfl) (fun a h => ?_)
          refine d_done (by kernel_rfl) (HE _ _ ?_) _
          refine e_thenN ?_
          refine c_r ?_ -- region 17
          refine s_move h rfl _ rfl rfl (by decide) rfl (fun a h => ?_)
          refine s_move h rfl _ rfl rfl (by decide) rfl (fun a h => ?_)
          refine s_move h rfl _ rfl rfl (by decide) rfl (fun a h => ?_)
          refine s_x h rfl rfl (by decide) (x_bin h.k rfl rfl rfl (ib_add rfl)) (fun a h => ?_)
          obtain ⟨x156, h157, hl88⟩ := bsome hl88
          obtain ⟨m158, n159, hi160, hi161, hm162, hm163, hr164⟩ := sub_some h157
          refine s_x h rfl rfl (by decide) (x_sliceStr h.k rfl Tryd.underlying9 rfl hr164 (bd_some rfl hi160) (bd_some rfl hi161) hm162 hm163) (fun a h => ?_)
          obtain ⟨x165, h166, hl88⟩ := bsome hl88
          refine s_x h rfl rfl (by decide) (x_addS h.k rfl rfl rfl h166) (fun a h => ?_)
          refine s_assign h rfl _ rfl rfl (by decide) rfl (fun a h => ?_)
          refine l_nil ?_
          refine e_blkN ?_
          refine e_thenN ?_
          refine c_r ?_ -- region 15
          refine s_move h rfl _ rfl rfl (by decide) rfl (fun a h => ?_)
          refine s_x h rfl rfl (by decide) (x_bin h.k rfl rfl rfl (ib_add rfl)) (fun a h => ?_)
          refine s_assign h rfl _ rfl rfl (by decide) rfl (fun a h => ?_)
          refine l_nil ?_
          exact e_thenN ⟨m89, Nat.lt_succ_self _, x165, w64 (x84 + 5), hl88, (sapp_some h166).2, (w64_r _), h.has (by exact ⟨rfl, rfl, rfl, trivial⟩)⟩
        · rw [if_neg (of_decide_eq_false hb)] at hl88
          refine wp_exit ?_
          refine e_thenX ?_
          refine e_thenX ?_
          refine e_blkX ?_
          refine e_thenN ?_
          have h := h.pick [1] (by decide) rfl
          exact ⟨x82, (Option.some.inj hl88), hr83, h.has (by exact ⟨rfl, trivial⟩)⟩
      · rintro a w ⟨x86, rfl, hr87, h⟩
        refine e_thenN ?_
        refine c_rs ?_ -- region 18
        refine s_move h rfl _ rfl rfl (by decide) rfl (fun a h => ?_)
        refine s_assign h rfl _ rfl rfl (by decide) rfl (fun a h => ?_)
        refine l_end ?_
        refine wp_ret ?_
        rw [← Option.some.inj hf]
        exact r_ret1 h rfl (rv_tmp h rfl) ⟨_, [], _, rfl, ⟨rfl, rfl, hr87, trivial⟩, rfl, (Up.refl _ _ _), h.m⟩
def chatelaineref46_letter (Fu : Nat) (a0 : UInt8) : Option Int :=
  if ((decide (97 ≤ (a0.toNat : Int))) && (decide ((a0.toNat : Int) ≤ 122))) = true then (some (w64 ((a0.toNat : Int) - 97))) else (if ((decide (50 ≤ (a0.toNat : Int))) && (decide ((a0.toNat : Int) ≤ 55))) = true then (some (w64 ((w64 ((a0.toNat : Int) - 50)) + 26))) else (some (-1)))
set_option maxRecDepth 100000 in
set_option maxHeartbeats 2000000 in
theorem chatelaineref46_letter_ok (Fu : Nat) {S0 : Snap} (a0 : UInt8) (r : Int) (hf : chatelaineref46_letter Fu a0 = some r) (w0 : World) (hm : Mem w0 (ownL ([] ++ [.sn S0])) ([] ++ [.sn S0]) w0) :
    Calls Tryd.prog 61 #[.int .u8 (a0.toNat : Int)] w0 (Ret w0 S0 [] (fun v L1 S1 => v = .int .i64 r ∧ L1 = [] ∧ r64 r ∧ True)) := by
  unfold chatelaineref46_letter at hf
  refine c_enterM Tryd.func61 rfl 22 rfl (by simp) _ hm _ rfl (fun a h => ?_)
  refine c_rs ?_ -- region 0
  refine s_assign h rfl _ rfl rfl (by decide) rfl (fun a h => ?_)
  refine l_end ?_
  refine wp_seq ?_
  refine c_rs ?_ -- region 1
  refine s_move h rfl _ rfl rfl (by decide) rfl (fun a h => ?_)
  refine s_x h rfl rfl (by decide) (x_bin h.k rfl rfl rfl ib_geq) (fun a h => ?_)
  refine s_move h rfl _ rfl rfl (by decide) rfl (fun a h => ?_)
  refine q_grp h 3 (t := 5) 8 ((decide (97 ≤ (a0.toNat : Int))) && (decide ((a0.toNat : Int) ≤ 122))) rfl (fun hB2 => ?_) (fun hB2 => ?_) (fun a w h => ?_)
  · refine g_yes h rfl rfl rfl rfl hB2 ?_
    refine s_move h rfl _ rfl rfl (by decide) rfl (fun a h => ?_)
    refine g_yes h rfl rfl rfl rfl hB2 ?_
    refine s_x h rfl rfl (by decide) (x_bin h.k rfl rfl rfl ib_leq) (fun a h => ?_)
    refine s_x h rfl rfl (by decide) (x_pick (u' := undef) h.k rfl rfl (fun _ => rfl) (fun hh => absurd (hB2.symm.trans hh) (by decide))) (fun a h => ?_)
    exact (h.mid 2 rfl).val (by first | rfl | (rw [hB2]; first | rfl | simp))
  · refine g_no h rfl rfl rfl rfl hB2 rfl (by decide) (fun a h => ?_)
    refine g_no h rfl rfl rfl rfl hB2 rfl (by decide) (fun a h => ?_)
    refine s_x h rfl rfl (by decide) (x_pick (u' := undef) h.k rfl rfl (fun hh => absurd (hB2.symm.trans hh) (by decide)) (fun _ => rfl)) (fun a h => ?_)
    exact (h.mid 2 rfl).val (by first | rfl | (rw [hB2]; first | rfl | simp))
  refine l_end ?_
  refine c_cond h rfl (fun hb => ?_) (fun hb => ?_)
  · rw [if_pos hb] at hf
    refine c_rs ?_ -- region 2
    refine s_move h rfl _ rfl rfl (by decide) rfl (fun a h => ?_)
    refine s_x h rfl rfl (by decide) (x_convE h.k rfl Tryd.underlying5 Tryd.underlying3 rfl (nw64 (u8_r _))) (fun a h => ?_)
    refine s_x h rfl rfl (by decide) (x_bin h.k rfl rfl rfl (ib_sub rfl)) (fun a h => ?_)
    refine s_assign h rfl _ rfl rfl (by decide) rfl (fun a h => ?_)
    refine l_end ?_
    refine wp_ret ?_
    refine e_thenR ?_
    obtain rfl := Option.some.inj hf
    exact r_ret1 h rfl (rv_tmp h rfl) ⟨_, [], _, rfl, ⟨rfl, rfl, (w64_r _), trivial⟩, rfl, (Up.refl _ _ _), h.m⟩
  · rw [if_neg (by rw [hb]; decide)] at hf
    refine wp_skip ?_
    refine e_thenN ?_
    refine wp_seq ?_
    refine c_rs ?_ -- region 3
    refine s_move h rfl _ rfl rfl (by decide) rfl (fun a h => ?_)
    refine s_x h rfl rfl (by decide) (x_bin h.k rfl rfl rfl ib_geq) (fun a h => ?_)
    refine s_move h rfl _ rfl rfl (by decide) rfl (fun a h => ?_)
    refine q_grp h 3 (t := 14) 17 ((decide (50 ≤ (a0.toNat : Int))) && (decide ((a0.toNat : Int) ≤ 55))) rfl (fun hB2 => ?_) (fun hB2 => ?_) (fun a w h => ?_)
    · refine g_yes h rfl rfl rfl rfl hB2 ?_
      refine s_move h rfl _ rfl rfl (by decide) rfl (fun a h => ?_)
      refine g_yes h rfl rfl rfl rfl hB2 ?_
      refine s_x h rfl rfl (by decide) (x_bin h.k rfl rfl rfl ib_leq) (fun a h => ?_)
      refine s_x h rfl rfl (by decide) (x_pick (u' := undef) h.k rfl rfl (fun _ => rfl) (fun hh => absurd (hB2.symm.trans hh) (by decide))) (fun a h => ?_)
      exact (h.mid 2 rfl).val (by first | rfl | (rw [hB2]; first | rfl | simp))
    · refine g_no h rfl rfl rfl rfl hB2 rfl (by decide) (fun a h => ?_)
      refine g_no h rfl rfl rfl rfl hB2 rfl (by decide) (fun a h => ?_)
      refine s_x h rfl rfl (by decide) (x_pick (u' := undef) h.k rfl rfl (fun hh => absurd (hB2.symm.trans hh) (by decide)) (fun _ => rfl)) (fun a h => ?_)
      exact (h.mid 2 rfl).val (by first | rfl | (rw [hB2]; first | rfl | simp))
    refine l_end ?_
    refine c_cond h rfl (fun hb => ?_) (fun hb => ?_)
    · rw [if_pos hb] at hf
      refine c_rs ?_ -- region 4
      refine s_move h rfl _ rfl rfl (by decide) rfl (fun a h => ?_)
      refine s_x h rfl rfl (by decide) (x_convE h.k rfl Tryd.underlying5 Tryd.underlying3 rfl (nw64 (u8_r _))) (fun a h => ?_)
      refine s_x h rfl rfl (by decide) (x_bin h.k rfl rfl rfl (ib_sub rfl)) (fun a h => ?_)
      refine s_x h rfl rfl (by decide) (x_bin h.k rfl rfl rfl (ib_add rfl)) (fun a h => ?_)
      refine s_assign h rfl _ rfl rfl (by decide) rfl (fun a h => ?_)
      refine l_end ?_
      refine wp_ret ?_
      refine e_thenR ?_
      obtain rfl := Option.some.inj hf
      exact r_ret1 h rfl (rv_tmp h rfl) ⟨_, [], _, rfl, ⟨rfl, rfl, (w64_r _), trivial⟩, rfl, (Up.refl _ _ _), h.m⟩
    · rw [if_neg (by rw [hb]; decide)] at hf
      refine wp_skip ?_
      refine e_thenN ?_
      refine c_rs ?_ -- region 5
      refine s_assign h rfl _ rfl rfl (by decide) rfl (fun a h => ?_)
      refine l_end ?_
      refine wp_ret ?_
      obtain rfl := Option.some.inj hf
      exact r_ret1 h rfl (rv_tmp h rfl) ⟨_, [], _, rfl, ⟨rfl, rfl, (show r64 (-1) from ⟨by decide, by decide⟩), trivial⟩, rfl, (Up.refl _ _ _), h.m⟩
def chatelaineref46_Bytes_l0 (Fu : Nat) (a0 : List UInt8) : Nat → (List Int) → Int → Option (Sum ((List UInt8) × Bool) ((List Int)))
  | 0, _, _ => none
  | k + 1, x3, x8 => if x8 < (a0.length : Int) then ((idx a0 x8).bind fun x19 => (chatelaineref46_letter Fu x19).bind fun x24 => if x24 < 0 then (some (.inl ([], false))) else ((app 8 x3 ([w64 (Int.tdiv x24 16), Int.tmod (w64 (Int.tdiv x24 8)) 2, Int.tmod (w64 (Int.tdiv x24 4)) 2, Int.tmod (w64 (Int.tdiv x24 2)) 2, Int.tmod x24 2])).bind fun x31 => chatelaineref46_Bytes_l0 Fu a0 k x31 (w64 (x8 + 1)))) else (some (.inr x3))
def chatelaineref46_Bytes_l2 (Fu : Nat) (x10 : List Int) (x44 : Int) : Nat → Int → Int → Option Int
  | 0, _, _ => none
  | k + 1, x57, x59 => if x59 < 8 then ((ix x10.length (w64 (x44 + x59))).bind fun m65 => (x10[m65]?).bind fun x71 => chatelaineref46_Bytes_l2 Fu x10 x44 k (w64 ((w64 (2 * x57)) + x71)) (w64 (x59 + 1))) else (some x57)
def chatelaineref46_Bytes_l1 (Fu : Nat) (x10 : List Int) : Nat → (List UInt8) → Int → Option ((List UInt8))
  | 0, _, _ => none
  | k + 1, x39, x44 => if w64 (x44 + 8) ≤ (x10.length : Int) then ((chatelaineref46_Bytes_l2 Fu x10 x44 Fu 0 0).bind fun x61 => (app 1 x39 ([i8 x61])).bind fun x80 => chatelaineref46_Bytes_l1 Fu x10 k x80 (w64 (x44 + 8))) else (some x39)
def chatelaineref46_Bytes (Fu : Nat) (a0 : List UInt8) : Option ((List UInt8) × Bool) :=
  (chatelaineref46_Bytes_l0 Fu a0 Fu ([]) 0).bind fun o => match o with | .inl r93 => some r93 | .inr x10 => (chatelaineref46_Bytes_l1 Fu x10 Fu ([]) 0).bind fun x46 => (chatelaineref46_Letters Fu x46).bind fun x87 => if (!(decide (x87 = a0))) = true then (some ([], false)) else (some (x46, true))
set_option maxRecDepth 100000 in
set_option maxHeartbeats 2000000 in
theorem chatelaineref46_Bytes_ok (Fu : Nat) {S0 : Snap} (a0 : List UInt8) (hra0 : a0.length ≤ maxLen) (r : (List UInt8) × Bool) (hf : chatelaineref46_Bytes Fu a0 = some r) (w0 : World) (hm : Mem w0 (ownL ([] ++ [.sn S0])) ([] ++ [.sn S0]) w0) :
    Calls Tryd.prog 40 #[.string (sb a0)] w0 (Ret w0 S0 [] (fun v L1 S1 => ∃ (A94 : Option Addr), ∃ (c95 : Nat), ∃ (cs96 : List Value), v = .tuple #[.slice A94 r.1.length c95, .bool r.2] ∧ L1 = [.row (.slice A94 r.1.length c95) 5 1 r.1.length cs96] ∧ reps ty8 S1 cs96 r.1 ∧ True)) := by
  unfold chatelaineref46_Bytes at hf
  refine c_enterM Tryd.func40 rfl 69 rfl (by simp) _ hm _ rfl (fun a h => ?_)
  refine c_rs ?_ -- region 0
  refine s_assign h rfl _ rfl rfl (by decide) rfl (fun a h => ?_)
  refine s_assign h rfl _ rfl rfl (by decide) rfl (fun a h => ?_)
  refine l_end ?_
  refine c_rs ?_ -- region 1
  refine s_assign h rfl _ rfl rfl (by decide) rfl (fun a h => ?_)
  refine l_end ?_
  refine wp_seq ?_
  refine c_rs ?_ -- region 2
  refine s_assign h rfl _ rfl rfl (by decide) rfl (fun a h => ?_)
  refine l_end ?_
  obtain ⟨o1, hl2, hf⟩ := bsome hf
  refine c_fin (fun a w => ∃ (x10 : List Int), ∃ (A11 : Option Addr), ∃ (c12 : Nat), ∃ (cs13 : List Value), (.inr x10) = o1 ∧ reps tyI S0 cs13 x10 ∧ St 69 w0 (ownL ([] ++ [.sn S0])) [(0, .string (sb a0)), (4, .slice A11 x10.length c12)] [.row (.slice A11 x10.length c12) 3 1 x10.length cs13, .sn S0] a w) ?_ ?_
  · refine wp_block ?_
    have h := h.mem (h.m.nilrow 3 1)
    refine c_loop (fun m16 a w => ∃ (x3 : List Int), ∃ (A4 : Option Addr), ∃ (c5 : Nat), ∃ (cs6 : List Value), ∃ (x8 : Int), chatelaineref46_Bytes_l0 Fu a0 m16 x3 x8 = some o1 ∧ reps tyI S0 cs6 x3 ∧ r64 x8 ∧ St 69 w0 (ownL ([] ++ [.sn S0])) [(0, .string (sb a0)), (4, .slice A4 x3.length c5), (5, .int .i64 x8)] [.row (.slice A4 x3.length c5) 3 1 x3.length cs6, .sn S0] a w) Fu ⟨[], none, 0, [], 0, hl2, (show reps tyI S0 [] [] from rfl), (show r64 0 from ⟨by decide, by decide⟩), h.has (by exact ⟨rfl, rfl, rfl, trivial⟩)⟩ (fun m16 a w hI => ?_)
    obtain ⟨x3, A4, c5, cs6, x8, hl15, hq7, hr9, h⟩ := hI
    obtain _ | m16 := m16
    · rw [chatelaineref46_Bytes_l0] at hl15; cases hl15
    rw [chatelaineref46_Bytes_l0] at hl15
    refine wp_seq ?_
    refine c_rs ?_ -- region 3
    refine s_move h rfl _ rfl rfl (by decide) rfl (fun a h => ?_)
    refine s_move h rfl _ rfl rfl (by decide) rfl (fun a h => ?_)
    refine s_x h rfl rfl (by decide) (x_lenStr h.k rfl Tryd.underlying9 rfl) (fun a h => ?_)
    refine s_x h rfl rfl (by decide) (x_bin h.k rfl rfl rfl ib_lss) (fun a h => ?_)
    refine l_end ?_
    refine c_cond h rfl (fun hb => ?_) (fun hb => ?_)
    · rw [if_pos (of_decide_eq_true hb)] at hl15
      refine wp_skip ?_
      refine e_thenN ?_
      refine wp_seq ?_
      refine wp_block ?_
      refine c_rs ?_ -- region 5
      refine s_move h rfl _ rfl rfl (by decide) rfl (fun a h => ?_)
      refine s_move h rfl _ rfl rfl (by decide) rfl (fun a h => ?_)
      obtain ⟨x19, h20, hl15⟩ := bsome hl15
      obtain ⟨m18, hi21, hm22, hx23⟩ := idx_some h20
      refine s_x h rfl rfl (by decide) (x_indexStr h.k rfl Tryd.underlying9 rfl rfl hi21 hx23) (fun a h => ?_)
      obtain ⟨x24, h25, hl15⟩ := bsome hl15
      have hX := chatelaineref46_letter_ok Fu (S0 := snapAll _) x19 _ h25 _ h.startAll
      refine q_callX hX h rfl rfl rfl (by decide) Tryd.func61 rfl rfl rfl (fun a w v L1 S1 hR hb1 h => ?_)
      obtain ⟨rfl, rfl, hr27, _⟩ := hR
      refine s_assign h rfl _ rfl rfl (by decide) rfl (fun a h => ?_)
      refine l_end ?_
      refine wp_seq ?_
      refine c_rs ?_ -- region 6
      refine s_move h rfl _ rfl rfl (by decide) rfl (fun a h => ?_)
      refine s_x h rfl rfl (by decide) (x_bin h.k rfl rfl rfl ib_lss) (fun a h => ?_)
      refine l_end ?_
      refine c_cond h rfl (fun hb => ?_) (fun hb => ?_)
      · rw [if_pos (of_decide_eq_true hb)] at hl15
        refine c_rs ?_ -- region 7
        refine s_assign h rfl _ rfl rfl (by decide) rfl (fun a h => ?_)
        refine s_assign h rfl _ rfl rfl (by decide) rfl (fun a h => ?_)
        refine l_end ?_
        refine wp_ret ?_
        refine e_thenR ?_
        refine e_blkR ?_
        refine e_thenR ?_
        refine e_thenR ?_
        refine e_blkR ?_
        refine e_thenR ?_
        cases hl15
        try dsimp only at hf
        refine e_thenR ?_
        obtain rfl := Option.some.inj hf
        have h := h.mem (h.m.nilrow 5 1)
        exact r_ret2 h rfl (rv_tmp h rfl) (rv_tmp h rfl) ⟨_, [.row (.slice none ([]).length 0) 5 1 ([]).length []], _, rfl, ⟨none, 0, [], rfl, rfl, (show reps ty8 S0 [] [] from rfl), trivial⟩, rfl, (Up.refl _ _ _), (h.m.pick [0, 2] _ (by decide) rfl)⟩
      · rw [if_neg (of_decide_eq_false hb)] at hl15
        refine wp_skip ?_
        refine e_thenN ?_
        refine c_r ?_ -- region 8
        refine s_move h rfl _ rfl rfl (by decide) rfl (fun a h => ?_)
        refine s_move h rfl _ rfl rfl (by decide) rfl (fun a h => ?_)
        refine s_x h rfl rfl (by decide) (x_bin h.k rfl rfl rfl (ib_quow (by decide))) (fun a h => ?_)
        refine s_move h rfl _ rfl rfl (by decide) rfl (fun a h => ?_)
        refine s_x h rfl rfl (by decide) (x_bin h.k rfl rfl rfl (ib_quow (by decide))) (fun a h => ?_)
        refine s_x h rfl rfl (by decide) (x_bin h.k rfl rfl rfl (ib_remw (by decide))) (fun a h => ?_)
        refine s_move h rfl _ rfl rfl (by decide) rfl (fun a h => ?_)
        refine s_x h rfl rfl (by decide) (x_bin h.k rfl rfl rfl (ib_quow (by decide))) (fun a h => ?_)
        refine s_x h rfl rfl (by decide) (x_bin h.k rfl rfl rfl (ib_remw (by decide))) (fun a h => ?_)
        refine s_move h rfl _ rfl rfl (by decide) rfl (fun a h => ?_)
        refine s_x h rfl rfl (by decide) (x_bin h.k rfl rfl rfl (ib_quow (by decide))) (fun a h => ?_)
        refine s_x h rfl rfl (by decide) (x_bin h.k rfl rfl rfl (ib_remw (by decide))) (fun a h => ?_)
        refine s_move h rfl _ rfl rfl (by decide) rfl (fun a h => ?_)
        refine s_x h rfl rfl (by decide) (x_bin h.k rfl rfl rfl (ib_remw (by decide))) (fun a h => ?_)
        refine q_bslice (T := tyI) (S := S0) h rfl rfl rfl (by decide) Tryd.underlying99 zi_int (by decide) (by decide) (by decide) (by decide) [.int .i64 (w64 (Int.tdiv x24 16)), .int .i64 (Int.tmod (w64 (Int.tdiv x24 8)) 2), .int .i64 (Int.tmod (w64 (Int.tdiv x24 4)) 2), .int .i64 (Int.tmod (w64 (Int.tdiv x24 2)) 2), .int .i64 (Int.tmod x24 2)] rfl rfl (C := [[.int .i64 (w64 (Int.tdiv x24 16))], [.int .i64 (Int.tmod (w64 (Int.tdiv x24 8)) 2)], [.int .i64 (Int.tmod (w64 (Int.tdiv x24 4)) 2)], [.int .i64 (Int.tmod (w64 (Int.tdiv x24 2)) 2)], [.int .i64 (Int.tmod x24 2)]]) rfl (xs := [w64 (Int.tdiv x24 16), Int.tmod (w64 (Int.tdiv x24 8)) 2, Int.tmod (w64 (Int.tdiv x24 4)) 2, Int.tmod (w64 (Int.tdiv x24 2)) 2, Int.tmod x24 2]) ⟨[.int .i64 (w64 (Int.tdiv x24 16))], _, rfl, ⟨rfl, (w64_r _)⟩, ⟨[.int .i64 (Int.tmod (w64 (Int.tdiv x24 8)) 2)], _, rfl, ⟨rfl, (tmod_r (w64_r _) _)⟩, ⟨[.int .i64 (Int.tmod (w64 (Int.tdiv x24 4)) 2)], _, rfl, ⟨rfl, (tmod_r (w64_r _) _)⟩, ⟨[.int .i64 (Int.tmod (w64 (Int.tdiv x24 2)) 2)], _, rfl, ⟨rfl, (tmod_r (w64_r _) _)⟩, ⟨[.int .i64 (Int.tmod x24 2)], _, rfl, ⟨rfl, (tmod_r hr27 _)⟩, rfl⟩⟩⟩⟩⟩ (by simp only [List.mem_cons, List.not_mem_nil, or_false]; rintro c (rfl | rfl | rfl | rfl | rfl) <;> rfl) (fun a w A29 h => ?_)
        have hb30 : reps tyI S0 ([[.int .i64 (w64 (Int.tdiv x24 16))], [.int .i64 (Int.tmod (w64 (Int.tdiv x24 8)) 2)], [.int .i64 (Int.tmod (w64 (Int.tdiv x24 4)) 2)], [.int .i64 (Int.tmod (w64 (Int.tdiv x24 2)) 2)], [.int .i64 (Int.tmod x24 2)]] : List (List Value)).flatten [w64 (Int.tdiv x24 16), Int.tmod (w64 (Int.tdiv x24 8)) 2, Int.tmod (w64 (Int.tdiv x24 4)) 2, Int.tmod (w64 (Int.tdiv x24 2)) 2, Int.tmod x24 2] := ⟨[.int .i64 (w64 (Int.tdiv x24 16))], _, rfl, ⟨rfl, (w64_r _)⟩, ⟨[.int .i64 (Int.tmod (w64 (Int.tdiv x24 8)) 2)], _, rfl, ⟨rfl, (tmod_r (w64_r _) _)⟩, ⟨[.int .i64 (Int.tmod (w64 (Int.tdiv x24 4)) 2)], _, rfl, ⟨rfl, (tmod_r (w64_r _) _)⟩, ⟨[.int .i64 (Int.tmod (w64 (Int.tdiv x24 2)) 2)], _, rfl, ⟨rfl, (tmod_r (w64_r _) _)⟩, ⟨[.int .i64 (Int.tmod x24 2)], _, rfl, ⟨rfl, (tmod_r hr27 _)⟩, rfl⟩⟩⟩⟩⟩
        obtain ⟨x31, h32, hl15⟩ := bsome hl15
        refine q_append (T := tyI) (S := S0) h rfl rfl rfl (by decide) Tryd.underlying99 zb_int rfl (by decide) rfl 1 rfl hq7 rfl hb30 (h.m.rdRowA (i := 0) rfl) h32 (fun a w A33 c34 cs35 hq36 h => ?_)
        refine s_assign h rfl _ rfl rfl (by decide) rfl (fun a h => ?_)
        refine l_nil ?_
        refine e_blkN ?_
        refine e_thenN ?_
        refine c_r ?_ -- region 4
        refine s_move h rfl _ rfl rfl (by decide) rfl (fun a h => ?_)
        refine s_x h rfl rfl (by decide) (x_bin h.k rfl rfl rfl (ib_add rfl)) (fun a h => ?_)
        refine s_assign h rfl _ rfl rfl (by decide) rfl (fun a h => ?_)
        refine l_nil ?_
        have h := h.pick [1, 2] (by decide) rfl
        exact e_thenN ⟨m16, Nat.lt_succ_self _, x31, A33, c34, cs35, w64 (x8 + 1), hl15, hq36, (w64_r _), h.has (by exact ⟨rfl, rfl, rfl, trivial⟩)⟩
    · rw [if_neg (of_decide_eq_false hb)] at hl15
      refine wp_exit ?_
      refine e_thenX ?_
      refine e_thenX ?_
      refine e_blkX ?_
      refine e_thenN ?_
      exact ⟨x3, A4, c5, cs6, (Option.some.inj hl15), hq7, h.has (by exact ⟨rfl, rfl, trivial⟩)⟩
  · rintro a w ⟨x10, A11, c12, cs13, rfl, hq14, h⟩
    try dsimp only at hf
    refine e_thenN ?_
    refine c_rs ?_ -- region 9
    refine s_assign h rfl _ rfl rfl (by decide) rfl (fun a h => ?_)
    refine l_end ?_
    refine wp_seq ?_
    refine c_rs ?_ -- region 10
    refine s_assign h rfl _ rfl rfl (by decide) rfl (fun a h => ?_)
    refine l_end ?_
    obtain ⟨o37, hl38, hf⟩ := bsome hf
    refine c_fin (fun a w => ∃ (x46 : List UInt8), ∃ (A47 : Option Addr), ∃ (c48 : Nat), ∃ (cs49 : List Value), x46 = o37 ∧ reps ty8 S0 cs49 x46 ∧ St 69 w0 (ownL ([] ++ [.sn S0])) [(0, .string (sb a0)), (7, .slice A47 x46.length c48)] [.row (.slice A47 x46.length c48) 5 1 x46.length cs49, .sn S0] a w) ?_ ?_
    · refine wp_block ?_
      have h := h.mem (h.m.nilrow 5 1)
      have h := h.pick [1, 0, 2] (by decide) rfl
      refine c_loop (fun m52 a w => ∃ (x39 : List UInt8), ∃ (A40 : Option Addr), ∃ (c41 : Nat), ∃ (cs42 : List Value), ∃ (x44 : Int), chatelaineref46_Bytes_l1 Fu x10 m52 x39 x44 = some o37 ∧ reps ty8 S0 cs42 x39 ∧ r64 x44 ∧ St 69 w0 (ownL ([] ++ [.sn S0])) [(0, .string (sb a0)), (4, .slice A11 x10.length c12), (7, .slice A40 x39.length c41), (8, .int .i64 x44)] [.row (.slice A11 x10.length c12) 3 1 x10.length cs13, .row (.slice A40 x39.length c41) 5 1 x39.length cs42, .sn S0] a w) Fu ⟨[], none, 0, [], 0, hl38, (show reps ty8 S0 [] [] from rfl), (show r64 0 from ⟨by decide, by decide⟩), h.has (by exact ⟨rfl, rfl, rfl, rfl, trivial⟩)⟩ (fun m52 a w hI => ?_)
      obtain ⟨x39, A40, c41, cs42, x44, hl51, hq43, hr45, h⟩ := hI
      obtain _ | m52 := m52
      · rw [chatelaineref46_Bytes_l1] at hl51; cases hl51
      rw [chatelaineref46_Bytes_l1] at hl51
      refine wp_seq ?_
      refine c_rs ?_ -- region 11
      refine s_move h rfl _ rfl rfl (by decide) rfl (fun a h => ?_)
      refine s_x h rfl rfl (by decide) (x_bin h.k rfl rfl rfl (ib_add rfl)) (fun a h => ?_)
      refine s_move h rfl _ rfl rfl (by decide) rfl (fun a h => ?_)
      have hr54 : r64 (x10.length : Int) := len_r (h.m.rowLen (i := 0) rfl)
      refine s_x h rfl rfl (by decide) (x_len h.k rfl Tryd.underlying99 rfl) (fun a h => ?_)
      refine s_x h rfl rfl (by decide) (x_bin h.k rfl rfl rfl ib_leq) (fun a h => ?_)
      refine l_end ?_
      refine c_cond h rfl (fun hb => ?_) (fun hb => ?_)
      · rw [if_pos (of_decide_eq_true hb)] at hl51
        refine wp_skip ?_
        refine e_thenN ?_
        refine wp_seq ?_
        refine wp_block ?_
        refine c_rs ?_ -- region 13
        refine s_assign h rfl _ rfl rfl (by decide) rfl (fun a h => ?_)
        refine l_end ?_
        refine wp_seq ?_
        refine c_rs ?_ -- region 14
        refine s_assign h rfl _ rfl rfl (by decide) rfl (fun a h => ?_)
        refine l_end ?_
        obtain ⟨o55, hl56, hl51⟩ := bsome hl51
        refine c_fin (fun a w => ∃ (x61 : Int), x61 = o55 ∧ r64 x61 ∧ St 69 w0 (ownL ([] ++ [.sn S0])) [(0, .string (sb a0)), (4, .slice A11 x10.length c12), (7, .slice A40 x39.length c41), (8, .int .i64 x44), (9, .int .i64 x61)] [.row (.slice A11 x10.length c12) 3 1 x10.length cs13, .row (.slice A40 x39.length c41) 5 1 x39.length cs42, .sn S0] a w) ?_ ?_
        · refine wp_block ?_
          refine c_loop (fun m64 a w => ∃ (x57 : Int), ∃ (x59 : Int), chatelaineref46_Bytes_l2 Fu x10 x44 m64 x57 x59 = some o55 ∧ r64 x57 ∧ r64 x59 ∧ St 69 w0 (ownL ([] ++ [.sn S0])) [(0, .string (sb a0)), (4, .slice A11 x10.length c12), (7, .slice A40 x39.length c41), (8, .int .i64 x44), (9, .int .i64 x57), (10, .int .i64 x59)] [.row (.slice A11 x10.length c12) 3 1 x10.length cs13, .row (.slice A40 x39.length c41) 5 1 x39.length cs42, .sn S0] a w) Fu ⟨0, 0, hl56, (show r64 0 from ⟨by decide, by decide⟩), (show r64 0 from ⟨by decide, by decide⟩), h.has (by exact ⟨rfl, rfl, rfl, rfl, rfl, rfl, trivial⟩)⟩ (fun m64 a w hI => ?_)
          obtain ⟨x57, x59, hl63, hr58, hr60, h⟩ := hI
          obtain _ | m64 := m64
          · rw [chatelaineref46_Bytes_l2] at hl63; cases hl63
          rw [chatelaineref46_Bytes_l2] at hl63
          refine wp_seq ?_
          refine c_rs ?_ -- region 15
          refine s_move h rfl _ rfl rfl (by decide) rfl (fun a h => ?_)
          refine s_x h rfl rfl (by decide) (x_bin h.k rfl rfl rfl ib_lss) (fun a h => ?_)
          refine l_end ?_
          refine c_cond h rfl (fun hb => ?_) (fun hb => ?_)
          · rw [if_pos (of_decide_eq_true hb)] at hl63
            refine wp_skip ?_
            refine e_thenN ?_
            refine wp_seq ?_
            refine wp_block ?_
            refine c_r ?_ -- region 17
            refine s_move h rfl _ rfl rfl (by decide) rfl (fun a h => ?_)
            refine s_x h rfl rfl (by decide) (x_bin h.k rfl rfl rfl (ib_mul rfl)) (fun a h => ?_)
            refine s_move h rfl _ rfl rfl (by decide) rfl (fun a h => ?_)
            refine s_move h rfl _ rfl rfl (by decide) rfl (fun a h => ?_)
            refine s_move h rfl _ rfl rfl (by decide) rfl (fun a h => ?_)
            refine s_x h rfl rfl (by decide) (x_bin h.k rfl rfl rfl (ib_add rfl)) (fun a h => ?_)
            obtain ⟨m65, h66, hl63⟩ := bsome hl63
            obtain ⟨hi67, hm68⟩ := ix_some h66
            obtain ⟨g70, hA69⟩ := h.m.rowHead (i := 0) rfl (Nat.lt_of_le_of_lt (Nat.zero_le _) hm68)
            refine s_x h rfl rfl (by decide) (x_iaddrE h.k rfl Tryd.underlying99 sz_int hA69 rfl rfl hi67 hm68) (fun a h => ?_)
            obtain ⟨x71, h72, hl63⟩ := bsome hl63
            obtain ⟨u73, hv74, hu75⟩ := (hq14).cell rfl h72
            obtain ⟨e77, hr76⟩ := hu75
            cases e77
            refine s_x h rfl rfl (by decide) (x_ld h.k rfl Tryd.underlying3 rfl rfl (h.m.cellRowE (i := 0) rfl hA69 _ (by rw [Nat.mul_one]; exact hv74))) (fun a h => ?_)
            refine s_x h rfl rfl (by decide) (x_bin h.k rfl rfl rfl (ib_add rfl)) (fun a h => ?_)
            refine s_assign h rfl _ rfl rfl (by decide) rfl (fun a h => ?_)
            refine l_nil ?_
            refine e_blkN ?_
            refine e_thenN ?_
            refine c_r ?_ -- region 16
            refine s_move h rfl _ rfl rfl (by decide) rfl (fun a h => ?_)
            refine s_x h rfl rfl (by decide) (x_bin h.k rfl rfl rfl (ib_add rfl)) (fun a h => ?_)
            refine s_assign h rfl _ rfl rfl (by decide) rfl (fun a h => ?_)
            refine l_nil ?_
            exact e_thenN ⟨m64, Nat.lt_succ_self _, w64 ((w64 (2 * x57)) + x71), w64 (x59 + 1), hl63, (w64_r _), (w64_r _), h.has (by exact ⟨rfl, rfl, rfl, rfl, rfl, rfl, trivial⟩)⟩
          · rw [if_neg (of_decide_eq_false hb)] at hl63
            refine wp_exit ?_
            refine e_thenX ?_
            refine e_thenX ?_
            refine e_blkX ?_
            refine e_thenN ?_
            exact ⟨x57, (Option.some.inj hl63), hr58, h.has (by exact ⟨rfl, rfl, rfl, rfl, rfl, trivial⟩)⟩
        · rintro a w ⟨x61, rfl, hr62, h⟩
          refine e_thenN ?_
          refine c_r ?_ -- region 18
          refine s_move h rfl _ rfl rfl (by decide) rfl (fun a h => ?_)
          refine s_move h rfl _ rfl rfl (by decide) rfl (fun a h => ?_)
          refine s_x h rfl rfl (by decide) (x_convE h.k rfl Tryd.underlying3 Tryd.underlying5 rfl (i8_wrap _).symm) (fun a h => ?_)
          refine q_bslice (T := ty8) (S := S0) h rfl rfl rfl (by decide) Tryd.underlying23 zi_uint8 (by decide) (by decide) (by decide) (by decide) [.int .u8 ((i8 x61).toNat : Int)] rfl rfl (C := [[.int .u8 ((i8 x61).toNat : Int)]]) rfl (xs := [i8 x61]) ⟨[.int .u8 ((i8 x61).toNat : Int)], _, rfl, rfl, rfl⟩ (by intro c hc; simp only [List.mem_cons, List.not_mem_nil, or_false] at hc; subst hc; rfl) (fun a w A78 h => ?_)
          have hb79 : reps ty8 S0 ([[.int .u8 ((i8 x61).toNat : Int)]] : List (List Value)).flatten [i8 x61] := ⟨[.int .u8 ((i8 x61).toNat : Int)], _, rfl, rfl, rfl⟩
          obtain ⟨x80, h81, hl51⟩ := bsome hl51
          refine q_append (T := ty8) (S := S0) h rfl rfl rfl (by decide) Tryd.underlying23 zb_uint8 rfl (by decide) rfl 2 rfl hq43 rfl hb79 (h.m.rdRowA (i := 0) rfl) h81 (fun a w A82 c83 cs84 hq85 h => ?_)
          refine s_assign h rfl _ rfl rfl (by decide) rfl (fun a h => ?_)
          refine l_nil ?_
          refine e_blkN ?_
          refine e_thenN ?_
          refine c_r ?_ -- region 12
          refine s_move h rfl _ rfl rfl (by decide) rfl (fun a h => ?_)
          refine s_x h rfl rfl (by decide) (x_bin h.k rfl rfl rfl (ib_add rfl)) (fun a h => ?_)
          refine s_assign h rfl _ rfl rfl (by decide) rfl (fun a h => ?_)
          refine l_nil ?_
          have h := h.pick [1, 2, 3] (by decide) rfl
          exact e_thenN ⟨m52, Nat.lt_succ_self _, x80, A82, c83, cs84, w64 (x44 + 8), hl51, hq85, (w64_r _), h.has (by exact ⟨rfl, rfl, rfl, rfl, trivial⟩)⟩
      · rw [if_neg (of_decide_eq_false hb)] at hl51
        refine wp_exit ?_
        refine e_thenX ?_
        refine e_thenX ?_
        refine e_blkX ?_
        refine e_thenN ?_
        have h := h.pick [1, 2] (by decide) rfl
        exact ⟨x39, A40, c41, cs42, (Option.some.inj hl51), hq43, h.has (by exact ⟨rfl, rfl, trivial⟩)⟩
    · rintro a w ⟨x46, A47, c48, cs49, rfl, hq50, h⟩
      refine e_thenN ?_
      refine wp_seq ?_
      refine c_rs ?_ -- region 19
      refine s_move h rfl _ rfl rfl (by decide) rfl (fun a h => ?_)
      obtain ⟨x87, h88, hf⟩ := bsome hf
      have hX := chatelaineref46_Letters_ok Fu (S0 := snapAll _) A47 c48 x46 (h.m.rowAll (i := 0) rfl (j := 1) rfl hq50) _ h88 _ h.startAll
      refine q_callX hX h rfl rfl rfl (by decide) Tryd.func37 rfl rfl rfl (fun a w v L1 S1 hR hb1 h => ?_)
      obtain ⟨rfl, rfl, hr90, _⟩ := hR
      refine s_move h rfl _ rfl rfl (by decide) rfl (fun a h => ?_)
      refine s_x h rfl rfl (by decide) (x_neqStr h.k rfl rfl rfl) (fun a h => ?_)
      refine l_end ?_
      refine c_cond h rfl (fun hb => ?_) (fun hb => ?_)
      · rw [if_pos hb] at hf
        refine c_rs ?_ -- region 20
        refine s_assign h rfl _ rfl rfl (by decide) rfl (fun a h => ?_)
        refine s_assign h rfl _ rfl rfl (by decide) rfl (fun a h => ?_)
        refine l_end ?_
        refine wp_ret ?_
        refine e_thenR ?_
        obtain rfl := Option.some.inj hf
        have h := h.mem (h.m.nilrow 5 1)
        exact r_ret2 h rfl (rv_tmp h rfl) (rv_tmp h rfl) ⟨_, [.row (.slice none ([]).length 0) 5 1 ([]).length []], _, rfl, ⟨none, 0, [], rfl, rfl, (show reps ty8 S0 [] [] from rfl), trivial⟩, rfl, (Up.refl _ _ _), (h.m.pick [0, 2] _ (by decide) rfl)⟩
      · rw [if_neg (by rw [hb]; decide)] at hf
        refine wp_skip ?_
        refine e_thenN ?_
        refine c_rs ?_ -- region 21
        refine s_move h rfl _ rfl rfl (by decide) rfl (fun a h => ?_)
        refine s_assign h rfl _ rfl rfl (by decide) rfl (fun a h => ?_)
        refine s_assign h rfl _ rfl rfl (by decide) rfl (fun a h => ?_)
        refine l_end ?_
        refine wp_ret ?_
        obtain rfl := Option.some.inj hf
        exact r_ret2 h rfl (rv_tmp h rfl) (rv_tmp h rfl) ⟨_, [.row (.slice A47 x46.length c48) 5 1 x46.length cs49], _, rfl, ⟨A47, c48, cs49, rfl, rfl, hq50, trivial⟩, rfl, (Up.refl _ _ _), h.m⟩
end Go.Proofs.YtcjleeclpmgbjaaDoor
