/- Xr: Go functions as plain functions, and that they are so (written by xt.py). -/
import Derived.Test.YtoimllmmlbehgaaAr
set_option linter.unusedVariables false
set_option linter.unusedSimpArgs false
namespace Go.Proofs.Ytoimllmmlbehgaa
open Go.RowKit
def chatelaineref02_Double_l1 (Fu : Nat) : Nat → Int → Int → (List Int) → Option ((List Int))
  | 0, _, _, _ => none
  | k + 1, x33, x35, x37 => if x35 < 8 then ((app 8 x37 ([Int.tmod x33 2])).bind fun x51 => chatelaineref02_Double_l1 Fu k (w64 (Int.tdiv x33 2)) (w64 (x35 + 1)) x51) else (some x37)
def chatelaineref02_Double_l0 (Fu : Nat) (a0 : List UInt8) : Nat → (List Int) → Int → Option ((List Int))
  | 0, _, _ => none
  | k + 1, x7, x12 => if x12 < 16 then ((ix 16 x12).bind fun m22 => (a0[m22]?).bind fun x26 => (chatelaineref02_Double_l1 Fu Fu (x26.toNat : Int) 0 x7).bind fun x42 => chatelaineref02_Double_l0 Fu a0 k x42 (w64 (x12 + 1))) else (some x7)
def chatelaineref02_Double_l2 (Fu : Nat) (x14 : List Int) : Nat → Int → (List Int) → Option ((List Int))
  | 0, _, _ => none
  | k + 1, x62, x64 => if x62 < 127 then ((ix x14.length x62).bind fun m76 => (x14[m76]?).bind fun x82 => (app 8 x64 ([x82])).bind fun x91 => chatelaineref02_Double_l2 Fu x14 k (w64 (x62 + 1)) x91) else (some x64)
def chatelaineref02_Double_l4 (Fu : Nat) (x99 : List Int) (x208 : Int) : Nat → Int → Int → Option Int
  | 0, _, _ => none
  | k + 1, x222, x224 => if 0 ≤ x224 then ((ix x99.length (w64 ((w64 (8 * x208)) + x224))).bind fun m230 => (x99[m230]?).bind fun x236 => chatelaineref02_Double_l4 Fu x99 x208 k (w64 ((w64 (2 * x222)) + x236)) (w64 (x224 - 1))) else (some x222)
def chatelaineref02_Double_l3 (Fu : Nat) (x99 : List Int) : Nat → Int → (List UInt8) → Option ((List UInt8))
  | 0, _, _ => none
  | k + 1, x208, x210 => if x208 < 16 then ((chatelaineref02_Double_l4 Fu x99 x208 Fu 0 7).bind fun x226 => (ix 16 x208).bind fun m243 => chatelaineref02_Double_l3 Fu x99 k (w64 (x208 + 1)) (x210.set m243 (i8 x226))) else (some x210)
def chatelaineref02_Double (Fu : Nat) (a0 : List UInt8) : Option ((List UInt8)) :=
  (chatelaineref02_Double_l0 Fu a0 Fu ([]) 0).bind fun x14 => (chatelaineref02_Double_l2 Fu x14 Fu 0 ([0])).bind fun x69 => ((ix x14.length 127).bind fun m104 => (x14[m104]?).bind fun x110 => if x110 = 1 then ((ix x69.length 0).bind fun m117 => (x69[m117]?).bind fun x123 => (ix x69.length 0).bind fun m130 => (ix (x69.set m130 (w64 (1 - x123))).length 1).bind fun m139 => ((x69.set m130 (w64 (1 - x123)))[m139]?).bind fun x145 => (ix (x69.set m130 (w64 (1 - x123))).length 1).bind fun m152 => (ix ((x69.set m130 (w64 (1 - x123))).set m152 (w64 (1 - x145))).length 2).bind fun m161 => (((x69.set m130 (w64 (1 - x123))).set m152 (w64 (1 - x145)))[m161]?).bind fun x167 => (ix ((x69.set m130 (w64 (1 - x123))).set m152 (w64 (1 - x145))).length 2).bind fun m174 => (ix (((x69.set m130 (w64 (1 - x123))).set m152 (w64 (1 - x145))).set m174 (w64 (1 - x167))).length 7).bind fun m183 => ((((x69.set m130 (w64 (1 - x123))).set m152 (w64 (1 - x145))).set m174 (w64 (1 - x167)))[m183]?).bind fun x189 => (ix (((x69.set m130 (w64 (1 - x123))).set m152 (w64 (1 - x145))).set m174 (w64 (1 - x167))).length 7).bind fun m196 => some ((((x69.set m130 (w64 (1 - x123))).set m152 (w64 (1 - x145))).set m174 (w64 (1 - x167))).set m196 (w64 (1 - x189)))) else (some x69)).bind fun x99 => (chatelaineref02_Double_l3 Fu x99 Fu 0 (List.replicate 16 ((0 : UInt8) : UInt8))).bind fun x214 => some x214
set_option maxRecDepth 100000 in
set_option maxHeartbeats 2000000 in
theorem chatelaineref02_Double_ok (Fu : Nat) {S0 : Snap} (csa0 : List Value) (a0 : List UInt8) (hsa0 : (tyA 16 ty8).rep S0 csa0 a0) (r : (List UInt8)) (hf : chatelaineref02_Double Fu a0 = some r) (w0 : World) (hm : Mem w0 (ownL ([] ++ [.sn S0])) ([] ++ [.sn S0]) w0) :
    Calls Try.prog 68 #[.agg csa0.toArray] w0 (Ret w0 S0 [] (fun v L1 S1 => ∃ (k255 : List Value), v = .agg k255.toArray ∧ L1 = [] ∧ (tyA 16 ty8).rep S1 k255 r ∧ True)) := by
  unfold chatelaineref02_Double at hf
  obtain ⟨hs1, hl2⟩ := hsa0
  refine c_enterM Try.func68 rfl 95 rfl (by simp) _ hm _ rfl (fun a h => ?_)
  refine c_rs ?_ -- region 0
  refine s_box h rfl rfl rfl (by decide) rfl (cs := csa0) (by rfl) (fun a w g3 h => ?_)
  refine s_alloc h rfl rfl rfl (by decide) zi_A16_uint8 rfl (fun a w g4 h => ?_)
  have h := h.parts (L' := [.box g4 23 (List.replicate 16 (.int .u8 0)), .box g3 23 csa0, .sn S0]) rfl
  refine l_end ?_
  refine c_rs ?_ -- region 1
  refine s_assign h rfl _ rfl rfl (by decide) rfl (fun a h => ?_)
  refine l_end ?_
  refine wp_seq ?_
  refine c_rs ?_ -- region 2
  refine s_assign h rfl _ rfl rfl (by decide) rfl (fun a h => ?_)
  refine l_end ?_
  obtain ⟨o5, hl6, hf⟩ := bsome hf
  refine c_fin (fun a w => ∃ (x14 : List Int), ∃ (A15 : Option Addr), ∃ (c16 : Nat), ∃ (cs17 : List Value), x14 = o5 ∧ reps tyI S0 cs17 x14 ∧ St 95 w0 (ownL ([] ++ [.sn S0])) [(2, .pointer (some ⟨g4, 0, none⟩)), (3, .slice A15 x14.length c16)] [.box g4 23 (List.replicate 16 (.int .u8 0)), .row (.slice A15 x14.length c16) 3 1 x14.length cs17, .sn S0] a w) ?_ ?_
  · refine wp_block ?_
    have h := h.mem (h.m.nilrow 3 1)
    have h := h.pick [2, 1, 0, 3] (by decide) rfl
    refine c_loop (fun m20 a w => ∃ (x7 : List Int), ∃ (A8 : Option Addr), ∃ (c9 : Nat), ∃ (cs10 : List Value), ∃ (x12 : Int), chatelaineref02_Double_l0 Fu a0 m20 x7 x12 = some o5 ∧ reps tyI S0 cs10 x7 ∧ r64 x12 ∧ St 95 w0 (ownL ([] ++ [.sn S0])) [(1, .pointer (some ⟨g3, 0, none⟩)), (2, .pointer (some ⟨g4, 0, none⟩)), (3, .slice A8 x7.length c9), (4, .int .i64 x12)] [.box g3 23 csa0, .box g4 23 (List.replicate 16 (.int .u8 0)), .row (.slice A8 x7.length c9) 3 1 x7.length cs10, .sn S0] a w) Fu ⟨[], none, 0, [], 0, hl6, (show reps tyI S0 [] [] from rfl), (show r64 0 from ⟨by decide, by decide⟩), h.has (by exact ⟨rfl, rfl, rfl, rfl, trivial⟩)⟩ (fun m20 a w hI => ?_)
    obtain ⟨x7, A8, c9, cs10, x12, hl19, hq11, hr13, h⟩ := hI
    obtain _ | m20 := m20
    · rw [chatelaineref02_Double_l0] at hl19; cases hl19
    rw [chatelaineref02_Double_l0] at hl19
    refine wp_seq ?_
    refine c_rs ?_ -- region 3
    refine s_move h rfl _ rfl rfl (by decide) rfl (fun a h => ?_)
    refine s_x h rfl rfl (by decide) (x_bin h.k rfl rfl rfl ib_lss) (fun a h => ?_)
    refine l_end ?_
    refine c_cond h rfl (fun hb => ?_) (fun hb => ?_)
    · rw [if_pos (of_decide_eq_true hb)] at hl19
      refine wp_skip ?_
      refine e_thenN ?_
      refine wp_seq ?_
      refine wp_block ?_
      refine c_rs ?_ -- region 5
      refine s_move h rfl _ rfl rfl (by decide) rfl (fun a h => ?_)
      obtain ⟨m22, h23, hl19⟩ := bsome hl19
      obtain ⟨hi24, hm25⟩ := ix_some h23
      refine s_x h rfl rfl (by decide) (x_iaddrA h.k rfl Try.underlying23 sz_uint8 rfl rfl hi24 hm25 rfl) (fun a h => ?_)
      obtain ⟨x26, h27, hl19⟩ := bsome hl19
      obtain ⟨u28, hv29, hu30⟩ := (hs1).cell rfl h27
      cases hu30
      refine s_x h rfl rfl (by decide) (x_ld h.k rfl Try.underlying5 rfl rfl ((h.m.cell (i := 0) rfl _).trans (by rw [Nat.zero_add, Nat.mul_one]; exact hv29))) (fun a h => ?_)
      refine s_x h rfl rfl (by decide) (x_convE h.k rfl Try.underlying5 Try.underlying3 rfl (nw64 (u8_r _))) (fun a h => ?_)
      refine s_assign h rfl _ rfl rfl (by decide) rfl (fun a h => ?_)
      refine l_end ?_
      refine c_rs ?_ -- region 6
      refine s_assign h rfl _ rfl rfl (by decide) rfl (fun a h => ?_)
      refine l_end ?_
      obtain ⟨o31, hl32, hl19⟩ := bsome hl19
      refine c_fin (fun a w => ∃ (x42 : List Int), ∃ (A43 : Option Addr), ∃ (c44 : Nat), ∃ (cs45 : List Value), x42 = o31 ∧ reps tyI S0 cs45 x42 ∧ St 95 w0 (ownL ([] ++ [.sn S0])) [(1, .pointer (some ⟨g3, 0, none⟩)), (2, .pointer (some ⟨g4, 0, none⟩)), (3, .slice A43 x42.length c44), (4, .int .i64 x12)] [.box g3 23 csa0, .box g4 23 (List.replicate 16 (.int .u8 0)), .row (.slice A43 x42.length c44) 3 1 x42.length cs45, .sn S0] a w) ?_ ?_
      · refine wp_block ?_
        refine c_loop (fun m48 a w => ∃ (x33 : Int), ∃ (x35 : Int), ∃ (x37 : List Int), ∃ (A38 : Option Addr), ∃ (c39 : Nat), ∃ (cs40 : List Value), chatelaineref02_Double_l1 Fu m48 x33 x35 x37 = some o31 ∧ r64 x33 ∧ r64 x35 ∧ reps tyI S0 cs40 x37 ∧ St 95 w0 (ownL ([] ++ [.sn S0])) [(1, .pointer (some ⟨g3, 0, none⟩)), (2, .pointer (some ⟨g4, 0, none⟩)), (3, .slice A38 x37.length c39), (4, .int .i64 x12), (5, .int .i64 x33), (6, .int .i64 x35)] [.box g3 23 csa0, .box g4 23 (List.replicate 16 (.int .u8 0)), .row (.slice A38 x37.length c39) 3 1 x37.length cs40, .sn S0] a w) Fu ⟨(x26.toNat : Int), 0, x7, A8, c9, cs10, hl32, (u8_r _), (show r64 0 from ⟨by decide, by decide⟩), hq11, h.has (by exact ⟨rfl, rfl, rfl, rfl, rfl, rfl, trivial⟩)⟩ (fun m48 a w hI => ?_)
        obtain ⟨x33, x35, x37, A38, c39, cs40, hl47, hr34, hr36, hq41, h⟩ := hI
        obtain _ | m48 := m48
        · rw [chatelaineref02_Double_l1] at hl47; cases hl47
        rw [chatelaineref02_Double_l1] at hl47
        refine wp_seq ?_
        refine c_rs ?_ -- region 7
        refine s_move h rfl _ rfl rfl (by decide) rfl (fun a h => ?_)
        refine s_x h rfl rfl (by decide) (x_bin h.k rfl rfl rfl ib_lss) (fun a h => ?_)
        refine l_end ?_
        refine c_cond h rfl (fun hb => ?_) (fun hb => ?_)
        · rw [if_pos (of_decide_eq_true hb)] at hl47
          refine wp_skip ?_
          refine e_thenN ?_
          refine wp_seq ?_
          refine wp_block ?_
          refine c_rs ?_ -- region 9
          refine s_move h rfl _ rfl rfl (by decide) rfl (fun a h => ?_)
          refine s_move h rfl _ rfl rfl (by decide) rfl (fun a h => ?_)
          refine s_x h rfl rfl (by decide) (x_bin h.k rfl rfl rfl (ib_remw (by decide))) (fun a h => ?_)
          refine q_bslice (T := tyI) (S := S0) h rfl rfl rfl (by decide) Try.underlying38 zi_int (by decide) (by decide) (by decide) (by decide) [.int .i64 (Int.tmod x33 2)] rfl rfl (C := [[.int .i64 (Int.tmod x33 2)]]) rfl (xs := [Int.tmod x33 2]) ⟨[.int .i64 (Int.tmod x33 2)], _, rfl, ⟨rfl, (tmod_r hr34 _)⟩, rfl⟩ (by intro c hc; simp only [List.mem_cons, List.not_mem_nil, or_false] at hc; subst hc; rfl) (fun a w A49 h => ?_)
          have hb50 : reps tyI S0 ([[.int .i64 (Int.tmod x33 2)]]).flatten [Int.tmod x33 2] := ⟨[.int .i64 (Int.tmod x33 2)], _, rfl, ⟨rfl, (tmod_r hr34 _)⟩, rfl⟩
          obtain ⟨x51, h52, hl47⟩ := bsome hl47
          refine q_append (T := tyI) (S := S0) h rfl rfl rfl (by decide) Try.underlying38 zb_int rfl (by decide) rfl 3 rfl hq41 rfl hb50 (h.m.rdRowA (i := 0) rfl) h52 (fun a w A53 c54 cs55 hq56 h => ?_)
          refine s_assign h rfl _ rfl rfl (by decide) rfl (fun a h => ?_)
          refine l_end ?_
          refine c_r ?_ -- region 10
          refine s_move h rfl _ rfl rfl (by decide) rfl (fun a h => ?_)
          refine s_x h rfl rfl (by decide) (x_bin h.k rfl rfl rfl (ib_quow (by decide))) (fun a h => ?_)
          refine s_assign h rfl _ rfl rfl (by decide) rfl (fun a h => ?_)
          refine l_nil ?_
          refine e_blkN ?_
          refine e_thenN ?_
          refine c_r ?_ -- region 8
          refine s_move h rfl _ rfl rfl (by decide) rfl (fun a h => ?_)
          refine s_x h rfl rfl (by decide) (x_bin h.k rfl rfl rfl (ib_add rfl)) (fun a h => ?_)
          refine s_assign h rfl _ rfl rfl (by decide) rfl (fun a h => ?_)
          refine l_nil ?_
          have h := h.pick [1, 2, 3, 4] (by decide) rfl
          exact e_thenN ⟨m48, Nat.lt_succ_self _, w64 (Int.tdiv x33 2), w64 (x35 + 1), x51, A53, c54, cs55, hl47, (w64_r _), (w64_r _), hq56, h.has (by exact ⟨rfl, rfl, rfl, rfl, rfl, rfl, trivial⟩)⟩
        · rw [if_neg (of_decide_eq_false hb)] at hl47
          refine wp_exit ?_
          refine e_thenX ?_
          refine e_thenX ?_
          refine e_blkX ?_
          refine e_thenN ?_
          exact ⟨x37, A38, c39, cs40, (Option.some.inj hl47), hq41, h.has (by exact ⟨rfl, rfl, rfl, rfl, trivial⟩)⟩
      · rintro a w ⟨x42, A43, c44, cs45, rfl, hq46, h⟩
        refine e_blkN ?_
        refine e_thenN ?_
        refine c_r ?_ -- region 4
        refine s_move h rfl _ rfl rfl (by decide) rfl (fun a h => ?_)
        refine s_x h rfl rfl (by decide) (x_bin h.k rfl rfl rfl (ib_add rfl)) (fun a h => ?_)
        refine s_assign h rfl _ rfl rfl (by decide) rfl (fun a h => ?_)
        refine l_nil ?_
        exact e_thenN ⟨m20, Nat.lt_succ_self _, x42, A43, c44, cs45, w64 (x12 + 1), hl19, hq46, (w64_r _), h.has (by exact ⟨rfl, rfl, rfl, rfl, trivial⟩)⟩
    · rw [if_neg (of_decide_eq_false hb)] at hl19
      refine wp_exit ?_
      refine e_thenX ?_
      refine e_thenX ?_
      refine e_blkX ?_
      refine e_thenN ?_
      have h := h.pick [1, 2, 3] (by decide) rfl
      exact ⟨x7, A8, c9, cs10, (Option.some.inj hl19), hq11, h.has (by exact ⟨rfl, rfl, trivial⟩)⟩
  · rintro a w ⟨x14, A15, c16, cs17, rfl, hq18, h⟩
    refine e_thenN ?_
    refine c_rs ?_ -- region 11
    refine q_bslice (T := tyI) (S := S0) h rfl rfl rfl (by decide) Try.underlying38 zi_int (by decide) (by decide) (by decide) (by decide) [.int .i64 0] rfl rfl (C := [[.int .i64 0]]) rfl (xs := [0]) ⟨[.int .i64 0], _, rfl, ⟨rfl, (show r64 0 from ⟨by decide, by decide⟩)⟩, rfl⟩ (by intro c hc; simp only [List.mem_cons, List.not_mem_nil, or_false] at hc; subst hc; rfl) (fun a w A58 h => ?_)
    have hb59 : reps tyI S0 ([[.int .i64 0]]).flatten [0] := ⟨[.int .i64 0], _, rfl, ⟨rfl, (show r64 0 from ⟨by decide, by decide⟩)⟩, rfl⟩
    refine s_assign h rfl _ rfl rfl (by decide) rfl (fun a h => ?_)
    refine l_end ?_
    refine wp_seq ?_
    refine c_rs ?_ -- region 12
    refine s_assign h rfl _ rfl rfl (by decide) rfl (fun a h => ?_)
    refine l_end ?_
    obtain ⟨o60, hl61, hf⟩ := bsome hf
    refine c_fin (fun a w => ∃ (x69 : List Int), ∃ (A70 : Option Addr), ∃ (c71 : Nat), ∃ (cs72 : List Value), x69 = o60 ∧ reps tyI S0 cs72 x69 ∧ St 95 w0 (ownL ([] ++ [.sn S0])) [(2, .pointer (some ⟨g4, 0, none⟩)), (3, .slice A15 x14.length c16), (7, .slice A70 x69.length c71)] [.box g4 23 (List.replicate 16 (.int .u8 0)), .row (.slice A15 x14.length c16) 3 1 x14.length cs17, .row (.slice A70 x69.length c71) 3 1 x69.length cs72, .sn S0] a w) ?_ ?_
    · refine wp_block ?_
      have h := h.pick [1, 2, 0, 3] (by decide) rfl
      refine c_loop (fun m75 a w => ∃ (x62 : Int), ∃ (x64 : List Int), ∃ (A65 : Option Addr), ∃ (c66 : Nat), ∃ (cs67 : List Value), chatelaineref02_Double_l2 Fu x14 m75 x62 x64 = some o60 ∧ r64 x62 ∧ reps tyI S0 cs67 x64 ∧ St 95 w0 (ownL ([] ++ [.sn S0])) [(2, .pointer (some ⟨g4, 0, none⟩)), (3, .slice A15 x14.length c16), (7, .slice A65 x64.length c66), (8, .int .i64 x62)] [.box g4 23 (List.replicate 16 (.int .u8 0)), .row (.slice A15 x14.length c16) 3 1 x14.length cs17, .row (.slice A65 x64.length c66) 3 1 x64.length cs67, .sn S0] a w) Fu ⟨0, [0], A58, 1, ([[.int .i64 0]]).flatten, hl61, (show r64 0 from ⟨by decide, by decide⟩), hb59, h.has (by exact ⟨rfl, rfl, rfl, rfl, trivial⟩)⟩ (fun m75 a w hI => ?_)
      obtain ⟨x62, x64, A65, c66, cs67, hl74, hr63, hq68, h⟩ := hI
      obtain _ | m75 := m75
      · rw [chatelaineref02_Double_l2] at hl74; cases hl74
      rw [chatelaineref02_Double_l2] at hl74
      refine wp_seq ?_
      refine c_rs ?_ -- region 13
      refine s_move h rfl _ rfl rfl (by decide) rfl (fun a h => ?_)
      refine s_x h rfl rfl (by decide) (x_bin h.k rfl rfl rfl ib_lss) (fun a h => ?_)
      refine l_end ?_
      refine c_cond h rfl (fun hb => ?_) (fun hb => ?_)
      · rw [if_pos (of_decide_eq_true hb)] at hl74
        refine wp_skip ?_
        refine e_thenN ?_
        refine wp_seq ?_
        refine wp_block ?_
        refine c_r ?_ -- region 15
        refine s_move h rfl _ rfl rfl (by decide) rfl (fun a h => ?_)
        refine s_move h rfl _ rfl rfl (by decide) rfl (fun a h => ?_)
        refine s_move h rfl _ rfl rfl (by decide) rfl (fun a h => ?_)
        obtain ⟨m76, h77, hl74⟩ := bsome hl74
        obtain ⟨hi78, hm79⟩ := ix_some h77
        obtain ⟨g81, hA80⟩ := h.m.rowHead (i := 1) rfl (Nat.lt_of_le_of_lt (Nat.zero_le _) hm79)
        refine s_x h rfl rfl (by decide) (x_iaddrE h.k rfl Try.underlying38 sz_int hA80 rfl rfl hi78 hm79) (fun a h => ?_)
        obtain ⟨x82, h83, hl74⟩ := bsome hl74
        obtain ⟨u84, hv85, hu86⟩ := (hq18).cell rfl h83
        obtain ⟨e88, hr87⟩ := hu86
        cases e88
        refine s_x h rfl rfl (by decide) (x_ld h.k rfl Try.underlying3 rfl rfl (h.m.cellRowE (i := 1) rfl hA80 _ (by rw [Nat.mul_one]; exact hv85))) (fun a h => ?_)
        refine q_bslice (T := tyI) (S := S0) h rfl rfl rfl (by decide) Try.underlying38 zi_int (by decide) (by decide) (by decide) (by decide) [.int .i64 x82] rfl rfl (C := [[.int .i64 x82]]) rfl (xs := [x82]) ⟨[.int .i64 x82], _, rfl, ⟨rfl, hr87⟩, rfl⟩ (by intro c hc; simp only [List.mem_cons, List.not_mem_nil, or_false] at hc; subst hc; rfl) (fun a w A89 h => ?_)
        have hb90 : reps tyI S0 ([[.int .i64 x82]]).flatten [x82] := ⟨[.int .i64 x82], _, rfl, ⟨rfl, hr87⟩, rfl⟩
        obtain ⟨x91, h92, hl74⟩ := bsome hl74
        refine q_append (T := tyI) (S := S0) h rfl rfl rfl (by decide) Try.underlying38 zb_int rfl (by decide) rfl 3 rfl hq68 rfl hb90 (h.m.rdRowA (i := 0) rfl) h92 (fun a w A93 c94 cs95 hq96 h => ?_)
        refine s_assign h rfl _ rfl rfl (by decide) rfl (fun a h => ?_)
        refine l_nil ?_
        refine e_blkN ?_
        refine e_thenN ?_
        refine c_r ?_ -- region 14
        refine s_move h rfl _ rfl rfl (by decide) rfl (fun a h => ?_)
        refine s_x h rfl rfl (by decide) (x_bin h.k rfl rfl rfl (ib_add rfl)) (fun a h => ?_)
        refine s_assign h rfl _ rfl rfl (by decide) rfl (fun a h => ?_)
        refine l_nil ?_
        have h := h.pick [1, 2, 3, 4] (by decide) rfl
        exact e_thenN ⟨m75, Nat.lt_succ_self _, w64 (x62 + 1), x91, A93, c94, cs95, hl74, (w64_r _), hq96, h.has (by exact ⟨rfl, rfl, rfl, rfl, trivial⟩)⟩
      · rw [if_neg (of_decide_eq_false hb)] at hl74
        refine wp_exit ?_
        refine e_thenX ?_
        refine e_thenX ?_
        refine e_blkX ?_
        refine e_thenN ?_
        exact ⟨x64, A65, c66, cs67, (Option.some.inj hl74), hq68, h.has (by exact ⟨rfl, rfl, rfl, trivial⟩)⟩
    · rintro a w ⟨x69, A70, c71, cs72, rfl, hq73, h⟩
      refine e_thenN ?_
      obtain ⟨o97, hc98, hf⟩ := bsome hf
      refine c_cut (fun a w => ∃ (x99 : List Int), ∃ (A100 : Option Addr), ∃ (c101 : Nat), ∃ (cs102 : List Value), x99 = o97 ∧ reps tyI S0 cs102 x99 ∧ St 95 w0 (ownL ([] ++ [.sn S0])) [(2, .pointer (some ⟨g4, 0, none⟩)), (7, .slice A100 x99.length c101)] [.box g4 23 (List.replicate 16 (.int .u8 0)), .row (.slice A100 x99.length c101) 3 1 x99.length cs102, .sn S0] a w) ?_ ?_
      · refine c_rs ?_ -- region 16
        refine s_move h rfl _ rfl rfl (by decide) rfl (fun a h => ?_)
        obtain ⟨m104, h105, hc98⟩ := bsome hc98
        obtain ⟨hi106, hm107⟩ := ix_some h105
        obtain ⟨g109, hA108⟩ := h.m.rowHead (i := 1) rfl (Nat.lt_of_le_of_lt (Nat.zero_le _) hm107)
        refine s_x h rfl rfl (by decide) (x_iaddrE h.k rfl Try.underlying38 sz_int hA108 rfl rfl hi106 hm107) (fun a h => ?_)
        obtain ⟨x110, h111, hc98⟩ := bsome hc98
        obtain ⟨u112, hv113, hu114⟩ := (hq18).cell rfl h111
        obtain ⟨e116, hr115⟩ := hu114
        cases e116
        refine s_x h rfl rfl (by decide) (x_ld h.k rfl Try.underlying3 rfl rfl (h.m.cellRowE (i := 1) rfl hA108 _ (by rw [Nat.mul_one]; exact hv113))) (fun a h => ?_)
        refine s_x h rfl rfl (by decide) (x_bin h.k rfl rfl rfl ib_eql) (fun a h => ?_)
        refine l_end ?_
        refine c_cond h rfl (fun hb => ?_) (fun hb => ?_)
        · rw [if_pos (of_decide_eq_true hb)] at hc98
          refine c_rs ?_ -- region 17
          refine s_move h rfl _ rfl rfl (by decide) rfl (fun a h => ?_)
          refine s_move h rfl _ rfl rfl (by decide) rfl (fun a h => ?_)
          obtain ⟨m117, h118, hc98⟩ := bsome hc98
          obtain ⟨hi119, hm120⟩ := ix_some h118
          obtain ⟨g122, hA121⟩ := h.m.rowHead (i := 2) rfl (Nat.lt_of_le_of_lt (Nat.zero_le _) hm120)
          refine s_x h rfl rfl (by decide) (x_iaddrE h.k rfl Try.underlying38 sz_int hA121 rfl rfl hi119 hm120) (fun a h => ?_)
          obtain ⟨x123, h124, hc98⟩ := bsome hc98
          obtain ⟨u125, hv126, hu127⟩ := (hq73).cell rfl h124
          obtain ⟨e129, hr128⟩ := hu127
          cases e129
          refine s_x h rfl rfl (by decide) (x_ld h.k rfl Try.underlying3 rfl rfl (h.m.cellRowE (i := 2) rfl hA121 _ (by rw [Nat.mul_one]; exact hv126))) (fun a h => ?_)
          refine s_x h rfl rfl (by decide) (x_bin h.k rfl rfl rfl (ib_sub rfl)) (fun a h => ?_)
          obtain ⟨m130, h131, hc98⟩ := bsome hc98
          obtain ⟨hi132, hm133⟩ := ix_some h131
          obtain ⟨g135, hA134⟩ := h.m.rowHead (i := 2) rfl (Nat.lt_of_le_of_lt (Nat.zero_le _) hm133)
          refine s_x h rfl rfl (by decide) (x_iaddrE h.k rfl Try.underlying38 sz_int hA134 rfl rfl hi132 hm133) (fun a h => ?_)
          refine q_setRow (T := tyI) (q := w64 (1 - x123)) h rfl rfl rfl sz_int hA134 rfl rfl 2 rfl rfl hq73 ⟨rfl, (w64_r _)⟩ (by first | exact hm133 | simpa using hm133) (fun a w cs136 hq137 h => ?_)
          have hl138 : x69.length = (x69.set m130 (w64 (1 - x123))).length := by simp only [List.length_set]
          rw [hl138] at h
          refine l_end ?_
          refine c_rs ?_ -- region 18
          refine s_move h rfl _ rfl rfl (by decide) rfl (fun a h => ?_)
          refine s_move h rfl _ rfl rfl (by decide) rfl (fun a h => ?_)
          obtain ⟨m139, h140, hc98⟩ := bsome hc98
          obtain ⟨hi141, hm142⟩ := ix_some h140
          obtain ⟨g144, hA143⟩ := h.m.rowHead (i := 2) rfl (Nat.lt_of_le_of_lt (Nat.zero_le _) hm142)
          refine s_x h rfl rfl (by decide) (x_iaddrE h.k rfl Try.underlying38 sz_int hA143 rfl rfl hi141 hm142) (fun a h => ?_)
          obtain ⟨x145, h146, hc98⟩ := bsome hc98
          obtain ⟨u147, hv148, hu149⟩ := (hq137).cell rfl h146
          obtain ⟨e151, hr150⟩ := hu149
          cases e151
          refine s_x h rfl rfl (by decide) (x_ld h.k rfl Try.underlying3 rfl rfl (h.m.cellRowE (i := 2) rfl hA143 _ (by rw [Nat.mul_one]; exact hv148))) (fun a h => ?_)
          refine s_x h rfl rfl (by decide) (x_bin h.k rfl rfl rfl (ib_sub rfl)) (fun a h => ?_)
          obtain ⟨m152, h153, hc98⟩ := bsome hc98
          obtain ⟨hi154, hm155⟩ := ix_some h153
          obtain ⟨g157, hA156⟩ := h.m.rowHead (i := 2) rfl (Nat.lt_of_le_of_lt (Nat.zero_le _) hm155)
          refine s_x h rfl rfl (by decide) (x_iaddrE h.k rfl Try.underlying38 sz_int hA156 rfl rfl hi154 hm155) (fun a h => ?_)
          refine q_setRow (T := tyI) (q := w64 (1 - x145)) h rfl rfl rfl sz_int hA156 rfl rfl 2 rfl rfl hq137 ⟨rfl, (w64_r _)⟩ (by first | exact hm155 | simpa using hm155) (fun a w cs158 hq159 h => ?_)
          have hl160 : (x69.set m130 (w64 (1 - x123))).length = ((x69.set m130 (w64 (1 - x123))).set m152 (w64 (1 - x145))).length := by simp only [List.length_set]
          rw [hl160] at h
          refine l_end ?_
          refine c_rs ?_ -- region 19
          refine s_move h rfl _ rfl rfl (by decide) rfl (fun a h => ?_)
          refine s_move h rfl _ rfl rfl (by decide) rfl (fun a h => ?_)
          obtain ⟨m161, h162, hc98⟩ := bsome hc98
          obtain ⟨hi163, hm164⟩ := ix_some h162
          obtain ⟨g166, hA165⟩ := h.m.rowHead (i := 2) rfl (Nat.lt_of_le_of_lt (Nat.zero_le _) hm164)
          refine s_x h rfl rfl (by decide) (x_iaddrE h.k rfl Try.underlying38 sz_int hA165 rfl rfl hi163 hm164) (fun a h => ?_)
          obtain ⟨x167, h168, hc98⟩ := bsome hc98
          obtain ⟨u169, hv170, hu171⟩ := (hq159).cell rfl h168
          obtain ⟨e173, hr172⟩ := hu171
          cases e173
          refine s_x h rfl rfl (by decide) (x_ld h.k rfl Try.underlying3 rfl rfl (h.m.cellRowE (i := 2) rfl hA165 _ (by rw [Nat.mul_one]; exact hv170))) (fun a h => ?_)
          refine s_x h rfl rfl (by decide) (x_bin h.k rfl rfl rfl (ib_sub rfl)) (fun a h => ?_)
          obtain ⟨m174, h175, hc98⟩ := bsome hc98
          obtain ⟨hi176, hm177⟩ := ix_some h175
          obtain ⟨g179, hA178⟩ := h.m.rowHead (i := 2) rfl (Nat.lt_of_le_of_lt (Nat.zero_le _) hm177)
          refine s_x h rfl rfl (by decide) (x_iaddrE h.k rfl Try.underlying38 sz_int hA178 rfl rfl hi176 hm177) (fun a h => ?_)
          refine q_setRow (T := tyI) (q := w64 (1 - x167)) h rfl rfl rfl sz_int hA178 rfl rfl 2 rfl rfl hq159 ⟨rfl, (w64_r _)⟩ (by first | exact hm177 | simpa using hm177) (fun a w cs180 hq181 h => ?_)
          have hl182 : ((x69.set m130 (w64 (1 - x123))).set m152 (w64 (1 - x145))).length = (((x69.set m130 (w64 (1 - x123))).set m152 (w64 (1 - x145))).set m174 (w64 (1 - x167))).length := by simp only [List.length_set]
          rw [hl182] at h
          refine l_end ?_
          refine c_r ?_ -- region 20
          refine s_move h rfl _ rfl rfl (by decide) rfl (fun a h => ?_)
          refine s_move h rfl _ rfl rfl (by decide) rfl (fun a h => ?_)
          obtain ⟨m183, h184, hc98⟩ := bsome hc98
          obtain ⟨hi185, hm186⟩ := ix_some h184
          obtain ⟨g188, hA187⟩ := h.m.rowHead (i := 2) rfl (Nat.lt_of_le_of_lt (Nat.zero_le _) hm186)
          refine s_x h rfl rfl (by decide) (x_iaddrE h.k rfl Try.underlying38 sz_int hA187 rfl rfl hi185 hm186) (fun a h => ?_)
          obtain ⟨x189, h190, hc98⟩ := bsome hc98
          obtain ⟨u191, hv192, hu193⟩ := (hq181).cell rfl h190
          obtain ⟨e195, hr194⟩ := hu193
          cases e195
          refine s_x h rfl rfl (by decide) (x_ld h.k rfl Try.underlying3 rfl rfl (h.m.cellRowE (i := 2) rfl hA187 _ (by rw [Nat.mul_one]; exact hv192))) (fun a h => ?_)
          refine s_x h rfl rfl (by decide) (x_bin h.k rfl rfl rfl (ib_sub rfl)) (fun a h => ?_)
          obtain ⟨m196, h197, hc98⟩ := bsome hc98
          obtain ⟨hi198, hm199⟩ := ix_some h197
          obtain ⟨g201, hA200⟩ := h.m.rowHead (i := 2) rfl (Nat.lt_of_le_of_lt (Nat.zero_le _) hm199)
          refine s_x h rfl rfl (by decide) (x_iaddrE h.k rfl Try.underlying38 sz_int hA200 rfl rfl hi198 hm199) (fun a h => ?_)
          refine q_setRow (T := tyI) (q := w64 (1 - x189)) h rfl rfl rfl sz_int hA200 rfl rfl 2 rfl rfl hq181 ⟨rfl, (w64_r _)⟩ (by first | exact hm199 | simpa using hm199) (fun a w cs202 hq203 h => ?_)
          have hl204 : (((x69.set m130 (w64 (1 - x123))).set m152 (w64 (1 - x145))).set m174 (w64 (1 - x167))).length = ((((x69.set m130 (w64 (1 - x123))).set m152 (w64 (1 - x145))).set m174 (w64 (1 - x167))).set m196 (w64 (1 - x189))).length := by simp only [List.length_set]
          rw [hl204] at h
          refine l_nil ?_
          refine e_thenN ?_
          have h := h.pick [0, 2, 3] (by decide) rfl
          exact ⟨((((x69.set m130 (w64 (1 - x123))).set m152 (w64 (1 - x145))).set m174 (w64 (1 - x167))).set m196 (w64 (1 - x189))), A70, c71, cs202, (Option.some.inj hc98), hq203, h.has (by exact ⟨rfl, rfl, trivial⟩)⟩
        · rw [if_neg (of_decide_eq_false hb)] at hc98
          refine wp_skip ?_
          refine e_thenN ?_
          have h := h.pick [0, 2, 3] (by decide) rfl
          exact ⟨x69, A70, c71, cs72, (Option.some.inj hc98), hq73, h.has (by exact ⟨rfl, rfl, trivial⟩)⟩
      · rintro a w ⟨x99, A100, c101, cs102, rfl, hq103, h⟩
        refine c_rs ?_ -- region 21
        refine s_alloc h rfl rfl rfl (by decide) zi_A16_uint8 rfl (fun a w g205 h => ?_)
        have h := h.parts (L' := [.box g205 23 (List.replicate 16 (.int .u8 0)), .box g4 23 (List.replicate 16 (.int .u8 0)), .row (.slice A100 x99.length c101) 3 1 x99.length cs102, .sn S0]) rfl
        refine l_end ?_
        refine wp_seq ?_
        refine c_rs ?_ -- region 22
        refine s_assign h rfl _ rfl rfl (by decide) rfl (fun a h => ?_)
        refine l_end ?_
        obtain ⟨o206, hl207, hf⟩ := bsome hf
        refine c_fin (fun a w => ∃ (x214 : List UInt8), ∃ (k215 : List Value), x214 = o206 ∧ reps ty8 S0 k215 x214 ∧ x214.length = 16 ∧ St 95 w0 (ownL ([] ++ [.sn S0])) [(2, .pointer (some ⟨g4, 0, none⟩)), (9, .pointer (some ⟨g205, 0, none⟩))] [.box g4 23 (List.replicate 16 (.int .u8 0)), .box g205 23 k215, .sn S0] a w) ?_ ?_
        · refine wp_block ?_
          have h := h.pick [1, 2, 0, 3] (by decide) rfl
          refine c_loop (fun m219 a w => ∃ (x208 : Int), ∃ (x210 : List UInt8), ∃ (k211 : List Value), chatelaineref02_Double_l3 Fu x99 m219 x208 x210 = some o206 ∧ r64 x208 ∧ reps ty8 S0 k211 x210 ∧ x210.length = 16 ∧ St 95 w0 (ownL ([] ++ [.sn S0])) [(2, .pointer (some ⟨g4, 0, none⟩)), (7, .slice A100 x99.length c101), (9, .pointer (some ⟨g205, 0, none⟩)), (10, .int .i64 x208)] [.box g4 23 (List.replicate 16 (.int .u8 0)), .row (.slice A100 x99.length c101) 3 1 x99.length cs102, .box g205 23 k211, .sn S0] a w) Fu ⟨0, (List.replicate 16 ((0 : UInt8) : UInt8)), (List.replicate 16 (.int .u8 0)), hl207, (show r64 0 from ⟨by decide, by decide⟩), (show reps ty8 S0 (List.replicate 16 (.int .u8 0)) (List.replicate 16 ((0 : UInt8) : UInt8)) from repsRep1 (x := ((0 : UInt8) : UInt8)) rfl), (show (List.replicate 16 ((0 : UInt8) : UInt8)).length = 16 from List.length_replicate), h.has (by exact ⟨rfl, rfl, rfl, rfl, trivial⟩)⟩ (fun m219 a w hI => ?_)
          obtain ⟨x208, x210, k211, hl218, hr209, hs212, hl213, h⟩ := hI
          obtain _ | m219 := m219
          · rw [chatelaineref02_Double_l3] at hl218; cases hl218
          rw [chatelaineref02_Double_l3] at hl218
          refine wp_seq ?_
          refine c_rs ?_ -- region 23
          refine s_move h rfl _ rfl rfl (by decide) rfl (fun a h => ?_)
          refine s_x h rfl rfl (by decide) (x_bin h.k rfl rfl rfl ib_lss) (fun a h => ?_)
          refine l_end ?_
          refine c_cond h rfl (fun hb => ?_) (fun hb => ?_)
          · rw [if_pos (of_decide_eq_true hb)] at hl218
            refine wp_skip ?_
            refine e_thenN ?_
            refine wp_seq ?_
            refine wp_block ?_
            refine c_rs ?_ -- region 25
            refine s_assign h rfl _ rfl rfl (by decide) rfl (fun a h => ?_)
            refine l_end ?_
            refine wp_seq ?_
            refine c_rs ?_ -- region 26
            refine s_assign h rfl _ rfl rfl (by decide) rfl (fun a h => ?_)
            refine l_end ?_
            obtain ⟨o220, hl221, hl218⟩ := bsome hl218
            refine c_fin (fun a w => ∃ (x226 : Int), x226 = o220 ∧ r64 x226 ∧ St 95 w0 (ownL ([] ++ [.sn S0])) [(2, .pointer (some ⟨g4, 0, none⟩)), (7, .slice A100 x99.length c101), (9, .pointer (some ⟨g205, 0, none⟩)), (10, .int .i64 x208), (11, .int .i64 x226)] [.box g4 23 (List.replicate 16 (.int .u8 0)), .row (.slice A100 x99.length c101) 3 1 x99.length cs102, .box g205 23 k211, .sn S0] a w) ?_ ?_
            · refine wp_block ?_
              refine c_loop (fun m229 a w => ∃ (x222 : Int), ∃ (x224 : Int), chatelaineref02_Double_l4 Fu x99 x208 m229 x222 x224 = some o220 ∧ r64 x222 ∧ r64 x224 ∧ St 95 w0 (ownL ([] ++ [.sn S0])) [(2, .pointer (some ⟨g4, 0, none⟩)), (7, .slice A100 x99.length c101), (9, .pointer (some ⟨g205, 0, none⟩)), (10, .int .i64 x208), (11, .int .i64 x222), (12, .int .i64 x224)] [.box g4 23 (List.replicate 16 (.int .u8 0)), .row (.slice A100 x99.length c101) 3 1 x99.length cs102, .box g205 23 k211, .sn S0] a w) Fu ⟨0, 7, hl221, (show r64 0 from ⟨by decide, by decide⟩), (show r64 7 from ⟨by decide, by decide⟩), h.has (by exact ⟨rfl, rfl, rfl, rfl, rfl, rfl, trivial⟩)⟩ (fun m229 a w hI => ?_)
              obtain ⟨x222, x224, hl228, hr223, hr225, h⟩ := hI
              obtain _ | m229 := m229
              · rw [chatelaineref02_Double_l4] at hl228; cases hl228
              rw [chatelaineref02_Double_l4] at hl228
              refine wp_seq ?_
              refine c_rs ?_ -- region 27
              refine s_move h rfl _ rfl rfl (by decide) rfl (fun a h => ?_)
              refine s_x h rfl rfl (by decide) (x_bin h.k rfl rfl rfl ib_geq) (fun a h => ?_)
              refine l_end ?_
              refine c_cond h rfl (fun hb => ?_) (fun hb => ?_)
              · rw [if_pos (of_decide_eq_true hb)] at hl228
                refine wp_skip ?_
                refine e_thenN ?_
                refine wp_seq ?_
                refine wp_block ?_
                refine c_r ?_ -- region 29
                refine s_move h rfl _ rfl rfl (by decide) rfl (fun a h => ?_)
                refine s_x h rfl rfl (by decide) (x_bin h.k rfl rfl rfl (ib_mul rfl)) (fun a h => ?_)
                refine s_move h rfl _ rfl rfl (by decide) rfl (fun a h => ?_)
                refine s_move h rfl _ rfl rfl (by decide) rfl (fun a h => ?_)
                refine s_x h rfl rfl (by decide) (x_bin h.k rfl rfl rfl (ib_mul rfl)) (fun a h => ?_)
                refine s_move h rfl _ rfl rfl (by decide) rfl (fun a h => ?_)
                refine s_x h rfl rfl (by decide) (x_bin h.k rfl rfl rfl (ib_add rfl)) (fun a h => ?_)
                obtain ⟨m230, h231, hl228⟩ := bsome hl228
                obtain ⟨hi232, hm233⟩ := ix_some h231
                obtain ⟨g235, hA234⟩ := h.m.rowHead (i := 1) rfl (Nat.lt_of_le_of_lt (Nat.zero_le _) hm233)
                refine s_x h rfl rfl (by decide) (x_iaddrE h.k rfl Try.underlying38 sz_int hA234 rfl rfl hi232 hm233) (fun a h => ?_)
                obtain ⟨x236, h237, hl228⟩ := bsome hl228
                obtain ⟨u238, hv239, hu240⟩ := (hq103).cell rfl h237
                obtain ⟨e242, hr241⟩ := hu240
                cases e242
                refine s_x h rfl rfl (by decide) (x_ld h.k rfl Try.underlying3 rfl rfl (h.m.cellRowE (i := 1) rfl hA234 _ (by rw [Nat.mul_one]; exact hv239))) (fun a h => ?_)
                refine s_x h rfl rfl (by decide) (x_bin h.k rfl rfl rfl (ib_add rfl)) (fun a h => ?_)
                refine s_assign h rfl _ rfl rfl (by decide) rfl (fun a h => ?_)
                refine l_nil ?_
                refine e_blkN ?_
                refine e_thenN ?_
                refine c_r ?_ -- region 28
                refine s_move h rfl _ rfl rfl (by decide) rfl (fun a h => ?_)
                refine s_x h rfl rfl (by decide) (x_bin h.k rfl rfl rfl (ib_sub rfl)) (fun a h => ?_)
                refine s_assign h rfl _ rfl rfl (by decide) rfl (fun a h => ?_)
                refine l_nil ?_
                exact e_thenN ⟨m229, Nat.lt_succ_self _, w64 ((w64 (2 * x222)) + x236), w64 (x224 - 1), hl228, (w64_r _), (w64_r _), h.has (by exact ⟨rfl, rfl, rfl, rfl, rfl, rfl, trivial⟩)⟩
              · rw [if_neg (of_decide_eq_false hb)] at hl228
                refine wp_exit ?_
                refine e_thenX ?_
                refine e_thenX ?_
                refine e_blkX ?_
                refine e_thenN ?_
                exact ⟨x222, (Option.some.inj hl228), hr223, h.has (by exact ⟨rfl, rfl, rfl, rfl, rfl, trivial⟩)⟩
            · rintro a w ⟨x226, rfl, hr227, h⟩
              refine e_thenN ?_
              refine c_r ?_ -- region 30
              refine s_move h rfl _ rfl rfl (by decide) rfl (fun a h => ?_)
              refine s_move h rfl _ rfl rfl (by decide) rfl (fun a h => ?_)
              refine s_x h rfl rfl (by decide) (x_convE h.k rfl Try.underlying3 Try.underlying5 rfl (i8_wrap _).symm) (fun a h => ?_)
              obtain ⟨m243, h244, hl218⟩ := bsome hl218
              obtain ⟨hi245, hm246⟩ := ix_some h244
              refine s_x h rfl rfl (by decide) (x_iaddrA h.k rfl Try.underlying23 sz_uint8 rfl rfl hi245 hm246 rfl) (fun a h => ?_)
              refine q_setBox (T := ty8) (q := i8 x226) h rfl rfl rfl sz_uint8 rfl rfl 2 rfl rfl hs212 rfl (by first | omega | (simp_all; done)) (fun a w cs247 hq248 h => ?_)
              have hl249 : (x210.set m243 (i8 x226)).length = 16 := by rw [List.length_set]; exact hl213
              refine l_nil ?_
              refine e_blkN ?_
              refine e_thenN ?_
              refine c_r ?_ -- region 24
              refine s_move h rfl _ rfl rfl (by decide) rfl (fun a h => ?_)
              refine s_x h rfl rfl (by decide) (x_bin h.k rfl rfl rfl (ib_add rfl)) (fun a h => ?_)
              refine s_assign h rfl _ rfl rfl (by decide) rfl (fun a h => ?_)
              refine l_nil ?_
              exact e_thenN ⟨m219, Nat.lt_succ_self _, w64 (x208 + 1), (x210.set m243 (i8 x226)), cs247, hl218, (w64_r _), hq248, hl249, h.has (by exact ⟨rfl, rfl, rfl, rfl, trivial⟩)⟩
          · rw [if_neg (of_decide_eq_false hb)] at hl218
            refine wp_exit ?_
            refine e_thenX ?_
            refine e_thenX ?_
            refine e_blkX ?_
            refine e_thenN ?_
            have h := h.pick [0, 2, 3] (by decide) rfl
            exact ⟨x210, k211, (Option.some.inj hl218), hs212, hl213, h.has (by exact ⟨rfl, rfl, trivial⟩)⟩
        · rintro a w ⟨x214, k215, rfl, hs216, hl217, h⟩
          refine e_thenN ?_
          refine c_rs ?_ -- region 31
          refine s_x h rfl rfl (by decide) (x_ldR h.k rfl ag_A16_uint8 rfl k215 ((hs216).len.trans (by rw [hl217]; rfl)) (h.m.range0 (i := 1) rfl)) (fun a h => ?_)
          refine s_stW h rfl rfl rfl ag_A16_uint8 rfl (es := k215) rfl ((hs216).len.trans (by rw [hl217]; rfl)) (hs216).one 0 rfl (by first | rfl | simp_all) (fun a w h => ?_)
          refine l_end ?_
          refine wp_ret ?_
          rw [← Option.some.inj hf]
          exact r_ret1 h rfl (rv_cellA h rfl 0 rfl ag_A16_uint8 ((hs216).len.trans (by rw [hl217]; rfl))) ⟨_, [], _, rfl, ⟨k215, rfl, rfl, ⟨hs216, hl217⟩, trivial⟩, rfl, (Up.refl _ _ _), (h.m.pick [2] _ (by decide) rfl)⟩
def chatelaineref10_Tweak_l0 (Fu : Nat) : Nat → Int → Int → (List UInt8) → Option ((List UInt8))
  | 0, _, _, _ => none
  | k + 1, x5, x7, x9 => if x7 < 8 then ((ix 16 x7).bind fun m19 => chatelaineref10_Tweak_l0 Fu k (w64 (Int.tdiv x5 256)) (w64 (x7 + 1)) (x9.set m19 (i8 (Int.tmod x5 256)))) else (some x9)
def chatelaineref10_Tweak_l1 (Fu : Nat) (a2 : Int) : Nat → Int → (List UInt8) → Option ((List UInt8))
  | 0, _, _ => none
  | k + 1, x54, x56 => if x54 < a2 then ((chatelaineref02_Double Fu x56).bind fun x66 => chatelaineref10_Tweak_l1 Fu a2 k (w64 (x54 + 1)) x66) else (some x56)
def chatelaineref10_Tweak (Fu : Nat) (a0 : List UInt8) (a1 : Int) (a2 : Int) : Option ((List UInt8)) :=
  (chatelaineref10_Tweak_l0 Fu Fu a1 0 (List.replicate 16 ((0 : UInt8) : UInt8))).bind fun x13 => (sub a0 (w64 (Int.tdiv (a0.length : Int) 2)) (a0.length : Int)).bind fun x26 => (chatelaineref04_Make Fu x26).bind fun x36 => (chatelaineref04_Key_Encrypt Fu x36 x13).bind fun x44 => (chatelaineref10_Tweak_l1 Fu a2 Fu 0 x44).bind fun x60 => some x60
set_option maxRecDepth 100000 in
set_option maxHeartbeats 2000000 in
theorem chatelaineref10_Tweak_ok (Fu : Nat) {S0 : Snap} (Aa0 : Option Addr) (ca0 : Nat) (a0 : List UInt8) (hsa0 : slS ty8 S0 Aa0 ca0 a0) (a1 : Int) (hra1 : r64 a1) (a2 : Int) (hra2 : r64 a2) (r : (List UInt8)) (hf : chatelaineref10_Tweak Fu a0 a1 a2 = some r) (w0 : World) (hm : Mem w0 (ownL ([] ++ [.sn S0])) ([] ++ [.sn S0]) w0) :
    Calls Try.prog 34 #[.slice Aa0 a0.length ca0, .int .i64 a1, .int .i64 a2] w0 (Ret w0 S0 [] (fun v L1 S1 => ∃ (k76 : List Value), v = .agg k76.toArray ∧ L1 = [] ∧ (tyA 16 ty8).rep S1 k76 r ∧ True)) := by
  unfold chatelaineref10_Tweak at hf
  refine c_enterM Try.func34 rfl 39 rfl (by simp) _ hm _ rfl (fun a h => ?_)
  refine c_rs ?_ -- region 0
  refine s_alloc h rfl rfl rfl (by decide) zi_A16_uint8 rfl (fun a w g1 h => ?_)
  have h := h.parts (L' := [.box g1 23 (List.replicate 16 (.int .u8 0)), .sn S0]) rfl
  refine l_end ?_
  refine c_rs ?_ -- region 1
  refine s_alloc h rfl rfl rfl (by decide) zi_A16_uint8 rfl (fun a w g2 h => ?_)
  have h := h.parts (L' := [.box g2 23 (List.replicate 16 (.int .u8 0)), .box g1 23 (List.replicate 16 (.int .u8 0)), .sn S0]) rfl
  refine l_end ?_
  refine c_rs ?_ -- region 2
  refine s_move h rfl _ rfl rfl (by decide) rfl (fun a h => ?_)
  refine s_assign h rfl _ rfl rfl (by decide) rfl (fun a h => ?_)
  refine l_end ?_
  refine wp_seq ?_
  refine c_rs ?_ -- region 3
  refine s_assign h rfl _ rfl rfl (by decide) rfl (fun a h => ?_)
  refine l_end ?_
  obtain ⟨o3, hl4, hf⟩ := bsome hf
  refine c_fin (fun a w => ∃ (x13 : List UInt8), ∃ (k14 : List Value), x13 = o3 ∧ reps ty8 S0 k14 x13 ∧ x13.length = 16 ∧ St 39 w0 (ownL ([] ++ [.sn S0])) [(0, .slice Aa0 a0.length ca0), (2, .int .i64 a2), (6, .pointer (some ⟨g1, 0, none⟩)), (7, .pointer (some ⟨g2, 0, none⟩))] [.box g1 23 (List.replicate 16 (.int .u8 0)), .box g2 23 k14, .sn S0] a w) ?_ ?_
  · refine wp_block ?_
    have h := h.pick [1, 0, 2] (by decide) rfl
    refine c_loop (fun m18 a w => ∃ (x5 : Int), ∃ (x7 : Int), ∃ (x9 : List UInt8), ∃ (k10 : List Value), chatelaineref10_Tweak_l0 Fu m18 x5 x7 x9 = some o3 ∧ r64 x5 ∧ r64 x7 ∧ reps ty8 S0 k10 x9 ∧ x9.length = 16 ∧ St 39 w0 (ownL ([] ++ [.sn S0])) [(0, .slice Aa0 a0.length ca0), (2, .int .i64 a2), (6, .pointer (some ⟨g1, 0, none⟩)), (7, .pointer (some ⟨g2, 0, none⟩)), (8, .int .i64 x5), (9, .int .i64 x7)] [.box g1 23 (List.replicate 16 (.int .u8 0)), .box g2 23 k10, .sn S0] a w) Fu ⟨a1, 0, (List.replicate 16 ((0 : UInt8) : UInt8)), (List.replicate 16 (.int .u8 0)), hl4, hra1, (show r64 0 from ⟨by decide, by decide⟩), (show reps ty8 S0 (List.replicate 16 (.int .u8 0)) (List.replicate 16 ((0 : UInt8) : UInt8)) from repsRep1 (x := ((0 : UInt8) : UInt8)) rfl), (show (List.replicate 16 ((0 : UInt8) : UInt8)).length = 16 from List.length_replicate), h.has (by exact ⟨rfl, rfl, rfl, rfl, rfl, rfl, trivial⟩)⟩ (fun m18 a w hI => ?_)
    obtain ⟨x5, x7, x9, k10, hl17, hr6, hr8, hs11, hl12, h⟩ := hI
    obtain _ | m18 := m18
    · rw [chatelaineref10_Tweak_l0] at hl17; cases hl17
    rw [chatelaineref10_Tweak_l0] at hl17
    refine wp_seq ?_
    refine c_rs ?_ -- region 4
    refine s_move h rfl _ rfl rfl (by decide) rfl (fun a h => ?_)
    refine s_x h rfl rfl (by decide) (x_bin h.k rfl rfl rfl ib_lss) (fun a h => ?_)
    refine l_end ?_
    refine c_cond h rfl (fun hb => ?_) (fun hb => ?_)
    · rw [if_pos (of_decide_eq_true hb)] at hl17
      refine wp_skip ?_
      refine e_thenN ?_
      refine wp_seq ?_
      refine wp_block ?_
      refine c_rs ?_ -- region 6
      refine s_move h rfl _ rfl rfl (by decide) rfl (fun a h => ?_)
      refine s_move h rfl _ rfl rfl (by decide) rfl (fun a h => ?_)
      refine s_x h rfl rfl (by decide) (x_bin h.k rfl rfl rfl (ib_remw (by decide))) (fun a h => ?_)
      refine s_x h rfl rfl (by decide) (x_convE h.k rfl Try.underlying3 Try.underlying5 rfl (i8_wrap _).symm) (fun a h => ?_)
      obtain ⟨m19, h20, hl17⟩ := bsome hl17
      obtain ⟨hi21, hm22⟩ := ix_some h20
      refine s_x h rfl rfl (by decide) (x_iaddrA h.k rfl Try.underlying23 sz_uint8 rfl rfl hi21 hm22 rfl) (fun a h => ?_)
      refine q_setBox (T := ty8) (q := i8 (Int.tmod x5 256)) h rfl rfl rfl sz_uint8 rfl rfl 1 rfl rfl hs11 rfl (by first | omega | (simp_all; done)) (fun a w cs23 hq24 h => ?_)
      have hl25 : (x9.set m19 (i8 (Int.tmod x5 256))).length = 16 := by rw [List.length_set]; exact hl12
      refine l_end ?_
      refine c_r ?_ -- region 7
      refine s_move h rfl _ rfl rfl (by decide) rfl (fun a h => ?_)
      refine s_x h rfl rfl (by decide) (x_bin h.k rfl rfl rfl (ib_quow (by decide))) (fun a h => ?_)
      refine s_assign h rfl _ rfl rfl (by decide) rfl (fun a h => ?_)
      refine l_nil ?_
      refine e_blkN ?_
      refine e_thenN ?_
      refine c_r ?_ -- region 5
      refine s_move h rfl _ rfl rfl (by decide) rfl (fun a h => ?_)
      refine s_x h rfl rfl (by decide) (x_bin h.k rfl rfl rfl (ib_add rfl)) (fun a h => ?_)
      refine s_assign h rfl _ rfl rfl (by decide) rfl (fun a h => ?_)
      refine l_nil ?_
      exact e_thenN ⟨m18, Nat.lt_succ_self _, w64 (Int.tdiv x5 256), w64 (x7 + 1), (x9.set m19 (i8 (Int.tmod x5 256))), cs23, hl17, (w64_r _), (w64_r _), hq24, hl25, h.has (by exact ⟨rfl, rfl, rfl, rfl, rfl, rfl, trivial⟩)⟩
    · rw [if_neg (of_decide_eq_false hb)] at hl17
      refine wp_exit ?_
      refine e_thenX ?_
      refine e_thenX ?_
      refine e_blkX ?_
      refine e_thenN ?_
      exact ⟨x9, k10, (Option.some.inj hl17), hs11, hl12, h.has (by exact ⟨rfl, rfl, rfl, rfl, trivial⟩)⟩
  · rintro a w ⟨x13, k14, rfl, hs15, hl16, h⟩
    refine e_thenN ?_
    refine wp_seq ?_
    -- region 8 draws
    obtain ⟨x26, h27, hf⟩ := bsome hf
    obtain ⟨x36, h37, hf⟩ := bsome hf
    obtain ⟨x44, h45, hf⟩ := bsome hf
    refine d_start h (Mem _ _ _) 8 9 rfl (by kernel_rfl) (fun _ _ _ _ _ h => h) (fun _ h => h) (fun Q a w HE HN h HS => ?_)
    refine d_takeP h (fun _ => HS) HN 0 rfl (by kernel_rfl) (by kernel_rfl) (by kernel_rfl) (by decide) rfl rfl (by decide) (fun w' => x_move h.k _ rfl rfl) (fun a h => ?_)
    refine d_takeP h (fun _ => HS) HN 1 rfl (by kernel_rfl) (by kernel_rfl) (by kernel_rfl) (by decide) rfl rfl (by decide) (fun w' => x_move h.k _ rfl rfl) (fun a h => ?_)
    refine d_takeP h (fun _ => HS) HN 2 rfl (by kernel_rfl) (by kernel_rfl) (by kernel_rfl) (by decide) rfl rfl (by decide) (fun w' => x_len h.k rfl Try.underlying22 rfl) (fun a h => ?_)
    refine d_takeP h (fun _ => HS) HN 3 rfl (by kernel_rfl) (by kernel_rfl) (by kernel_rfl) (by decide) rfl rfl (by decide) (fun w' => x_bin h.k rfl rfl rfl (ib_quow (by decide))) (fun a h => ?_)
    obtain ⟨m28, n29, hi30, hi31, hm32, hm33, hr34⟩ := sub_some h27
    have hs35 := slS.sub (hsa0) hm32 hm33 (Nat.le_trans hm33 (hsa0).1) (Nat.le_refl _) hr34
    refine d_takeP h (fun _ => HS) HN 4 rfl (by kernel_rfl) (by kernel_rfl) (by kernel_rfl) (by decide) rfl rfl (by decide) (fun w' => x_sliceE h.k rfl Try.underlying22 sz_uint8 rfl ca0 hr34 (bd_some rfl hi30) (bd_none (by omega)) (bd_none rfl) (by intro _; rfl) hm32 hm33 (Nat.le_trans hm33 (hsa0).1) (Nat.le_refl _)) (fun a h => ?_)
    refine d_take h HS HN 6 rfl (by kernel_rfl) (by kernel_rfl) (by kernel_rfl) (by kernel_rfl) (by kernel_rfl) rfl rfl (by decide) (fun w' hw => x_ldR h.k rfl ag_A16_uint8 rfl k14 ((hs15).len.trans (by rw [hl16]; rfl)) (hw.range0 (i := 1) rfl)) (fun a h => ?_)
    refine d_alone 5 rfl (by kernel_rfl) (fun K hK => ?_)
    have h := h.pick [2, 0, 1] (by decide) rfl
    have hX := chatelaineref04_Make_ok Fu (S0 := S0) (sA Aa0 ca0 m28 1) (ca0 - m28) x26 hs35 _ h37 _ (h.sub (Ls := []))
    refine q_callY (Ls := []) hX h (Up.refl _ _ _) rfl rfl rfl (by decide) Try.func16 rfl rfl rfl (fun a w v L1 S39 hR le41 up40 h => ?_)
    obtain ⟨g42, rfl, rfl, hp43, _⟩ := hR
    replace HS := (h.m.pick [1, 2, 0] [.box g1 23 (List.replicate 16 (.int .u8 0)), .box g2 23 k14, .sn S39] (by decide) rfl).snLe 2 rfl le41
    refine hK _ _ (fun _ _ => HS) ?_
    clear hK
    refine d_alone 7 rfl (by kernel_rfl) (fun K hK => ?_)
    have hX := chatelaineref04_Key_Encrypt_ok Fu (S0 := snapAll _) g42 x36 (hp43.mono (h.m.leAll (i := 0) rfl)) k14 x13 ((tyA 16 ty8).mono (h.m.leAll (i := 0) rfl) (show (tyA 16 ty8).rep S39 k14 x13 from ⟨(hs15.mono le41), hl16⟩)) _ h45 _ h.startAll
    refine q_callX hX h rfl rfl rfl (by decide) Try.func17 rfl rfl rfl (fun a w v L1 S1 hR hb1 h => ?_)
    obtain ⟨k47, rfl, rfl, hv48, _⟩ := hR
    obtain ⟨hs49, hl50⟩ := hv48
    have hq51 := hs49.fl (S' := S39) fl_8
    refine hK _ _ (fun _ _ => HS.ext hb1) ?_
    replace HS := HS.ext hb1
    clear hK
    refine d_alone 8 rfl (by kernel_rfl) (fun K hK => ?_)
    refine s_stW h rfl rfl rfl ag_A16_uint8 rfl (es := k47) rfl ((hq51).len.trans (by rw [hl50]; rfl)) (hq51).one 2 rfl (((hs15.mono le41)).len.trans (by rw [hl16]; rfl)) (fun a w h => ?_)
    refine hK _ _ (fun hne _ => absurd rfl hne) ?_
    clear hK
    refine d_done (by kernel_rfl) (HE _ _ ?_) _
    refine e_thenN ?_
    refine wp_seq ?_
    refine c_rs ?_ -- region 9
    refine s_assign h rfl _ rfl rfl (by decide) rfl (fun a h => ?_)
    refine l_end ?_
    obtain ⟨o52, hl53, hf⟩ := bsome hf
    refine c_fin (fun a w => ∃ (x60 : List UInt8), ∃ (k61 : List Value), x60 = o52 ∧ reps ty8 S39 k61 x60 ∧ x60.length = 16 ∧ St 39 w0 (ownL ([] ++ [.sn S0])) [(6, .pointer (some ⟨g1, 0, none⟩)), (7, .pointer (some ⟨g2, 0, none⟩))] [.box g1 23 (List.replicate 16 (.int .u8 0)), .box g2 23 k61, .sn S39] a w) ?_ ?_
    · refine wp_block ?_
      have h := h.pick [1, 2, 0] (by decide) rfl
      refine c_loop (fun m65 a w => ∃ (x54 : Int), ∃ (x56 : List UInt8), ∃ (k57 : List Value), chatelaineref10_Tweak_l1 Fu a2 m65 x54 x56 = some o52 ∧ r64 x54 ∧ reps ty8 S39 k57 x56 ∧ x56.length = 16 ∧ St 39 w0 (ownL ([] ++ [.sn S0])) [(2, .int .i64 a2), (6, .pointer (some ⟨g1, 0, none⟩)), (7, .pointer (some ⟨g2, 0, none⟩)), (10, .int .i64 x54)] [.box g1 23 (List.replicate 16 (.int .u8 0)), .box g2 23 k57, .sn S39] a w) Fu ⟨0, x44, k47, hl53, (show r64 0 from ⟨by decide, by decide⟩), hq51, hl50, h.has (by exact ⟨rfl, rfl, rfl, rfl, trivial⟩)⟩ (fun m65 a w hI => ?_)
      obtain ⟨x54, x56, k57, hl64, hr55, hs58, hl59, h⟩ := hI
      obtain _ | m65 := m65
      · rw [chatelaineref10_Tweak_l1] at hl64; cases hl64
      rw [chatelaineref10_Tweak_l1] at hl64
      refine wp_seq ?_
      refine c_rs ?_ -- region 10
      refine s_move h rfl _ rfl rfl (by decide) rfl (fun a h => ?_)
      refine s_move h rfl _ rfl rfl (by decide) rfl (fun a h => ?_)
      refine s_x h rfl rfl (by decide) (x_bin h.k rfl rfl rfl ib_lss) (fun a h => ?_)
      refine l_end ?_
      refine c_cond h rfl (fun hb => ?_) (fun hb => ?_)
      · rw [if_pos (of_decide_eq_true hb)] at hl64
        refine wp_skip ?_
        refine e_thenN ?_
        refine wp_seq ?_
        refine wp_block ?_
        refine c_r ?_ -- region 12
        refine s_x h rfl rfl (by decide) (x_ldR h.k rfl ag_A16_uint8 rfl k57 ((hs58).len.trans (by rw [hl59]; rfl)) (h.m.range0 (i := 1) rfl)) (fun a h => ?_)
        obtain ⟨x66, h67, hl64⟩ := bsome hl64
        have hX := chatelaineref02_Double_ok Fu (S0 := snapAll _) k57 x56 ((tyA 16 ty8).mono (h.m.leAll (i := 2) rfl) (show (tyA 16 ty8).rep S39 k57 x56 from ⟨hs58, hl59⟩)) _ h67 _ h.startAll
        refine q_callX hX h rfl rfl rfl (by decide) Try.func68 rfl rfl rfl (fun a w v L1 S1 hR hb1 h => ?_)
        obtain ⟨k69, rfl, rfl, hv70, _⟩ := hR
        obtain ⟨hs71, hl72⟩ := hv70
        have hq73 := hs71.fl (S' := S39) fl_8
        refine s_stW h rfl rfl rfl ag_A16_uint8 rfl (es := k69) rfl ((hq73).len.trans (by rw [hl72]; rfl)) (hq73).one 1 rfl ((hs58).len.trans (by rw [hl59]; rfl)) (fun a w h => ?_)
        refine l_nil ?_
        refine e_blkN ?_
        refine e_thenN ?_
        refine c_r ?_ -- region 11
        refine s_move h rfl _ rfl rfl (by decide) rfl (fun a h => ?_)
        refine s_x h rfl rfl (by decide) (x_bin h.k rfl rfl rfl (ib_add rfl)) (fun a h => ?_)
        refine s_assign h rfl _ rfl rfl (by decide) rfl (fun a h => ?_)
        refine l_nil ?_
        exact e_thenN ⟨m65, Nat.lt_succ_self _, w64 (x54 + 1), x66, k69, hl64, (w64_r _), hq73, hl72, h.has (by exact ⟨rfl, rfl, rfl, rfl, trivial⟩)⟩
      · rw [if_neg (of_decide_eq_false hb)] at hl64
        refine wp_exit ?_
        refine e_thenX ?_
        refine e_thenX ?_
        refine e_blkX ?_
        refine e_thenN ?_
        exact ⟨x56, k57, (Option.some.inj hl64), hs58, hl59, h.has (by exact ⟨rfl, rfl, trivial⟩)⟩
    · rintro a w ⟨x60, k61, rfl, hs62, hl63, h⟩
      refine e_thenN ?_
      refine c_rs ?_ -- region 13
      refine s_x h rfl rfl (by decide) (x_ldR h.k rfl ag_A16_uint8 rfl k61 ((hs62).len.trans (by rw [hl63]; rfl)) (h.m.range0 (i := 1) rfl)) (fun a h => ?_)
      refine s_stW h rfl rfl rfl ag_A16_uint8 rfl (es := k61) rfl ((hs62).len.trans (by rw [hl63]; rfl)) (hs62).one 0 rfl (by first | rfl | simp_all) (fun a w h => ?_)
      refine l_end ?_
      refine wp_ret ?_
      rw [← Option.some.inj hf]
      exact r_ret1 h rfl (rv_cellA h rfl 0 rfl ag_A16_uint8 ((hs62).len.trans (by rw [hl63]; rfl))) ⟨_, [], _, rfl, ⟨k61, rfl, rfl, ⟨hs62, hl63⟩, trivial⟩, rfl, up40, (h.m.pick [2] _ (by decide) rfl)⟩
def chatelaineref10_Encrypt_l1 (Fu : Nat) (a2 : List UInt8) (x35 : Int) (x37 : List UInt8) : Nat → Int → (List UInt8) → Option ((List UInt8))
  | 0, _, _ => none
  | k + 1, x52, x54 => if x52 < 16 then ((idx a2 (w64 (x35 + x52))).bind fun x64 => (ix 16 x52).bind fun m76 => (x37[m76]?).bind fun x80 => (ix 16 x52).bind fun m85 => chatelaineref10_Encrypt_l1 Fu a2 x35 x37 k (w64 (x52 + 1)) (x54.set m85 (x64 ^^^ x80))) else (some x54)
def chatelaineref10_Encrypt_l2 (Fu : Nat) (x37 : List UInt8) (x92 : (List UInt8)) : Nat → Int → (List UInt8) → Option ((List UInt8))
  | 0, _, _ => none
  | k + 1, x102, x104 => if x102 < 16 then ((ix 16 x102).bind fun m116 => (x92[m116]?).bind fun x120 => (ix 16 x102).bind fun m125 => (x37[m125]?).bind fun x129 => (app 1 x104 ([(x120 ^^^ x129)])).bind fun x136 => chatelaineref10_Encrypt_l2 Fu x37 x92 k (w64 (x102 + 1)) x136) else (some x104)
def chatelaineref10_Encrypt_l0 (Fu : Nat) (a2 : List UInt8) (x11 : (Int × (List Int) × (List Int))) : Nat → (List UInt8) → Int → (List UInt8) → Option ((List UInt8))
  | 0, _, _, _ => none
  | k + 1, x30, x35, x37 => if x35 < (a2.length : Int) then ((chatelaineref10_Encrypt_l1 Fu a2 x35 x37 Fu 0 (List.replicate 16 ((0 : UInt8) : UInt8))).bind fun x58 => (chatelaineref04_Key_Encrypt Fu x11 x58).bind fun x92 => (chatelaineref10_Encrypt_l2 Fu x37 x92 Fu 0 x30).bind fun x109 => (chatelaineref02_Double Fu x37).bind fun x142 => chatelaineref10_Encrypt_l0 Fu a2 x11 k x109 (w64 (x35 + 16)) x142) else (some x30)
def chatelaineref10_Encrypt (Fu : Nat) (a0 : List UInt8) (a1 : Int) (a2 : List UInt8) : Option ((List UInt8)) :=
  (sub a0 0 (w64 (Int.tdiv (a0.length : Int) 2))).bind fun x1 => (chatelaineref04_Make Fu x1).bind fun x11 => (chatelaineref10_Tweak Fu a0 a1 0).bind fun x19 => (chatelaineref10_Encrypt_l0 Fu a2 x11 Fu ([]) 0 x19).bind fun x41 => some x41
set_option maxRecDepth 100000 in
set_option maxHeartbeats 2000000 in
theorem chatelaineref10_Encrypt_ok (Fu : Nat) {S0 : Snap} (Aa0 : Option Addr) (ca0 : Nat) (a0 : List UInt8) (hsa0 : slS ty8 S0 Aa0 ca0 a0) (a1 : Int) (hra1 : r64 a1) (Aa2 : Option Addr) (ca2 : Nat) (a2 : List UInt8) (hsa2 : slS ty8 S0 Aa2 ca2 a2) (r : (List UInt8)) (hf : chatelaineref10_Encrypt Fu a0 a1 a2 = some r) (w0 : World) (hm : Mem w0 (ownL ([] ++ [.sn S0])) ([] ++ [.sn S0]) w0) :
    Calls Try.prog 36 #[.slice Aa0 a0.length ca0, .int .i64 a1, .slice Aa2 a2.length ca2] w0 (Ret w0 S0 [] (fun v L1 S1 => ∃ (A153 : Option Addr), ∃ (c154 : Nat), ∃ (cs155 : List Value), v = .slice A153 r.length c154 ∧ L1 = [.row (.slice A153 r.length c154) 5 1 r.length cs155] ∧ reps ty8 S1 cs155 r ∧ True)) := by
  unfold chatelaineref10_Encrypt at hf
  refine c_enterM Try.func36 rfl 65 rfl (by simp) _ hm _ rfl (fun a h => ?_)
  refine c_rs ?_ -- region 0
  refine s_assign h rfl _ rfl rfl (by decide) rfl (fun a h => ?_)
  refine l_end ?_
  refine c_rs ?_ -- region 1
  refine s_assign h rfl _ rfl rfl (by decide) rfl (fun a h => ?_)
  refine l_end ?_
  refine c_rs ?_ -- region 2
  refine s_move h rfl _ rfl rfl (by decide) rfl (fun a h => ?_)
  refine s_move h rfl _ rfl rfl (by decide) rfl (fun a h => ?_)
  refine s_x h rfl rfl (by decide) (x_len h.k rfl Try.underlying22 rfl) (fun a h => ?_)
  refine s_x h rfl rfl (by decide) (x_bin h.k rfl rfl rfl (ib_quow (by decide))) (fun a h => ?_)
  obtain ⟨x1, h2, hf⟩ := bsome hf
  obtain ⟨m3, n4, hi5, hi6, hm7, hm8, hr9⟩ := sub_some h2
  have hs10 := slS.sub (hsa0) hm7 hm8 (Nat.le_trans hm8 (hsa0).1) (Nat.le_refl _) hr9
  refine s_x h rfl rfl (by decide) (x_sliceE h.k rfl Try.underlying22 sz_uint8 rfl ca0 hr9 (bd_none (by omega)) (bd_some rfl hi6) (bd_none rfl) (by intro hh; cases hh) hm7 hm8 (Nat.le_trans hm8 (hsa0).1) (Nat.le_refl _)) (fun a h => ?_)
  obtain ⟨x11, h12, hf⟩ := bsome hf
  have hX := chatelaineref04_Make_ok Fu (S0 := S0) (sA Aa0 ca0 m3 1) (ca0 - m3) x1 hs10 _ h12 _ (h.sub (Ls := []))
  refine q_callY (Ls := []) hX h (Up.refl _ _ _) rfl rfl rfl (by decide) Try.func16 rfl rfl rfl (fun a w v L1 S14 hR le16 up15 h => ?_)
  obtain ⟨g17, rfl, rfl, hp18, _⟩ := hR
  refine s_assign h rfl _ rfl rfl (by decide) rfl (fun a h => ?_)
  refine l_end ?_
  refine c_rs ?_ -- region 3
  refine s_move h rfl _ rfl rfl (by decide) rfl (fun a h => ?_)
  refine s_move h rfl _ rfl rfl (by decide) rfl (fun a h => ?_)
  obtain ⟨x19, h20, hf⟩ := bsome hf
  have hX := chatelaineref10_Tweak_ok Fu (S0 := snapAll _) Aa0 ca0 a0 ((hsa0.mono le16).mono (h.m.leAll (i := 0) rfl)) a1 hra1 0 (show r64 0 from ⟨by decide, by decide⟩) _ h20 _ h.startAll
  refine q_callX hX h rfl rfl rfl (by decide) Try.func34 rfl rfl rfl (fun a w v L1 S1 hR hb1 h => ?_)
  obtain ⟨k22, rfl, rfl, hv23, _⟩ := hR
  obtain ⟨hs24, hl25⟩ := hv23
  have hq26 := hs24.fl (S' := S14) fl_8
  refine s_alloc h rfl rfl rfl (by decide) zi_A16_uint8 rfl (fun a w g27 h => ?_)
  have h := h.parts (L' := [.box g27 23 (List.replicate 16 (.int .u8 0)), .sn S14]) rfl
  refine s_stW h rfl rfl rfl ag_A16_uint8 rfl (es := k22) rfl ((hq26).len.trans (by rw [hl25]; rfl)) (hq26).one 0 rfl (by first | rfl | simp_all) (fun a w h => ?_)
  refine l_end ?_
  refine wp_seq ?_
  refine c_rs ?_ -- region 4
  refine s_assign h rfl _ rfl rfl (by decide) rfl (fun a h => ?_)
  refine l_end ?_
  obtain ⟨o28, hl29, hf⟩ := bsome hf
  refine c_fin (fun a w => ∃ (x41 : List UInt8), ∃ (A42 : Option Addr), ∃ (c43 : Nat), ∃ (cs44 : List Value), x41 = o28 ∧ reps ty8 S14 cs44 x41 ∧ St 65 w0 (ownL ([] ++ [.sn S0])) [(7, .slice A42 x41.length c43)] [.row (.slice A42 x41.length c43) 5 1 x41.length cs44, .sn S14] a w) ?_ ?_
  · refine wp_block ?_
    have h := h.mem (h.m.nilrow 5 1)
    refine c_loop (fun m47 a w => ∃ (x30 : List UInt8), ∃ (A31 : Option Addr), ∃ (c32 : Nat), ∃ (cs33 : List Value), ∃ (x35 : Int), ∃ (x37 : List UInt8), ∃ (k38 : List Value), chatelaineref10_Encrypt_l0 Fu a2 x11 m47 x30 x35 x37 = some o28 ∧ reps ty8 S14 cs33 x30 ∧ r64 x35 ∧ reps ty8 S14 k38 x37 ∧ x37.length = 16 ∧ St 65 w0 (ownL ([] ++ [.sn S0])) [(2, .slice Aa2 a2.length ca2), (7, .slice A31 x30.length c32), (8, .pointer (some ⟨g17, 0, none⟩)), (9, .pointer (some ⟨g27, 0, none⟩)), (10, .int .i64 x35)] [.row (.slice A31 x30.length c32) 5 1 x30.length cs33, .box g27 23 k38, .sn S14] a w) Fu ⟨[], none, 0, [], 0, x19, k22, hl29, (show reps ty8 S14 [] [] from rfl), (show r64 0 from ⟨by decide, by decide⟩), hq26, hl25, h.has (by exact ⟨rfl, rfl, rfl, rfl, rfl, trivial⟩)⟩ (fun m47 a w hI => ?_)
    obtain ⟨x30, A31, c32, cs33, x35, x37, k38, hl46, hq34, hr36, hs39, hl40, h⟩ := hI
    obtain _ | m47 := m47
    · rw [chatelaineref10_Encrypt_l0] at hl46; cases hl46
    rw [chatelaineref10_Encrypt_l0] at hl46
    refine wp_seq ?_
    refine c_rs ?_ -- region 5
    refine s_move h rfl _ rfl rfl (by decide) rfl (fun a h => ?_)
    refine s_move h rfl _ rfl rfl (by decide) rfl (fun a h => ?_)
    refine s_x h rfl rfl (by decide) (x_len h.k rfl Try.underlying22 rfl) (fun a h => ?_)
    refine s_x h rfl rfl (by decide) (x_bin h.k rfl rfl rfl ib_lss) (fun a h => ?_)
    refine l_end ?_
    refine c_cond h rfl (fun hb => ?_) (fun hb => ?_)
    · rw [if_pos (of_decide_eq_true hb)] at hl46
      refine wp_skip ?_
      refine e_thenN ?_
      refine wp_seq ?_
      refine wp_block ?_
      refine c_rs ?_ -- region 7
      refine s_alloc h rfl rfl rfl (by decide) zi_A16_uint8 rfl (fun a w g49 h => ?_)
      have h := h.parts (L' := [.box g49 23 (List.replicate 16 (.int .u8 0)), .row (.slice A31 x30.length c32) 5 1 x30.length cs33, .box g27 23 k38, .sn S14]) rfl
      refine l_end ?_
      refine wp_seq ?_
      refine c_rs ?_ -- region 8
      refine s_assign h rfl _ rfl rfl (by decide) rfl (fun a h => ?_)
      refine l_end ?_
      obtain ⟨o50, hl51, hl46⟩ := bsome hl46
      refine c_fin (fun a w => ∃ (x58 : List UInt8), ∃ (k59 : List Value), x58 = o50 ∧ reps ty8 S14 k59 x58 ∧ x58.length = 16 ∧ St 65 w0 (ownL ([] ++ [.sn S0])) [(2, .slice Aa2 a2.length ca2), (7, .slice A31 x30.length c32), (8, .pointer (some ⟨g17, 0, none⟩)), (9, .pointer (some ⟨g27, 0, none⟩)), (10, .int .i64 x35), (11, .pointer (some ⟨g49, 0, none⟩))] [.row (.slice A31 x30.length c32) 5 1 x30.length cs33, .box g27 23 k38, .box g49 23 k59, .sn S14] a w) ?_ ?_
      · refine wp_block ?_
        have h := h.pick [1, 2, 0, 3] (by decide) rfl
        refine c_loop (fun m63 a w => ∃ (x52 : Int), ∃ (x54 : List UInt8), ∃ (k55 : List Value), chatelaineref10_Encrypt_l1 Fu a2 x35 x37 m63 x52 x54 = some o50 ∧ r64 x52 ∧ reps ty8 S14 k55 x54 ∧ x54.length = 16 ∧ St 65 w0 (ownL ([] ++ [.sn S0])) [(2, .slice Aa2 a2.length ca2), (7, .slice A31 x30.length c32), (8, .pointer (some ⟨g17, 0, none⟩)), (9, .pointer (some ⟨g27, 0, none⟩)), (10, .int .i64 x35), (11, .pointer (some ⟨g49, 0, none⟩)), (12, .int .i64 x52)] [.row (.slice A31 x30.length c32) 5 1 x30.length cs33, .box g27 23 k38, .box g49 23 k55, .sn S14] a w) Fu ⟨0, (List.replicate 16 ((0 : UInt8) : UInt8)), (List.replicate 16 (.int .u8 0)), hl51, (show r64 0 from ⟨by decide, by decide⟩), (show reps ty8 S14 (List.replicate 16 (.int .u8 0)) (List.replicate 16 ((0 : UInt8) : UInt8)) from repsRep1 (x := ((0 : UInt8) : UInt8)) rfl), (show (List.replicate 16 ((0 : UInt8) : UInt8)).length = 16 from List.length_replicate), h.has (by exact ⟨rfl, rfl, rfl, rfl, rfl, rfl, rfl, trivial⟩)⟩ (fun m63 a w hI => ?_)
        obtain ⟨x52, x54, k55, hl62, hr53, hs56, hl57, h⟩ := hI
        obtain _ | m63 := m63
        · rw [chatelaineref10_Encrypt_l1] at hl62; cases hl62
        rw [chatelaineref10_Encrypt_l1] at hl62
        refine wp_seq ?_
        refine c_rs ?_ -- region 9
        refine s_move h rfl _ rfl rfl (by decide) rfl (fun a h => ?_)
        refine s_x h rfl rfl (by decide) (x_bin h.k rfl rfl rfl ib_lss) (fun a h => ?_)
        refine l_end ?_
        refine c_cond h rfl (fun hb => ?_) (fun hb => ?_)
        · rw [if_pos (of_decide_eq_true hb)] at hl62
          refine wp_skip ?_
          refine e_thenN ?_
          refine wp_seq ?_
          refine wp_block ?_
          -- region 11 draws
          obtain ⟨x64, h68, hl62⟩ := bsome hl62
          obtain ⟨m76, h77, hl62⟩ := bsome hl62
          obtain ⟨x80, h81, hl62⟩ := bsome hl62
          obtain ⟨m85, h86, hl62⟩ := bsome hl62
          refine d_start h (Mem _ _ _) 12 13 rfl (by kernel_rfl) (fun _ _ _ _ _ h => h) (fun _ h => h) (fun Q a w HE HN h HS => ?_)
          refine d_takeP h (fun _ => HS) HN 0 rfl (by kernel_rfl) (by kernel_rfl) (by kernel_rfl) (by decide) rfl rfl (by decide) (fun w' => x_move h.k _ rfl rfl) (fun a h => ?_)
          refine d_takeP h (fun _ => HS) HN 1 rfl (by kernel_rfl) (by kernel_rfl) (by kernel_rfl) (by decide) rfl rfl (by decide) (fun w' => x_move h.k _ rfl rfl) (fun a h => ?_)
          refine d_takeP h (fun _ => HS) HN 2 rfl (by kernel_rfl) (by kernel_rfl) (by kernel_rfl) (by decide) rfl rfl (by decide) (fun w' => x_move h.k _ rfl rfl) (fun a h => ?_)
          refine d_takeP h (fun _ => HS) HN 3 rfl (by kernel_rfl) (by kernel_rfl) (by kernel_rfl) (by decide) rfl rfl (by decide) (fun w' => x_move h.k _ rfl rfl) (fun a h => ?_)
          refine d_takeP h (fun _ => HS) HN 4 rfl (by kernel_rfl) (by kernel_rfl) (by kernel_rfl) (by decide) rfl rfl (by decide) (fun w' => x_bin h.k rfl rfl rfl (ib_add rfl)) (fun a h => ?_)
          obtain ⟨m65, hi69, hm70, hx71⟩ := idx_some h68
          obtain ⟨b66, off67, k72, hA73, hu74, hc75⟩ := ((hsa2.mono le16)).at1 rfl hx71 (h.m.snOK (i := 3) rfl)
          cases hu74
          refine d_takeP h (fun _ => HS) HN 5 rfl (by kernel_rfl) (by kernel_rfl) (by kernel_rfl) (by decide) rfl rfl (by decide) (fun w' => x_iaddrE h.k rfl Try.underlying22 sz_uint8 hA73 rfl rfl hi69 hm70) (fun a h => ?_)
          refine d_take h HS HN 6 rfl (by kernel_rfl) (by kernel_rfl) (by kernel_rfl) (by kernel_rfl) (by kernel_rfl) rfl rfl (by decide) (fun w' hw => x_ld h.k rfl Try.underlying5 rfl rfl (hc75 _ (hw.snOK (i := 3) rfl))) (fun a h => ?_)
          refine d_takeP h (fun _ => HS) HN 7 rfl (by kernel_rfl) (by kernel_rfl) (by kernel_rfl) (by decide) rfl rfl (by decide) (fun w' => x_move h.k _ rfl rfl) (fun a h => ?_)
          obtain ⟨hi78, hm79⟩ := ix_some h77
          refine d_takeP h (fun _ => HS) HN 8 rfl (by kernel_rfl) (by kernel_rfl) (by kernel_rfl) (by decide) rfl rfl (by decide) (fun w' => x_iaddrA h.k rfl Try.underlying23 sz_uint8 rfl rfl hi78 hm79 rfl) (fun a h => ?_)
          obtain ⟨u82, hv83, hu84⟩ := (hs39).cell rfl h81
          cases hu84
          refine d_take h HS HN 9 rfl (by kernel_rfl) (by kernel_rfl) (by kernel_rfl) (by kernel_rfl) (by kernel_rfl) rfl rfl (by decide) (fun w' hw => x_ld h.k rfl Try.underlying5 rfl rfl ((hw.cell (i := 1) rfl _).trans (by rw [Nat.zero_add, Nat.mul_one]; exact hv83))) (fun a h => ?_)
          refine d_takeP h (fun _ => HS) HN 10 rfl (by kernel_rfl) (by kernel_rfl) (by kernel_rfl) (by decide) rfl rfl (by decide) (fun w' => x_bin h.k rfl rfl rfl (ib_xor (u8_xor_ x64 x80))) (fun a h => ?_)
          obtain ⟨hi87, hm88⟩ := ix_some h86
          refine d_takeP h (fun _ => HS) HN 11 rfl (by kernel_rfl) (by kernel_rfl) (by kernel_rfl) (by decide) rfl rfl (by decide) (fun w' => x_iaddrA h.k rfl Try.underlying23 sz_uint8 rfl rfl hi87 hm88 rfl) (fun a h => ?_)
          refine d_alone 12 rfl (by kernel_rfl) (fun K hK => ?_)
          refine q_setBox (T := ty8) (q := (x64 ^^^ x80)) h rfl rfl rfl sz_uint8 rfl rfl 2 rfl rfl hs56 rfl (by first | omega | (simp_all; done)) (fun a w cs89 hq90 h => ?_)
          have hl91 : (x54.set m85 (x64 ^^^ x80)).length = 16 := by rw [List.length_set]; exact hl57
          refine hK _ _ (fun hne _ => absurd rfl hne) ?_
          clear hK
          refine d_done (by kernel_rfl) (HE _ _ ?_) _
          refine e_blkN ?_
          refine e_thenN ?_
          refine c_r ?_ -- region 10
          refine s_move h rfl _ rfl rfl (by decide) rfl (fun a h => ?_)
          refine s_x h rfl rfl (by decide) (x_bin h.k rfl rfl rfl (ib_add rfl)) (fun a h => ?_)
          refine s_assign h rfl _ rfl rfl (by decide) rfl (fun a h => ?_)
          refine l_nil ?_
          exact e_thenN ⟨m63, Nat.lt_succ_self _, w64 (x52 + 1), (x54.set m85 (x64 ^^^ x80)), cs89, hl62, (w64_r _), hq90, hl91, h.has (by exact ⟨rfl, rfl, rfl, rfl, rfl, rfl, rfl, trivial⟩)⟩
        · rw [if_neg (of_decide_eq_false hb)] at hl62
          refine wp_exit ?_
          refine e_thenX ?_
          refine e_thenX ?_
          refine e_blkX ?_
          refine e_thenN ?_
          exact ⟨x54, k55, (Option.some.inj hl62), hs56, hl57, h.has (by exact ⟨rfl, rfl, rfl, rfl, rfl, rfl, trivial⟩)⟩
      · rintro a w ⟨x58, k59, rfl, hs60, hl61, h⟩
        refine e_thenN ?_
        refine c_rs ?_ -- region 12
        refine s_move h rfl _ rfl rfl (by decide) rfl (fun a h => ?_)
        refine s_x h rfl rfl (by decide) (x_ldR h.k rfl ag_A16_uint8 rfl k59 ((hs60).len.trans (by rw [hl61]; rfl)) (h.m.range0 (i := 2) rfl)) (fun a h => ?_)
        obtain ⟨x92, h93, hl46⟩ := bsome hl46
        have hX := chatelaineref04_Key_Encrypt_ok Fu (S0 := snapAll _) g17 x11 (hp18.mono (h.m.leAll (i := 3) rfl)) k59 x58 ((tyA 16 ty8).mono (h.m.leAll (i := 3) rfl) (show (tyA 16 ty8).rep S14 k59 x58 from ⟨hs60, hl61⟩)) _ h93 _ h.startAll
        refine q_callX hX h rfl rfl rfl (by decide) Try.func17 rfl rfl rfl (fun a w v L1 S1 hR hb1 h => ?_)
        obtain ⟨k95, rfl, rfl, hv96, _⟩ := hR
        obtain ⟨hs97, hl98⟩ := hv96
        have hq99 := hs97.fl (S' := S14) fl_8
        refine s_stW h rfl rfl rfl ag_A16_uint8 rfl (es := k95) rfl ((hq99).len.trans (by rw [hl98]; rfl)) (hq99).one 2 rfl ((hs60).len.trans (by rw [hl61]; rfl)) (fun a w h => ?_)
        refine l_end ?_
        refine wp_seq ?_
        refine c_rs ?_ -- region 13
        refine s_assign h rfl _ rfl rfl (by decide) rfl (fun a h => ?_)
        refine l_end ?_
        obtain ⟨o100, hl101, hl46⟩ := bsome hl46
        refine c_fin (fun a w => ∃ (x109 : List UInt8), ∃ (A110 : Option Addr), ∃ (c111 : Nat), ∃ (cs112 : List Value), x109 = o100 ∧ reps ty8 S14 cs112 x109 ∧ St 65 w0 (ownL ([] ++ [.sn S0])) [(2, .slice Aa2 a2.length ca2), (7, .slice A110 x109.length c111), (8, .pointer (some ⟨g17, 0, none⟩)), (9, .pointer (some ⟨g27, 0, none⟩)), (10, .int .i64 x35)] [.row (.slice A110 x109.length c111) 5 1 x109.length cs112, .box g27 23 k38, .sn S14] a w) ?_ ?_
        · refine wp_block ?_
          refine c_loop (fun m115 a w => ∃ (x102 : Int), ∃ (x104 : List UInt8), ∃ (A105 : Option Addr), ∃ (c106 : Nat), ∃ (cs107 : List Value), chatelaineref10_Encrypt_l2 Fu x37 x92 m115 x102 x104 = some o100 ∧ r64 x102 ∧ reps ty8 S14 cs107 x104 ∧ St 65 w0 (ownL ([] ++ [.sn S0])) [(2, .slice Aa2 a2.length ca2), (7, .slice A105 x104.length c106), (8, .pointer (some ⟨g17, 0, none⟩)), (9, .pointer (some ⟨g27, 0, none⟩)), (10, .int .i64 x35), (11, .pointer (some ⟨g49, 0, none⟩)), (13, .int .i64 x102)] [.row (.slice A105 x104.length c106) 5 1 x104.length cs107, .box g27 23 k38, .box g49 23 k95, .sn S14] a w) Fu ⟨0, x30, A31, c32, cs33, hl101, (show r64 0 from ⟨by decide, by decide⟩), hq34, h.has (by exact ⟨rfl, rfl, rfl, rfl, rfl, rfl, rfl, trivial⟩)⟩ (fun m115 a w hI => ?_)
          obtain ⟨x102, x104, A105, c106, cs107, hl114, hr103, hq108, h⟩ := hI
          obtain _ | m115 := m115
          · rw [chatelaineref10_Encrypt_l2] at hl114; cases hl114
          rw [chatelaineref10_Encrypt_l2] at hl114
          refine wp_seq ?_
          refine c_rs ?_ -- region 14
          refine s_move h rfl _ rfl rfl (by decide) rfl (fun a h => ?_)
          refine s_x h rfl rfl (by decide) (x_bin h.k rfl rfl rfl ib_lss) (fun a h => ?_)
          refine l_end ?_
          refine c_cond h rfl (fun hb => ?_) (fun hb => ?_)
          · rw [if_pos (of_decide_eq_true hb)] at hl114
            refine wp_skip ?_
            refine e_thenN ?_
            refine wp_seq ?_
            refine wp_block ?_
            -- region 16 draws
            obtain ⟨m116, h117, hl114⟩ := bsome hl114
            obtain ⟨x120, h121, hl114⟩ := bsome hl114
            obtain ⟨m125, h126, hl114⟩ := bsome hl114
            obtain ⟨x129, h130, hl114⟩ := bsome hl114
            obtain ⟨x136, h137, hl114⟩ := bsome hl114
            refine d_start h (Mem _ _ _) 9 11 rfl (by kernel_rfl) (fun _ _ _ _ _ h => h) (fun _ h => h) (fun Q a w HE HN h HS => ?_)
            refine d_takeP h (fun _ => HS) HN 0 rfl (by kernel_rfl) (by kernel_rfl) (by kernel_rfl) (by decide) rfl rfl (by decide) (fun w' => x_move h.k _ rfl rfl) (fun a h => ?_)
            refine d_takeP h (fun _ => HS) HN 1 rfl (by kernel_rfl) (by kernel_rfl) (by kernel_rfl) (by decide) rfl rfl (by decide) (fun w' => x_move h.k _ rfl rfl) (fun a h => ?_)
            obtain ⟨hi118, hm119⟩ := ix_some h117
            refine d_takeP h (fun _ => HS) HN 2 rfl (by kernel_rfl) (by kernel_rfl) (by kernel_rfl) (by decide) rfl rfl (by decide) (fun w' => x_iaddrA h.k rfl Try.underlying23 sz_uint8 rfl rfl hi118 hm119 rfl) (fun a h => ?_)
            obtain ⟨u122, hv123, hu124⟩ := (hq99).cell rfl h121
            cases hu124
            refine d_takeD h HS HN 3 [7, 8, 9, 10] rfl (by kernel_rfl) (by kernel_rfl) (by kernel_rfl) (by kernel_rfl) (by kernel_rfl) (by kernel_rfl) rfl rfl (by decide) (fun w' hw => x_ld h.k rfl Try.underlying5 rfl rfl ((hw.cell (i := 2) rfl _).trans (by rw [Nat.zero_add, Nat.mul_one]; exact hv123))) (fun a h => ?_)
            refine d_takeP h (fun _ => HS) HN 4 rfl (by kernel_rfl) (by kernel_rfl) (by kernel_rfl) (by decide) rfl rfl (by decide) (fun w' => x_move h.k _ rfl rfl) (fun a h => ?_)
            obtain ⟨hi127, hm128⟩ := ix_some h126
            refine d_takeP h (fun _ => HS) HN 5 rfl (by kernel_rfl) (by kernel_rfl) (by kernel_rfl) (by decide) rfl rfl (by decide) (fun w' => x_iaddrA h.k rfl Try.underlying23 sz_uint8 rfl rfl hi127 hm128 rfl) (fun a h => ?_)
            obtain ⟨u131, hv132, hu133⟩ := (hs39).cell rfl h130
            cases hu133
            refine d_takeD h HS HN 6 [7, 8, 9, 10] rfl (by kernel_rfl) (by kernel_rfl) (by kernel_rfl) (by kernel_rfl) (by kernel_rfl) (by kernel_rfl) rfl rfl (by decide) (fun w' hw => x_ld h.k rfl Try.underlying5 rfl rfl ((hw.cell (i := 1) rfl _).trans (by rw [Nat.zero_add, Nat.mul_one]; exact hv132))) (fun a h => ?_)
            refine d_takeP h (fun _ => HS) HN 7 rfl (by kernel_rfl) (by kernel_rfl) (by kernel_rfl) (by decide) rfl rfl (by decide) (fun w' => x_bin h.k rfl rfl rfl (ib_xor (u8_xor_ x120 x129))) (fun a h => ?_)
            refine d_alone 8 rfl (by kernel_rfl) (fun K hK => ?_)
            refine q_bslice (T := ty8) (S := S14) h rfl rfl rfl (by decide) Try.underlying22 zi_uint8 (by decide) (by decide) (by decide) (by decide) [.int .u8 ((x120 ^^^ x129).toNat : Int)] rfl rfl (C := [[.int .u8 ((x120 ^^^ x129).toNat : Int)]]) rfl (xs := [(x120 ^^^ x129)]) ⟨[.int .u8 ((x120 ^^^ x129).toNat : Int)], _, rfl, rfl, rfl⟩ (by intro c hc; simp only [List.mem_cons, List.not_mem_nil, or_false] at hc; subst hc; rfl) (fun a w A134 h => ?_)
            have hb135 : reps ty8 S14 ([[.int .u8 ((x120 ^^^ x129).toNat : Int)]]).flatten [(x120 ^^^ x129)] := ⟨[.int .u8 ((x120 ^^^ x129).toNat : Int)], _, rfl, rfl, rfl⟩
            replace HS := h.m.pick [1, 2, 3, 4] [.row (.slice A105 x104.length c106) 5 1 x104.length cs107, .box g27 23 k38, .box g49 23 k95, .sn S14] (by decide) rfl
            refine hK _ _ (fun _ _ => HS) ?_
            clear hK
            refine d_alone 9 rfl (by kernel_rfl) (fun K hK => ?_)
            refine q_append (T := ty8) (S := S14) h rfl rfl rfl (by decide) Try.underlying22 zb_uint8 rfl (by decide) rfl 1 rfl hq108 rfl hb135 (h.m.rdRowA (i := 0) rfl) h137 (fun a w A138 c139 cs140 hq141 h => ?_)
            refine hK _ _ (fun hne _ => absurd rfl hne) ?_
            clear hK
            refine d_takeP h (fun hl => absurd hl (by decide)) HN 10 rfl (by kernel_rfl) (by kernel_rfl) (by kernel_rfl) (by decide) rfl rfl (by decide) (fun w' => x_assign h.k _ rfl rfl) (fun a h => ?_)
            refine d_done (by kernel_rfl) (HE _ _ ?_) _
            refine e_blkN ?_
            refine e_thenN ?_
            refine c_r ?_ -- region 15
            refine s_move h rfl _ rfl rfl (by decide) rfl (fun a h => ?_)
            refine s_x h rfl rfl (by decide) (x_bin h.k rfl rfl rfl (ib_add rfl)) (fun a h => ?_)
            refine s_assign h rfl _ rfl rfl (by decide) rfl (fun a h => ?_)
            refine l_nil ?_
            have h := h.pick [1, 2, 3, 4] (by decide) rfl
            exact e_thenN ⟨m115, Nat.lt_succ_self _, w64 (x102 + 1), x136, A138, c139, cs140, hl114, (w64_r _), hq141, h.has (by exact ⟨rfl, rfl, rfl, rfl, rfl, rfl, rfl, trivial⟩)⟩
          · rw [if_neg (of_decide_eq_false hb)] at hl114
            refine wp_exit ?_
            refine e_thenX ?_
            refine e_thenX ?_
            refine e_blkX ?_
            refine e_thenN ?_
            have h := h.pick [0, 1, 3] (by decide) rfl
            exact ⟨x104, A105, c106, cs107, (Option.some.inj hl114), hq108, h.has (by exact ⟨rfl, rfl, rfl, rfl, rfl, trivial⟩)⟩
        · rintro a w ⟨x109, A110, c111, cs112, rfl, hq113, h⟩
          refine e_thenN ?_
          refine c_r ?_ -- region 17
          refine s_x h rfl rfl (by decide) (x_ldR h.k rfl ag_A16_uint8 rfl k38 ((hs39).len.trans (by rw [hl40]; rfl)) (h.m.range0 (i := 1) rfl)) (fun a h => ?_)
          obtain ⟨x142, h143, hl46⟩ := bsome hl46
          have hX := chatelaineref02_Double_ok Fu (S0 := snapAll _) k38 x37 ((tyA 16 ty8).mono (h.m.leAll (i := 2) rfl) (show (tyA 16 ty8).rep S14 k38 x37 from ⟨hs39, hl40⟩)) _ h143 _ h.startAll
          refine q_callX hX h rfl rfl rfl (by decide) Try.func68 rfl rfl rfl (fun a w v L1 S1 hR hb1 h => ?_)
          obtain ⟨k145, rfl, rfl, hv146, _⟩ := hR
          obtain ⟨hs147, hl148⟩ := hv146
          have hq149 := hs147.fl (S' := S14) fl_8
          refine s_stW h rfl rfl rfl ag_A16_uint8 rfl (es := k145) rfl ((hq149).len.trans (by rw [hl148]; rfl)) (hq149).one 1 rfl ((hs39).len.trans (by rw [hl40]; rfl)) (fun a w h => ?_)
          refine l_nil ?_
          refine e_blkN ?_
          refine e_thenN ?_
          refine c_r ?_ -- region 6
          refine s_move h rfl _ rfl rfl (by decide) rfl (fun a h => ?_)
          refine s_x h rfl rfl (by decide) (x_bin h.k rfl rfl rfl (ib_add rfl)) (fun a h => ?_)
          refine s_assign h rfl _ rfl rfl (by decide) rfl (fun a h => ?_)
          refine l_nil ?_
          exact e_thenN ⟨m47, Nat.lt_succ_self _, x109, A110, c111, cs112, w64 (x35 + 16), x142, k145, hl46, hq113, (w64_r _), hq149, hl148, h.has (by exact ⟨rfl, rfl, rfl, rfl, rfl, trivial⟩)⟩
    · rw [if_neg (of_decide_eq_false hb)] at hl46
      refine wp_exit ?_
      refine e_thenX ?_
      refine e_thenX ?_
      refine e_blkX ?_
      refine e_thenN ?_
      have h := h.pick [0, 2] (by decide) rfl
      exact ⟨x30, A31, c32, cs33, (Option.some.inj hl46), hq34, h.has (by exact ⟨rfl, trivial⟩)⟩
  · rintro a w ⟨x41, A42, c43, cs44, rfl, hq45, h⟩
    refine e_thenN ?_
    refine c_rs ?_ -- region 18
    refine s_move h rfl _ rfl rfl (by decide) rfl (fun a h => ?_)
    refine s_assign h rfl _ rfl rfl (by decide) rfl (fun a h => ?_)
    refine l_end ?_
    refine wp_ret ?_
    rw [← Option.some.inj hf]
    exact r_ret1 h rfl (rv_tmp h rfl) ⟨_, [.row (.slice A42 x41.length c43) 5 1 x41.length cs44], _, rfl, ⟨A42, c43, cs44, rfl, rfl, hq45, trivial⟩, rfl, up15, h.m⟩
end Go.Proofs.Ytoimllmmlbehgaa
