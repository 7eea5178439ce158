/- Xt: Go functions as plain functions, and that they are so (written by xt.py). -/
import Derived.Test.YtoimllmmlbehgaaAe
set_option linter.unusedVariables false
set_option linter.unusedSimpArgs false
namespace Go.Proofs.Ytoimllmmlbehgaa
open Go.RowKit
def gf_Double_l0 (Fu : Nat) (a0 : List UInt8) : Nat → UInt8 → Int → (List UInt8) → Option (UInt8 × (List UInt8))
  | 0, _, _, _ => none
  | k + 1, x7, x8, x10 => if x8 < 16 then ((idx a0 x8).bind fun x22 => (ix 16 x8).bind fun m30 => gf_Double_l0 Fu a0 k (u8_shr x22 7) (w64 (x8 + 1)) (x10.set m30 ((u8_shl x22 1) ||| x7))) else (some (x7, x10))
def gf_Double (Fu : Nat) (a0 : List UInt8) : Option ((List UInt8)) :=
  (gf_Double_l0 Fu a0 Fu (0 : UInt8) 0 a0).bind fun (x14, x15) => (ix 16 0).bind fun m37 => (x15[m37]?).bind fun x41 => (ix 16 0).bind fun m46 => some (x15.set m46 (x41 ^^^ ((135 : UInt8) &&& (-x14))))
set_option maxRecDepth 100000 in
set_option maxHeartbeats 2000000 in
theorem gf_Double_ok (Fu : Nat) {S0 : Snap} (csa0 : List Value) (a0 : List UInt8) (hsa0 : (tyA 16 ty8).rep S0 csa0 a0) (r : (List UInt8)) (hf : gf_Double Fu a0 = some r) (w0 : World) (hm : Mem w0 (ownL ([] ++ [.sn S0])) ([] ++ [.sn S0]) w0) :
    Calls Try.prog 91 #[.agg csa0.toArray] w0 (Ret w0 S0 [] (fun v L1 S1 => ∃ (k54 : List Value), v = .agg k54.toArray ∧ L1 = [] ∧ (tyA 16 ty8).rep S1 k54 r ∧ True)) := by
  unfold gf_Double at hf
  obtain ⟨hs1, hl2⟩ := hsa0
  refine c_enterM Try.func91 rfl 28 rfl (by simp) _ hm _ rfl (fun a h => ?_)
  refine c_rs ?_ -- region 0
  refine s_box h rfl rfl rfl (by decide) rfl (cs := csa0) (by rfl) (fun a w g3 h => ?_)
  refine s_alloc h rfl rfl rfl (by decide) zi_A16_uint8 rfl (fun a w g4 h => ?_)
  have h := h.parts (L' := [.box g4 23 (List.replicate 16 (.int .u8 0)), .box g3 23 csa0, .sn S0]) rfl
  refine l_end ?_
  refine c_rs ?_ -- region 1
  refine s_assign h rfl _ rfl rfl (by decide) rfl (fun a h => ?_)
  refine l_end ?_
  refine wp_seq ?_
  refine c_rs ?_ -- region 2
  refine s_x h rfl rfl (by decide) (x_ldR h.k rfl ag_A16_uint8 rfl csa0 ((hs1).len.trans (by rw [hl2]; rfl)) (h.m.range0 (i := 1) rfl)) (fun a h => ?_)
  refine s_move h rfl _ rfl rfl (by decide) rfl (fun a h => ?_)
  refine l_end ?_
  obtain ⟨o5, hl6, hf⟩ := bsome hf
  refine c_fin (fun a w => ∃ (x14 : UInt8), ∃ (x15 : List UInt8), ∃ (k16 : List Value), (x14, x15) = o5 ∧ reps ty8 S0 k16 x15 ∧ x15.length = 16 ∧ St 28 w0 (ownL ([] ++ [.sn S0])) [(1, .pointer (some ⟨g3, 0, none⟩)), (2, .pointer (some ⟨g4, 0, none⟩)), (3, .int .u8 (x14.toNat : Int))] [.box g3 23 k16, .box g4 23 (List.replicate 16 (.int .u8 0)), .sn S0] a w) ?_ ?_
  · refine wp_block ?_
    have h := h.pick [1, 0, 2] (by decide) rfl
    refine c_loop (fun m20 a w => ∃ (x7 : UInt8), ∃ (x8 : Int), ∃ (x10 : List UInt8), ∃ (k11 : List Value), gf_Double_l0 Fu a0 m20 x7 x8 x10 = some o5 ∧ r64 x8 ∧ reps ty8 S0 k11 x10 ∧ x10.length = 16 ∧ St 28 w0 (ownL ([] ++ [.sn S0])) [(1, .pointer (some ⟨g3, 0, none⟩)), (2, .pointer (some ⟨g4, 0, none⟩)), (3, .int .u8 (x7.toNat : Int)), (6, .agg csa0.toArray), (7, .int .i64 x8)] [.box g3 23 k11, .box g4 23 (List.replicate 16 (.int .u8 0)), .sn S0] a w) Fu ⟨(0 : UInt8), 0, a0, csa0, hl6, (show r64 0 from ⟨by decide, by decide⟩), hs1, hl2, h.has (by exact ⟨rfl, rfl, rfl, rfl, rfl, trivial⟩)⟩ (fun m20 a w hI => ?_)
    obtain ⟨x7, x8, x10, k11, hl19, hr9, hs12, hl13, h⟩ := hI
    obtain _ | m20 := m20
    · rw [gf_Double_l0] at hl19; cases hl19
    rw [gf_Double_l0] at hl19
    refine c_rs ?_ -- region 3
    refine s_x h rfl rfl (by decide) (x_bin h.k rfl rfl rfl ib_lss) (fun a h => ?_)
    refine l_end ?_
    refine c_cs h rfl (fun hb => ?_) (fun hb => ?_)
    · rw [if_pos (of_decide_eq_true hb)] at hl19
      refine wp_skip ?_
      refine e_thenN ?_
      refine wp_seq ?_
      refine wp_block ?_
      refine c_rs ?_ -- region 4
      refine s_move h rfl _ rfl rfl (by decide) rfl (fun a h => ?_)
      obtain ⟨x22, h23, hl19⟩ := bsome hl19
      obtain ⟨m21, hi24, hm25, hx26⟩ := idx_some h23
      obtain ⟨u27, hv28, hu29⟩ := (hs1).cell rfl hx26
      cases hu29
      refine s_x h rfl rfl (by decide) (x_index h.k rfl Try.underlying23 Try.underlying5 rfl sz_uint8 rfl rfl hi24 (Nat.lt_of_lt_of_eq hm25 hl2) (by simpa using hv28)) (fun a h => ?_)
      refine s_assign h rfl _ rfl rfl (by decide) rfl (fun a h => ?_)
      refine s_assign h rfl _ rfl rfl (by decide) rfl (fun a h => ?_)
      refine l_end ?_
      refine c_rs ?_ -- region 5
      refine s_move h rfl _ rfl rfl (by decide) rfl (fun a h => ?_)
      refine s_move h rfl _ rfl rfl (by decide) rfl (fun a h => ?_)
      refine s_x h rfl rfl (by decide) (x_bin h.k rfl rfl rfl (ib_shl_u8 x22 1)) (fun a h => ?_)
      refine s_move h rfl _ rfl rfl (by decide) rfl (fun a h => ?_)
      refine s_x h rfl rfl (by decide) (x_bin h.k rfl rfl rfl (ib_or (u8_or_ (u8_shl x22 1) x7))) (fun a h => ?_)
      obtain ⟨m30, h31, hl19⟩ := bsome hl19
      obtain ⟨hi32, hm33⟩ := ix_some h31
      refine s_x h rfl rfl (by decide) (x_iaddrA h.k rfl Try.underlying23 sz_uint8 rfl rfl hi32 hm33 rfl) (fun a h => ?_)
      refine q_setBox (T := ty8) (q := ((u8_shl x22 1) ||| x7)) h rfl rfl rfl sz_uint8 rfl rfl 0 rfl rfl hs12 rfl (by first | omega | (simp_all; done)) (fun a w cs34 hq35 h => ?_)
      have hl36 : (x10.set m30 ((u8_shl x22 1) ||| x7)).length = 16 := by rw [List.length_set]; exact hl13
      refine l_end ?_
      refine c_r ?_ -- region 6
      refine s_move h rfl _ rfl rfl (by decide) rfl (fun a h => ?_)
      refine s_x h rfl rfl (by decide) (x_bin h.k rfl rfl rfl (ib_shr_u8 x22 7)) (fun a h => ?_)
      refine s_assign h rfl _ rfl rfl (by decide) rfl (fun a h => ?_)
      refine l_nil ?_
      refine e_blkN ?_
      refine e_thenN ?_
      refine c_r ?_ -- region 7
      refine s_x h rfl rfl (by decide) (x_bin h.k rfl rfl rfl (ib_add rfl)) (fun a h => ?_)
      refine s_move h rfl _ rfl rfl (by decide) rfl (fun a h => ?_)
      refine l_nil ?_
      exact e_thenN ⟨m20, Nat.lt_succ_self _, u8_shr x22 7, w64 (x8 + 1), (x10.set m30 ((u8_shl x22 1) ||| x7)), cs34, hl19, (w64_r _), hq35, hl36, h.has (by exact ⟨rfl, rfl, rfl, rfl, rfl, trivial⟩)⟩
    · rw [if_neg (of_decide_eq_false hb)] at hl19
      refine wp_exit ?_
      refine e_thenX ?_
      refine e_thenX ?_
      refine e_blkX ?_
      refine e_thenN ?_
      exact ⟨x7, x10, k11, (Option.some.inj hl19), hs12, hl13, h.has (by exact ⟨rfl, rfl, rfl, trivial⟩)⟩
  · rintro a w ⟨x14, x15, k16, rfl, hs17, hl18, h⟩
    try dsimp only at hf
    refine e_thenN ?_
    refine c_rs ?_ -- region 8
    obtain ⟨m37, h38, hf⟩ := bsome hf
    obtain ⟨hi39, hm40⟩ := ix_some h38
    refine s_x h rfl rfl (by decide) (x_iaddrA h.k rfl Try.underlying23 sz_uint8 rfl rfl hi39 hm40 rfl) (fun a h => ?_)
    obtain ⟨x41, h42, hf⟩ := bsome hf
    obtain ⟨u43, hv44, hu45⟩ := (hs17).cell rfl h42
    cases hu45
    refine s_x h rfl rfl (by decide) (x_ld h.k rfl Try.underlying5 rfl rfl ((h.m.cell (i := 0) rfl _).trans (by rw [Nat.zero_add, Nat.mul_one]; exact hv44))) (fun a h => ?_)
    refine s_move h rfl _ rfl rfl (by decide) rfl (fun a h => ?_)
    refine s_x h rfl rfl (by decide) (x_neg h.k rfl rfl (u8_neg _)) (fun a h => ?_)
    refine s_x h rfl rfl (by decide) (x_bin h.k rfl rfl rfl (ib_and (u8_and_ (135 : UInt8) (-x14)))) (fun a h => ?_)
    refine s_x h rfl rfl (by decide) (x_bin h.k rfl rfl rfl (ib_xor (u8_xor_ x41 ((135 : UInt8) &&& (-x14))))) (fun a h => ?_)
    obtain ⟨m46, h47, hf⟩ := bsome hf
    obtain ⟨hi48, hm49⟩ := ix_some h47
    refine s_x h rfl rfl (by decide) (x_iaddrA h.k rfl Try.underlying23 sz_uint8 rfl rfl hi48 hm49 rfl) (fun a h => ?_)
    refine q_setBox (T := ty8) (q := (x41 ^^^ ((135 : UInt8) &&& (-x14)))) h rfl rfl rfl sz_uint8 rfl rfl 0 rfl rfl hs17 rfl (by first | omega | (simp_all; done)) (fun a w cs50 hq51 h => ?_)
    have hl52 : (x15.set m46 (x41 ^^^ ((135 : UInt8) &&& (-x14)))).length = 16 := by rw [List.length_set]; exact hl18
    refine l_end ?_
    refine c_rs ?_ -- region 9
    refine s_x h rfl rfl (by decide) (x_ldR h.k rfl ag_A16_uint8 rfl cs50 ((hq51).len.trans (by rw [hl52]; rfl)) (h.m.range0 (i := 0) rfl)) (fun a h => ?_)
    refine s_stW h rfl rfl rfl ag_A16_uint8 rfl (es := cs50) rfl ((hq51).len.trans (by rw [hl52]; rfl)) (hq51).one 1 rfl (by first | rfl | simp_all) (fun a w h => ?_)
    refine l_end ?_
    refine wp_ret ?_
    obtain rfl := Option.some.inj hf
    exact r_ret1 h rfl (rv_cellA h rfl 1 rfl ag_A16_uint8 ((hq51).len.trans (by rw [hl52]; rfl))) ⟨_, [], _, rfl, ⟨cs50, rfl, rfl, ⟨hq51, hl52⟩, trivial⟩, rfl, (Up.refl _ _ _), (h.m.pick [2] _ (by decide) rfl)⟩
def gf_Doubled_l0 (Fu : Nat) (a1 : Int) : Nat → Int → (List UInt8) → Option ((List UInt8))
  | 0, _, _ => none
  | k + 1, x9, x11 => if x9 < a1 then ((gf_Double Fu x11).bind fun x21 => gf_Doubled_l0 Fu a1 k (w64 (x9 + 1)) x21) else (some x11)
def gf_Doubled (Fu : Nat) (a0 : List UInt8) (a1 : Int) : Option ((List UInt8)) :=
  if ((decide (a1 < 0)) || (decide (65536 < a1))) = true then (some a0) else ((gf_Doubled_l0 Fu a1 Fu 0 a0).bind fun x15 => some x15)
set_option maxRecDepth 100000 in
set_option maxHeartbeats 2000000 in
theorem gf_Doubled_ok (Fu : Nat) {S0 : Snap} (csa0 : List Value) (a0 : List UInt8) (hsa0 : (tyA 16 ty8).rep S0 csa0 a0) (a1 : Int) (hra1 : r64 a1) (r : (List UInt8)) (hf : gf_Doubled Fu a0 a1 = some r) (w0 : World) (hm : Mem w0 (ownL ([] ++ [.sn S0])) ([] ++ [.sn S0]) w0) :
    Calls Try.prog 66 #[.agg csa0.toArray, .int .i64 a1] w0 (Ret w0 S0 [] (fun v L1 S1 => ∃ (k30 : List Value), v = .agg k30.toArray ∧ L1 = [] ∧ (tyA 16 ty8).rep S1 k30 r ∧ True)) := by
  unfold gf_Doubled at hf
  obtain ⟨hs1, hl2⟩ := hsa0
  refine c_enterM Try.func66 rfl 19 rfl (by simp) _ hm _ rfl (fun a h => ?_)
  refine c_rs ?_ -- region 0
  refine s_box h rfl rfl rfl (by decide) rfl (cs := csa0) (by rfl) (fun a w g3 h => ?_)
  refine s_alloc h rfl rfl rfl (by decide) zi_A16_uint8 rfl (fun a w g4 h => ?_)
  have h := h.parts (L' := [.box g4 23 (List.replicate 16 (.int .u8 0)), .box g3 23 csa0, .sn S0]) rfl
  refine l_end ?_
  refine wp_seq ?_
  refine c_rs ?_ -- region 1
  refine s_move h rfl _ rfl rfl (by decide) rfl (fun a h => ?_)
  refine s_x h rfl rfl (by decide) (x_bin h.k rfl rfl rfl ib_lss) (fun a h => ?_)
  refine s_move h rfl _ rfl rfl (by decide) rfl (fun a h => ?_)
  refine q_grp h 3 (t := 7) 10 ((decide (a1 < 0)) || (decide (65536 < a1))) rfl (fun hB2 => ?_) (fun hB2 => ?_) (fun a w h => ?_)
  · refine g_no h rfl rfl rfl rfl hB2 rfl (by decide) (fun a h => ?_)
    refine g_no h rfl rfl rfl rfl hB2 rfl (by decide) (fun a h => ?_)
    refine s_x h rfl rfl (by decide) (x_pick (u' := undef) h.k rfl rfl (fun _ => rfl) (fun hh => absurd (hB2.symm.trans hh) (by decide))) (fun a h => ?_)
    exact (h.mid 2 rfl).val (by first | rfl | (rw [hB2]; first | rfl | simp))
  · refine g_yes h rfl rfl rfl rfl hB2 ?_
    refine s_move h rfl _ rfl rfl (by decide) rfl (fun a h => ?_)
    refine g_yes h rfl rfl rfl rfl hB2 ?_
    refine s_x h rfl rfl (by decide) (x_bin h.k rfl rfl rfl ib_gtr) (fun a h => ?_)
    refine s_x h rfl rfl (by decide) (x_pick (u' := undef) h.k rfl rfl (fun hh => absurd (hB2.symm.trans hh) (by decide)) (fun _ => rfl)) (fun a h => ?_)
    exact (h.mid 2 rfl).val (by first | rfl | (rw [hB2]; first | rfl | simp))
  refine l_end ?_
  refine c_cond h rfl (fun hb => ?_) (fun hb => ?_)
  · rw [if_pos hb] at hf
    refine c_rs ?_ -- region 2
    refine s_x h rfl rfl (by decide) (x_ldR h.k rfl ag_A16_uint8 rfl csa0 ((hs1).len.trans (by rw [hl2]; rfl)) (h.m.range0 (i := 1) rfl)) (fun a h => ?_)
    refine s_stW h rfl rfl rfl ag_A16_uint8 rfl (es := csa0) rfl ((hs1).len.trans (by rw [hl2]; rfl)) (hs1).one 0 rfl (by first | rfl | simp_all) (fun a w h => ?_)
    refine l_end ?_
    refine wp_ret ?_
    refine e_thenR ?_
    rw [← Option.some.inj hf]
    exact r_ret1 h rfl (rv_cellA h rfl 0 rfl ag_A16_uint8 ((hs1).len.trans (by rw [hl2]; rfl))) ⟨_, [], _, rfl, ⟨csa0, rfl, rfl, ⟨hs1, hl2⟩, trivial⟩, rfl, (Up.refl _ _ _), (h.m.pick [2] _ (by decide) rfl)⟩
  · rw [if_neg (by rw [hb]; decide)] at hf
    refine wp_skip ?_
    refine e_thenN ?_
    refine wp_seq ?_
    refine c_rs ?_ -- region 3
    refine s_move h rfl _ rfl rfl (by decide) rfl (fun a h => ?_)
    refine s_move h rfl _ rfl rfl (by decide) rfl (fun a h => ?_)
    refine l_end ?_
    obtain ⟨o7, hl8, hf⟩ := bsome hf
    refine c_fin (fun a w => ∃ (x15 : List UInt8), ∃ (k16 : List Value), x15 = o7 ∧ reps ty8 S0 k16 x15 ∧ x15.length = 16 ∧ St 19 w0 (ownL ([] ++ [.sn S0])) [(2, .pointer (some ⟨g3, 0, none⟩)), (4, .pointer (some ⟨g4, 0, none⟩))] [.box g3 23 k16, .box g4 23 (List.replicate 16 (.int .u8 0)), .sn S0] a w) ?_ ?_
    · refine wp_block ?_
      have h := h.pick [1, 0, 2] (by decide) rfl
      refine c_loop (fun m20 a w => ∃ (x9 : Int), ∃ (x11 : List UInt8), ∃ (k12 : List Value), gf_Doubled_l0 Fu a1 m20 x9 x11 = some o7 ∧ r64 x9 ∧ reps ty8 S0 k12 x11 ∧ x11.length = 16 ∧ St 19 w0 (ownL ([] ++ [.sn S0])) [(2, .pointer (some ⟨g3, 0, none⟩)), (4, .pointer (some ⟨g4, 0, none⟩)), (12, .int .i64 a1), (13, .int .i64 x9)] [.box g3 23 k12, .box g4 23 (List.replicate 16 (.int .u8 0)), .sn S0] a w) Fu ⟨0, a0, csa0, hl8, (show r64 0 from ⟨by decide, by decide⟩), hs1, hl2, h.has (by exact ⟨rfl, rfl, rfl, rfl, trivial⟩)⟩ (fun m20 a w hI => ?_)
      obtain ⟨x9, x11, k12, hl19, hr10, hs13, hl14, h⟩ := hI
      obtain _ | m20 := m20
      · rw [gf_Doubled_l0] at hl19; cases hl19
      rw [gf_Doubled_l0] at hl19
      refine c_rs ?_ -- region 4
      refine s_x h rfl rfl (by decide) (x_bin h.k rfl rfl rfl ib_lss) (fun a h => ?_)
      refine l_end ?_
      refine c_cs h rfl (fun hb => ?_) (fun hb => ?_)
      · rw [if_pos (of_decide_eq_true hb)] at hl19
        refine wp_skip ?_
        refine e_thenN ?_
        refine wp_seq ?_
        refine wp_block ?_
        refine c_r ?_ -- region 5
        refine s_x h rfl rfl (by decide) (x_ldR h.k rfl ag_A16_uint8 rfl k12 ((hs13).len.trans (by rw [hl14]; rfl)) (h.m.range0 (i := 0) rfl)) (fun a h => ?_)
        obtain ⟨x21, h22, hl19⟩ := bsome hl19
        have hX := gf_Double_ok Fu (S0 := snapAll _) k12 x11 ((tyA 16 ty8).mono (h.m.leAll (i := 2) rfl) (show (tyA 16 ty8).rep S0 k12 x11 from ⟨hs13, hl14⟩)) _ h22 _ h.startAll
        refine q_callX hX h rfl rfl rfl (by decide) Try.func91 rfl rfl rfl (fun a w v L1 S1 hR hb1 h => ?_)
        obtain ⟨k24, rfl, rfl, hv25, _⟩ := hR
        obtain ⟨hs26, hl27⟩ := hv25
        have hq28 := hs26.fl (S' := S0) fl_8
        refine s_stW h rfl rfl rfl ag_A16_uint8 rfl (es := k24) rfl ((hq28).len.trans (by rw [hl27]; rfl)) (hq28).one 0 rfl ((hs13).len.trans (by rw [hl14]; rfl)) (fun a w h => ?_)
        refine l_nil ?_
        refine e_blkN ?_
        refine e_thenN ?_
        refine c_r ?_ -- region 6
        refine s_x h rfl rfl (by decide) (x_bin h.k rfl rfl rfl (ib_add rfl)) (fun a h => ?_)
        refine s_move h rfl _ rfl rfl (by decide) rfl (fun a h => ?_)
        refine l_nil ?_
        exact e_thenN ⟨m20, Nat.lt_succ_self _, w64 (x9 + 1), x21, k24, hl19, (w64_r _), hq28, hl27, h.has (by exact ⟨rfl, rfl, rfl, rfl, trivial⟩)⟩
      · rw [if_neg (of_decide_eq_false hb)] at hl19
        refine wp_exit ?_
        refine e_thenX ?_
        refine e_thenX ?_
        refine e_blkX ?_
        refine e_thenN ?_
        exact ⟨x11, k12, (Option.some.inj hl19), hs13, hl14, h.has (by exact ⟨rfl, rfl, trivial⟩)⟩
    · rintro a w ⟨x15, k16, rfl, hs17, hl18, h⟩
      refine e_thenN ?_
      refine c_rs ?_ -- region 7
      refine s_x h rfl rfl (by decide) (x_ldR h.k rfl ag_A16_uint8 rfl k16 ((hs17).len.trans (by rw [hl18]; rfl)) (h.m.range0 (i := 0) rfl)) (fun a h => ?_)
      refine s_stW h rfl rfl rfl ag_A16_uint8 rfl (es := k16) rfl ((hs17).len.trans (by rw [hl18]; rfl)) (hs17).one 1 rfl (by first | rfl | simp_all) (fun a w h => ?_)
      refine l_end ?_
      refine wp_ret ?_
      rw [← Option.some.inj hf]
      exact r_ret1 h rfl (rv_cellA h rfl 1 rfl ag_A16_uint8 ((hs17).len.trans (by rw [hl18]; rfl))) ⟨_, [], _, rfl, ⟨k16, rfl, rfl, ⟨hs17, hl18⟩, trivial⟩, rfl, (Up.refl _ _ _), (h.m.pick [2] _ (by decide) rfl)⟩
def xts_Sector_is (Fu : Nat) (a0 : ((List UInt32) × (List UInt8) × (List UInt8)) × ((List UInt32) × (List UInt8) × (List UInt8))) : Option Bool :=
  some true
set_option maxRecDepth 100000 in
set_option maxHeartbeats 2000000 in
theorem xts_Sector_is_ok (Fu : Nat) {S0 : Snap} (ga0 : Nat) (a0 : ((List UInt32) × (List UInt8) × (List UInt8)) × ((List UInt32) × (List UInt8) × (List UInt8))) (hpa0 : ptS (tyP (tyPt (tyP (tyL ty32) (tyP (tyA 256 ty8) (tyA 256 ty8)))) (tyPt (tyP (tyL ty32) (tyP (tyA 256 ty8) (tyA 256 ty8))))) S0 ga0 a0) (r : Bool) (hf : xts_Sector_is Fu a0 = some r) (w0 : World) (hm : Mem w0 (ownL ([] ++ [.sn S0])) ([] ++ [.sn S0]) w0) :
    Calls Try.prog 63 #[.pointer (some ⟨ga0, 0, none⟩)] w0 (Ret w0 S0 [] (fun v L1 S1 => v = .bool r ∧ L1 = [] ∧ True)) := by
  unfold xts_Sector_is at hf
  refine c_enterM Try.func63 rfl 12 rfl (by simp) _ hm _ rfl (fun a h => ?_)
  refine c_rs ?_ -- region 0
  refine s_assign h rfl _ rfl rfl (by decide) rfl (fun a h => ?_)
  refine l_end ?_
  refine c_rs ?_ -- region 1
  refine s_move h rfl _ rfl rfl (by decide) rfl (fun a h => ?_)
  refine s_x h rfl rfl (by decide) (x_neq_pn h.k rfl Try.underlying54 rfl rfl) (fun a h => ?_)
  refine s_move h rfl _ rfl rfl (by decide) rfl (fun a h => ?_)
  refine q_grp h 6 (t := 5) 11 true rfl (fun hB2 => ?_) (fun hB2 => ?_) (fun a w h => ?_)
  · refine g_yes h rfl rfl rfl rfl hB2 ?_
    refine s_move h rfl _ rfl rfl (by decide) rfl (fun a h => ?_)
    refine g_yes h rfl rfl rfl rfl hB2 ?_
    obtain ⟨k3, hc4, ⟨k5, k6, rfl, ⟨g7, rfl, hp8⟩, ⟨g9, rfl, hp10⟩⟩⟩ := id hpa0
    refine s_x h rfl rfl (by decide) (x_nil h.k rfl rfl) (fun a h => ?_)
    refine g_yes h rfl rfl rfl rfl hB2 ?_
    refine s_x h rfl rfl (by decide) (x_faddr h.k rfl Try.underlying97 rfl sz_Paes_Cipher rfl) (fun a h => ?_)
    refine g_yes h rfl rfl rfl rfl hB2 ?_
    refine s_x h rfl rfl (by decide) (x_ld h.k rfl Try.underlying25 rfl rfl (hc4 _ (h.m.snOK (i := 0) rfl) 0 _ rfl)) (fun a h => ?_)
    refine g_yes h rfl rfl rfl rfl hB2 ?_
    refine s_x h rfl rfl (by decide) (x_neq_pn h.k rfl Try.underlying25 rfl rfl) (fun a h => ?_)
    refine s_x h rfl rfl (by decide) (x_pick (u' := undef) h.k rfl rfl (fun _ => rfl) (fun hh => absurd (hB2.symm.trans hh) (by decide))) (fun a h => ?_)
    exact (h.mid 5 rfl).val (by first | rfl | (rw [hB2]; first | rfl | simp))
  · exact absurd hB2 (by decide)
  refine s_assign h rfl _ rfl rfl (by decide) rfl (fun a h => ?_)
  refine l_end ?_
  refine wp_ret ?_
  rw [← Option.some.inj hf]
  exact r_ret1 h rfl (rv_tmp h rfl) ⟨_, [], _, rfl, ⟨rfl, rfl, trivial⟩, rfl, (Up.refl _ _ _), h.m⟩
def xts_Sector_is_nil0 (Fu : Nat) : Option Bool :=
  some false
set_option maxRecDepth 100000 in
set_option maxHeartbeats 2000000 in
theorem xts_Sector_is_nil0_ok (Fu : Nat) {S0 : Snap}  (r : Bool) (hf : xts_Sector_is_nil0 Fu = some r) (w0 : World) (hm : Mem w0 (ownL ([] ++ [.sn S0])) ([] ++ [.sn S0]) w0) :
    Calls Try.prog 63 #[.pointer none] w0 (Ret w0 S0 [] (fun v L1 S1 => v = .bool r ∧ L1 = [] ∧ True)) := by
  unfold xts_Sector_is_nil0 at hf
  refine c_enterM Try.func63 rfl 12 rfl (by simp) _ hm _ rfl (fun a h => ?_)
  refine c_rs ?_ -- region 0
  refine s_assign h rfl _ rfl rfl (by decide) rfl (fun a h => ?_)
  refine l_end ?_
  refine c_rs ?_ -- region 1
  refine s_move h rfl _ rfl rfl (by decide) rfl (fun a h => ?_)
  refine s_x h rfl rfl (by decide) (x_neq_nn h.k rfl Try.underlying54 rfl rfl) (fun a h => ?_)
  refine s_move h rfl _ rfl rfl (by decide) rfl (fun a h => ?_)
  refine q_grp h 6 (t := 5) 11 false rfl (fun hB2 => ?_) (fun hB2 => ?_) (fun a w h => ?_)
  · exact absurd hB2 (by decide)
  · refine g_no h rfl rfl rfl rfl hB2 rfl (by decide) (fun a h => ?_)
    refine g_no h rfl rfl rfl rfl hB2 rfl (by decide) (fun a h => ?_)
    refine g_no h rfl rfl rfl rfl hB2 rfl (by decide) (fun a h => ?_)
    refine g_no h rfl rfl rfl rfl hB2 rfl (by decide) (fun a h => ?_)
    refine g_no h rfl rfl rfl rfl hB2 rfl (by decide) (fun a h => ?_)
    refine s_x h rfl rfl (by decide) (x_pick (u' := undef) h.k rfl rfl (fun hh => absurd (hB2.symm.trans hh) (by decide)) (fun _ => rfl)) (fun a h => ?_)
    exact (h.mid 5 rfl).val (by first | rfl | (rw [hB2]; first | rfl | simp))
  refine s_assign h rfl _ rfl rfl (by decide) rfl (fun a h => ?_)
  refine l_end ?_
  refine wp_ret ?_
  rw [← Option.some.inj hf]
  exact r_ret1 h rfl (rv_tmp h rfl) ⟨_, [], _, rfl, ⟨rfl, rfl, trivial⟩, rfl, (Up.refl _ _ _), h.m⟩
def xts_may (Fu : Nat) (a0 : Int) : Option Bool :=
  some ((decide (0 ≤ a0)) && (decide (a0 ≤ 4611686018427387904)))
set_option maxRecDepth 100000 in
set_option maxHeartbeats 2000000 in
theorem xts_may_ok (Fu : Nat) {S0 : Snap} (a0 : Int) (hra0 : r64 a0) (r : Bool) (hf : xts_may Fu a0 = some r) (w0 : World) (hm : Mem w0 (ownL ([] ++ [.sn S0])) ([] ++ [.sn S0]) w0) :
    Calls Try.prog 65 #[.int .i64 a0] w0 (Ret w0 S0 [] (fun v L1 S1 => v = .bool r ∧ L1 = [] ∧ True)) := by
  unfold xts_may at hf
  refine c_enterM Try.func65 rfl 9 rfl (by simp) _ hm _ rfl (fun a h => ?_)
  refine c_rs ?_ -- region 0
  refine s_assign h rfl _ rfl rfl (by decide) rfl (fun a h => ?_)
  refine l_end ?_
  refine c_rs ?_ -- region 1
  refine s_move h rfl _ rfl rfl (by decide) rfl (fun a h => ?_)
  refine s_x h rfl rfl (by decide) (x_bin h.k rfl rfl rfl ib_geq) (fun a h => ?_)
  refine s_move h rfl _ rfl rfl (by decide) rfl (fun a h => ?_)
  refine q_grp h 3 (t := 5) 8 ((decide (0 ≤ a0)) && (decide (a0 ≤ 4611686018427387904))) rfl (fun hB2 => ?_) (fun hB2 => ?_) (fun a w h => ?_)
  · refine g_yes h rfl rfl rfl rfl hB2 ?_
    refine s_move h rfl _ rfl rfl (by decide) rfl (fun a h => ?_)
    refine g_yes h rfl rfl rfl rfl hB2 ?_
    refine s_x h rfl rfl (by decide) (x_bin h.k rfl rfl rfl ib_leq) (fun a h => ?_)
    refine s_x h rfl rfl (by decide) (x_pick (u' := undef) h.k rfl rfl (fun _ => rfl) (fun hh => absurd (hB2.symm.trans hh) (by decide))) (fun a h => ?_)
    exact (h.mid 2 rfl).val (by first | rfl | (rw [hB2]; first | rfl | simp))
  · refine g_no h rfl rfl rfl rfl hB2 rfl (by decide) (fun a h => ?_)
    refine g_no h rfl rfl rfl rfl hB2 rfl (by decide) (fun a h => ?_)
    refine s_x h rfl rfl (by decide) (x_pick (u' := undef) h.k rfl rfl (fun hh => absurd (hB2.symm.trans hh) (by decide)) (fun _ => rfl)) (fun a h => ?_)
    exact (h.mid 2 rfl).val (by first | rfl | (rw [hB2]; first | rfl | simp))
  refine s_assign h rfl _ rfl rfl (by decide) rfl (fun a h => ?_)
  refine l_end ?_
  refine wp_ret ?_
  obtain rfl := Option.some.inj hf
  exact r_ret1 h rfl (rv_tmp h rfl) ⟨_, [], _, rfl, ⟨rfl, rfl, trivial⟩, rfl, (Up.refl _ _ _), h.m⟩
def xts_New (Fu : Nat) (a0 : List UInt8) : Option (Sum Int ((((List UInt32) × (List UInt8) × (List UInt8)) × ((List UInt32) × (List UInt8) × (List UInt8))) × Int)) :=
  if ((decide ((a0.length : Int) ≠ 64)) && (decide ((a0.length : Int) ≠ 32))) = true then (some (.inl 20)) else ((sub a0 0 (w64 (Int.tdiv (a0.length : Int) 2))).bind fun x3 => (aes_New Fu x3).bind fun x13 => (match x13 with | .inl x19 => (if x19 ≠ 0 then (some (.inl x19)) else ((sub a0 (w64 (Int.tdiv (a0.length : Int) 2)) (a0.length : Int)).bind fun x21 => (aes_New Fu x21).bind fun x31 => (match x31 with | .inl x37 => (if x37 ≠ 0 then (some (.inl x37)) else none) | .inr x39 => (if x39.2 ≠ 0 then (some (.inl x39.2)) else none)))) | .inr x43 => (if x43.2 ≠ 0 then (some (.inl x43.2)) else ((sub a0 (w64 (Int.tdiv (a0.length : Int) 2)) (a0.length : Int)).bind fun x47 => (aes_New Fu x47).bind fun x57 => (match x57 with | .inl x63 => (if x63 ≠ 0 then (some (.inl x63)) else none) | .inr x65 => (if x65.2 ≠ 0 then (some (.inl x65.2)) else (some (.inr ((x43.1, x65.1), 0)))))))))
set_option maxRecDepth 100000 in
set_option maxHeartbeats 2000000 in
theorem xts_New_ok (Fu : Nat) {S0 : Snap} (Aa0 : Option Addr) (ca0 : Nat) (a0 : List UInt8) (hsa0 : slS ty8 S0 Aa0 ca0 a0) (r : Sum Int ((((List UInt32) × (List UInt8) × (List UInt8)) × ((List UInt32) × (List UInt8) × (List UInt8))) × Int)) (hf : xts_New Fu a0 = some r) (w0 : World) (hm : Mem w0 (ownL ([] ++ [.sn S0])) ([] ++ [.sn S0]) w0) :
    Calls Try.prog 29 #[.slice Aa0 a0.length ca0] w0 (Ret w0 S0 [] (fun v L1 S1 => (∃ r0, r = .inl r0 ∧ v = .tuple #[.pointer none, .int .i64 r0] ∧ L1 = [] ∧ r64 r0 ∧ True) ∨ (∃ r0, r = .inr r0 ∧ ∃ (g76 : Nat), v = .tuple #[.pointer (some ⟨g76, 0, none⟩), .int .i64 r0.2] ∧ L1 = [] ∧ ptS (tyP (tyPt (tyP (tyL ty32) (tyP (tyA 256 ty8) (tyA 256 ty8)))) (tyPt (tyP (tyL ty32) (tyP (tyA 256 ty8) (tyA 256 ty8))))) S1 g76 r0.1 ∧ r64 r0.2 ∧ True))) := by
  unfold xts_New at hf
  refine c_enterM Try.func29 rfl 43 rfl (by simp) _ hm _ rfl (fun a h => ?_)
  refine c_rs ?_ -- region 0
  refine s_assign h rfl _ rfl rfl (by decide) rfl (fun a h => ?_)
  refine s_assign h rfl _ rfl rfl (by decide) rfl (fun a h => ?_)
  refine l_end ?_
  refine c_rs ?_ -- region 1
  refine s_move h rfl _ rfl rfl (by decide) rfl (fun a h => ?_)
  refine s_x h rfl rfl (by decide) (x_len h.k rfl Try.underlying22 rfl) (fun a h => ?_)
  refine s_x h rfl rfl (by decide) (x_bin h.k rfl rfl rfl (ib_quow (by decide))) (fun a h => ?_)
  refine s_assign h rfl _ rfl rfl (by decide) rfl (fun a h => ?_)
  refine l_end ?_
  refine wp_seq ?_
  refine c_rs ?_ -- region 2
  refine s_move h rfl _ rfl rfl (by decide) rfl (fun a h => ?_)
  refine s_x h rfl rfl (by decide) (x_len h.k rfl Try.underlying22 rfl) (fun a h => ?_)
  refine s_x h rfl rfl (by decide) (x_bin h.k rfl rfl rfl ib_neq) (fun a h => ?_)
  refine s_move h rfl _ rfl rfl (by decide) rfl (fun a h => ?_)
  refine q_grp h 4 (t := 14) 18 ((decide ((a0.length : Int) ≠ 64)) && (decide ((a0.length : Int) ≠ 32))) rfl (fun hB3 => ?_) (fun hB3 => ?_) (fun a w h => ?_)
  · refine g_yes h rfl rfl rfl rfl hB3 ?_
    refine s_move h rfl _ rfl rfl (by decide) rfl (fun a h => ?_)
    refine g_yes h rfl rfl rfl rfl hB3 ?_
    refine s_x h rfl rfl (by decide) (x_len h.k rfl Try.underlying22 rfl) (fun a h => ?_)
    refine g_yes h rfl rfl rfl rfl hB3 ?_
    refine s_x h rfl rfl (by decide) (x_bin h.k rfl rfl rfl ib_neq) (fun a h => ?_)
    refine s_x h rfl rfl (by decide) (x_pick (u' := undef) h.k rfl rfl (fun _ => rfl) (fun hh => absurd (hB3.symm.trans hh) (by decide))) (fun a h => ?_)
    exact (h.mid 3 rfl).val (by first | rfl | (rw [hB3]; first | rfl | simp))
  · refine g_no h rfl rfl rfl rfl hB3 rfl (by decide) (fun a h => ?_)
    refine g_no h rfl rfl rfl rfl hB3 rfl (by decide) (fun a h => ?_)
    refine g_no h rfl rfl rfl rfl hB3 rfl (by decide) (fun a h => ?_)
    refine s_x h rfl rfl (by decide) (x_pick (u' := undef) h.k rfl rfl (fun hh => absurd (hB3.symm.trans hh) (by decide)) (fun _ => rfl)) (fun a h => ?_)
    exact (h.mid 3 rfl).val (by first | rfl | (rw [hB3]; first | rfl | simp))
  refine l_end ?_
  refine c_cond h rfl (fun hb => ?_) (fun hb => ?_)
  · rw [if_pos hb] at hf
    refine c_rs ?_ -- region 3
    refine s_assign h rfl _ rfl rfl (by decide) rfl (fun a h => ?_)
    refine s_assign h rfl _ rfl rfl (by decide) rfl (fun a h => ?_)
    refine l_end ?_
    refine wp_ret ?_
    refine e_thenR ?_
    rw [← Option.some.inj hf]
    exact r_ret2 h rfl (rv_tmp h rfl) (rv_tmp h rfl) ⟨_, [], _, rfl, (.inl ⟨_, rfl, ⟨rfl, rfl, (show r64 20 from ⟨by decide, by decide⟩), trivial⟩⟩), rfl, (Up.refl _ _ _), h.m⟩
  · rw [if_neg (by rw [hb]; decide)] at hf
    refine wp_skip ?_
    refine e_thenN ?_
    refine c_rs ?_ -- region 4
    refine s_move h rfl _ rfl rfl (by decide) rfl (fun a h => ?_)
    refine s_move h rfl _ rfl rfl (by decide) rfl (fun a h => ?_)
    obtain ⟨x3, h4, hf⟩ := bsome hf
    obtain ⟨m5, n6, hi7, hi8, hm9, hm10, hr11⟩ := sub_some h4
    have hs12 := slS.sub (hsa0) hm9 hm10 (Nat.le_trans hm10 (hsa0).1) (Nat.le_refl _) hr11
    refine s_x h rfl rfl (by decide) (x_sliceE h.k rfl Try.underlying22 sz_uint8 rfl ca0 hr11 (bd_none (by omega)) (bd_some rfl hi8) (bd_none rfl) (by intro hh; cases hh) hm9 hm10 (Nat.le_trans hm10 (hsa0).1) (Nat.le_refl _)) (fun a h => ?_)
    obtain ⟨x13, h14, hf⟩ := bsome hf
    have hX := aes_New_ok Fu (S0 := S0) (sA Aa0 ca0 m5 1) (ca0 - m5) x3 hs12 _ h14 _ (h.sub (Ls := []))
    refine q_callY (Ls := []) hX h (Up.refl _ _ _) rfl rfl rfl (by decide) Try.func14 rfl rfl rfl (fun a w v L1 S16 hR le18 up17 h => ?_)
    rcases hR with hR | hR
    · obtain ⟨x19, rfl, hR⟩ := hR
      dsimp only at hf
      obtain ⟨rfl, rfl, hr20, _⟩ := hR
      refine s_move h rfl _ rfl rfl (by decide) rfl (fun a h => ?_)
      refine s_x h rfl rfl (by decide) (x_ext h.k rfl rfl rfl) (fun a h => ?_)
      refine s_x h rfl rfl (by decide) (x_ext h.k rfl rfl rfl) (fun a h => ?_)
      refine s_assign h rfl _ rfl rfl (by decide) rfl (fun a h => ?_)
      refine s_assign h rfl _ rfl rfl (by decide) rfl (fun a h => ?_)
      refine l_end ?_
      refine wp_seq ?_
      refine c_rs ?_ -- region 5
      refine s_move h rfl _ rfl rfl (by decide) rfl (fun a h => ?_)
      refine s_x h rfl rfl (by decide) (x_bin h.k rfl rfl rfl ib_neq) (fun a h => ?_)
      refine l_end ?_
      refine c_cond h rfl (fun hb => ?_) (fun hb => ?_)
      · rw [if_pos (of_decide_eq_true hb)] at hf
        refine c_rs ?_ -- region 6
        refine s_move h rfl _ rfl rfl (by decide) rfl (fun a h => ?_)
        refine s_assign h rfl _ rfl rfl (by decide) rfl (fun a h => ?_)
        refine s_assign h rfl _ rfl rfl (by decide) rfl (fun a h => ?_)
        refine l_end ?_
        refine wp_ret ?_
        refine e_thenR ?_
        rw [← Option.some.inj hf]
        exact r_ret2 h rfl (rv_tmp h rfl) (rv_tmp h rfl) ⟨_, [], _, rfl, (.inl ⟨_, rfl, ⟨rfl, rfl, hr20, trivial⟩⟩), rfl, up17, h.m⟩
      · rw [if_neg (of_decide_eq_false hb)] at hf
        refine wp_skip ?_
        refine e_thenN ?_
        refine c_rs ?_ -- region 7
        refine s_move h rfl _ rfl rfl (by decide) rfl (fun a h => ?_)
        refine s_move h rfl _ rfl rfl (by decide) rfl (fun a h => ?_)
        obtain ⟨x21, h22, hf⟩ := bsome hf
        obtain ⟨m23, n24, hi25, hi26, hm27, hm28, hr29⟩ := sub_some h22
        have hs30 := slS.sub ((hsa0.mono le18)) hm27 hm28 (Nat.le_trans hm28 ((hsa0.mono le18)).1) (Nat.le_refl _) hr29
        refine s_x h rfl rfl (by decide) (x_sliceE h.k rfl Try.underlying22 sz_uint8 rfl ca0 hr29 (bd_some rfl hi25) (bd_none (by omega)) (bd_none rfl) (by intro _; rfl) hm27 hm28 (Nat.le_trans hm28 ((hsa0.mono le18)).1) (Nat.le_refl _)) (fun a h => ?_)
        obtain ⟨x31, h32, hf⟩ := bsome hf
        have hX := aes_New_ok Fu (S0 := S16) (sA Aa0 ca0 m23 1) (ca0 - m23) x21 hs30 _ h32 _ (h.sub (Ls := []))
        refine q_callY (Ls := []) hX h up17 rfl rfl rfl (by decide) Try.func14 rfl rfl rfl (fun a w v L1 S34 hR le36 up35 h => ?_)
        rcases hR with hR | hR
        · obtain ⟨x37, rfl, hR⟩ := hR
          dsimp only at hf
          obtain ⟨rfl, rfl, hr38, _⟩ := hR
          refine s_move h rfl _ rfl rfl (by decide) rfl (fun a h => ?_)
          refine s_x h rfl rfl (by decide) (x_ext h.k rfl rfl rfl) (fun a h => ?_)
          refine s_x h rfl rfl (by decide) (x_ext h.k rfl rfl rfl) (fun a h => ?_)
          refine s_assign h rfl _ rfl rfl (by decide) rfl (fun a h => ?_)
          refine s_assign h rfl _ rfl rfl (by decide) rfl (fun a h => ?_)
          refine l_end ?_
          refine wp_seq ?_
          refine c_rs ?_ -- region 8
          refine s_move h rfl _ rfl rfl (by decide) rfl (fun a h => ?_)
          refine s_x h rfl rfl (by decide) (x_bin h.k rfl rfl rfl ib_neq) (fun a h => ?_)
          refine l_end ?_
          refine c_cond h rfl (fun hb => ?_) (fun hb => ?_)
          · rw [if_pos (of_decide_eq_true hb)] at hf
            refine c_rs ?_ -- region 9
            refine s_move h rfl _ rfl rfl (by decide) rfl (fun a h => ?_)
            refine s_assign h rfl _ rfl rfl (by decide) rfl (fun a h => ?_)
            refine s_assign h rfl _ rfl rfl (by decide) rfl (fun a h => ?_)
            refine l_end ?_
            refine wp_ret ?_
            refine e_thenR ?_
            rw [← Option.some.inj hf]
            exact r_ret2 h rfl (rv_tmp h rfl) (rv_tmp h rfl) ⟨_, [], _, rfl, (.inl ⟨_, rfl, ⟨rfl, rfl, hr38, trivial⟩⟩), rfl, up35, h.m⟩
          · rw [if_neg (of_decide_eq_false hb)] at hf
            cases hf
        · obtain ⟨x39, rfl, hR⟩ := hR
          dsimp only at hf
          obtain ⟨g40, rfl, rfl, hp41, hr42, _⟩ := hR
          refine s_move h rfl _ rfl rfl (by decide) rfl (fun a h => ?_)
          refine s_x h rfl rfl (by decide) (x_ext h.k rfl rfl rfl) (fun a h => ?_)
          refine s_x h rfl rfl (by decide) (x_ext h.k rfl rfl rfl) (fun a h => ?_)
          refine s_assign h rfl _ rfl rfl (by decide) rfl (fun a h => ?_)
          refine s_assign h rfl _ rfl rfl (by decide) rfl (fun a h => ?_)
          refine l_end ?_
          refine wp_seq ?_
          refine c_rs ?_ -- region 8
          refine s_move h rfl _ rfl rfl (by decide) rfl (fun a h => ?_)
          refine s_x h rfl rfl (by decide) (x_bin h.k rfl rfl rfl ib_neq) (fun a h => ?_)
          refine l_end ?_
          refine c_cond h rfl (fun hb => ?_) (fun hb => ?_)
          · rw [if_pos (of_decide_eq_true hb)] at hf
            refine c_rs ?_ -- region 9
            refine s_move h rfl _ rfl rfl (by decide) rfl (fun a h => ?_)
            refine s_assign h rfl _ rfl rfl (by decide) rfl (fun a h => ?_)
            refine s_assign h rfl _ rfl rfl (by decide) rfl (fun a h => ?_)
            refine l_end ?_
            refine wp_ret ?_
            refine e_thenR ?_
            obtain rfl := Option.some.inj hf
            exact r_ret2 h rfl (rv_tmp h rfl) (rv_tmp h rfl) ⟨_, [], _, rfl, (.inl ⟨_, rfl, ⟨rfl, rfl, hr42, trivial⟩⟩), rfl, up35, h.m⟩
          · rw [if_neg (of_decide_eq_false hb)] at hf
            cases hf
    · obtain ⟨x43, rfl, hR⟩ := hR
      dsimp only at hf
      obtain ⟨g44, rfl, rfl, hp45, hr46, _⟩ := hR
      refine s_move h rfl _ rfl rfl (by decide) rfl (fun a h => ?_)
      refine s_x h rfl rfl (by decide) (x_ext h.k rfl rfl rfl) (fun a h => ?_)
      refine s_x h rfl rfl (by decide) (x_ext h.k rfl rfl rfl) (fun a h => ?_)
      refine s_assign h rfl _ rfl rfl (by decide) rfl (fun a h => ?_)
      refine s_assign h rfl _ rfl rfl (by decide) rfl (fun a h => ?_)
      refine l_end ?_
      refine wp_seq ?_
      refine c_rs ?_ -- region 5
      refine s_move h rfl _ rfl rfl (by decide) rfl (fun a h => ?_)
      refine s_x h rfl rfl (by decide) (x_bin h.k rfl rfl rfl ib_neq) (fun a h => ?_)
      refine l_end ?_
      refine c_cond h rfl (fun hb => ?_) (fun hb => ?_)
      · rw [if_pos (of_decide_eq_true hb)] at hf
        refine c_rs ?_ -- region 6
        refine s_move h rfl _ rfl rfl (by decide) rfl (fun a h => ?_)
        refine s_assign h rfl _ rfl rfl (by decide) rfl (fun a h => ?_)
        refine s_assign h rfl _ rfl rfl (by decide) rfl (fun a h => ?_)
        refine l_end ?_
        refine wp_ret ?_
        refine e_thenR ?_
        obtain rfl := Option.some.inj hf
        exact r_ret2 h rfl (rv_tmp h rfl) (rv_tmp h rfl) ⟨_, [], _, rfl, (.inl ⟨_, rfl, ⟨rfl, rfl, hr46, trivial⟩⟩), rfl, up17, h.m⟩
      · rw [if_neg (of_decide_eq_false hb)] at hf
        refine wp_skip ?_
        refine e_thenN ?_
        refine c_rs ?_ -- region 7
        refine s_move h rfl _ rfl rfl (by decide) rfl (fun a h => ?_)
        refine s_move h rfl _ rfl rfl (by decide) rfl (fun a h => ?_)
        obtain ⟨x47, h48, hf⟩ := bsome hf
        obtain ⟨m49, n50, hi51, hi52, hm53, hm54, hr55⟩ := sub_some h48
        have hs56 := slS.sub ((hsa0.mono le18)) hm53 hm54 (Nat.le_trans hm54 ((hsa0.mono le18)).1) (Nat.le_refl _) hr55
        refine s_x h rfl rfl (by decide) (x_sliceE h.k rfl Try.underlying22 sz_uint8 rfl ca0 hr55 (bd_some rfl hi51) (bd_none (by omega)) (bd_none rfl) (by intro _; rfl) hm53 hm54 (Nat.le_trans hm54 ((hsa0.mono le18)).1) (Nat.le_refl _)) (fun a h => ?_)
        obtain ⟨x57, h58, hf⟩ := bsome hf
        have hX := aes_New_ok Fu (S0 := S16) (sA Aa0 ca0 m49 1) (ca0 - m49) x47 hs56 _ h58 _ (h.sub (Ls := []))
        refine q_callY (Ls := []) hX h up17 rfl rfl rfl (by decide) Try.func14 rfl rfl rfl (fun a w v L1 S60 hR le62 up61 h => ?_)
        rcases hR with hR | hR
        · obtain ⟨x63, rfl, hR⟩ := hR
          dsimp only at hf
          obtain ⟨rfl, rfl, hr64, _⟩ := hR
          refine s_move h rfl _ rfl rfl (by decide) rfl (fun a h => ?_)
          refine s_x h rfl rfl (by decide) (x_ext h.k rfl rfl rfl) (fun a h => ?_)
          refine s_x h rfl rfl (by decide) (x_ext h.k rfl rfl rfl) (fun a h => ?_)
          refine s_assign h rfl _ rfl rfl (by decide) rfl (fun a h => ?_)
          refine s_assign h rfl _ rfl rfl (by decide) rfl (fun a h => ?_)
          refine l_end ?_
          refine wp_seq ?_
          refine c_rs ?_ -- region 8
          refine s_move h rfl _ rfl rfl (by decide) rfl (fun a h => ?_)
          refine s_x h rfl rfl (by decide) (x_bin h.k rfl rfl rfl ib_neq) (fun a h => ?_)
          refine l_end ?_
          refine c_cond h rfl (fun hb => ?_) (fun hb => ?_)
          · rw [if_pos (of_decide_eq_true hb)] at hf
            refine c_rs ?_ -- region 9
            refine s_move h rfl _ rfl rfl (by decide) rfl (fun a h => ?_)
            refine s_assign h rfl _ rfl rfl (by decide) rfl (fun a h => ?_)
            refine s_assign h rfl _ rfl rfl (by decide) rfl (fun a h => ?_)
            refine l_end ?_
            refine wp_ret ?_
            refine e_thenR ?_
            rw [← Option.some.inj hf]
            exact r_ret2 h rfl (rv_tmp h rfl) (rv_tmp h rfl) ⟨_, [], _, rfl, (.inl ⟨_, rfl, ⟨rfl, rfl, hr64, trivial⟩⟩), rfl, up61, h.m⟩
          · rw [if_neg (of_decide_eq_false hb)] at hf
            cases hf
        · obtain ⟨x65, rfl, hR⟩ := hR
          dsimp only at hf
          obtain ⟨g66, rfl, rfl, hp67, hr68, _⟩ := hR
          refine s_move h rfl _ rfl rfl (by decide) rfl (fun a h => ?_)
          refine s_x h rfl rfl (by decide) (x_ext h.k rfl rfl rfl) (fun a h => ?_)
          refine s_x h rfl rfl (by decide) (x_ext h.k rfl rfl rfl) (fun a h => ?_)
          refine s_assign h rfl _ rfl rfl (by decide) rfl (fun a h => ?_)
          refine s_assign h rfl _ rfl rfl (by decide) rfl (fun a h => ?_)
          refine l_end ?_
          refine wp_seq ?_
          refine c_rs ?_ -- region 8
          refine s_move h rfl _ rfl rfl (by decide) rfl (fun a h => ?_)
          refine s_x h rfl rfl (by decide) (x_bin h.k rfl rfl rfl ib_neq) (fun a h => ?_)
          refine l_end ?_
          refine c_cond h rfl (fun hb => ?_) (fun hb => ?_)
          · rw [if_pos (of_decide_eq_true hb)] at hf
            refine c_rs ?_ -- region 9
            refine s_move h rfl _ rfl rfl (by decide) rfl (fun a h => ?_)
            refine s_assign h rfl _ rfl rfl (by decide) rfl (fun a h => ?_)
            refine s_assign h rfl _ rfl rfl (by decide) rfl (fun a h => ?_)
            refine l_end ?_
            refine wp_ret ?_
            refine e_thenR ?_
            obtain rfl := Option.some.inj hf
            exact r_ret2 h rfl (rv_tmp h rfl) (rv_tmp h rfl) ⟨_, [], _, rfl, (.inl ⟨_, rfl, ⟨rfl, rfl, hr68, trivial⟩⟩), rfl, up61, h.m⟩
          · rw [if_neg (of_decide_eq_false hb)] at hf
            refine wp_skip ?_
            refine e_thenN ?_
            refine c_rs ?_ -- region 10
            refine s_move h rfl _ rfl rfl (by decide) rfl (fun a h => ?_)
            refine s_move h rfl _ rfl rfl (by decide) rfl (fun a h => ?_)
            refine s_x h rfl rfl (by decide) (x_build h.k rfl [(0, .pointer (some ⟨g44, 0, none⟩)), (1, .pointer (some ⟨g66, 0, none⟩))] rfl ([.pointer (some ⟨g44, 0, none⟩), .pointer (some ⟨g66, 0, none⟩)]) (by kernel_rfl)) (fun a h => ?_)
            refine s_box h rfl rfl rfl (by decide) rfl (cs := [.pointer (some ⟨g44, 0, none⟩), .pointer (some ⟨g66, 0, none⟩)]) (by rfl) (fun a w g69 h => ?_)
            refine s_assign h rfl _ rfl rfl (by decide) rfl (fun a h => ?_)
            refine s_assign h rfl _ rfl rfl (by decide) rfl (fun a h => ?_)
            refine l_end ?_
            refine wp_ret ?_
            obtain rfl := Option.some.inj hf
            obtain ⟨S70, le71, up72, hc73, h⟩ := q_freezeBox h up61
            have hp74 : ptS (tyP (tyPt (tyP (tyL ty32) (tyP (tyA 256 ty8) (tyA 256 ty8)))) (tyPt (tyP (tyL ty32) (tyP (tyA 256 ty8) (tyA 256 ty8))))) S70 g69 (x43.1, x65.1) := ⟨[.pointer (some ⟨g44, 0, none⟩), .pointer (some ⟨g66, 0, none⟩)], hc73, ⟨[.pointer (some ⟨g44, 0, none⟩)], [.pointer (some ⟨g66, 0, none⟩)], rfl, ⟨_, rfl, (hp45.mono (le62.trans le71))⟩, ⟨_, rfl, (hp67.mono le71)⟩⟩⟩
            exact r_ret2 h rfl (rv_tmp h rfl) (rv_tmp h rfl) ⟨_, [], _, rfl, (.inr ⟨_, rfl, ⟨g69, rfl, rfl, hp74, (show r64 0 from ⟨by decide, by decide⟩), trivial⟩⟩), rfl, up72, h.m⟩
def xts_Sector_first_l0 (Fu : Nat) (a1 : Int) : Nat → Int → (List UInt8) → Option ((List UInt8))
  | 0, _, _ => none
  | k + 1, x5, x7 => if x5 < 8 then ((ix 16 x5).bind fun m17 => xts_Sector_first_l0 Fu a1 k (w64 (x5 + 1)) (x7.set m17 (i8 (i64_shr a1 ((u64I (w64 (8 * x5))).toNat))))) else (some x7)
def xts_Sector_first (Fu : Nat) (a0 : ((List UInt32) × (List UInt8) × (List UInt8)) × ((List UInt32) × (List UInt8) × (List UInt8))) (a1 : Int) : Option ((List UInt8)) :=
  (xts_Sector_first_l0 Fu a1 Fu 0 (List.replicate 16 ((0 : UInt8) : UInt8))).bind fun x11 => (aes_Cipher_Encrypt Fu a0.2 x11).bind fun x32 => some x32
set_option maxRecDepth 100000 in
set_option maxHeartbeats 2000000 in
theorem xts_Sector_first_ok (Fu : Nat) {S0 : Snap} (ga0 : Nat) (a0 : ((List UInt32) × (List UInt8) × (List UInt8)) × ((List UInt32) × (List UInt8) × (List UInt8))) (hpa0 : ptS (tyP (tyPt (tyP (tyL ty32) (tyP (tyA 256 ty8) (tyA 256 ty8)))) (tyPt (tyP (tyL ty32) (tyP (tyA 256 ty8) (tyA 256 ty8))))) S0 ga0 a0) (a1 : Int) (hra1 : r64 a1) (r : (List UInt8)) (hf : xts_Sector_first Fu a0 a1 = some r) (w0 : World) (hm : Mem w0 (ownL ([] ++ [.sn S0])) ([] ++ [.sn S0]) w0) :
    Calls Try.prog 67 #[.pointer (some ⟨ga0, 0, none⟩), .int .i64 a1] w0 (Ret w0 S0 [] (fun v L1 S1 => ∃ (k41 : List Value), v = .agg k41.toArray ∧ L1 = [] ∧ (tyA 16 ty8).rep S1 k41 r ∧ True)) := by
  unfold xts_Sector_first at hf
  refine c_enterM Try.func67 rfl 25 rfl (by simp) _ hm _ rfl (fun a h => ?_)
  refine c_rs ?_ -- region 0
  refine s_alloc h rfl rfl rfl (by decide) zi_A16_uint8 rfl (fun a w g1 h => ?_)
  have h := h.parts (L' := [.box g1 23 (List.replicate 16 (.int .u8 0)), .sn S0]) rfl
  refine l_end ?_
  refine c_rs ?_ -- region 1
  refine s_alloc h rfl rfl rfl (by decide) zi_A16_uint8 rfl (fun a w g2 h => ?_)
  have h := h.parts (L' := [.box g2 23 (List.replicate 16 (.int .u8 0)), .box g1 23 (List.replicate 16 (.int .u8 0)), .sn S0]) rfl
  refine l_end ?_
  refine wp_seq ?_
  refine c_rs ?_ -- region 2
  refine s_move h rfl _ rfl rfl (by decide) rfl (fun a h => ?_)
  refine l_end ?_
  obtain ⟨o3, hl4, hf⟩ := bsome hf
  refine c_fin (fun a w => ∃ (x11 : List UInt8), ∃ (k12 : List Value), x11 = o3 ∧ reps ty8 S0 k12 x11 ∧ x11.length = 16 ∧ St 25 w0 (ownL ([] ++ [.sn S0])) [(0, .pointer (some ⟨ga0, 0, none⟩)), (4, .pointer (some ⟨g1, 0, none⟩)), (5, .pointer (some ⟨g2, 0, none⟩))] [.box g1 23 (List.replicate 16 (.int .u8 0)), .box g2 23 k12, .sn S0] a w) ?_ ?_
  · refine wp_block ?_
    have h := h.pick [1, 0, 2] (by decide) rfl
    refine c_loop (fun m16 a w => ∃ (x5 : Int), ∃ (x7 : List UInt8), ∃ (k8 : List Value), xts_Sector_first_l0 Fu a1 m16 x5 x7 = some o3 ∧ r64 x5 ∧ reps ty8 S0 k8 x7 ∧ x7.length = 16 ∧ St 25 w0 (ownL ([] ++ [.sn S0])) [(0, .pointer (some ⟨ga0, 0, none⟩)), (1, .int .i64 a1), (4, .pointer (some ⟨g1, 0, none⟩)), (5, .pointer (some ⟨g2, 0, none⟩)), (7, .int .i64 x5)] [.box g1 23 (List.replicate 16 (.int .u8 0)), .box g2 23 k8, .sn S0] a w) Fu ⟨0, (List.replicate 16 ((0 : UInt8) : UInt8)), (List.replicate 16 (.int .u8 0)), hl4, (show r64 0 from ⟨by decide, by decide⟩), (show reps ty8 S0 (List.replicate 16 (.int .u8 0)) (List.replicate 16 ((0 : UInt8) : UInt8)) from repsRep1 (x := ((0 : UInt8) : UInt8)) rfl), (show (List.replicate 16 ((0 : UInt8) : UInt8)).length = 16 from List.length_replicate), h.has (by exact ⟨rfl, rfl, rfl, rfl, rfl, trivial⟩)⟩ (fun m16 a w hI => ?_)
    obtain ⟨x5, x7, k8, hl15, hr6, hs9, hl10, h⟩ := hI
    obtain _ | m16 := m16
    · rw [xts_Sector_first_l0] at hl15; cases hl15
    rw [xts_Sector_first_l0] at hl15
    refine c_rs ?_ -- region 3
    refine s_x h rfl rfl (by decide) (x_bin h.k rfl rfl rfl ib_lss) (fun a h => ?_)
    refine l_end ?_
    refine c_cs h rfl (fun hb => ?_) (fun hb => ?_)
    · rw [if_pos (of_decide_eq_true hb)] at hl15
      refine wp_skip ?_
      refine e_thenN ?_
      refine wp_seq ?_
      refine wp_block ?_
      refine c_rs ?_ -- region 4
      refine s_move h rfl _ rfl rfl (by decide) rfl (fun a h => ?_)
      refine s_assign h rfl _ rfl rfl (by decide) rfl (fun a h => ?_)
      refine l_end ?_
      refine c_r ?_ -- region 5
      refine s_move h rfl _ rfl rfl (by decide) rfl (fun a h => ?_)
      refine s_move h rfl _ rfl rfl (by decide) rfl (fun a h => ?_)
      refine s_move h rfl _ rfl rfl (by decide) rfl (fun a h => ?_)
      refine s_x h rfl rfl (by decide) (x_bin h.k rfl rfl rfl (ib_mul rfl)) (fun a h => ?_)
      refine s_x h rfl rfl (by decide) (x_convE h.k rfl Try.underlying3 Try.underlying123 rfl (u64I_wrap _)) (fun a h => ?_)
      refine s_x h rfl rfl (by decide) (x_bin h.k rfl rfl rfl (ib_shr_i64 _ ((u64I (w64 (8 * x5))).toNat))) (fun a h => ?_)
      refine s_x h rfl rfl (by decide) (x_convE h.k rfl Try.underlying3 Try.underlying5 rfl (i8_wrap _).symm) (fun a h => ?_)
      obtain ⟨m17, h18, hl15⟩ := bsome hl15
      obtain ⟨hi19, hm20⟩ := ix_some h18
      refine s_x h rfl rfl (by decide) (x_iaddrA h.k rfl Try.underlying23 sz_uint8 rfl rfl hi19 hm20 rfl) (fun a h => ?_)
      refine q_setBox (T := ty8) (q := i8 (i64_shr a1 ((u64I (w64 (8 * x5))).toNat))) h rfl rfl rfl sz_uint8 rfl rfl 1 rfl rfl hs9 rfl (by first | omega | (simp_all; done)) (fun a w cs21 hq22 h => ?_)
      have hl23 : (x7.set m17 (i8 (i64_shr a1 ((u64I (w64 (8 * x5))).toNat)))).length = 16 := by rw [List.length_set]; exact hl10
      refine l_nil ?_
      refine e_blkN ?_
      refine e_thenN ?_
      refine c_r ?_ -- region 6
      refine s_x h rfl rfl (by decide) (x_bin h.k rfl rfl rfl (ib_add rfl)) (fun a h => ?_)
      refine s_move h rfl _ rfl rfl (by decide) rfl (fun a h => ?_)
      refine l_nil ?_
      exact e_thenN ⟨m16, Nat.lt_succ_self _, w64 (x5 + 1), (x7.set m17 (i8 (i64_shr a1 ((u64I (w64 (8 * x5))).toNat)))), cs21, hl15, (w64_r _), hq22, hl23, h.has (by exact ⟨rfl, rfl, rfl, rfl, rfl, trivial⟩)⟩
    · rw [if_neg (of_decide_eq_false hb)] at hl15
      refine wp_exit ?_
      refine e_thenX ?_
      refine e_thenX ?_
      refine e_blkX ?_
      refine e_thenN ?_
      exact ⟨x7, k8, (Option.some.inj hl15), hs9, hl10, h.has (by exact ⟨rfl, rfl, rfl, trivial⟩)⟩
  · rintro a w ⟨x11, k12, rfl, hs13, hl14, h⟩
    refine e_thenN ?_
    refine wp_seq ?_
    -- region 7 draws
    obtain ⟨x32, h33, hf⟩ := bsome hf
    refine d_start h (Mem _ _ _) 6 7 rfl (by kernel_rfl) (fun _ _ _ _ _ h => h) (fun _ h => h) (fun Q a w HE HN h HS => ?_)
    refine d_takeP h (fun _ => HS) HN 0 rfl (by kernel_rfl) (by kernel_rfl) (by kernel_rfl) (by decide) rfl rfl (by decide) (fun w' => x_move h.k _ rfl rfl) (fun a h => ?_)
    obtain ⟨k24, hc25, ⟨k26, k27, rfl, ⟨g28, rfl, hp29⟩, ⟨g30, rfl, hp31⟩⟩⟩ := id hpa0
    refine d_takeP h (fun _ => HS) HN 1 rfl (by kernel_rfl) (by kernel_rfl) (by kernel_rfl) (by decide) rfl rfl (by decide) (fun w' => x_nil h.k rfl rfl) (fun a h => ?_)
    refine d_takeP h (fun _ => HS) HN 2 rfl (by kernel_rfl) (by kernel_rfl) (by kernel_rfl) (by decide) rfl rfl (by decide) (fun w' => x_faddr h.k rfl Try.underlying97 rfl sz_Paes_Cipher rfl) (fun a h => ?_)
    refine d_take h HS HN 3 rfl (by kernel_rfl) (by kernel_rfl) (by kernel_rfl) (by kernel_rfl) (by kernel_rfl) rfl rfl (by decide) (fun w' hw => x_ld h.k rfl Try.underlying25 rfl rfl (hc25 _ (hw.snOK (i := 2) rfl) 1 _ rfl)) (fun a h => ?_)
    refine d_take h HS HN 4 rfl (by kernel_rfl) (by kernel_rfl) (by kernel_rfl) (by kernel_rfl) (by kernel_rfl) rfl rfl (by decide) (fun w' hw => x_ldR h.k rfl ag_A16_uint8 rfl k12 ((hs13).len.trans (by rw [hl14]; rfl)) (hw.range0 (i := 1) rfl)) (fun a h => ?_)
    refine d_alone 5 rfl (by kernel_rfl) (fun K hK => ?_)
    have hX := aes_Cipher_Encrypt_ok Fu (S0 := snapAll _) g30 a0.2 (hp31.mono (h.m.leAll (i := 2) rfl)) k12 x11 ((tyA 16 ty8).mono (h.m.leAll (i := 2) rfl) (show (tyA 16 ty8).rep S0 k12 x11 from ⟨hs13, hl14⟩)) _ h33 _ h.startAll
    refine q_callX hX h rfl rfl rfl (by decide) Try.func15 rfl rfl rfl (fun a w v L1 S1 hR hb1 h => ?_)
    obtain ⟨k35, rfl, rfl, hv36, _⟩ := hR
    obtain ⟨hs37, hl38⟩ := hv36
    have hq39 := hs37.fl (S' := S0) fl_8
    refine hK _ _ (fun _ _ => HS.ext hb1) ?_
    replace HS := HS.ext hb1
    clear hK
    refine d_alone 6 rfl (by kernel_rfl) (fun K hK => ?_)
    refine s_stW h rfl rfl rfl ag_A16_uint8 rfl (es := k35) rfl ((hq39).len.trans (by rw [hl38]; rfl)) (hq39).one 0 rfl (by first | rfl | simp_all) (fun a w h => ?_)
    refine hK _ _ (fun hne _ => absurd rfl hne) ?_
    clear hK
    refine d_done (by kernel_rfl) (HE _ _ ?_) _
    refine e_thenN ?_
    refine wp_ret ?_
    rw [← Option.some.inj hf]
    exact r_ret1 h rfl (rv_cellA h rfl 0 rfl ag_A16_uint8 ((hq39).len.trans (by rw [hl38]; rfl))) ⟨_, [], _, rfl, ⟨k35, rfl, rfl, ⟨hq39, hl38⟩, trivial⟩, rfl, (Up.refl _ _ _), (h.m.pick [2] _ (by decide) rfl)⟩
def xts_Sector_Tweak (Fu : Nat) (a0 : ((List UInt32) × (List UInt8) × (List UInt8)) × ((List UInt32) × (List UInt8) × (List UInt8))) (a1 : Int) (a2 : Int) : Option ((List UInt8) × Int) :=
  (xts_Sector_is Fu a0).bind fun x2 => (xts_may Fu a1).bind fun x5 => if (((!x5) || (decide (a2 < 0))) || (decide (256 ≤ a2))) = true then (some ((List.replicate 16 ((0 : UInt8) : UInt8)), 2)) else ((xts_Sector_first Fu a0 a1).bind fun x12 => (gf_Doubled Fu x12 a2).bind fun x20 => some (x20, 0))
set_option maxRecDepth 100000 in
set_option maxHeartbeats 2000000 in
theorem xts_Sector_Tweak_ok (Fu : Nat) {S0 : Snap} (ga0 : Nat) (a0 : ((List UInt32) × (List UInt8) × (List UInt8)) × ((List UInt32) × (List UInt8) × (List UInt8))) (hpa0 : ptS (tyP (tyPt (tyP (tyL ty32) (tyP (tyA 256 ty8) (tyA 256 ty8)))) (tyPt (tyP (tyL ty32) (tyP (tyA 256 ty8) (tyA 256 ty8))))) S0 ga0 a0) (a1 : Int) (hra1 : r64 a1) (a2 : Int) (hra2 : r64 a2) (r : (List UInt8) × Int) (hf : xts_Sector_Tweak Fu a0 a1 a2 = some r) (w0 : World) (hm : Mem w0 (ownL ([] ++ [.sn S0])) ([] ++ [.sn S0]) w0) :
    Calls Try.prog 33 #[.pointer (some ⟨ga0, 0, none⟩), .int .i64 a1, .int .i64 a2] w0 (Ret w0 S0 [] (fun v L1 S1 => ∃ (k28 : List Value), v = .tuple #[.agg k28.toArray, .int .i64 r.2] ∧ L1 = [] ∧ (tyA 16 ty8).rep S1 k28 r.1 ∧ r64 r.2 ∧ True)) := by
  unfold xts_Sector_Tweak at hf
  refine c_enterM Try.func33 rfl 31 rfl (by simp) _ hm _ rfl (fun a h => ?_)
  refine c_rs ?_ -- region 0
  refine s_alloc h rfl rfl rfl (by decide) zi_A16_uint8 rfl (fun a w g1 h => ?_)
  have h := h.parts (L' := [.box g1 23 (List.replicate 16 (.int .u8 0)), .sn S0]) rfl
  refine s_assign h rfl _ rfl rfl (by decide) rfl (fun a h => ?_)
  refine l_end ?_
  refine wp_seq ?_
  refine wp_block ?_
  refine c_rs ?_ -- region 1
  refine s_move h rfl _ rfl rfl (by decide) rfl (fun a h => ?_)
  obtain ⟨x2, h3, hf⟩ := bsome hf
  have hX := xts_Sector_is_ok Fu (S0 := snapAll _) ga0 a0 (hpa0.mono (h.m.leAll (i := 1) rfl)) _ h3 _ h.startAll
  refine q_callX hX h rfl rfl rfl (by decide) Try.func63 rfl rfl rfl (fun a w v L1 S1 hR hb1 h => ?_)
  obtain ⟨rfl, rfl, _⟩ := hR
  obtain rfl : x2 = true := by unfold xts_Sector_is at h3; exact (Option.some.inj h3).symm
  refine s_x h rfl rfl (by decide) (x_not h.k rfl rfl) (fun a h => ?_)
  refine s_assign h rfl _ rfl rfl (by decide) rfl (fun a h => ?_)
  refine l_end ?_
  refine c_cond h rfl (fun hb => ?_) (fun hb => ?_)
  · exact absurd hb (by decide)
  · refine c_rs ?_ -- region 3
    refine s_move h rfl _ rfl rfl (by decide) rfl (fun a h => ?_)
    obtain ⟨x5, h6, hf⟩ := bsome hf
    have hX := xts_may_ok Fu (S0 := snapAll _) a1 hra1 _ h6 _ h.startAll
    refine q_callX hX h rfl rfl rfl (by decide) Try.func65 rfl rfl rfl (fun a w v L1 S1 hR hb1 h => ?_)
    obtain ⟨rfl, rfl, _⟩ := hR
    refine s_x h rfl rfl (by decide) (x_not h.k rfl rfl) (fun a h => ?_)
    refine s_move h rfl _ rfl rfl (by decide) rfl (fun a h => ?_)
    refine q_grp h 3 (t := 17) 20 ((!x5) || (decide (a2 < 0))) rfl (fun hB3 => ?_) (fun hB3 => ?_) (fun a w h => ?_)
    · refine g_no h rfl rfl rfl rfl hB3 rfl (by decide) (fun a h => ?_)
      refine g_no h rfl rfl rfl rfl hB3 rfl (by decide) (fun a h => ?_)
      refine s_x h rfl rfl (by decide) (x_pick (u' := undef) h.k rfl rfl (fun _ => rfl) (fun hh => absurd (hB3.symm.trans hh) (by decide))) (fun a h => ?_)
      exact (h.mid 2 rfl).val (by first | rfl | (rw [hB3]; first | rfl | simp))
    · refine g_yes h rfl rfl rfl rfl hB3 ?_
      refine s_move h rfl _ rfl rfl (by decide) rfl (fun a h => ?_)
      refine g_yes h rfl rfl rfl rfl hB3 ?_
      refine s_x h rfl rfl (by decide) (x_bin h.k rfl rfl rfl ib_lss) (fun a h => ?_)
      refine s_x h rfl rfl (by decide) (x_pick (u' := undef) h.k rfl rfl (fun hh => absurd (hB3.symm.trans hh) (by decide)) (fun _ => rfl)) (fun a h => ?_)
      exact (h.mid 2 rfl).val (by first | rfl | (rw [hB3]; first | rfl | simp))
    refine s_move h rfl _ rfl rfl (by decide) rfl (fun a h => ?_)
    refine q_grp h 3 (t := 21) 24 (((!x5) || (decide (a2 < 0))) || (decide (256 ≤ a2))) rfl (fun hB7 => ?_) (fun hB7 => ?_) (fun a w h => ?_)
    · refine g_no h rfl rfl rfl rfl hB7 rfl (by decide) (fun a h => ?_)
      refine g_no h rfl rfl rfl rfl hB7 rfl (by decide) (fun a h => ?_)
      refine s_x h rfl rfl (by decide) (x_pick (u' := undef) h.k rfl rfl (fun _ => rfl) (fun hh => absurd (hB7.symm.trans hh) (by decide))) (fun a h => ?_)
      exact (h.mid 2 rfl).val (by first | rfl | (rw [hB7]; first | rfl | simp))
    · refine g_yes h rfl rfl rfl rfl hB7 ?_
      refine s_move h rfl _ rfl rfl (by decide) rfl (fun a h => ?_)
      refine g_yes h rfl rfl rfl rfl hB7 ?_
      refine s_x h rfl rfl (by decide) (x_bin h.k rfl rfl rfl ib_geq) (fun a h => ?_)
      refine s_x h rfl rfl (by decide) (x_pick (u' := undef) h.k rfl rfl (fun hh => absurd (hB7.symm.trans hh) (by decide)) (fun _ => rfl)) (fun a h => ?_)
      exact (h.mid 2 rfl).val (by first | rfl | (rw [hB7]; first | rfl | simp))
    refine s_assign h rfl _ rfl rfl (by decide) rfl (fun a h => ?_)
    refine l_end ?_
    refine c_cond h rfl (fun hb => ?_) (fun hb => ?_)
    · rw [if_pos hb] at hf
      refine c_rs ?_ -- region 4
      refine s_x h rfl rfl (by decide) (x_build h.k rfl [] rfl (List.replicate 16 (.int .u8 0)) (by kernel_rfl)) (fun a h => ?_)
      refine s_stW h rfl rfl rfl ag_A16_uint8 rfl (es := (List.replicate 16 (.int .u8 0))) rfl (by first | rfl | simp_all) ((show reps ty8 S0 (List.replicate 16 (.int .u8 0)) (List.replicate 16 ((0 : UInt8) : UInt8)) from repsRep1 (x := ((0 : UInt8) : UInt8)) rfl)).one 0 rfl (by first | rfl | simp_all) (fun a w h => ?_)
      refine s_assign h rfl _ rfl rfl (by decide) rfl (fun a h => ?_)
      refine l_end ?_
      refine wp_ret ?_
      refine e_blkR ?_
      refine e_thenR ?_
      obtain rfl := Option.some.inj hf
      exact r_ret2 h rfl (rv_cellA h rfl 0 rfl ag_A16_uint8 (by first | rfl | simp_all)) (rv_tmp h rfl) ⟨_, [], _, rfl, ⟨(List.replicate 16 (.int .u8 0)), rfl, rfl, ⟨(show reps ty8 S0 (List.replicate 16 (.int .u8 0)) (List.replicate 16 ((0 : UInt8) : UInt8)) from repsRep1 (x := ((0 : UInt8) : UInt8)) rfl), (show (List.replicate 16 ((0 : UInt8) : UInt8)).length = 16 from List.length_replicate)⟩, (show r64 2 from ⟨by decide, by decide⟩), trivial⟩, rfl, (Up.refl _ _ _), (h.m.pick [1] _ (by decide) rfl)⟩
    · rw [if_neg (by rw [hb]; decide)] at hf
      refine wp_skip ?_
      refine e_blkN ?_
      refine e_thenN ?_
      refine c_rs ?_ -- region 5
      refine s_move h rfl _ rfl rfl (by decide) rfl (fun a h => ?_)
      refine s_move h rfl _ rfl rfl (by decide) rfl (fun a h => ?_)
      obtain ⟨x12, h13, hf⟩ := bsome hf
      have hX := xts_Sector_first_ok Fu (S0 := snapAll _) ga0 a0 (hpa0.mono (h.m.leAll (i := 1) rfl)) a1 hra1 _ h13 _ h.startAll
      refine q_callX hX h rfl rfl rfl (by decide) Try.func67 rfl rfl rfl (fun a w v L1 S1 hR hb1 h => ?_)
      obtain ⟨k15, rfl, rfl, hv16, _⟩ := hR
      obtain ⟨hs17, hl18⟩ := hv16
      have hq19 := hs17.fl (S' := S0) fl_8
      refine s_move h rfl _ rfl rfl (by decide) rfl (fun a h => ?_)
      obtain ⟨x20, h21, hf⟩ := bsome hf
      have hX := gf_Doubled_ok Fu (S0 := snapAll _) k15 x12 ((tyA 16 ty8).mono (h.m.leAll (i := 1) rfl) (show (tyA 16 ty8).rep S0 k15 x12 from ⟨hq19, hl18⟩)) a2 hra2 _ h21 _ h.startAll
      refine q_callX hX h rfl rfl rfl (by decide) Try.func66 rfl rfl rfl (fun a w v L1 S1 hR hb1 h => ?_)
      obtain ⟨k23, rfl, rfl, hv24, _⟩ := hR
      obtain ⟨hs25, hl26⟩ := hv24
      have hq27 := hs25.fl (S' := S0) fl_8
      refine s_stW h rfl rfl rfl ag_A16_uint8 rfl (es := k23) rfl ((hq27).len.trans (by rw [hl26]; rfl)) (hq27).one 0 rfl (by first | rfl | simp_all) (fun a w h => ?_)
      refine s_assign h rfl _ rfl rfl (by decide) rfl (fun a h => ?_)
      refine l_end ?_
      refine wp_ret ?_
      obtain rfl := Option.some.inj hf
      exact r_ret2 h rfl (rv_cellA h rfl 0 rfl ag_A16_uint8 ((hq27).len.trans (by rw [hl26]; rfl))) (rv_tmp h rfl) ⟨_, [], _, rfl, ⟨k23, rfl, rfl, ⟨hq27, hl26⟩, (show r64 0 from ⟨by decide, by decide⟩), trivial⟩, rfl, (Up.refl _ _ _), (h.m.pick [1] _ (by decide) rfl)⟩
def xts_Sector_each_clo3_15_1_0_l1 (Fu : Nat) (x34 : List UInt8) : Nat → Int → (List UInt8) → Option ((List UInt8))
  | 0, _, _ => none
  | k + 1, x74, x76 => if x74 < 16 then ((ix 16 x74).bind fun m86 => (x76[m86]?).bind fun x90 => (ix 16 x74).bind fun m95 => (x34[m95]?).bind fun x99 => (ix 16 x74).bind fun m104 => xts_Sector_each_clo3_15_1_0_l1 Fu x34 k (w64 (x74 + 1)) (x76.set m104 (x90 ^^^ x99))) else (some x76)
def xts_Sector_each_clo3_15_1_0_l2 (Fu : Nat) (x27 : Int) (x34 : List UInt8) (x111 : (List UInt8)) : Nat → Int → (List UInt8) → Option ((List UInt8))
  | 0, _, _ => none
  | k + 1, x121, x123 => if x121 < 16 then ((idx x111 x121).bind fun x136 => (ix 16 x121).bind fun m144 => (x34[m144]?).bind fun x148 => (ix x123.length (w64 (x27 + x121))).bind fun m153 => xts_Sector_each_clo3_15_1_0_l2 Fu x27 x34 x111 k (w64 (x121 + 1)) (x123.set m153 (x136 ^^^ x148))) else (some x123)
def xts_Sector_each_clo3_15_1_0_l0 (Fu : Nat) (a2 : List UInt8) (a3b0 : (List UInt32) × (List UInt8) × (List UInt8)) : Nat → Int → (List UInt8) → (List UInt8) → Option ((List UInt8))
  | 0, _, _, _ => none
  | k + 1, x27, x29, x34 => if x27 < (a2.length : Int) then ((bnd 16 0 (16 : Int)).bind fun y46 => (sub a2 x27 (a2.length : Int)).bind fun x55 => (xts_Sector_each_clo3_15_1_0_l1 Fu x34 Fu 0 (cpy (List.replicate 16 ((0 : UInt8) : UInt8)) y46.1 y46.2 x55)).bind fun x80 => (aes_Cipher_Encrypt Fu a3b0 x80).bind fun x111 => (xts_Sector_each_clo3_15_1_0_l2 Fu x27 x34 x111 Fu 0 x29).bind fun x128 => (gf_Double Fu x34).bind fun x162 => xts_Sector_each_clo3_15_1_0_l0 Fu a2 a3b0 k (w64 (x27 + 16)) x128 x162) else (some x29)
def xts_Sector_each_clo3_15_1_0 (Fu : Nat) (a0 : ((List UInt32) × (List UInt8) × (List UInt8)) × ((List UInt32) × (List UInt8) × (List UInt8))) (a1 : Int) (a2 : List UInt8) (a3b0 : (List UInt32) × (List UInt8) × (List UInt8)) : Option ((List UInt8) × Int) :=
  (xts_may Fu a1).bind fun x1 => if ((((!x1) || (decide ((a2.length : Int) = 0))) || (decide (Int.tmod (a2.length : Int) 16 ≠ 0))) || (decide (4096 < (a2.length : Int)))) = true then (some ([], 2)) else ((mkN 1 (a2.length : Int)).bind fun n11 => (xts_Sector_first Fu a0 a1).bind fun x16 => (xts_Sector_each_clo3_15_1_0_l0 Fu a2 a3b0 Fu 0 (List.replicate n11 ((0 : UInt8) : UInt8)) x16).bind fun x38 => some (x38, 0))
set_option maxRecDepth 100000 in
set_option maxHeartbeats 2000000 in
theorem xts_Sector_each_clo3_15_1_0_ok (Fu : Nat) {S0 : Snap} (ga0 : Nat) (a0 : ((List UInt32) × (List UInt8) × (List UInt8)) × ((List UInt32) × (List UInt8) × (List UInt8))) (hpa0 : ptS (tyP (tyPt (tyP (tyL ty32) (tyP (tyA 256 ty8) (tyA 256 ty8)))) (tyPt (tyP (tyL ty32) (tyP (tyA 256 ty8) (tyA 256 ty8))))) S0 ga0 a0) (a1 : Int) (hra1 : r64 a1) (Aa2 : Option Addr) (ca2 : Nat) (a2 : List UInt8) (hsa2 : slS ty8 S0 Aa2 ca2 a2) (ga3b0 : Nat) (a3b0 : (List UInt32) × (List UInt8) × (List UInt8)) (hpa3b0 : ptS (tyP (tyL ty32) (tyP (tyA 256 ty8) (tyA 256 ty8))) S0 ga3b0 a3b0) (r : (List UInt8) × Int) (hf : xts_Sector_each_clo3_15_1_0 Fu a0 a1 a2 a3b0 = some r) (w0 : World) (hm : Mem w0 (ownL ([] ++ [.sn S0])) ([] ++ [.sn S0]) w0) :
    Calls Try.prog 64 #[.pointer (some ⟨ga0, 0, none⟩), .int .i64 a1, .slice Aa2 a2.length ca2, .func (.func 15) [.pointer (some ⟨ga3b0, 0, none⟩)].toArray [].toArray] w0 (Ret w0 S0 [] (fun v L1 S1 => ∃ (A173 : Option Addr), ∃ (c174 : Nat), ∃ (cs175 : List Value), v = .tuple #[.slice A173 r.1.length c174, .int .i64 r.2] ∧ L1 = [.row (.slice A173 r.1.length c174) 5 1 r.1.length cs175] ∧ reps ty8 S1 cs175 r.1 ∧ r64 r.2 ∧ True)) := by
  unfold xts_Sector_each_clo3_15_1_0 at hf
  refine c_enterM Try.func64 rfl 87 rfl (by simp) _ hm _ rfl (fun a h => ?_)
  refine c_rs ?_ -- region 0
  refine s_assign h rfl _ rfl rfl (by decide) rfl (fun a h => ?_)
  refine s_assign h rfl _ rfl rfl (by decide) rfl (fun a h => ?_)
  refine l_end ?_
  refine wp_seq ?_
  refine c_rs ?_ -- region 1
  refine s_move h rfl _ rfl rfl (by decide) rfl (fun a h => ?_)
  obtain ⟨x1, h2, hf⟩ := bsome hf
  have hX := xts_may_ok Fu (S0 := snapAll _) a1 hra1 _ h2 _ h.startAll
  refine q_callX hX h rfl rfl rfl (by decide) Try.func65 rfl rfl rfl (fun a w v L1 S1 hR hb1 h => ?_)
  obtain ⟨rfl, rfl, _⟩ := hR
  refine s_x h rfl rfl (by decide) (x_not h.k rfl rfl) (fun a h => ?_)
  refine s_move h rfl _ rfl rfl (by decide) rfl (fun a h => ?_)
  refine q_grp h 4 (t := 20) 24 ((!x1) || (decide ((a2.length : Int) = 0))) rfl (fun hB3 => ?_) (fun hB3 => ?_) (fun a w h => ?_)
  · refine g_no h rfl rfl rfl rfl hB3 rfl (by decide) (fun a h => ?_)
    refine g_no h rfl rfl rfl rfl hB3 rfl (by decide) (fun a h => ?_)
    refine g_no h rfl rfl rfl rfl hB3 rfl (by decide) (fun a h => ?_)
    refine s_x h rfl rfl (by decide) (x_pick (u' := undef) h.k rfl rfl (fun _ => rfl) (fun hh => absurd (hB3.symm.trans hh) (by decide))) (fun a h => ?_)
    exact (h.mid 3 rfl).val (by first | rfl | (rw [hB3]; first | rfl | simp))
  · refine g_yes h rfl rfl rfl rfl hB3 ?_
    refine s_move h rfl _ rfl rfl (by decide) rfl (fun a h => ?_)
    refine g_yes h rfl rfl rfl rfl hB3 ?_
    refine s_x h rfl rfl (by decide) (x_len h.k rfl Try.underlying22 rfl) (fun a h => ?_)
    refine g_yes h rfl rfl rfl rfl hB3 ?_
    refine s_x h rfl rfl (by decide) (x_bin h.k rfl rfl rfl ib_eql) (fun a h => ?_)
    refine s_x h rfl rfl (by decide) (x_pick (u' := undef) h.k rfl rfl (fun hh => absurd (hB3.symm.trans hh) (by decide)) (fun _ => rfl)) (fun a h => ?_)
    exact (h.mid 3 rfl).val (by first | rfl | (rw [hB3]; first | rfl | simp))
  refine s_move h rfl _ rfl rfl (by decide) rfl (fun a h => ?_)
  refine q_grp h 5 (t := 25) 30 (((!x1) || (decide ((a2.length : Int) = 0))) || (decide (Int.tmod (a2.length : Int) 16 ≠ 0))) rfl (fun hB8 => ?_) (fun hB8 => ?_) (fun a w h => ?_)
  · refine g_no h rfl rfl rfl rfl hB8 rfl (by decide) (fun a h => ?_)
    refine g_no h rfl rfl rfl rfl hB8 rfl (by decide) (fun a h => ?_)
    refine g_no h rfl rfl rfl rfl hB8 rfl (by decide) (fun a h => ?_)
    refine g_no h rfl rfl rfl rfl hB8 rfl (by decide) (fun a h => ?_)
    refine s_x h rfl rfl (by decide) (x_pick (u' := undef) h.k rfl rfl (fun _ => rfl) (fun hh => absurd (hB8.symm.trans hh) (by decide))) (fun a h => ?_)
    exact (h.mid 4 rfl).val (by first | rfl | (rw [hB8]; first | rfl | simp))
  · refine g_yes h rfl rfl rfl rfl hB8 ?_
    refine s_move h rfl _ rfl rfl (by decide) rfl (fun a h => ?_)
    refine g_yes h rfl rfl rfl rfl hB8 ?_
    refine s_x h rfl rfl (by decide) (x_len h.k rfl Try.underlying22 rfl) (fun a h => ?_)
    refine g_yes h rfl rfl rfl rfl hB8 ?_
    refine s_x h rfl rfl (by decide) (x_bin h.k rfl rfl rfl (ib_remw (by decide))) (fun a h => ?_)
    refine g_yes h rfl rfl rfl rfl hB8 ?_
    refine s_x h rfl rfl (by decide) (x_bin h.k rfl rfl rfl ib_neq) (fun a h => ?_)
    refine s_x h rfl rfl (by decide) (x_pick (u' := undef) h.k rfl rfl (fun hh => absurd (hB8.symm.trans hh) (by decide)) (fun _ => rfl)) (fun a h => ?_)
    exact (h.mid 4 rfl).val (by first | rfl | (rw [hB8]; first | rfl | simp))
  refine s_move h rfl _ rfl rfl (by decide) rfl (fun a h => ?_)
  refine q_grp h 4 (t := 31) 35 ((((!x1) || (decide ((a2.length : Int) = 0))) || (decide (Int.tmod (a2.length : Int) 16 ≠ 0))) || (decide (4096 < (a2.length : Int)))) rfl (fun hB14 => ?_) (fun hB14 => ?_) (fun a w h => ?_)
  · refine g_no h rfl rfl rfl rfl hB14 rfl (by decide) (fun a h => ?_)
    refine g_no h rfl rfl rfl rfl hB14 rfl (by decide) (fun a h => ?_)
    refine g_no h rfl rfl rfl rfl hB14 rfl (by decide) (fun a h => ?_)
    refine s_x h rfl rfl (by decide) (x_pick (u' := undef) h.k rfl rfl (fun _ => rfl) (fun hh => absurd (hB14.symm.trans hh) (by decide))) (fun a h => ?_)
    exact (h.mid 3 rfl).val (by first | rfl | (rw [hB14]; first | rfl | simp))
  · refine g_yes h rfl rfl rfl rfl hB14 ?_
    refine s_move h rfl _ rfl rfl (by decide) rfl (fun a h => ?_)
    refine g_yes h rfl rfl rfl rfl hB14 ?_
    refine s_x h rfl rfl (by decide) (x_len h.k rfl Try.underlying22 rfl) (fun a h => ?_)
    refine g_yes h rfl rfl rfl rfl hB14 ?_
    refine s_x h rfl rfl (by decide) (x_bin h.k rfl rfl rfl ib_gtr) (fun a h => ?_)
    refine s_x h rfl rfl (by decide) (x_pick (u' := undef) h.k rfl rfl (fun hh => absurd (hB14.symm.trans hh) (by decide)) (fun _ => rfl)) (fun a h => ?_)
    exact (h.mid 3 rfl).val (by first | rfl | (rw [hB14]; first | rfl | simp))
  refine l_end ?_
  refine c_cond h rfl (fun hb => ?_) (fun hb => ?_)
  · rw [if_pos hb] at hf
    refine c_rs ?_ -- region 2
    refine s_assign h rfl _ rfl rfl (by decide) rfl (fun a h => ?_)
    refine s_assign h rfl _ rfl rfl (by decide) rfl (fun a h => ?_)
    refine l_end ?_
    refine wp_ret ?_
    refine e_thenR ?_
    obtain rfl := Option.some.inj hf
    have h := h.mem (h.m.nilrow 5 1)
    exact r_ret2 h rfl (rv_tmp h rfl) (rv_tmp h rfl) ⟨_, [.row (.slice none ([]).length 0) 5 1 ([]).length []], _, rfl, ⟨none, 0, [], rfl, rfl, (show reps ty8 S0 [] [] from rfl), (show r64 2 from ⟨by decide, by decide⟩), trivial⟩, rfl, (Up.refl _ _ _), h.m⟩
  · rw [if_neg (by rw [hb]; decide)] at hf
    refine wp_skip ?_
    refine e_thenN ?_
    refine c_rs ?_ -- region 3
    refine s_move h rfl _ rfl rfl (by decide) rfl (fun a h => ?_)
    refine s_x h rfl rfl (by decide) (x_len h.k rfl Try.underlying22 rfl) (fun a h => ?_)
    obtain ⟨n11, h12, hf⟩ := bsome hf
    refine q_make (T := ty8) (S := S0) h rfl rfl rfl (by decide) Try.underlying22 zb_uint8 rfl rfl (q := (0 : UInt8)) rfl rfl rfl h12 (fun a w A13 cs14 hq15 h => ?_)
    refine s_assign h rfl _ rfl rfl (by decide) rfl (fun a h => ?_)
    refine l_end ?_
    refine c_rs ?_ -- region 4
    refine s_move h rfl _ rfl rfl (by decide) rfl (fun a h => ?_)
    refine s_move h rfl _ rfl rfl (by decide) rfl (fun a h => ?_)
    obtain ⟨x16, h17, hf⟩ := bsome hf
    have hX := xts_Sector_first_ok Fu (S0 := snapAll _) ga0 a0 (hpa0.mono (h.m.leAll (i := 1) rfl)) a1 hra1 _ h17 _ h.startAll
    refine q_callX hX h rfl rfl rfl (by decide) Try.func67 rfl rfl rfl (fun a w v L1 S1 hR hb1 h => ?_)
    obtain ⟨k19, rfl, rfl, hv20, _⟩ := hR
    obtain ⟨hs21, hl22⟩ := hv20
    have hq23 := hs21.fl (S' := S0) fl_8
    refine s_alloc h rfl rfl rfl (by decide) zi_A16_uint8 rfl (fun a w g24 h => ?_)
    have h := h.parts (L' := [.box g24 23 (List.replicate 16 (.int .u8 0)), .row (.slice A13 (List.replicate n11 ((0 : UInt8) : UInt8)).length n11) 5 1 (List.replicate n11 ((0 : UInt8) : UInt8)).length cs14, .sn S0]) rfl
    refine s_stW h rfl rfl rfl ag_A16_uint8 rfl (es := k19) rfl ((hq23).len.trans (by rw [hl22]; rfl)) (hq23).one 0 rfl (by first | rfl | simp_all) (fun a w h => ?_)
    refine l_end ?_
    refine wp_seq ?_
    refine c_rs ?_ -- region 5
    refine s_assign h rfl _ rfl rfl (by decide) rfl (fun a h => ?_)
    refine l_end ?_
    obtain ⟨o25, hl26, hf⟩ := bsome hf
    refine c_fin (fun a w => ∃ (x38 : List UInt8), ∃ (A39 : Option Addr), ∃ (c40 : Nat), ∃ (cs41 : List Value), x38 = o25 ∧ reps ty8 S0 cs41 x38 ∧ St 87 w0 (ownL ([] ++ [.sn S0])) [(10, .slice A39 x38.length c40)] [.row (.slice A39 x38.length c40) 5 1 x38.length cs41, .sn S0] a w) ?_ ?_
    · refine wp_block ?_
      have h := h.pick [1, 0, 2] (by decide) rfl
      refine c_loop (fun m44 a w => ∃ (x27 : Int), ∃ (x29 : List UInt8), ∃ (A30 : Option Addr), ∃ (c31 : Nat), ∃ (cs32 : List Value), ∃ (x34 : List UInt8), ∃ (k35 : List Value), xts_Sector_each_clo3_15_1_0_l0 Fu a2 a3b0 m44 x27 x29 x34 = some o25 ∧ r64 x27 ∧ reps ty8 S0 cs32 x29 ∧ reps ty8 S0 k35 x34 ∧ x34.length = 16 ∧ St 87 w0 (ownL ([] ++ [.sn S0])) [(2, .slice Aa2 a2.length ca2), (3, .func (.func 15) [.pointer (some ⟨ga3b0, 0, none⟩)].toArray [].toArray), (10, .slice A30 x29.length c31), (11, .pointer (some ⟨g24, 0, none⟩)), (12, .int .i64 x27)] [.row (.slice A30 x29.length c31) 5 1 x29.length cs32, .box g24 23 k35, .sn S0] a w) Fu ⟨0, (List.replicate n11 ((0 : UInt8) : UInt8)), A13, n11, cs14, x16, k19, hl26, (show r64 0 from ⟨by decide, by decide⟩), hq15, hq23, hl22, h.has (by exact ⟨rfl, rfl, rfl, rfl, rfl, trivial⟩)⟩ (fun m44 a w hI => ?_)
      obtain ⟨x27, x29, A30, c31, cs32, x34, k35, hl43, hr28, hq33, hs36, hl37, h⟩ := hI
      obtain _ | m44 := m44
      · rw [xts_Sector_each_clo3_15_1_0_l0] at hl43; cases hl43
      rw [xts_Sector_each_clo3_15_1_0_l0] at hl43
      refine wp_seq ?_
      refine c_rs ?_ -- region 6
      refine s_move h rfl _ rfl rfl (by decide) rfl (fun a h => ?_)
      refine s_move h rfl _ rfl rfl (by decide) rfl (fun a h => ?_)
      refine s_x h rfl rfl (by decide) (x_len h.k rfl Try.underlying22 rfl) (fun a h => ?_)
      refine s_x h rfl rfl (by decide) (x_bin h.k rfl rfl rfl ib_lss) (fun a h => ?_)
      refine l_end ?_
      refine c_cond h rfl (fun hb => ?_) (fun hb => ?_)
      · rw [if_pos (of_decide_eq_true hb)] at hl43
        refine wp_skip ?_
        refine e_thenN ?_
        refine wp_seq ?_
        refine wp_block ?_
        refine c_rs ?_ -- region 8
        refine s_alloc h rfl rfl rfl (by decide) zi_A16_uint8 rfl (fun a w g45 h => ?_)
        have h := h.parts (L' := [.box g45 23 (List.replicate 16 (.int .u8 0)), .row (.slice A30 x29.length c31) 5 1 x29.length cs32, .box g24 23 k35, .sn S0]) rfl
        refine l_end ?_
        refine wp_seq ?_
        -- region 9 draws
        obtain ⟨y46, h47, hl43⟩ := bsome hl43
        obtain ⟨x55, h56, hl43⟩ := bsome hl43
        refine d_start h (Mem _ _ _) 4 5 rfl (by kernel_rfl) (fun _ _ _ _ _ h => h) (fun _ h => h) (fun Q a w HE HN h HS => ?_)
        obtain ⟨hi48, hi49, hm50, hm51⟩ := bnd_some h47
        obtain ⟨n52, hn53⟩ : ∃ n, y46.2 - y46.1 = n := ⟨_, rfl⟩
        refine d_takeP h (fun _ => HS) HN 0 rfl (by kernel_rfl) (by kernel_rfl) (by kernel_rfl) (by decide) rfl rfl (by decide) (fun w' => x_viewB h.k rfl Try.underlying23 sz_uint8 rfl (bd_none (by omega)) (bd_none (by omega)) hm50 hm51 hn53) (fun a h => ?_)
        refine d_takeP h (fun _ => HS) HN 1 rfl (by kernel_rfl) (by kernel_rfl) (by kernel_rfl) (by decide) rfl rfl (by decide) (fun w' => x_move h.k _ rfl rfl) (fun a h => ?_)
        refine d_takeP h (fun _ => HS) HN 2 rfl (by kernel_rfl) (by kernel_rfl) (by kernel_rfl) (by decide) rfl rfl (by decide) (fun w' => x_move h.k _ rfl rfl) (fun a h => ?_)
        obtain ⟨m57, n58, hi59, hi60, hm61, hm62, hr63⟩ := sub_some h56
        have hs64 := slS.sub (hsa2) hm61 hm62 (Nat.le_trans hm62 (hsa2).1) (Nat.le_refl _) hr63
        refine d_takeP h (fun _ => HS) HN 3 rfl (by kernel_rfl) (by kernel_rfl) (by kernel_rfl) (by decide) rfl rfl (by decide) (fun w' => x_sliceE h.k rfl Try.underlying22 sz_uint8 rfl ca2 hr63 (bd_some rfl hi59) (bd_none (by omega)) (bd_none rfl) (by intro _; rfl) hm61 hm62 (Nat.le_trans hm62 (hsa2).1) (Nat.le_refl _)) (fun a h => ?_)
        refine d_alone 4 rfl (by kernel_rfl) (fun K hK => ?_)
        obtain ⟨_, _, vs65, hrd66, hrp67⟩ := id hs64
        refine q_copyB (T := ty8) (S := S0) (l := y46.1) (g := y46.2) h rfl rfl rfl (by decide) Try.underlying22 sz_uint8 rfl rfl 0 rfl rfl (show reps ty8 S0 (List.replicate 16 (.int .u8 0)) (List.replicate 16 ((0 : UInt8) : UInt8)) from repsRep1 (x := ((0 : UInt8) : UInt8)) rfl) hrp67 (hrd66 _ (h.m.snOK (i := 3) rfl)) rfl hn53 hm50 hm51 (show (List.replicate 16 ((0 : UInt8) : UInt8)).length = 16 from List.length_replicate) (fun a w cs68 n69 hq70 h => ?_)
        have hl71 : (cpy (List.replicate 16 ((0 : UInt8) : UInt8)) y46.1 y46.2 x55).length = 16 := (cpy_len _ hm50 (by have := hm51; have := (show (List.replicate 16 ((0 : UInt8) : UInt8)).length = 16 from List.length_replicate); omega)).trans (show (List.replicate 16 ((0 : UInt8) : UInt8)).length = 16 from List.length_replicate)
        refine hK _ _ (fun hne _ => absurd rfl hne) ?_
        clear hK
        refine d_done (by kernel_rfl) (HE _ _ ?_) _
        refine e_thenN ?_
        refine wp_seq ?_
        refine c_rs ?_ -- region 10
        refine s_move h rfl _ rfl rfl (by decide) rfl (fun a h => ?_)
        refine l_end ?_
        obtain ⟨o72, hl73, hl43⟩ := bsome hl43
        refine c_fin (fun a w => ∃ (x80 : List UInt8), ∃ (k81 : List Value), x80 = o72 ∧ reps ty8 S0 k81 x80 ∧ x80.length = 16 ∧ St 87 w0 (ownL ([] ++ [.sn S0])) [(2, .slice Aa2 a2.length ca2), (3, .func (.func 15) [.pointer (some ⟨ga3b0, 0, none⟩)].toArray [].toArray), (10, .slice A30 x29.length c31), (11, .pointer (some ⟨g24, 0, none⟩)), (12, .int .i64 x27), (13, .pointer (some ⟨g45, 0, none⟩))] [.row (.slice A30 x29.length c31) 5 1 x29.length cs32, .box g24 23 k35, .box g45 23 k81, .sn S0] a w) ?_ ?_
        · refine wp_block ?_
          have h := h.pick [1, 2, 0, 3] (by decide) rfl
          refine c_loop (fun m85 a w => ∃ (x74 : Int), ∃ (x76 : List UInt8), ∃ (k77 : List Value), xts_Sector_each_clo3_15_1_0_l1 Fu x34 m85 x74 x76 = some o72 ∧ r64 x74 ∧ reps ty8 S0 k77 x76 ∧ x76.length = 16 ∧ St 87 w0 (ownL ([] ++ [.sn S0])) [(2, .slice Aa2 a2.length ca2), (3, .func (.func 15) [.pointer (some ⟨ga3b0, 0, none⟩)].toArray [].toArray), (10, .slice A30 x29.length c31), (11, .pointer (some ⟨g24, 0, none⟩)), (12, .int .i64 x27), (13, .pointer (some ⟨g45, 0, none⟩)), (53, .int .i64 x74)] [.row (.slice A30 x29.length c31) 5 1 x29.length cs32, .box g24 23 k35, .box g45 23 k77, .sn S0] a w) Fu ⟨0, (cpy (List.replicate 16 ((0 : UInt8) : UInt8)) y46.1 y46.2 x55), cs68, hl73, (show r64 0 from ⟨by decide, by decide⟩), hq70, hl71, h.has (by exact ⟨rfl, rfl, rfl, rfl, rfl, rfl, rfl, trivial⟩)⟩ (fun m85 a w hI => ?_)
          obtain ⟨x74, x76, k77, hl84, hr75, hs78, hl79, h⟩ := hI
          obtain _ | m85 := m85
          · rw [xts_Sector_each_clo3_15_1_0_l1] at hl84; cases hl84
          rw [xts_Sector_each_clo3_15_1_0_l1] at hl84
          refine c_rs ?_ -- region 11
          refine s_x h rfl rfl (by decide) (x_bin h.k rfl rfl rfl ib_lss) (fun a h => ?_)
          refine l_end ?_
          refine c_cs h rfl (fun hb => ?_) (fun hb => ?_)
          · rw [if_pos (of_decide_eq_true hb)] at hl84
            refine wp_skip ?_
            refine e_thenN ?_
            refine wp_seq ?_
            refine wp_block ?_
            refine c_rs ?_ -- region 12
            refine s_move h rfl _ rfl rfl (by decide) rfl (fun a h => ?_)
            refine s_assign h rfl _ rfl rfl (by decide) rfl (fun a h => ?_)
            refine l_end ?_
            -- region 13 draws
            obtain ⟨m86, h87, hl84⟩ := bsome hl84
            obtain ⟨x90, h91, hl84⟩ := bsome hl84
            obtain ⟨m95, h96, hl84⟩ := bsome hl84
            obtain ⟨x99, h100, hl84⟩ := bsome hl84
            obtain ⟨m104, h105, hl84⟩ := bsome hl84
            refine d_start h (Mem _ _ _) 8 9 rfl (by kernel_rfl) (fun _ _ _ _ _ h => h) (fun _ h => h) (fun Q a w HE HN h HS => ?_)
            refine d_takeP h (fun _ => HS) HN 0 rfl (by kernel_rfl) (by kernel_rfl) (by kernel_rfl) (by decide) rfl rfl (by decide) (fun w' => x_move h.k _ rfl rfl) (fun a h => ?_)
            obtain ⟨hi88, hm89⟩ := ix_some h87
            refine d_takeP h (fun _ => HS) HN 1 rfl (by kernel_rfl) (by kernel_rfl) (by kernel_rfl) (by decide) rfl rfl (by decide) (fun w' => x_iaddrA h.k rfl Try.underlying23 sz_uint8 rfl rfl hi88 hm89 rfl) (fun a h => ?_)
            obtain ⟨u92, hv93, hu94⟩ := (hs78).cell rfl h91
            cases hu94
            refine d_take h HS HN 2 rfl (by kernel_rfl) (by kernel_rfl) (by kernel_rfl) (by kernel_rfl) (by kernel_rfl) rfl rfl (by decide) (fun w' hw => x_ld h.k rfl Try.underlying5 rfl rfl ((hw.cell (i := 2) rfl _).trans (by rw [Nat.zero_add, Nat.mul_one]; exact hv93))) (fun a h => ?_)
            refine d_takeP h (fun _ => HS) HN 3 rfl (by kernel_rfl) (by kernel_rfl) (by kernel_rfl) (by decide) rfl rfl (by decide) (fun w' => x_move h.k _ rfl rfl) (fun a h => ?_)
            obtain ⟨hi97, hm98⟩ := ix_some h96
            refine d_takeP h (fun _ => HS) HN 4 rfl (by kernel_rfl) (by kernel_rfl) (by kernel_rfl) (by decide) rfl rfl (by decide) (fun w' => x_iaddrA h.k rfl Try.underlying23 sz_uint8 rfl rfl hi97 hm98 rfl) (fun a h => ?_)
            obtain ⟨u101, hv102, hu103⟩ := (hs36).cell rfl h100
            cases hu103
            refine d_take h HS HN 5 rfl (by kernel_rfl) (by kernel_rfl) (by kernel_rfl) (by kernel_rfl) (by kernel_rfl) rfl rfl (by decide) (fun w' hw => x_ld h.k rfl Try.underlying5 rfl rfl ((hw.cell (i := 1) rfl _).trans (by rw [Nat.zero_add, Nat.mul_one]; exact hv102))) (fun a h => ?_)
            refine d_takeP h (fun _ => HS) HN 6 rfl (by kernel_rfl) (by kernel_rfl) (by kernel_rfl) (by decide) rfl rfl (by decide) (fun w' => x_bin h.k rfl rfl rfl (ib_xor (u8_xor_ x90 x99))) (fun a h => ?_)
            obtain ⟨hi106, hm107⟩ := ix_some h105
            refine d_takeP h (fun _ => HS) HN 7 rfl (by kernel_rfl) (by kernel_rfl) (by kernel_rfl) (by decide) rfl rfl (by decide) (fun w' => x_iaddrA h.k rfl Try.underlying23 sz_uint8 rfl rfl hi106 hm107 rfl) (fun a h => ?_)
            refine d_alone 8 rfl (by kernel_rfl) (fun K hK => ?_)
            refine q_setBox (T := ty8) (q := (x90 ^^^ x99)) h rfl rfl rfl sz_uint8 rfl rfl 2 rfl rfl hs78 rfl (by first | omega | (simp_all; done)) (fun a w cs108 hq109 h => ?_)
            have hl110 : (x76.set m104 (x90 ^^^ x99)).length = 16 := by rw [List.length_set]; exact hl79
            refine hK _ _ (fun hne _ => absurd rfl hne) ?_
            clear hK
            refine d_done (by kernel_rfl) (HE _ _ ?_) _
            refine e_blkN ?_
            refine e_thenN ?_
            refine c_r ?_ -- region 14
            refine s_x h rfl rfl (by decide) (x_bin h.k rfl rfl rfl (ib_add rfl)) (fun a h => ?_)
            refine s_move h rfl _ rfl rfl (by decide) rfl (fun a h => ?_)
            refine l_nil ?_
            exact e_thenN ⟨m85, Nat.lt_succ_self _, w64 (x74 + 1), (x76.set m104 (x90 ^^^ x99)), cs108, hl84, (w64_r _), hq109, hl110, h.has (by exact ⟨rfl, rfl, rfl, rfl, rfl, rfl, rfl, trivial⟩)⟩
          · rw [if_neg (of_decide_eq_false hb)] at hl84
            refine wp_exit ?_
            refine e_thenX ?_
            refine e_thenX ?_
            refine e_blkX ?_
            refine e_thenN ?_
            exact ⟨x76, k77, (Option.some.inj hl84), hs78, hl79, h.has (by exact ⟨rfl, rfl, rfl, rfl, rfl, rfl, trivial⟩)⟩
        · rintro a w ⟨x80, k81, rfl, hs82, hl83, h⟩
          refine e_thenN ?_
          refine c_rs ?_ -- region 15
          refine s_move h rfl _ rfl rfl (by decide) rfl (fun a h => ?_)
          refine s_x h rfl rfl (by decide) (x_ldR h.k rfl ag_A16_uint8 rfl k81 ((hs82).len.trans (by rw [hl83]; rfl)) (h.m.range0 (i := 2) rfl)) (fun a h => ?_)
          obtain ⟨x111, h112, hl43⟩ := bsome hl43
          have hX := aes_Cipher_Encrypt_ok Fu (S0 := snapAll _) ga3b0 a3b0 (hpa3b0.mono (h.m.leAll (i := 3) rfl)) k81 x80 ((tyA 16 ty8).mono (h.m.leAll (i := 3) rfl) (show (tyA 16 ty8).rep S0 k81 x80 from ⟨hs82, hl83⟩)) _ h112 _ h.startAll
          refine q_callXV hX h rfl rfl rfl (by decide) rfl Try.func15 rfl rfl [.agg k81.toArray] rfl rfl (fun a w v L1 S1 hR hb1 h => ?_)
          obtain ⟨k114, rfl, rfl, hv115, _⟩ := hR
          obtain ⟨hs116, hl117⟩ := hv115
          have hq118 := hs116.fl (S' := S0) fl_8
          refine s_stW h rfl rfl rfl ag_A16_uint8 rfl (es := k114) rfl ((hq118).len.trans (by rw [hl117]; rfl)) (hq118).one 2 rfl ((hs82).len.trans (by rw [hl83]; rfl)) (fun a w h => ?_)
          refine l_end ?_
          refine wp_seq ?_
          refine c_rs ?_ -- region 16
          refine s_x h rfl rfl (by decide) (x_ldR h.k rfl ag_A16_uint8 rfl k114 ((hq118).len.trans (by rw [hl117]; rfl)) (h.m.range0 (i := 2) rfl)) (fun a h => ?_)
          refine s_move h rfl _ rfl rfl (by decide) rfl (fun a h => ?_)
          refine l_end ?_
          obtain ⟨o119, hl120, hl43⟩ := bsome hl43
          refine c_fin (fun a w => ∃ (x128 : List UInt8), ∃ (A129 : Option Addr), ∃ (c130 : Nat), ∃ (cs131 : List Value), x128 = o119 ∧ reps ty8 S0 cs131 x128 ∧ St 87 w0 (ownL ([] ++ [.sn S0])) [(2, .slice Aa2 a2.length ca2), (3, .func (.func 15) [.pointer (some ⟨ga3b0, 0, none⟩)].toArray [].toArray), (10, .slice A129 x128.length c130), (11, .pointer (some ⟨g24, 0, none⟩)), (12, .int .i64 x27)] [.row (.slice A129 x128.length c130) 5 1 x128.length cs131, .box g24 23 k35, .sn S0] a w) ?_ ?_
          · refine wp_block ?_
            have h := h.pick [0, 1, 3] (by decide) rfl
            refine c_loop (fun m134 a w => ∃ (x121 : Int), ∃ (x123 : List UInt8), ∃ (A124 : Option Addr), ∃ (c125 : Nat), ∃ (cs126 : List Value), xts_Sector_each_clo3_15_1_0_l2 Fu x27 x34 x111 m134 x121 x123 = some o119 ∧ r64 x121 ∧ reps ty8 S0 cs126 x123 ∧ St 87 w0 (ownL ([] ++ [.sn S0])) [(2, .slice Aa2 a2.length ca2), (3, .func (.func 15) [.pointer (some ⟨ga3b0, 0, none⟩)].toArray [].toArray), (10, .slice A124 x123.length c125), (11, .pointer (some ⟨g24, 0, none⟩)), (12, .int .i64 x27), (68, .agg k114.toArray), (69, .int .i64 x121)] [.row (.slice A124 x123.length c125) 5 1 x123.length cs126, .box g24 23 k35, .sn S0] a w) Fu ⟨0, x29, A30, c31, cs32, hl120, (show r64 0 from ⟨by decide, by decide⟩), hq33, h.has (by exact ⟨rfl, rfl, rfl, rfl, rfl, rfl, rfl, trivial⟩)⟩ (fun m134 a w hI => ?_)
            obtain ⟨x121, x123, A124, c125, cs126, hl133, hr122, hq127, h⟩ := hI
            obtain _ | m134 := m134
            · rw [xts_Sector_each_clo3_15_1_0_l2] at hl133; cases hl133
            rw [xts_Sector_each_clo3_15_1_0_l2] at hl133
            refine c_rs ?_ -- region 17
            refine s_x h rfl rfl (by decide) (x_bin h.k rfl rfl rfl ib_lss) (fun a h => ?_)
            refine l_end ?_
            refine c_cs h rfl (fun hb => ?_) (fun hb => ?_)
            · rw [if_pos (of_decide_eq_true hb)] at hl133
              refine wp_skip ?_
              refine e_thenN ?_
              refine wp_seq ?_
              refine wp_block ?_
              refine c_rs ?_ -- region 18
              refine s_move h rfl _ rfl rfl (by decide) rfl (fun a h => ?_)
              obtain ⟨x136, h137, hl133⟩ := bsome hl133
              obtain ⟨m135, hi138, hm139, hx140⟩ := idx_some h137
              obtain ⟨u141, hv142, hu143⟩ := (hq118).cell rfl hx140
              cases hu143
              refine s_x h rfl rfl (by decide) (x_index h.k rfl Try.underlying23 Try.underlying5 rfl sz_uint8 rfl rfl hi138 (Nat.lt_of_lt_of_eq hm139 hl117) (by simpa using hv142)) (fun a h => ?_)
              refine s_assign h rfl _ rfl rfl (by decide) rfl (fun a h => ?_)
              refine s_assign h rfl _ rfl rfl (by decide) rfl (fun a h => ?_)
              refine l_end ?_
              refine c_r ?_ -- region 19
              refine s_move h rfl _ rfl rfl (by decide) rfl (fun a h => ?_)
              refine s_move h rfl _ rfl rfl (by decide) rfl (fun a h => ?_)
              refine s_move h rfl _ rfl rfl (by decide) rfl (fun a h => ?_)
              refine s_x h rfl rfl (by decide) (x_bin h.k rfl rfl rfl (ib_add rfl)) (fun a h => ?_)
              refine s_move h rfl _ rfl rfl (by decide) rfl (fun a h => ?_)
              refine s_move h rfl _ rfl rfl (by decide) rfl (fun a h => ?_)
              obtain ⟨m144, h145, hl133⟩ := bsome hl133
              obtain ⟨hi146, hm147⟩ := ix_some h145
              refine s_x h rfl rfl (by decide) (x_iaddrA h.k rfl Try.underlying23 sz_uint8 rfl rfl hi146 hm147 rfl) (fun a h => ?_)
              obtain ⟨x148, h149, hl133⟩ := bsome hl133
              obtain ⟨u150, hv151, hu152⟩ := (hs36).cell rfl h149
              cases hu152
              refine s_x h rfl rfl (by decide) (x_ld h.k rfl Try.underlying5 rfl rfl ((h.m.cell (i := 1) rfl _).trans (by rw [Nat.zero_add, Nat.mul_one]; exact hv151))) (fun a h => ?_)
              refine s_x h rfl rfl (by decide) (x_bin h.k rfl rfl rfl (ib_xor (u8_xor_ x136 x148))) (fun a h => ?_)
              obtain ⟨m153, h154, hl133⟩ := bsome hl133
              obtain ⟨hi155, hm156⟩ := ix_some h154
              obtain ⟨g158, hA157⟩ := h.m.rowHead (i := 0) rfl (Nat.lt_of_le_of_lt (Nat.zero_le _) hm156)
              refine s_x h rfl rfl (by decide) (x_iaddrE h.k rfl Try.underlying22 sz_uint8 hA157 rfl rfl hi155 hm156) (fun a h => ?_)
              refine q_setRow (T := ty8) (q := (x136 ^^^ x148)) h rfl rfl rfl sz_uint8 hA157 rfl rfl 0 rfl rfl hq127 rfl (by first | exact hm156 | simpa using hm156) (fun a w cs159 hq160 h => ?_)
              have hl161 : x123.length = (x123.set m153 (x136 ^^^ x148)).length := by simp only [List.length_set]
              rw [hl161] at h
              refine l_nil ?_
              refine e_blkN ?_
              refine e_thenN ?_
              refine c_r ?_ -- region 20
              refine s_x h rfl rfl (by decide) (x_bin h.k rfl rfl rfl (ib_add rfl)) (fun a h => ?_)
              refine s_move h rfl _ rfl rfl (by decide) rfl (fun a h => ?_)
              refine l_nil ?_
              exact e_thenN ⟨m134, Nat.lt_succ_self _, w64 (x121 + 1), (x123.set m153 (x136 ^^^ x148)), A124, c125, cs159, hl133, (w64_r _), hq160, h.has (by exact ⟨rfl, rfl, rfl, rfl, rfl, rfl, rfl, trivial⟩)⟩
            · rw [if_neg (of_decide_eq_false hb)] at hl133
              refine wp_exit ?_
              refine e_thenX ?_
              refine e_thenX ?_
              refine e_blkX ?_
              refine e_thenN ?_
              exact ⟨x123, A124, c125, cs126, (Option.some.inj hl133), hq127, h.has (by exact ⟨rfl, rfl, rfl, rfl, rfl, trivial⟩)⟩
          · rintro a w ⟨x128, A129, c130, cs131, rfl, hq132, h⟩
            refine e_thenN ?_
            refine c_r ?_ -- region 21
            refine s_x h rfl rfl (by decide) (x_ldR h.k rfl ag_A16_uint8 rfl k35 ((hs36).len.trans (by rw [hl37]; rfl)) (h.m.range0 (i := 1) rfl)) (fun a h => ?_)
            obtain ⟨x162, h163, hl43⟩ := bsome hl43
            have hX := gf_Double_ok Fu (S0 := snapAll _) k35 x34 ((tyA 16 ty8).mono (h.m.leAll (i := 2) rfl) (show (tyA 16 ty8).rep S0 k35 x34 from ⟨hs36, hl37⟩)) _ h163 _ h.startAll
            refine q_callX hX h rfl rfl rfl (by decide) Try.func91 rfl rfl rfl (fun a w v L1 S1 hR hb1 h => ?_)
            obtain ⟨k165, rfl, rfl, hv166, _⟩ := hR
            obtain ⟨hs167, hl168⟩ := hv166
            have hq169 := hs167.fl (S' := S0) fl_8
            refine s_stW h rfl rfl rfl ag_A16_uint8 rfl (es := k165) rfl ((hq169).len.trans (by rw [hl168]; rfl)) (hq169).one 1 rfl ((hs36).len.trans (by rw [hl37]; rfl)) (fun a w h => ?_)
            refine l_nil ?_
            refine e_blkN ?_
            refine e_thenN ?_
            refine c_r ?_ -- region 7
            refine s_move h rfl _ rfl rfl (by decide) rfl (fun a h => ?_)
            refine s_x h rfl rfl (by decide) (x_bin h.k rfl rfl rfl (ib_add rfl)) (fun a h => ?_)
            refine s_assign h rfl _ rfl rfl (by decide) rfl (fun a h => ?_)
            refine l_nil ?_
            exact e_thenN ⟨m44, Nat.lt_succ_self _, w64 (x27 + 16), x128, A129, c130, cs131, x162, k165, hl43, (w64_r _), hq132, hq169, hl168, h.has (by exact ⟨rfl, rfl, rfl, rfl, rfl, trivial⟩)⟩
      · rw [if_neg (of_decide_eq_false hb)] at hl43
        refine wp_exit ?_
        refine e_thenX ?_
        refine e_thenX ?_
        refine e_blkX ?_
        refine e_thenN ?_
        have h := h.pick [0, 2] (by decide) rfl
        exact ⟨x29, A30, c31, cs32, (Option.some.inj hl43), hq33, h.has (by exact ⟨rfl, trivial⟩)⟩
    · rintro a w ⟨x38, A39, c40, cs41, rfl, hq42, h⟩
      refine e_thenN ?_
      refine c_rs ?_ -- region 22
      refine s_move h rfl _ rfl rfl (by decide) rfl (fun a h => ?_)
      refine s_assign h rfl _ rfl rfl (by decide) rfl (fun a h => ?_)
      refine s_assign h rfl _ rfl rfl (by decide) rfl (fun a h => ?_)
      refine l_end ?_
      refine wp_ret ?_
      obtain rfl := Option.some.inj hf
      exact r_ret2 h rfl (rv_tmp h rfl) (rv_tmp h rfl) ⟨_, [.row (.slice A39 x38.length c40) 5 1 x38.length cs41], _, rfl, ⟨A39, c40, cs41, rfl, rfl, hq42, (show r64 0 from ⟨by decide, by decide⟩), trivial⟩, rfl, (Up.refl _ _ _), h.m⟩
def xts_Sector_Encrypt (Fu : Nat) (a0 : ((List UInt32) × (List UInt8) × (List UInt8)) × ((List UInt32) × (List UInt8) × (List UInt8))) (a1 : Int) (a2 : List UInt8) : Option ((List UInt8) × Int) :=
  (xts_Sector_is Fu a0).bind fun x1 => (xts_Sector_each_clo3_15_1_0 Fu a0 a1 a2 a0.1).bind fun x12 => some x12
set_option maxRecDepth 100000 in
set_option maxHeartbeats 2000000 in
theorem xts_Sector_Encrypt_ok (Fu : Nat) {S0 : Snap} (ga0 : Nat) (a0 : ((List UInt32) × (List UInt8) × (List UInt8)) × ((List UInt32) × (List UInt8) × (List UInt8))) (hpa0 : ptS (tyP (tyPt (tyP (tyL ty32) (tyP (tyA 256 ty8) (tyA 256 ty8)))) (tyPt (tyP (tyL ty32) (tyP (tyA 256 ty8) (tyA 256 ty8))))) S0 ga0 a0) (a1 : Int) (hra1 : r64 a1) (Aa2 : Option Addr) (ca2 : Nat) (a2 : List UInt8) (hsa2 : slS ty8 S0 Aa2 ca2 a2) (r : (List UInt8) × Int) (hf : xts_Sector_Encrypt Fu a0 a1 a2 = some r) (w0 : World) (hm : Mem w0 (ownL ([] ++ [.sn S0])) ([] ++ [.sn S0]) w0) :
    Calls Try.prog 31 #[.pointer (some ⟨ga0, 0, none⟩), .int .i64 a1, .slice Aa2 a2.length ca2] w0 (Ret w0 S0 [] (fun v L1 S1 => ∃ (A25 : Option Addr), ∃ (c26 : Nat), v = .tuple #[.slice A25 r.1.length c26, .int .i64 r.2] ∧ L1 = [] ∧ slS ty8 S1 A25 c26 r.1 ∧ r64 r.2 ∧ True)) := by
  unfold xts_Sector_Encrypt at hf
  refine c_enterM Try.func31 rfl 22 rfl (by simp) _ hm _ rfl (fun a h => ?_)
  refine c_rs ?_ -- region 0
  refine s_assign h rfl _ rfl rfl (by decide) rfl (fun a h => ?_)
  refine s_assign h rfl _ rfl rfl (by decide) rfl (fun a h => ?_)
  refine l_end ?_
  refine wp_seq ?_
  refine c_rs ?_ -- region 1
  refine s_move h rfl _ rfl rfl (by decide) rfl (fun a h => ?_)
  obtain ⟨x1, h2, hf⟩ := bsome hf
  have hX := xts_Sector_is_ok Fu (S0 := snapAll _) ga0 a0 (hpa0.mono (h.m.leAll (i := 0) rfl)) _ h2 _ h.startAll
  refine q_callX hX h rfl rfl rfl (by decide) Try.func63 rfl rfl rfl (fun a w v L1 S1 hR hb1 h => ?_)
  obtain ⟨rfl, rfl, _⟩ := hR
  obtain rfl : x1 = true := by unfold xts_Sector_is at h2; exact (Option.some.inj h2).symm
  refine s_x h rfl rfl (by decide) (x_not h.k rfl rfl) (fun a h => ?_)
  refine l_end ?_
  refine c_cond h rfl (fun hb => ?_) (fun hb => ?_)
  · exact absurd hb (by decide)
  · refine wp_skip ?_
    refine e_thenN ?_
    refine c_rs ?_ -- region 3
    refine s_move h rfl _ rfl rfl (by decide) rfl (fun a h => ?_)
    refine s_move h rfl _ rfl rfl (by decide) rfl (fun a h => ?_)
    refine s_move h rfl _ rfl rfl (by decide) rfl (fun a h => ?_)
    refine s_move h rfl _ rfl rfl (by decide) rfl (fun a h => ?_)
    obtain ⟨k4, hc5, ⟨k6, k7, rfl, ⟨g8, rfl, hp9⟩, ⟨g10, rfl, hp11⟩⟩⟩ := id hpa0
    refine s_x h rfl rfl (by decide) (x_nil h.k rfl rfl) (fun a h => ?_)
    refine s_x h rfl rfl (by decide) (x_faddr h.k rfl Try.underlying97 rfl sz_Paes_Cipher rfl) (fun a h => ?_)
    refine s_x h rfl rfl (by decide) (x_ld h.k rfl Try.underlying25 rfl rfl (hc5 _ (h.m.snOK (i := 0) rfl) 0 _ rfl)) (fun a h => ?_)
    refine s_makeFunc h rfl rfl rfl (by decide) (us := [.pointer (some ⟨g8, 0, none⟩)]) (vs := []) rfl rfl (fun a h => ?_)
    obtain ⟨x12, h13, hf⟩ := bsome hf
    have hX := xts_Sector_each_clo3_15_1_0_ok Fu (S0 := snapAll _) ga0 a0 (hpa0.mono (h.m.leAll (i := 0) rfl)) a1 hra1 Aa2 ca2 a2 (hsa2.mono (h.m.leAll (i := 0) rfl)) g8 a0.1 (hp9.mono (h.m.leAll (i := 0) rfl)) _ h13 _ h.startAll
    refine q_callX hX h rfl rfl rfl (by decide) Try.func64 rfl rfl rfl (fun a w v L1 S1 hR hb1 h => ?_)
    obtain ⟨A15, c16, cs17, rfl, rfl, hq18, hr19, _⟩ := hR
    have hq20 := hq18.fl (S' := S0) fl_8
    refine s_x h rfl rfl (by decide) (x_ext h.k rfl rfl rfl) (fun a h => ?_)
    refine s_x h rfl rfl (by decide) (x_ext h.k rfl rfl rfl) (fun a h => ?_)
    refine s_assign h rfl _ rfl rfl (by decide) rfl (fun a h => ?_)
    refine s_assign h rfl _ rfl rfl (by decide) rfl (fun a h => ?_)
    refine l_end ?_
    refine wp_ret ?_
    rw [← Option.some.inj hf]
    obtain ⟨S21, le22, up23, hs24, h⟩ := q_freeze (T := ty8) h (Up.refl _ _ _) hq20
    exact r_ret2 h rfl (rv_tmp h rfl) (rv_tmp h rfl) ⟨_, [], _, rfl, ⟨A15, c16, rfl, rfl, hs24, hr19, trivial⟩, rfl, up23, h.m⟩
def xts_Sector_Encrypt_nil0 (Fu : Nat) (a1 : Int) (a2 : List UInt8) : Option ((List UInt8) × Int) :=
  (xts_Sector_is_nil0 Fu).bind fun x1 => some ([], 1)
set_option maxRecDepth 100000 in
set_option maxHeartbeats 2000000 in
theorem xts_Sector_Encrypt_nil0_ok (Fu : Nat) {S0 : Snap} (a1 : Int) (hra1 : r64 a1) (Aa2 : Option Addr) (ca2 : Nat) (a2 : List UInt8) (hsa2 : slS ty8 S0 Aa2 ca2 a2) (r : (List UInt8) × Int) (hf : xts_Sector_Encrypt_nil0 Fu a1 a2 = some r) (w0 : World) (hm : Mem w0 (ownL ([] ++ [.sn S0])) ([] ++ [.sn S0]) w0) :
    Calls Try.prog 31 #[.pointer none, .int .i64 a1, .slice Aa2 a2.length ca2] w0 (Ret w0 S0 [] (fun v L1 S1 => ∃ (A4 : Option Addr), ∃ (c5 : Nat), v = .tuple #[.slice A4 r.1.length c5, .int .i64 r.2] ∧ L1 = [] ∧ slS ty8 S1 A4 c5 r.1 ∧ r64 r.2 ∧ True)) := by
  unfold xts_Sector_Encrypt_nil0 at hf
  refine c_enterM Try.func31 rfl 22 rfl (by simp) _ hm _ rfl (fun a h => ?_)
  refine c_rs ?_ -- region 0
  refine s_assign h rfl _ rfl rfl (by decide) rfl (fun a h => ?_)
  refine s_assign h rfl _ rfl rfl (by decide) rfl (fun a h => ?_)
  refine l_end ?_
  refine wp_seq ?_
  refine c_rs ?_ -- region 1
  refine s_move h rfl _ rfl rfl (by decide) rfl (fun a h => ?_)
  obtain ⟨x1, h2, hf⟩ := bsome hf
  have hX := xts_Sector_is_nil0_ok Fu (S0 := snapAll _)  _ h2 _ h.startAll
  refine q_callX hX h rfl rfl rfl (by decide) Try.func63 rfl rfl rfl (fun a w v L1 S1 hR hb1 h => ?_)
  obtain ⟨rfl, rfl, _⟩ := hR
  obtain rfl : x1 = false := by unfold xts_Sector_is_nil0 at h2; exact (Option.some.inj h2).symm
  refine s_x h rfl rfl (by decide) (x_not h.k rfl rfl) (fun a h => ?_)
  refine l_end ?_
  refine c_cond h rfl (fun hb => ?_) (fun hb => ?_)
  · refine c_rs ?_ -- region 2
    refine s_assign h rfl _ rfl rfl (by decide) rfl (fun a h => ?_)
    refine s_assign h rfl _ rfl rfl (by decide) rfl (fun a h => ?_)
    refine l_end ?_
    refine wp_ret ?_
    refine e_thenR ?_
    obtain rfl := Option.some.inj hf
    exact r_ret2 h rfl (rv_tmp h rfl) (rv_tmp h rfl) ⟨_, [], _, rfl, ⟨none, 0, rfl, rfl, (slS.nil ty8 S0), (show r64 1 from ⟨by decide, by decide⟩), trivial⟩, rfl, (Up.refl _ _ _), h.m⟩
  · exact absurd hb (by decide)
def xts_Sector_each_clo3_18_1_0_l1 (Fu : Nat) (x34 : List UInt8) : Nat → Int → (List UInt8) → Option ((List UInt8))
  | 0, _, _ => none
  | k + 1, x74, x76 => if x74 < 16 then ((ix 16 x74).bind fun m86 => (x76[m86]?).bind fun x90 => (ix 16 x74).bind fun m95 => (x34[m95]?).bind fun x99 => (ix 16 x74).bind fun m104 => xts_Sector_each_clo3_18_1_0_l1 Fu x34 k (w64 (x74 + 1)) (x76.set m104 (x90 ^^^ x99))) else (some x76)
def xts_Sector_each_clo3_18_1_0_l2 (Fu : Nat) (x27 : Int) (x34 : List UInt8) (x111 : (List UInt8)) : Nat → Int → (List UInt8) → Option ((List UInt8))
  | 0, _, _ => none
  | k + 1, x121, x123 => if x121 < 16 then ((idx x111 x121).bind fun x136 => (ix 16 x121).bind fun m144 => (x34[m144]?).bind fun x148 => (ix x123.length (w64 (x27 + x121))).bind fun m153 => xts_Sector_each_clo3_18_1_0_l2 Fu x27 x34 x111 k (w64 (x121 + 1)) (x123.set m153 (x136 ^^^ x148))) else (some x123)
def xts_Sector_each_clo3_18_1_0_l0 (Fu : Nat) (a2 : List UInt8) (a3b0 : (List UInt32) × (List UInt8) × (List UInt8)) : Nat → Int → (List UInt8) → (List UInt8) → Option ((List UInt8))
  | 0, _, _, _ => none
  | k + 1, x27, x29, x34 => if x27 < (a2.length : Int) then ((bnd 16 0 (16 : Int)).bind fun y46 => (sub a2 x27 (a2.length : Int)).bind fun x55 => (xts_Sector_each_clo3_18_1_0_l1 Fu x34 Fu 0 (cpy (List.replicate 16 ((0 : UInt8) : UInt8)) y46.1 y46.2 x55)).bind fun x80 => (aes_Cipher_Decrypt Fu a3b0 x80).bind fun x111 => (xts_Sector_each_clo3_18_1_0_l2 Fu x27 x34 x111 Fu 0 x29).bind fun x128 => (gf_Double Fu x34).bind fun x162 => xts_Sector_each_clo3_18_1_0_l0 Fu a2 a3b0 k (w64 (x27 + 16)) x128 x162) else (some x29)
def xts_Sector_each_clo3_18_1_0 (Fu : Nat) (a0 : ((List UInt32) × (List UInt8) × (List UInt8)) × ((List UInt32) × (List UInt8) × (List UInt8))) (a1 : Int) (a2 : List UInt8) (a3b0 : (List UInt32) × (List UInt8) × (List UInt8)) : Option ((List UInt8) × Int) :=
  (xts_may Fu a1).bind fun x1 => if ((((!x1) || (decide ((a2.length : Int) = 0))) || (decide (Int.tmod (a2.length : Int) 16 ≠ 0))) || (decide (4096 < (a2.length : Int)))) = true then (some ([], 2)) else ((mkN 1 (a2.length : Int)).bind fun n11 => (xts_Sector_first Fu a0 a1).bind fun x16 => (xts_Sector_each_clo3_18_1_0_l0 Fu a2 a3b0 Fu 0 (List.replicate n11 ((0 : UInt8) : UInt8)) x16).bind fun x38 => some (x38, 0))
set_option maxRecDepth 100000 in
set_option maxHeartbeats 2000000 in
theorem xts_Sector_each_clo3_18_1_0_ok (Fu : Nat) {S0 : Snap} (ga0 : Nat) (a0 : ((List UInt32) × (List UInt8) × (List UInt8)) × ((List UInt32) × (List UInt8) × (List UInt8))) (hpa0 : ptS (tyP (tyPt (tyP (tyL ty32) (tyP (tyA 256 ty8) (tyA 256 ty8)))) (tyPt (tyP (tyL ty32) (tyP (tyA 256 ty8) (tyA 256 ty8))))) S0 ga0 a0) (a1 : Int) (hra1 : r64 a1) (Aa2 : Option Addr) (ca2 : Nat) (a2 : List UInt8) (hsa2 : slS ty8 S0 Aa2 ca2 a2) (ga3b0 : Nat) (a3b0 : (List UInt32) × (List UInt8) × (List UInt8)) (hpa3b0 : ptS (tyP (tyL ty32) (tyP (tyA 256 ty8) (tyA 256 ty8))) S0 ga3b0 a3b0) (r : (List UInt8) × Int) (hf : xts_Sector_each_clo3_18_1_0 Fu a0 a1 a2 a3b0 = some r) (w0 : World) (hm : Mem w0 (ownL ([] ++ [.sn S0])) ([] ++ [.sn S0]) w0) :
    Calls Try.prog 64 #[.pointer (some ⟨ga0, 0, none⟩), .int .i64 a1, .slice Aa2 a2.length ca2, .func (.func 18) [.pointer (some ⟨ga3b0, 0, none⟩)].toArray [].toArray] w0 (Ret w0 S0 [] (fun v L1 S1 => ∃ (A173 : Option Addr), ∃ (c174 : Nat), ∃ (cs175 : List Value), v = .tuple #[.slice A173 r.1.length c174, .int .i64 r.2] ∧ L1 = [.row (.slice A173 r.1.length c174) 5 1 r.1.length cs175] ∧ reps ty8 S1 cs175 r.1 ∧ r64 r.2 ∧ True)) := by
  unfold xts_Sector_each_clo3_18_1_0 at hf
  refine c_enterM Try.func64 rfl 87 rfl (by simp) _ hm _ rfl (fun a h => ?_)
  refine c_rs ?_ -- region 0
  refine s_assign h rfl _ rfl rfl (by decide) rfl (fun a h => ?_)
  refine s_assign h rfl _ rfl rfl (by decide) rfl (fun a h => ?_)
  refine l_end ?_
  refine wp_seq ?_
  refine c_rs ?_ -- region 1
  refine s_move h rfl _ rfl rfl (by decide) rfl (fun a h => ?_)
  obtain ⟨x1, h2, hf⟩ := bsome hf
  have hX := xts_may_ok Fu (S0 := snapAll _) a1 hra1 _ h2 _ h.startAll
  refine q_callX hX h rfl rfl rfl (by decide) Try.func65 rfl rfl rfl (fun a w v L1 S1 hR hb1 h => ?_)
  obtain ⟨rfl, rfl, _⟩ := hR
  refine s_x h rfl rfl (by decide) (x_not h.k rfl rfl) (fun a h => ?_)
  refine s_move h rfl _ rfl rfl (by decide) rfl (fun a h => ?_)
  refine q_grp h 4 (t := 20) 24 ((!x1) || (decide ((a2.length : Int) = 0))) rfl (fun hB3 => ?_) (fun hB3 => ?_) (fun a w h => ?_)
  · refine g_no h rfl rfl rfl rfl hB3 rfl (by decide) (fun a h => ?_)
    refine g_no h rfl rfl rfl rfl hB3 rfl (by decide) (fun a h => ?_)
    refine g_no h rfl rfl rfl rfl hB3 rfl (by decide) (fun a h => ?_)
    refine s_x h rfl rfl (by decide) (x_pick (u' := undef) h.k rfl rfl (fun _ => rfl) (fun hh => absurd (hB3.symm.trans hh) (by decide))) (fun a h => ?_)
    exact (h.mid 3 rfl).val (by first | rfl | (rw [hB3]; first | rfl | simp))
  · refine g_yes h rfl rfl rfl rfl hB3 ?_
    refine s_move h rfl _ rfl rfl (by decide) rfl (fun a h => ?_)
    refine g_yes h rfl rfl rfl rfl hB3 ?_
    refine s_x h rfl rfl (by decide) (x_len h.k rfl Try.underlying22 rfl) (fun a h => ?_)
    refine g_yes h rfl rfl rfl rfl hB3 ?_
    refine s_x h rfl rfl (by decide) (x_bin h.k rfl rfl rfl ib_eql) (fun a h => ?_)
    refine s_x h rfl rfl (by decide) (x_pick (u' := undef) h.k rfl rfl (fun hh => absurd (hB3.symm.trans hh) (by decide)) (fun _ => rfl)) (fun a h => ?_)
    exact (h.mid 3 rfl).val (by first | rfl | (rw [hB3]; first | rfl | simp))
  refine s_move h rfl _ rfl rfl (by decide) rfl (fun a h => ?_)
  refine q_grp h 5 (t := 25) 30 (((!x1) || (decide ((a2.length : Int) = 0))) || (decide (Int.tmod (a2.length : Int) 16 ≠ 0))) rfl (fun hB8 => ?_) (fun hB8 => ?_) (fun a w h => ?_)
  · refine g_no h rfl rfl rfl rfl hB8 rfl (by decide) (fun a h => ?_)
    refine g_no h rfl rfl rfl rfl hB8 rfl (by decide) (fun a h => ?_)
    refine g_no h rfl rfl rfl rfl hB8 rfl (by decide) (fun a h => ?_)
    refine g_no h rfl rfl rfl rfl hB8 rfl (by decide) (fun a h => ?_)
    refine s_x h rfl rfl (by decide) (x_pick (u' := undef) h.k rfl rfl (fun _ => rfl) (fun hh => absurd (hB8.symm.trans hh) (by decide))) (fun a h => ?_)
    exact (h.mid 4 rfl).val (by first | rfl | (rw [hB8]; first | rfl | simp))
  · refine g_yes h rfl rfl rfl rfl hB8 ?_
    refine s_move h rfl _ rfl rfl (by decide) rfl (fun a h => ?_)
    refine g_yes h rfl rfl rfl rfl hB8 ?_
    refine s_x h rfl rfl (by decide) (x_len h.k rfl Try.underlying22 rfl) (fun a h => ?_)
    refine g_yes h rfl rfl rfl rfl hB8 ?_
    refine s_x h rfl rfl (by decide) (x_bin h.k rfl rfl rfl (ib_remw (by decide))) (fun a h => ?_)
    refine g_yes h rfl rfl rfl rfl hB8 ?_
    refine s_x h rfl rfl (by decide) (x_bin h.k rfl rfl rfl ib_neq) (fun a h => ?_)
    refine s_x h rfl rfl (by decide) (x_pick (u' := undef) h.k rfl rfl (fun hh => absurd (hB8.symm.trans hh) (by decide)) (fun _ => rfl)) (fun a h => ?_)
    exact (h.mid 4 rfl).val (by first | rfl | (rw [hB8]; first | rfl | simp))
  refine s_move h rfl _ rfl rfl (by decide) rfl (fun a h => ?_)
  refine q_grp h 4 (t := 31) 35 ((((!x1) || (decide ((a2.length : Int) = 0))) || (decide (Int.tmod (a2.length : Int) 16 ≠ 0))) || (decide (4096 < (a2.length : Int)))) rfl (fun hB14 => ?_) (fun hB14 => ?_) (fun a w h => ?_)
  · refine g_no h rfl rfl rfl rfl hB14 rfl (by decide) (fun a h => ?_)
    refine g_no h rfl rfl rfl rfl hB14 rfl (by decide) (fun a h => ?_)
    refine g_no h rfl rfl rfl rfl hB14 rfl (by decide) (fun a h => ?_)
    refine s_x h rfl rfl (by decide) (x_pick (u' := undef) h.k rfl rfl (fun _ => rfl) (fun hh => absurd (hB14.symm.trans hh) (by decide))) (fun a h => ?_)
    exact (h.mid 3 rfl).val (by first | rfl | (rw [hB14]; first | rfl | simp))
  · refine g_yes h rfl rfl rfl rfl hB14 ?_
    refine s_move h rfl _ rfl rfl (by decide) rfl (fun a h => ?_)
    refine g_yes h rfl rfl rfl rfl hB14 ?_
    refine s_x h rfl rfl (by decide) (x_len h.k rfl Try.underlying22 rfl) (fun a h => ?_)
    refine g_yes h rfl rfl rfl rfl hB14 ?_
    refine s_x h rfl rfl (by decide) (x_bin h.k rfl rfl rfl ib_gtr) (fun a h => ?_)
    refine s_x h rfl rfl (by decide) (x_pick (u' := undef) h.k rfl rfl (fun hh => absurd (hB14.symm.trans hh) (by decide)) (fun _ => rfl)) (fun a h => ?_)
    exact (h.mid 3 rfl).val (by first | rfl | (rw [hB14]; first | rfl | simp))
  refine l_end ?_
  refine c_cond h rfl (fun hb => ?_) (fun hb => ?_)
  · rw [if_pos hb] at hf
    refine c_rs ?_ -- region 2
    refine s_assign h rfl _ rfl rfl (by decide) rfl (fun a h => ?_)
    refine s_assign h rfl _ rfl rfl (by decide) rfl (fun a h => ?_)
    refine l_end ?_
    refine wp_ret ?_
    refine e_thenR ?_
    obtain rfl := Option.some.inj hf
    have h := h.mem (h.m.nilrow 5 1)
    exact r_ret2 h rfl (rv_tmp h rfl) (rv_tmp h rfl) ⟨_, [.row (.slice none ([]).length 0) 5 1 ([]).length []], _, rfl, ⟨none, 0, [], rfl, rfl, (show reps ty8 S0 [] [] from rfl), (show r64 2 from ⟨by decide, by decide⟩), trivial⟩, rfl, (Up.refl _ _ _), h.m⟩
  · rw [if_neg (by rw [hb]; decide)] at hf
    refine wp_skip ?_
    refine e_thenN ?_
    refine c_rs ?_ -- region 3
    refine s_move h rfl _ rfl rfl (by decide) rfl (fun a h => ?_)
    refine s_x h rfl rfl (by decide) (x_len h.k rfl Try.underlying22 rfl) (fun a h => ?_)
    obtain ⟨n11, h12, hf⟩ := bsome hf
    refine q_make (T := ty8) (S := S0) h rfl rfl rfl (by decide) Try.underlying22 zb_uint8 rfl rfl (q := (0 : UInt8)) rfl rfl rfl h12 (fun a w A13 cs14 hq15 h => ?_)
    refine s_assign h rfl _ rfl rfl (by decide) rfl (fun a h => ?_)
    refine l_end ?_
    refine c_rs ?_ -- region 4
    refine s_move h rfl _ rfl rfl (by decide) rfl (fun a h => ?_)
    refine s_move h rfl _ rfl rfl (by decide) rfl (fun a h => ?_)
    obtain ⟨x16, h17, hf⟩ := bsome hf
    have hX := xts_Sector_first_ok Fu (S0 := snapAll _) ga0 a0 (hpa0.mono (h.m.leAll (i := 1) rfl)) a1 hra1 _ h17 _ h.startAll
    refine q_callX hX h rfl rfl rfl (by decide) Try.func67 rfl rfl rfl (fun a w v L1 S1 hR hb1 h => ?_)
    obtain ⟨k19, rfl, rfl, hv20, _⟩ := hR
    obtain ⟨hs21, hl22⟩ := hv20
    have hq23 := hs21.fl (S' := S0) fl_8
    refine s_alloc h rfl rfl rfl (by decide) zi_A16_uint8 rfl (fun a w g24 h => ?_)
    have h := h.parts (L' := [.box g24 23 (List.replicate 16 (.int .u8 0)), .row (.slice A13 (List.replicate n11 ((0 : UInt8) : UInt8)).length n11) 5 1 (List.replicate n11 ((0 : UInt8) : UInt8)).length cs14, .sn S0]) rfl
    refine s_stW h rfl rfl rfl ag_A16_uint8 rfl (es := k19) rfl ((hq23).len.trans (by rw [hl22]; rfl)) (hq23).one 0 rfl (by first | rfl | simp_all) (fun a w h => ?_)
    refine l_end ?_
    refine wp_seq ?_
    refine c_rs ?_ -- region 5
    refine s_assign h rfl _ rfl rfl (by decide) rfl (fun a h => ?_)
    refine l_end ?_
    obtain ⟨o25, hl26, hf⟩ := bsome hf
    refine c_fin (fun a w => ∃ (x38 : List UInt8), ∃ (A39 : Option Addr), ∃ (c40 : Nat), ∃ (cs41 : List Value), x38 = o25 ∧ reps ty8 S0 cs41 x38 ∧ St 87 w0 (ownL ([] ++ [.sn S0])) [(10, .slice A39 x38.length c40)] [.row (.slice A39 x38.length c40) 5 1 x38.length cs41, .sn S0] a w) ?_ ?_
    · refine wp_block ?_
      have h := h.pick [1, 0, 2] (by decide) rfl
      refine c_loop (fun m44 a w => ∃ (x27 : Int), ∃ (x29 : List UInt8), ∃ (A30 : Option Addr), ∃ (c31 : Nat), ∃ (cs32 : List Value), ∃ (x34 : List UInt8), ∃ (k35 : List Value), xts_Sector_each_clo3_18_1_0_l0 Fu a2 a3b0 m44 x27 x29 x34 = some o25 ∧ r64 x27 ∧ reps ty8 S0 cs32 x29 ∧ reps ty8 S0 k35 x34 ∧ x34.length = 16 ∧ St 87 w0 (ownL ([] ++ [.sn S0])) [(2, .slice Aa2 a2.length ca2), (3, .func (.func 18) [.pointer (some ⟨ga3b0, 0, none⟩)].toArray [].toArray), (10, .slice A30 x29.length c31), (11, .pointer (some ⟨g24, 0, none⟩)), (12, .int .i64 x27)] [.row (.slice A30 x29.length c31) 5 1 x29.length cs32, .box g24 23 k35, .sn S0] a w) Fu ⟨0, (List.replicate n11 ((0 : UInt8) : UInt8)), A13, n11, cs14, x16, k19, hl26, (show r64 0 from ⟨by decide, by decide⟩), hq15, hq23, hl22, h.has (by exact ⟨rfl, rfl, rfl, rfl, rfl, trivial⟩)⟩ (fun m44 a w hI => ?_)
      obtain ⟨x27, x29, A30, c31, cs32, x34, k35, hl43, hr28, hq33, hs36, hl37, h⟩ := hI
      obtain _ | m44 := m44
      · rw [xts_Sector_each_clo3_18_1_0_l0] at hl43; cases hl43
      rw [xts_Sector_each_clo3_18_1_0_l0] at hl43
      refine wp_seq ?_
      refine c_rs ?_ -- region 6
      refine s_move h rfl _ rfl rfl (by decide) rfl (fun a h => ?_)
      refine s_move h rfl _ rfl rfl (by decide) rfl (fun a h => ?_)
      refine s_x h rfl rfl (by decide) (x_len h.k rfl Try.underlying22 rfl) (fun a h => ?_)
      refine s_x h rfl rfl (by decide) (x_bin h.k rfl rfl rfl ib_lss) (fun a h => ?_)
      refine l_end ?_
      refine c_cond h rfl (fun hb => ?_) (fun hb => ?_)
      · rw [if_pos (of_decide_eq_true hb)] at hl43
        refine wp_skip ?_
        refine e_thenN ?_
        refine wp_seq ?_
        refine wp_block ?_
        refine c_rs ?_ -- region 8
        refine s_alloc h rfl rfl rfl (by decide) zi_A16_uint8 rfl (fun a w g45 h => ?_)
        have h := h.parts (L' := [.box g45 23 (List.replicate 16 (.int .u8 0)), .row (.slice A30 x29.length c31) 5 1 x29.length cs32, .box g24 23 k35, .sn S0]) rfl
        refine l_end ?_
        refine wp_seq ?_
        -- region 9 draws
        obtain ⟨y46, h47, hl43⟩ := bsome hl43
        obtain ⟨x55, h56, hl43⟩ := bsome hl43
        refine d_start h (Mem _ _ _) 4 5 rfl (by kernel_rfl) (fun _ _ _ _ _ h => h) (fun _ h => h) (fun Q a w HE HN h HS => ?_)
        obtain ⟨hi48, hi49, hm50, hm51⟩ := bnd_some h47
        obtain ⟨n52, hn53⟩ : ∃ n, y46.2 - y46.1 = n := ⟨_, rfl⟩
        refine d_takeP h (fun _ => HS) HN 0 rfl (by kernel_rfl) (by kernel_rfl) (by kernel_rfl) (by decide) rfl rfl (by decide) (fun w' => x_viewB h.k rfl Try.underlying23 sz_uint8 rfl (bd_none (by omega)) (bd_none (by omega)) hm50 hm51 hn53) (fun a h => ?_)
        refine d_takeP h (fun _ => HS) HN 1 rfl (by kernel_rfl) (by kernel_rfl) (by kernel_rfl) (by decide) rfl rfl (by decide) (fun w' => x_move h.k _ rfl rfl) (fun a h => ?_)
        refine d_takeP h (fun _ => HS) HN 2 rfl (by kernel_rfl) (by kernel_rfl) (by kernel_rfl) (by decide) rfl rfl (by decide) (fun w' => x_move h.k _ rfl rfl) (fun a h => ?_)
        obtain ⟨m57, n58, hi59, hi60, hm61, hm62, hr63⟩ := sub_some h56
        have hs64 := slS.sub (hsa2) hm61 hm62 (Nat.le_trans hm62 (hsa2).1) (Nat.le_refl _) hr63
        refine d_takeP h (fun _ => HS) HN 3 rfl (by kernel_rfl) (by kernel_rfl) (by kernel_rfl) (by decide) rfl rfl (by decide) (fun w' => x_sliceE h.k rfl Try.underlying22 sz_uint8 rfl ca2 hr63 (bd_some rfl hi59) (bd_none (by omega)) (bd_none rfl) (by intro _; rfl) hm61 hm62 (Nat.le_trans hm62 (hsa2).1) (Nat.le_refl _)) (fun a h => ?_)
        refine d_alone 4 rfl (by kernel_rfl) (fun K hK => ?_)
        obtain ⟨_, _, vs65, hrd66, hrp67⟩ := id hs64
        refine q_copyB (T := ty8) (S := S0) (l := y46.1) (g := y46.2) h rfl rfl rfl (by decide) Try.underlying22 sz_uint8 rfl rfl 0 rfl rfl (show reps ty8 S0 (List.replicate 16 (.int .u8 0)) (List.replicate 16 ((0 : UInt8) : UInt8)) from repsRep1 (x := ((0 : UInt8) : UInt8)) rfl) hrp67 (hrd66 _ (h.m.snOK (i := 3) rfl)) rfl hn53 hm50 hm51 (show (List.replicate 16 ((0 : UInt8) : UInt8)).length = 16 from List.length_replicate) (fun a w cs68 n69 hq70 h => ?_)
        have hl71 : (cpy (List.replicate 16 ((0 : UInt8) : UInt8)) y46.1 y46.2 x55).length = 16 := (cpy_len _ hm50 (by have := hm51; have := (show (List.replicate 16 ((0 : UInt8) : UInt8)).length = 16 from List.length_replicate); omega)).trans (show (List.replicate 16 ((0 : UInt8) : UInt8)).length = 16 from List.length_replicate)
        refine hK _ _ (fun hne _ => absurd rfl hne) ?_
        clear hK
        refine d_done (by kernel_rfl) (HE _ _ ?_) _
        refine e_thenN ?_
        refine wp_seq ?_
        refine c_rs ?_ -- region 10
        refine s_move h rfl _ rfl rfl (by decide) rfl (fun a h => ?_)
        refine l_end ?_
        obtain ⟨o72, hl73, hl43⟩ := bsome hl43
        refine c_fin (fun a w => ∃ (x80 : List UInt8), ∃ (k81 : List Value), x80 = o72 ∧ reps ty8 S0 k81 x80 ∧ x80.length = 16 ∧ St 87 w0 (ownL ([] ++ [.sn S0])) [(2, .slice Aa2 a2.length ca2), (3, .func (.func 18) [.pointer (some ⟨ga3b0, 0, none⟩)].toArray [].toArray), (10, .slice A30 x29.length c31), (11, .pointer (some ⟨g24, 0, none⟩)), (12, .int .i64 x27), (13, .pointer (some ⟨g45, 0, none⟩))] [.row (.slice A30 x29.length c31) 5 1 x29.length cs32, .box g24 23 k35, .box g45 23 k81, .sn S0] a w) ?_ ?_
        · refine wp_block ?_
          have h := h.pick [1, 2, 0, 3] (by decide) rfl
          refine c_loop (fun m85 a w => ∃ (x74 : Int), ∃ (x76 : List UInt8), ∃ (k77 : List Value), xts_Sector_each_clo3_18_1_0_l1 Fu x34 m85 x74 x76 = some o72 ∧ r64 x74 ∧ reps ty8 S0 k77 x76 ∧ x76.length = 16 ∧ St 87 w0 (ownL ([] ++ [.sn S0])) [(2, .slice Aa2 a2.length ca2), (3, .func (.func 18) [.pointer (some ⟨ga3b0, 0, none⟩)].toArray [].toArray), (10, .slice A30 x29.length c31), (11, .pointer (some ⟨g24, 0, none⟩)), (12, .int .i64 x27), (13, .pointer (some ⟨g45, 0, none⟩)), (53, .int .i64 x74)] [.row (.slice A30 x29.length c31) 5 1 x29.length cs32, .box g24 23 k35, .box g45 23 k77, .sn S0] a w) Fu ⟨0, (cpy (List.replicate 16 ((0 : UInt8) : UInt8)) y46.1 y46.2 x55), cs68, hl73, (show r64 0 from ⟨by decide, by decide⟩), hq70, hl71, h.has (by exact ⟨rfl, rfl, rfl, rfl, rfl, rfl, rfl, trivial⟩)⟩ (fun m85 a w hI => ?_)
          obtain ⟨x74, x76, k77, hl84, hr75, hs78, hl79, h⟩ := hI
          obtain _ | m85 := m85
          · rw [xts_Sector_each_clo3_18_1_0_l1] at hl84; cases hl84
          rw [xts_Sector_each_clo3_18_1_0_l1] at hl84
          refine c_rs ?_ -- region 11
          refine s_x h rfl rfl (by decide) (x_bin h.k rfl rfl rfl ib_lss) (fun a h => ?_)
          refine l_end ?_
          refine c_cs h rfl (fun hb => ?_) (fun hb => ?_)
          · rw [if_pos (of_decide_eq_true hb)] at hl84
            refine wp_skip ?_
            refine e_thenN ?_
            refine wp_seq ?_
            refine wp_block ?_
            refine c_rs ?_ -- region 12
            refine s_move h rfl _ rfl rfl (by decide) rfl (fun a h => ?_)
            refine s_assign h rfl _ rfl rfl (by decide) rfl (fun a h => ?_)
            refine l_end ?_
            -- region 13 draws
            obtain ⟨m86, h87, hl84⟩ := bsome hl84
            obtain ⟨x90, h91, hl84⟩ := bsome hl84
            obtain ⟨m95, h96, hl84⟩ := bsome hl84
            obtain ⟨x99, h100, hl84⟩ := bsome hl84
            obtain ⟨m104, h105, hl84⟩ := bsome hl84
            refine d_start h (Mem _ _ _) 8 9 rfl (by kernel_rfl) (fun _ _ _ _ _ h => h) (fun _ h => h) (fun Q a w HE HN h HS => ?_)
            refine d_takeP h (fun _ => HS) HN 0 rfl (by kernel_rfl) (by kernel_rfl) (by kernel_rfl) (by decide) rfl rfl (by decide) (fun w' => x_move h.k _ rfl rfl) (fun a h => ?_)
            obtain ⟨hi88, hm89⟩ := ix_some h87
            refine d_takeP h (fun _ => HS) HN 1 rfl (by kernel_rfl) (by kernel_rfl) (by kernel_rfl) (by decide) rfl rfl (by decide) (fun w' => x_iaddrA h.k rfl Try.underlying23 sz_uint8 rfl rfl hi88 hm89 rfl) (fun a h => ?_)
            obtain ⟨u92, hv93, hu94⟩ := (hs78).cell rfl h91
            cases hu94
            refine d_take h HS HN 2 rfl (by kernel_rfl) (by kernel_rfl) (by kernel_rfl) (by kernel_rfl) (by kernel_rfl) rfl rfl (by decide) (fun w' hw => x_ld h.k rfl Try.underlying5 rfl rfl ((hw.cell (i := 2) rfl _).trans (by rw [Nat.zero_add, Nat.mul_one]; exact hv93))) (fun a h => ?_)
            refine d_takeP h (fun _ => HS) HN 3 rfl (by kernel_rfl) (by kernel_rfl) (by kernel_rfl) (by decide) rfl rfl (by decide) (fun w' => x_move h.k _ rfl rfl) (fun a h => ?_)
            obtain ⟨hi97, hm98⟩ := ix_some h96
            refine d_takeP h (fun _ => HS) HN 4 rfl (by kernel_rfl) (by kernel_rfl) (by kernel_rfl) (by decide) rfl rfl (by decide) (fun w' => x_iaddrA h.k rfl Try.underlying23 sz_uint8 rfl rfl hi97 hm98 rfl) (fun a h => ?_)
            obtain ⟨u101, hv102, hu103⟩ := (hs36).cell rfl h100
            cases hu103
            refine d_take h HS HN 5 rfl (by kernel_rfl) (by kernel_rfl) (by kernel_rfl) (by kernel_rfl) (by kernel_rfl) rfl rfl (by decide) (fun w' hw => x_ld h.k rfl Try.underlying5 rfl rfl ((hw.cell (i := 1) rfl _).trans (by rw [Nat.zero_add, Nat.mul_one]; exact hv102))) (fun a h => ?_)
            refine d_takeP h (fun _ => HS) HN 6 rfl (by kernel_rfl) (by kernel_rfl) (by kernel_rfl) (by decide) rfl rfl (by decide) (fun w' => x_bin h.k rfl rfl rfl (ib_xor (u8_xor_ x90 x99))) (fun a h => ?_)
            obtain ⟨hi106, hm107⟩ := ix_some h105
            refine d_takeP h (fun _ => HS) HN 7 rfl (by kernel_rfl) (by kernel_rfl) (by kernel_rfl) (by decide) rfl rfl (by decide) (fun w' => x_iaddrA h.k rfl Try.underlying23 sz_uint8 rfl rfl hi106 hm107 rfl) (fun a h => ?_)
            refine d_alone 8 rfl (by kernel_rfl) (fun K hK => ?_)
            refine q_setBox (T := ty8) (q := (x90 ^^^ x99)) h rfl rfl rfl sz_uint8 rfl rfl 2 rfl rfl hs78 rfl (by first | omega | (simp_all; done)) (fun a w cs108 hq109 h => ?_)
            have hl110 : (x76.set m104 (x90 ^^^ x99)).length = 16 := by rw [List.length_set]; exact hl79
            refine hK _ _ (fun hne _ => absurd rfl hne) ?_
            clear hK
            refine d_done (by kernel_rfl) (HE _ _ ?_) _
            refine e_blkN ?_
            refine e_thenN ?_
            refine c_r ?_ -- region 14
            refine s_x h rfl rfl (by decide) (x_bin h.k rfl rfl rfl (ib_add rfl)) (fun a h => ?_)
            refine s_move h rfl _ rfl rfl (by decide) rfl (fun a h => ?_)
            refine l_nil ?_
            exact e_thenN ⟨m85, Nat.lt_succ_self _, w64 (x74 + 1), (x76.set m104 (x90 ^^^ x99)), cs108, hl84, (w64_r _), hq109, hl110, h.has (by exact ⟨rfl, rfl, rfl, rfl, rfl, rfl, rfl, trivial⟩)⟩
          · rw [if_neg (of_decide_eq_false hb)] at hl84
            refine wp_exit ?_
            refine e_thenX ?_
            refine e_thenX ?_
            refine e_blkX ?_
            refine e_thenN ?_
            exact ⟨x76, k77, (Option.some.inj hl84), hs78, hl79, h.has (by exact ⟨rfl, rfl, rfl, rfl, rfl, rfl, trivial⟩)⟩
        · rintro a w ⟨x80, k81, rfl, hs82, hl83, h⟩
          refine e_thenN ?_
          refine c_rs ?_ -- region 15
          refine s_move h rfl _ rfl rfl (by decide) rfl (fun a h => ?_)
          refine s_x h rfl rfl (by decide) (x_ldR h.k rfl ag_A16_uint8 rfl k81 ((hs82).len.trans (by rw [hl83]; rfl)) (h.m.range0 (i := 2) rfl)) (fun a h => ?_)
          obtain ⟨x111, h112, hl43⟩ := bsome hl43
          have hX := aes_Cipher_Decrypt_ok Fu (S0 := snapAll _) ga3b0 a3b0 (hpa3b0.mono (h.m.leAll (i := 3) rfl)) k81 x80 ((tyA 16 ty8).mono (h.m.leAll (i := 3) rfl) (show (tyA 16 ty8).rep S0 k81 x80 from ⟨hs82, hl83⟩)) _ h112 _ h.startAll
          refine q_callXV hX h rfl rfl rfl (by decide) rfl Try.func18 rfl rfl [.agg k81.toArray] rfl rfl (fun a w v L1 S1 hR hb1 h => ?_)
          obtain ⟨k114, rfl, rfl, hv115, _⟩ := hR
          obtain ⟨hs116, hl117⟩ := hv115
          have hq118 := hs116.fl (S' := S0) fl_8
          refine s_stW h rfl rfl rfl ag_A16_uint8 rfl (es := k114) rfl ((hq118).len.trans (by rw [hl117]; rfl)) (hq118).one 2 rfl ((hs82).len.trans (by rw [hl83]; rfl)) (fun a w h => ?_)
          refine l_end ?_
          refine wp_seq ?_
          refine c_rs ?_ -- region 16
          refine s_x h rfl rfl (by decide) (x_ldR h.k rfl ag_A16_uint8 rfl k114 ((hq118).len.trans (by rw [hl117]; rfl)) (h.m.range0 (i := 2) rfl)) (fun a h => ?_)
          refine s_move h rfl _ rfl rfl (by decide) rfl (fun a h => ?_)
          refine l_end ?_
          obtain ⟨o119, hl120, hl43⟩ := bsome hl43
          refine c_fin (fun a w => ∃ (x128 : List UInt8), ∃ (A129 : Option Addr), ∃ (c130 : Nat), ∃ (cs131 : List Value), x128 = o119 ∧ reps ty8 S0 cs131 x128 ∧ St 87 w0 (ownL ([] ++ [.sn S0])) [(2, .slice Aa2 a2.length ca2), (3, .func (.func 18) [.pointer (some ⟨ga3b0, 0, none⟩)].toArray [].toArray), (10, .slice A129 x128.length c130), (11, .pointer (some ⟨g24, 0, none⟩)), (12, .int .i64 x27)] [.row (.slice A129 x128.length c130) 5 1 x128.length cs131, .box g24 23 k35, .sn S0] a w) ?_ ?_
          · refine wp_block ?_
            have h := h.pick [0, 1, 3] (by decide) rfl
            refine c_loop (fun m134 a w => ∃ (x121 : Int), ∃ (x123 : List UInt8), ∃ (A124 : Option Addr), ∃ (c125 : Nat), ∃ (cs126 : List Value), xts_Sector_each_clo3_18_1_0_l2 Fu x27 x34 x111 m134 x121 x123 = some o119 ∧ r64 x121 ∧ reps ty8 S0 cs126 x123 ∧ St 87 w0 (ownL ([] ++ [.sn S0])) [(2, .slice Aa2 a2.length ca2), (3, .func (.func 18) [.pointer (some ⟨ga3b0, 0, none⟩)].toArray [].toArray), (10, .slice A124 x123.length c125), (11, .pointer (some ⟨g24, 0, none⟩)), (12, .int .i64 x27), (68, .agg k114.toArray), (69, .int .i64 x121)] [.row (.slice A124 x123.length c125) 5 1 x123.length cs126, .box g24 23 k35, .sn S0] a w) Fu ⟨0, x29, A30, c31, cs32, hl120, (show r64 0 from ⟨by decide, by decide⟩), hq33, h.has (by exact ⟨rfl, rfl, rfl, rfl, rfl, rfl, rfl, trivial⟩)⟩ (fun m134 a w hI => ?_)
            obtain ⟨x121, x123, A124, c125, cs126, hl133, hr122, hq127, h⟩ := hI
            obtain _ | m134 := m134
            · rw [xts_Sector_each_clo3_18_1_0_l2] at hl133; cases hl133
            rw [xts_Sector_each_clo3_18_1_0_l2] at hl133
            refine c_rs ?_ -- region 17
            refine s_x h rfl rfl (by decide) (x_bin h.k rfl rfl rfl ib_lss) (fun a h => ?_)
            refine l_end ?_
            refine c_cs h rfl (fun hb => ?_) (fun hb => ?_)
            · rw [if_pos (of_decide_eq_true hb)] at hl133
              refine wp_skip ?_
              refine e_thenN ?_
              refine wp_seq ?_
              refine wp_block ?_
              refine c_rs ?_ -- region 18
              refine s_move h rfl _ rfl rfl (by decide) rfl (fun a h => ?_)
              obtain ⟨x136, h137, hl133⟩ := bsome hl133
              obtain ⟨m135, hi138, hm139, hx140⟩ := idx_some h137
              obtain ⟨u141, hv142, hu143⟩ := (hq118).cell rfl hx140
              cases hu143
              refine s_x h rfl rfl (by decide) (x_index h.k rfl Try.underlying23 Try.underlying5 rfl sz_uint8 rfl rfl hi138 (Nat.lt_of_lt_of_eq hm139 hl117) (by simpa using hv142)) (fun a h => ?_)
              refine s_assign h rfl _ rfl rfl (by decide) rfl (fun a h => ?_)
              refine s_assign h rfl _ rfl rfl (by decide) rfl (fun a h => ?_)
              refine l_end ?_
              refine c_r ?_ -- region 19
              refine s_move h rfl _ rfl rfl (by decide) rfl (fun a h => ?_)
              refine s_move h rfl _ rfl rfl (by decide) rfl (fun a h => ?_)
              refine s_move h rfl _ rfl rfl (by decide) rfl (fun a h => ?_)
              refine s_x h rfl rfl (by decide) (x_bin h.k rfl rfl rfl (ib_add rfl)) (fun a h => ?_)
              refine s_move h rfl _ rfl rfl (by decide) rfl (fun a h => ?_)
              refine s_move h rfl _ rfl rfl (by decide) rfl (fun a h => ?_)
              obtain ⟨m144, h145, hl133⟩ := bsome hl133
              obtain ⟨hi146, hm147⟩ := ix_some h145
              refine s_x h rfl rfl (by decide) (x_iaddrA h.k rfl Try.underlying23 sz_uint8 rfl rfl hi146 hm147 rfl) (fun a h => ?_)
              obtain ⟨x148, h149, hl133⟩ := bsome hl133
              obtain ⟨u150, hv151, hu152⟩ := (hs36).cell rfl h149
              cases hu152
              refine s_x h rfl rfl (by decide) (x_ld h.k rfl Try.underlying5 rfl rfl ((h.m.cell (i := 1) rfl _).trans (by rw [Nat.zero_add, Nat.mul_one]; exact hv151))) (fun a h => ?_)
              refine s_x h rfl rfl (by decide) (x_bin h.k rfl rfl rfl (ib_xor (u8_xor_ x136 x148))) (fun a h => ?_)
              obtain ⟨m153, h154, hl133⟩ := bsome hl133
              obtain ⟨hi155, hm156⟩ := ix_some h154
              obtain ⟨g158, hA157⟩ := h.m.rowHead (i := 0) rfl (Nat.lt_of_le_of_lt (Nat.zero_le _) hm156)
              refine s_x h rfl rfl (by decide) (x_iaddrE h.k rfl Try.underlying22 sz_uint8 hA157 rfl rfl hi155 hm156) (fun a h => ?_)
              refine q_setRow (T := ty8) (q := (x136 ^^^ x148)) h rfl rfl rfl sz_uint8 hA157 rfl rfl 0 rfl rfl hq127 rfl (by first | exact hm156 | simpa using hm156) (fun a w cs159 hq160 h => ?_)
              have hl161 : x123.length = (x123.set m153 (x136 ^^^ x148)).length := by simp only [List.length_set]
              rw [hl161] at h
              refine l_nil ?_
              refine e_blkN ?_
              refine e_thenN ?_
              refine c_r ?_ -- region 20
              refine s_x h rfl rfl (by decide) (x_bin h.k rfl rfl rfl (ib_add rfl)) (fun a h => ?_)
              refine s_move h rfl _ rfl rfl (by decide) rfl (fun a h => ?_)
              refine l_nil ?_
              exact e_thenN ⟨m134, Nat.lt_succ_self _, w64 (x121 + 1), (x123.set m153 (x136 ^^^ x148)), A124, c125, cs159, hl133, (w64_r _), hq160, h.has (by exact ⟨rfl, rfl, rfl, rfl, rfl, rfl, rfl, trivial⟩)⟩
            · rw [if_neg (of_decide_eq_false hb)] at hl133
              refine wp_exit ?_
              refine e_thenX ?_
              refine e_thenX ?_
              refine e_blkX ?_
              refine e_thenN ?_
              exact ⟨x123, A124, c125, cs126, (Option.some.inj hl133), hq127, h.has (by exact ⟨rfl, rfl, rfl, rfl, rfl, trivial⟩)⟩
          · rintro a w ⟨x128, A129, c130, cs131, rfl, hq132, h⟩
            refine e_thenN ?_
            refine c_r ?_ -- region 21
            refine s_x h rfl rfl (by decide) (x_ldR h.k rfl ag_A16_uint8 rfl k35 ((hs36).len.trans (by rw [hl37]; rfl)) (h.m.range0 (i := 1) rfl)) (fun a h => ?_)
            obtain ⟨x162, h163, hl43⟩ := bsome hl43
            have hX := gf_Double_ok Fu (S0 := snapAll _) k35 x34 ((tyA 16 ty8).mono (h.m.leAll (i := 2) rfl) (show (tyA 16 ty8).rep S0 k35 x34 from ⟨hs36, hl37⟩)) _ h163 _ h.startAll
            refine q_callX hX h rfl rfl rfl (by decide) Try.func91 rfl rfl rfl (fun a w v L1 S1 hR hb1 h => ?_)
            obtain ⟨k165, rfl, rfl, hv166, _⟩ := hR
            obtain ⟨hs167, hl168⟩ := hv166
            have hq169 := hs167.fl (S' := S0) fl_8
            refine s_stW h rfl rfl rfl ag_A16_uint8 rfl (es := k165) rfl ((hq169).len.trans (by rw [hl168]; rfl)) (hq169).one 1 rfl ((hs36).len.trans (by rw [hl37]; rfl)) (fun a w h => ?_)
            refine l_nil ?_
            refine e_blkN ?_
            refine e_thenN ?_
            refine c_r ?_ -- region 7
            refine s_move h rfl _ rfl rfl (by decide) rfl (fun a h => ?_)
            refine s_x h rfl rfl (by decide) (x_bin h.k rfl rfl rfl (ib_add rfl)) (fun a h => ?_)
            refine s_assign h rfl _ rfl rfl (by decide) rfl (fun a h => ?_)
            refine l_nil ?_
            exact e_thenN ⟨m44, Nat.lt_succ_self _, w64 (x27 + 16), x128, A129, c130, cs131, x162, k165, hl43, (w64_r _), hq132, hq169, hl168, h.has (by exact ⟨rfl, rfl, rfl, rfl, rfl, trivial⟩)⟩
      · rw [if_neg (of_decide_eq_false hb)] at hl43
        refine wp_exit ?_
        refine e_thenX ?_
        refine e_thenX ?_
        refine e_blkX ?_
        refine e_thenN ?_
        have h := h.pick [0, 2] (by decide) rfl
        exact ⟨x29, A30, c31, cs32, (Option.some.inj hl43), hq33, h.has (by exact ⟨rfl, trivial⟩)⟩
    · rintro a w ⟨x38, A39, c40, cs41, rfl, hq42, h⟩
      refine e_thenN ?_
      refine c_rs ?_ -- region 22
      refine s_move h rfl _ rfl rfl (by decide) rfl (fun a h => ?_)
      refine s_assign h rfl _ rfl rfl (by decide) rfl (fun a h => ?_)
      refine s_assign h rfl _ rfl rfl (by decide) rfl (fun a h => ?_)
      refine l_end ?_
      refine wp_ret ?_
      obtain rfl := Option.some.inj hf
      exact r_ret2 h rfl (rv_tmp h rfl) (rv_tmp h rfl) ⟨_, [.row (.slice A39 x38.length c40) 5 1 x38.length cs41], _, rfl, ⟨A39, c40, cs41, rfl, rfl, hq42, (show r64 0 from ⟨by decide, by decide⟩), trivial⟩, rfl, (Up.refl _ _ _), h.m⟩
def xts_Sector_Decrypt (Fu : Nat) (a0 : ((List UInt32) × (List UInt8) × (List UInt8)) × ((List UInt32) × (List UInt8) × (List UInt8))) (a1 : Int) (a2 : List UInt8) : Option ((List UInt8) × Int) :=
  (xts_Sector_is Fu a0).bind fun x1 => (xts_Sector_each_clo3_18_1_0 Fu a0 a1 a2 a0.1).bind fun x12 => some x12
set_option maxRecDepth 100000 in
set_option maxHeartbeats 2000000 in
theorem xts_Sector_Decrypt_ok (Fu : Nat) {S0 : Snap} (ga0 : Nat) (a0 : ((List UInt32) × (List UInt8) × (List UInt8)) × ((List UInt32) × (List UInt8) × (List UInt8))) (hpa0 : ptS (tyP (tyPt (tyP (tyL ty32) (tyP (tyA 256 ty8) (tyA 256 ty8)))) (tyPt (tyP (tyL ty32) (tyP (tyA 256 ty8) (tyA 256 ty8))))) S0 ga0 a0) (a1 : Int) (hra1 : r64 a1) (Aa2 : Option Addr) (ca2 : Nat) (a2 : List UInt8) (hsa2 : slS ty8 S0 Aa2 ca2 a2) (r : (List UInt8) × Int) (hf : xts_Sector_Decrypt Fu a0 a1 a2 = some r) (w0 : World) (hm : Mem w0 (ownL ([] ++ [.sn S0])) ([] ++ [.sn S0]) w0) :
    Calls Try.prog 35 #[.pointer (some ⟨ga0, 0, none⟩), .int .i64 a1, .slice Aa2 a2.length ca2] w0 (Ret w0 S0 [] (fun v L1 S1 => ∃ (A21 : Option Addr), ∃ (c22 : Nat), ∃ (cs23 : List Value), v = .tuple #[.slice A21 r.1.length c22, .int .i64 r.2] ∧ L1 = [.row (.slice A21 r.1.length c22) 5 1 r.1.length cs23] ∧ reps ty8 S1 cs23 r.1 ∧ r64 r.2 ∧ True)) := by
  unfold xts_Sector_Decrypt at hf
  refine c_enterM Try.func35 rfl 22 rfl (by simp) _ hm _ rfl (fun a h => ?_)
  refine c_rs ?_ -- region 0
  refine s_assign h rfl _ rfl rfl (by decide) rfl (fun a h => ?_)
  refine s_assign h rfl _ rfl rfl (by decide) rfl (fun a h => ?_)
  refine l_end ?_
  refine wp_seq ?_
  refine c_rs ?_ -- region 1
  refine s_move h rfl _ rfl rfl (by decide) rfl (fun a h => ?_)
  obtain ⟨x1, h2, hf⟩ := bsome hf
  have hX := xts_Sector_is_ok Fu (S0 := snapAll _) ga0 a0 (hpa0.mono (h.m.leAll (i := 0) rfl)) _ h2 _ h.startAll
  refine q_callX hX h rfl rfl rfl (by decide) Try.func63 rfl rfl rfl (fun a w v L1 S1 hR hb1 h => ?_)
  obtain ⟨rfl, rfl, _⟩ := hR
  obtain rfl : x1 = true := by unfold xts_Sector_is at h2; exact (Option.some.inj h2).symm
  refine s_x h rfl rfl (by decide) (x_not h.k rfl rfl) (fun a h => ?_)
  refine l_end ?_
  refine c_cond h rfl (fun hb => ?_) (fun hb => ?_)
  · exact absurd hb (by decide)
  · refine wp_skip ?_
    refine e_thenN ?_
    refine c_rs ?_ -- region 3
    refine s_move h rfl _ rfl rfl (by decide) rfl (fun a h => ?_)
    refine s_move h rfl _ rfl rfl (by decide) rfl (fun a h => ?_)
    refine s_move h rfl _ rfl rfl (by decide) rfl (fun a h => ?_)
    refine s_move h rfl _ rfl rfl (by decide) rfl (fun a h => ?_)
    obtain ⟨k4, hc5, ⟨k6, k7, rfl, ⟨g8, rfl, hp9⟩, ⟨g10, rfl, hp11⟩⟩⟩ := id hpa0
    refine s_x h rfl rfl (by decide) (x_nil h.k rfl rfl) (fun a h => ?_)
    refine s_x h rfl rfl (by decide) (x_faddr h.k rfl Try.underlying97 rfl sz_Paes_Cipher rfl) (fun a h => ?_)
    refine s_x h rfl rfl (by decide) (x_ld h.k rfl Try.underlying25 rfl rfl (hc5 _ (h.m.snOK (i := 0) rfl) 0 _ rfl)) (fun a h => ?_)
    refine s_makeFunc h rfl rfl rfl (by decide) (us := [.pointer (some ⟨g8, 0, none⟩)]) (vs := []) rfl rfl (fun a h => ?_)
    obtain ⟨x12, h13, hf⟩ := bsome hf
    have hX := xts_Sector_each_clo3_18_1_0_ok Fu (S0 := snapAll _) ga0 a0 (hpa0.mono (h.m.leAll (i := 0) rfl)) a1 hra1 Aa2 ca2 a2 (hsa2.mono (h.m.leAll (i := 0) rfl)) g8 a0.1 (hp9.mono (h.m.leAll (i := 0) rfl)) _ h13 _ h.startAll
    refine q_callX hX h rfl rfl rfl (by decide) Try.func64 rfl rfl rfl (fun a w v L1 S1 hR hb1 h => ?_)
    obtain ⟨A15, c16, cs17, rfl, rfl, hq18, hr19, _⟩ := hR
    have hq20 := hq18.fl (S' := S0) fl_8
    refine s_x h rfl rfl (by decide) (x_ext h.k rfl rfl rfl) (fun a h => ?_)
    refine s_x h rfl rfl (by decide) (x_ext h.k rfl rfl rfl) (fun a h => ?_)
    refine s_assign h rfl _ rfl rfl (by decide) rfl (fun a h => ?_)
    refine s_assign h rfl _ rfl rfl (by decide) rfl (fun a h => ?_)
    refine l_end ?_
    refine wp_ret ?_
    rw [← Option.some.inj hf]
    exact r_ret2 h rfl (rv_tmp h rfl) (rv_tmp h rfl) ⟨_, [.row (.slice A15 x12.1.length c16) 5 1 x12.1.length cs17], _, rfl, ⟨A15, c16, cs17, rfl, rfl, hq20, hr19, trivial⟩, rfl, (Up.refl _ _ _), h.m⟩
def xts_Sector_Decrypt_nil0 (Fu : Nat) (a1 : Int) (a2 : List UInt8) : Option ((List UInt8) × Int) :=
  (xts_Sector_is_nil0 Fu).bind fun x1 => some ([], 1)
set_option maxRecDepth 100000 in
set_option maxHeartbeats 2000000 in
theorem xts_Sector_Decrypt_nil0_ok (Fu : Nat) {S0 : Snap} (a1 : Int) (hra1 : r64 a1) (Aa2 : Option Addr) (ca2 : Nat) (a2 : List UInt8) (hsa2 : slS ty8 S0 Aa2 ca2 a2) (r : (List UInt8) × Int) (hf : xts_Sector_Decrypt_nil0 Fu a1 a2 = some r) (w0 : World) (hm : Mem w0 (ownL ([] ++ [.sn S0])) ([] ++ [.sn S0]) w0) :
    Calls Try.prog 35 #[.pointer none, .int .i64 a1, .slice Aa2 a2.length ca2] w0 (Ret w0 S0 [] (fun v L1 S1 => ∃ (A5 : Option Addr), ∃ (c6 : Nat), ∃ (cs7 : List Value), v = .tuple #[.slice A5 r.1.length c6, .int .i64 r.2] ∧ L1 = [.row (.slice A5 r.1.length c6) 5 1 r.1.length cs7] ∧ reps ty8 S1 cs7 r.1 ∧ r64 r.2 ∧ True)) := by
  unfold xts_Sector_Decrypt_nil0 at hf
  refine c_enterM Try.func35 rfl 22 rfl (by simp) _ hm _ rfl (fun a h => ?_)
  refine c_rs ?_ -- region 0
  refine s_assign h rfl _ rfl rfl (by decide) rfl (fun a h => ?_)
  refine s_assign h rfl _ rfl rfl (by decide) rfl (fun a h => ?_)
  refine l_end ?_
  refine wp_seq ?_
  refine c_rs ?_ -- region 1
  refine s_move h rfl _ rfl rfl (by decide) rfl (fun a h => ?_)
  obtain ⟨x1, h2, hf⟩ := bsome hf
  have hX := xts_Sector_is_nil0_ok Fu (S0 := snapAll _)  _ h2 _ h.startAll
  refine q_callX hX h rfl rfl rfl (by decide) Try.func63 rfl rfl rfl (fun a w v L1 S1 hR hb1 h => ?_)
  obtain ⟨rfl, rfl, _⟩ := hR
  obtain rfl : x1 = false := by unfold xts_Sector_is_nil0 at h2; exact (Option.some.inj h2).symm
  refine s_x h rfl rfl (by decide) (x_not h.k rfl rfl) (fun a h => ?_)
  refine l_end ?_
  refine c_cond h rfl (fun hb => ?_) (fun hb => ?_)
  · refine c_rs ?_ -- region 2
    refine s_assign h rfl _ rfl rfl (by decide) rfl (fun a h => ?_)
    refine s_assign h rfl _ rfl rfl (by decide) rfl (fun a h => ?_)
    refine l_end ?_
    refine wp_ret ?_
    refine e_thenR ?_
    obtain rfl := Option.some.inj hf
    have h := h.mem (h.m.nilrow 5 1)
    exact r_ret2 h rfl (rv_tmp h rfl) (rv_tmp h rfl) ⟨_, [.row (.slice none ([]).length 0) 5 1 ([]).length []], _, rfl, ⟨none, 0, [], rfl, rfl, (show reps ty8 S0 [] [] from rfl), (show r64 1 from ⟨by decide, by decide⟩), trivial⟩, rfl, (Up.refl _ _ _), h.m⟩
  · exact absurd hb (by decide)
end Go.Proofs.Ytoimllmmlbehgaa
