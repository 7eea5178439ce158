/- Rw: Go functions as plain functions, and that they are so (written by xt.py). -/
import Derived.Test.YtcjleeclpmgbjaaDoorRq
import Derived.Test.YtcjleeclpmgbjaaDoorIt
set_option linter.unusedVariables false
set_option linter.unusedSimpArgs false
namespace Go.Proofs.YtcjleeclpmgbjaaDoor
open Go.RowKit
def reply_Word_l0 (Fu : Nat) (a0 : Int) (x1 : (List (List UInt8))) (x10 : (List Int)) : Nat → Int → Option (Sum ((List UInt8)) Unit)
  | 0, _ => none
  | k + 1, x20 => if x20 < 20 then ((idx x10 x20).bind fun x25 => if x25 = a0 then ((ix 20 x20).bind fun m35 => (x1[m35]?).bind fun x39 => some (.inl x39)) else (reply_Word_l0 Fu a0 x1 x10 k (w64 (x20 + 1)))) else (some (.inr ()))
def reply_Word (Fu : Nat) (a0 : Int) : Option ((List UInt8)) :=
  (reply_words Fu).bind fun x1 => (reply_known Fu).bind fun x10 => (reply_Word_l0 Fu a0 x1 x10 Fu 0).bind fun o => match o with | .inl r50 => some r50 | .inr _ => (strconv_Itoa Fu a0).bind fun x46 => some x46
set_option maxRecDepth 100000 in
set_option maxHeartbeats 2000000 in
theorem reply_Word_ok (Fu : Nat) {S0 : Snap} (hGT : GT S0) (a0 : Int) (hra0 : r64 a0) (r : (List UInt8)) (hf : reply_Word Fu a0 = some r) (w0 : World) (hm : Mem w0 (ownL ([] ++ [.sn S0])) ([] ++ [.sn S0]) w0) :
    Calls Tryd.prog 12 #[.int .i64 a0] w0 (Ret w0 S0 [] (fun v L1 S1 => v = .string (sb r) ∧ L1 = [] ∧ r.length ≤ maxLen ∧ True)) := by
  unfold reply_Word at hf
  refine c_enterM Tryd.func12 rfl 21 rfl (by simp) _ hm _ rfl (fun a h => ?_)
  refine c_rs ?_ -- region 0
  refine s_assign h rfl _ rfl rfl (by decide) rfl (fun a h => ?_)
  refine l_end ?_
  refine c_rs ?_ -- region 1
  obtain ⟨x1, h2, hf⟩ := bsome hf
  have hX := reply_words_ok Fu (S0 := snapAll _)  _ h2 _ h.startAll
  refine q_callX hX h rfl rfl rfl (by decide) Tryd.func29 rfl rfl rfl (fun a w v L1 S1 hR hb1 h => ?_)
  obtain ⟨k4, rfl, rfl, hv5, _⟩ := hR
  obtain ⟨hs6, hl7⟩ := hv5
  have hq8 := hs6.fl (S' := S0) fl_S
  refine s_alloc h rfl rfl rfl (by decide) zi_A20_string rfl (fun a w g9 h => ?_)
  refine s_stW h rfl rfl rfl ag_A20_string rfl (es := k4) rfl ((hq8).len.trans (by rw [hl7]; rfl)) (hq8).one 0 rfl (by first | rfl | simp_all) (fun a w h => ?_)
  refine l_end ?_
  refine wp_seq ?_
  refine c_rs ?_ -- region 2
  obtain ⟨x10, h11, hf⟩ := bsome hf
  have hX := reply_known_ok Fu (S0 := snapAll _)  _ h11 _ h.startAll
  refine q_callX hX h rfl rfl rfl (by decide) Tryd.func28 rfl rfl rfl (fun a w v L1 S1 hR hb1 h => ?_)
  obtain ⟨k13, rfl, rfl, hv14, _⟩ := hR
  obtain ⟨hs15, hl16⟩ := hv14
  have hq17 := hs15.fl (S' := S0) fl_I
  refine s_move h rfl _ rfl rfl (by decide) rfl (fun a h => ?_)
  refine l_end ?_
  obtain ⟨o18, hl19, hf⟩ := bsome hf
  refine c_fin (fun a w => (.inr ()) = o18 ∧ St 21 w0 (ownL ([] ++ [.sn S0])) [(0, .int .i64 a0)] [.sn S0] a w) ?_ ?_
  · refine wp_block ?_
    refine c_loop (fun m23 a w => ∃ (x20 : Int), reply_Word_l0 Fu a0 x1 x10 m23 x20 = some o18 ∧ r64 x20 ∧ St 21 w0 (ownL ([] ++ [.sn S0])) [(0, .int .i64 a0), (3, .pointer (some ⟨g9, 0, none⟩)), (7, .agg k13.toArray), (8, .int .i64 x20)] [.box g9 61 k4, .sn S0] a w) Fu ⟨0, hl19, (show r64 0 from ⟨by decide, by decide⟩), h.has (by exact ⟨rfl, rfl, rfl, rfl, trivial⟩)⟩ (fun m23 a w hI => ?_)
    obtain ⟨x20, hl22, hr21, h⟩ := hI
    obtain _ | m23 := m23
    · rw [reply_Word_l0] at hl22; cases hl22
    rw [reply_Word_l0] at hl22
    refine c_rs ?_ -- region 3
    refine s_x h rfl rfl (by decide) (x_bin h.k rfl rfl rfl ib_lss) (fun a h => ?_)
    refine l_end ?_
    refine c_cs h rfl (fun hb => ?_) (fun hb => ?_)
    · rw [if_pos (of_decide_eq_true hb)] at hl22
      refine wp_skip ?_
      refine e_thenN ?_
      refine wp_seq ?_
      refine wp_block ?_
      refine c_rs ?_ -- region 4
      refine s_move h rfl _ rfl rfl (by decide) rfl (fun a h => ?_)
      obtain ⟨x25, h26, hl22⟩ := bsome hl22
      obtain ⟨m24, hi27, hm28, hx29⟩ := idx_some h26
      obtain ⟨u30, hv31, hu32⟩ := (hq17).cell rfl hx29
      obtain ⟨e34, hr33⟩ := hu32
      cases e34
      refine s_x h rfl rfl (by decide) (x_index h.k rfl Tryd.underlying59 Tryd.underlying22 rfl sz_api_Errno rfl rfl hi27 (Nat.lt_of_lt_of_eq hm28 hl16) (by simpa using hv31)) (fun a h => ?_)
      refine s_assign h rfl _ rfl rfl (by decide) rfl (fun a h => ?_)
      refine s_assign h rfl _ rfl rfl (by decide) rfl (fun a h => ?_)
      refine l_end ?_
      refine c_rs ?_ -- region 5
      refine s_move h rfl _ rfl rfl (by decide) rfl (fun a h => ?_)
      refine s_move h rfl _ rfl rfl (by decide) rfl (fun a h => ?_)
      refine s_x h rfl rfl (by decide) (x_bin h.k rfl rfl rfl ib_eql) (fun a h => ?_)
      refine l_end ?_
      refine c_cond h rfl (fun hb => ?_) (fun hb => ?_)
      · rw [if_pos (of_decide_eq_true hb)] at hl22
        refine c_rs ?_ -- region 6
        refine s_move h rfl _ rfl rfl (by decide) rfl (fun a h => ?_)
        obtain ⟨m35, h36, hl22⟩ := bsome hl22
        obtain ⟨hi37, hm38⟩ := ix_some h36
        refine s_x h rfl rfl (by decide) (x_iaddrA h.k rfl Tryd.underlying61 sz_string rfl rfl hi37 hm38 rfl) (fun a h => ?_)
        obtain ⟨x39, h40, hl22⟩ := bsome hl22
        obtain ⟨u41, hv42, hu43⟩ := (hq8).cell rfl h40
        obtain ⟨e45, hr44⟩ := hu43
        cases e45
        refine s_x h rfl rfl (by decide) (x_ld h.k rfl Tryd.underlying9 rfl rfl ((h.m.cell (i := 0) rfl _).trans (by rw [Nat.zero_add, Nat.mul_one]; exact hv42))) (fun a h => ?_)
        refine s_assign h rfl _ rfl rfl (by decide) rfl (fun a h => ?_)
        refine l_end ?_
        refine wp_ret ?_
        refine e_blkR ?_
        refine e_thenR ?_
        refine e_thenR ?_
        refine e_blkR ?_
        refine e_thenR ?_
        cases hl22
        try dsimp only at hf
        refine e_thenR ?_
        rw [← Option.some.inj hf]
        exact r_ret1 h rfl (rv_tmp h rfl) ⟨_, [], _, rfl, ⟨rfl, rfl, hr44, trivial⟩, rfl, (Up.refl _ _ _), (h.m.pick [1] _ (by decide) rfl)⟩
      · rw [if_neg (of_decide_eq_false hb)] at hl22
        refine wp_skip ?_
        refine e_blkN ?_
        refine e_thenN ?_
        refine c_r ?_ -- region 7
        refine s_x h rfl rfl (by decide) (x_bin h.k rfl rfl rfl (ib_add rfl)) (fun a h => ?_)
        refine s_move h rfl _ rfl rfl (by decide) rfl (fun a h => ?_)
        refine l_nil ?_
        exact e_thenN ⟨m23, Nat.lt_succ_self _, w64 (x20 + 1), hl22, (w64_r _), h.has (by exact ⟨rfl, rfl, rfl, rfl, trivial⟩)⟩
    · rw [if_neg (of_decide_eq_false hb)] at hl22
      refine wp_exit ?_
      refine e_thenX ?_
      refine e_thenX ?_
      refine e_blkX ?_
      refine e_thenN ?_
      have h := h.pick [1] (by decide) rfl
      exact ⟨(Option.some.inj hl22), h.has (by exact ⟨rfl, trivial⟩)⟩
  · rintro a w ⟨rfl, h⟩
    try dsimp only at hf
    refine e_thenN ?_
    refine c_rs ?_ -- region 8
    refine s_move h rfl _ rfl rfl (by decide) rfl (fun a h => ?_)
    obtain ⟨x46, h47, hf⟩ := bsome hf
    have hX := strconv_Itoa_ok Fu (S0 := snapAll _) (hGT.mono (h.m.leAll (i := 0) rfl)) a0 hra0 _ h47 _ h.startAll
    refine q_callX hX h rfl rfl rfl (by decide) Tryd.func30 rfl rfl rfl (fun a w v L1 S1 hR hb1 h => ?_)
    obtain ⟨rfl, rfl, hr49, _⟩ := hR
    refine s_assign h rfl _ rfl rfl (by decide) rfl (fun a h => ?_)
    refine l_end ?_
    refine wp_ret ?_
    rw [← Option.some.inj hf]
    exact r_ret1 h rfl (rv_tmp h rfl) ⟨_, [], _, rfl, ⟨rfl, rfl, hr49, trivial⟩, rfl, (Up.refl _ _ _), h.m⟩
end Go.Proofs.YtcjleeclpmgbjaaDoor
