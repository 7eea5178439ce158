/- Texts put together. -/
import Derived.Test.YtcjleeclpmgbjaaDoorPc
import Derived.Test.YtcjleeclpmgbjaaDoorPs
import Derived.Lib.AppendStr
set_option linter.unusedVariables false
set_option linter.unusedSimpArgs false
namespace Go.Proofs.YtcjleeclpmgbjaaDoor
open Go.RowKit
section
section
section
variable {α : Type} {T : Ty α} {P : Program} {ops : Array Oper} {rest : List Oper} {o : Oper} {Q : Exit → Act → World → Prop} {N : Nat} {w0 w w' : World} {B : Nat → Prop} {ρ ρ' : Slots} {L L' Ls R : List Ch} {a a' : Act} {d : Nat} {u v : Value} {S S0 S' : Snap}
end
end
section
section
variable {P : Program} {ops : Array Oper} {rest : List Oper} {o : Oper} {Q : Exit → Act → World → Prop} {N : Nat} {w0 w w' : World} {B : Nat → Prop} {ρ ρ' : Slots} {L L' Ls R : List Ch} {a a' : Act} {d : Nat} {u v : Value} {S S0 S' : Snap}
end
end
end
section
def code_Bytes_l0 (Fu : Nat) (a0 : List UInt8) : Nat → (List UInt8) → Int → Int → Nat → Option (Sum ((List UInt8) × Int) ((List UInt8) × Int × Int))
  | 0, _, _, _, _ => none
  | k + 1, x4, x9, x11, x13 => (match rnx a0 x13 with | .inl _ => (some (.inr (x4, x9, x11))) | .inr y27 => ((strings_IndexByte Fu ([97, 98, 99, 100, 101, 102, 103, 104, 105, 106, 107, 108, 109, 110, 111, 112, 113, 114, 115, 116, 117, 118, 119, 120, 121, 122, 50, 51, 52, 53, 54, 55] : List UInt8) (u8I y27.1)).bind fun x28 => if ((decide (126 < y27.1)) || (decide (x28 < 0))) = true then (some (.inl ([], 11))) else ((if 8 ≤ w64 (x11 + 5) then ((app 1 x4 ([i8 (i64_shr (i64_or (i64_shl x9 5) x28) ((u64I (w64 ((w64 (x11 + 5)) - 8))).toNat))])).bind fun x46 => some (w64 ((w64 (x11 + 5)) - 8), x46)) else (some (w64 (x11 + 5), x4))).bind fun (x37, x39) => code_Bytes_l0 Fu a0 k x39 (i64_and (i64_or (i64_shl x9 5) x28) (w64 ((i64_shl 1 ((u64I x37).toNat)) - 1))) x37 y27.2)))
def code_Bytes (Fu : Nat) (a0 : List UInt8) : Option ((List UInt8) × Int) :=
  (code_Bytes_l0 Fu a0 Fu ([]) 0 0 0).bind fun o => match o with | .inl r56 => some r56 | .inr (x14, x19, x21) => if ((decide (5 ≤ x21)) || (decide (x19 ≠ 0))) = true then (some ([], 11)) else (some (x14, 0))
set_option maxRecDepth 100000 in
set_option maxHeartbeats 2000000 in
theorem code_Bytes_ok (Fu : Nat) {S0 : Snap} (a0 : List UInt8) (hra0 : a0.length ≤ maxLen) (r : (List UInt8) × Int) (hf : code_Bytes Fu a0 = some r) (w0 : World) (hm : Mem w0 (ownL ([] ++ [.sn S0])) ([] ++ [.sn S0]) w0) :
    Calls Tryd.prog 39 #[.string (sb a0)] w0 (Ret w0 S0 [] (fun v L1 S1 => ∃ (A57 : Option Addr), ∃ (c58 : Nat), ∃ (cs59 : List Value), v = .tuple #[.slice A57 r.1.length c58, .int .i64 r.2] ∧ L1 = [.row (.slice A57 r.1.length c58) 5 1 r.1.length cs59] ∧ reps ty8 S1 cs59 r.1 ∧ r64 r.2 ∧ True)) := by
  unfold code_Bytes at hf
  refine c_enterM Tryd.func39 rfl 55 rfl (by simp) _ hm _ rfl (fun a h => ?_)
  refine c_rs ?_ -- region 0
  refine s_assign h rfl _ rfl rfl (by decide) rfl (fun a h => ?_)
  refine s_assign h rfl _ rfl rfl (by decide) rfl (fun a h => ?_)
  refine l_end ?_
  refine c_rs ?_ -- region 1
  refine s_assign h rfl _ rfl rfl (by decide) rfl (fun a h => ?_)
  refine l_end ?_
  refine c_rs ?_ -- region 2
  refine s_assign h rfl _ rfl rfl (by decide) rfl (fun a h => ?_)
  refine s_assign h rfl _ rfl rfl (by decide) rfl (fun a h => ?_)
  refine l_end ?_
  refine wp_seq ?_
  refine c_rs ?_ -- region 3
  refine s_move h rfl _ rfl rfl (by decide) rfl (fun a h => ?_)
  refine s_range h rfl rfl rfl (by decide) Tryd.underlying9 rfl (fun a w g1 h => ?_)
  refine l_end ?_
  obtain ⟨o2, hl3, hf⟩ := bsome hf
  refine c_fin (fun a w => ∃ (x14 : List UInt8), ∃ (A15 : Option Addr), ∃ (c16 : Nat), ∃ (cs17 : List Value), ∃ (x19 : Int), ∃ (x21 : Int), (.inr (x14, x19, x21)) = o2 ∧ reps ty8 S0 cs17 x14 ∧ r64 x19 ∧ r64 x21 ∧ St 55 w0 (ownL ([] ++ [.sn S0])) [(4, .slice A15 x14.length c16), (5, .int .i64 x19), (6, .int .i64 x21)] [.row (.slice A15 x14.length c16) 5 1 x14.length cs17, .sn S0] a w) ?_ ?_
  · refine wp_block ?_
    have h := h.mem (h.m.nilrow 5 1)
    refine c_loop (fun m24 a w => ∃ (x4 : List UInt8), ∃ (A5 : Option Addr), ∃ (c6 : Nat), ∃ (cs7 : List Value), ∃ (x9 : Int), ∃ (x11 : Int), ∃ (x13 : Nat), code_Bytes_l0 Fu a0 m24 x4 x9 x11 x13 = some o2 ∧ reps ty8 S0 cs7 x4 ∧ r64 x9 ∧ r64 x11 ∧ St 55 w0 (ownL ([] ++ [.sn S0])) [(4, .slice A5 x4.length c6), (5, .int .i64 x9), (6, .int .i64 x11), (11, .pointer (some ⟨g1, 0, none⟩))] [.row (.slice A5 x4.length c6) 5 1 x4.length cs7, .obj g1 (.stringIter (sb a0) x13), .sn S0] a w) Fu ⟨[], none, 0, [], 0, 0, 0, hl3, (show reps ty8 S0 [] [] from rfl), (show r64 0 from ⟨by decide, by decide⟩), (show r64 0 from ⟨by decide, by decide⟩), h.has (by exact ⟨rfl, rfl, rfl, rfl, trivial⟩)⟩ (fun m24 a w hI => ?_)
    obtain ⟨x4, A5, c6, cs7, x9, x11, x13, hl23, hq8, hr10, hr12, h⟩ := hI
    obtain _ | m24 := m24
    · rw [code_Bytes_l0] at hl23; cases hl23
    rw [code_Bytes_l0] at hl23
    refine c_rs ?_ -- region 4
    refine s_next h rfl rfl rfl (by decide) rfl 1 rfl (fun hn26 a h => ?_) (fun y27 hn26 a w h => ?_)
    · rw [hn26] at hl23
      dsimp only at hl23
      refine s_x h rfl rfl (by decide) (x_ext h.k rfl rfl rfl) (fun a h => ?_)
      refine l_end ?_
      refine c_cs h rfl (fun hb => ?_) (fun hb => ?_)
      · exact absurd hb (by decide)
      · refine wp_exit ?_
        refine e_thenX ?_
        refine e_thenX ?_
        refine e_blkX ?_
        refine e_thenN ?_
        have h := h.pick [0, 2] (by decide) rfl
        exact ⟨x4, A5, c6, cs7, x9, x11, (Option.some.inj hl23), hq8, hr10, hr12, h.has (by exact ⟨rfl, rfl, rfl, trivial⟩)⟩
    · rw [hn26] at hl23
      dsimp only at hl23
      refine s_x h rfl rfl (by decide) (x_ext h.k rfl rfl rfl) (fun a h => ?_)
      refine l_end ?_
      refine c_cs h rfl (fun hb => ?_) (fun hb => ?_)
      · refine wp_skip ?_
        refine e_thenN ?_
        refine wp_block ?_
        refine c_rs ?_ -- region 5
        refine s_x h rfl rfl (by decide) (x_ext h.k rfl rfl rfl) (fun a h => ?_)
        refine s_assign h rfl _ rfl rfl (by decide) rfl (fun a h => ?_)
        refine l_end ?_
        refine c_rs ?_ -- region 6
        refine s_move h rfl _ rfl rfl (by decide) rfl (fun a h => ?_)
        refine s_x h rfl rfl (by decide) (x_convE h.k rfl Tryd.underlying21 Tryd.underlying5 rfl (u8I_wrap _)) (fun a h => ?_)
        obtain ⟨x28, h29, hl23⟩ := bsome hl23
        have hX := strings_IndexByte_ok Fu (S0 := snapAll _) ([97, 98, 99, 100, 101, 102, 103, 104, 105, 106, 107, 108, 109, 110, 111, 112, 113, 114, 115, 116, 117, 118, 119, 120, 121, 122, 50, 51, 52, 53, 54, 55] : List UInt8) (by decide) (u8I y27.1) _ h29 _ h.startAll
        refine q_callX hX h rfl rfl rfl (by decide) Tryd.func60 rfl rfl rfl (fun a w v L1 S1 hR hb1 h => ?_)
        obtain ⟨rfl, rfl, hr31, _⟩ := hR
        refine s_assign h rfl _ rfl rfl (by decide) rfl (fun a h => ?_)
        refine l_end ?_
        refine wp_seq ?_
        refine c_rs ?_ -- region 7
        refine s_move h rfl _ rfl rfl (by decide) rfl (fun a h => ?_)
        refine s_x h rfl rfl (by decide) (x_bin h.k rfl rfl rfl ib_gtr) (fun a h => ?_)
        refine s_move h rfl _ rfl rfl (by decide) rfl (fun a h => ?_)
        refine q_grp h 3 (t := 20) 23 ((decide (126 < y27.1)) || (decide (x28 < 0))) rfl (fun hB2 => ?_) (fun hB2 => ?_) (fun a w h => ?_)
        · refine g_no h rfl rfl rfl rfl hB2 rfl (by decide) (fun a h => ?_)
          refine g_no h rfl rfl rfl rfl hB2 rfl (by decide) (fun a h => ?_)
          refine s_x h rfl rfl (by decide) (x_pick (u' := undef) h.k rfl rfl (fun _ => rfl) (fun hh => absurd (hB2.symm.trans hh) (by decide))) (fun a h => ?_)
          exact (h.mid 2 rfl).val (by first | rfl | (rw [hB2]; first | rfl | simp))
        · refine g_yes h rfl rfl rfl rfl hB2 ?_
          refine s_move h rfl _ rfl rfl (by decide) rfl (fun a h => ?_)
          refine g_yes h rfl rfl rfl rfl hB2 ?_
          refine s_x h rfl rfl (by decide) (x_bin h.k rfl rfl rfl ib_lss) (fun a h => ?_)
          refine s_x h rfl rfl (by decide) (x_pick (u' := undef) h.k rfl rfl (fun hh => absurd (hB2.symm.trans hh) (by decide)) (fun _ => rfl)) (fun a h => ?_)
          exact (h.mid 2 rfl).val (by first | rfl | (rw [hB2]; first | rfl | simp))
        refine l_end ?_
        refine c_cond h rfl (fun hb => ?_) (fun hb => ?_)
        · rw [if_pos hb] at hl23
          refine c_rs ?_ -- region 8
          refine s_assign h rfl _ rfl rfl (by decide) rfl (fun a h => ?_)
          refine s_assign h rfl _ rfl rfl (by decide) rfl (fun a h => ?_)
          refine l_end ?_
          refine wp_ret ?_
          refine e_thenR ?_
          refine e_blkR ?_
          refine e_thenR ?_
          refine e_blkR ?_
          refine e_thenR ?_
          cases hl23
          try dsimp only at hf
          refine e_thenR ?_
          obtain rfl := Option.some.inj hf
          have h := h.mem (h.m.nilrow 5 1)
          exact r_ret2 h rfl (rv_tmp h rfl) (rv_tmp h rfl) ⟨_, [.row (.slice none ([]).length 0) 5 1 ([]).length []], _, rfl, ⟨none, 0, [], rfl, rfl, (show reps ty8 S0 [] [] from rfl), (show r64 11 from ⟨by decide, by decide⟩), trivial⟩, rfl, (Up.refl _ _ _), (h.m.pick [0, 3] _ (by decide) rfl)⟩
        · rw [if_neg (by rw [hb]; decide)] at hl23
          refine wp_skip ?_
          refine e_thenN ?_
          refine c_rs ?_ -- region 9
          refine s_move h rfl _ rfl rfl (by decide) rfl (fun a h => ?_)
          refine s_x h rfl rfl (by decide) (x_bin h.k rfl rfl rfl (ib_shl_i64 _ 5)) (fun a h => ?_)
          refine s_move h rfl _ rfl rfl (by decide) rfl (fun a h => ?_)
          refine s_x h rfl rfl (by decide) (x_bin h.k rfl rfl rfl (ib_or rfl)) (fun a h => ?_)
          refine s_move h rfl _ rfl rfl (by decide) rfl (fun a h => ?_)
          refine s_x h rfl rfl (by decide) (x_bin h.k rfl rfl rfl (ib_add rfl)) (fun a h => ?_)
          refine s_assign h rfl _ rfl rfl (by decide) rfl (fun a h => ?_)
          refine s_assign h rfl _ rfl rfl (by decide) rfl (fun a h => ?_)
          refine l_end ?_
          obtain ⟨o35, hc36, hl23⟩ := bsome hl23
          refine c_cut (fun a w => ∃ (x37 : Int), ∃ (x39 : List UInt8), ∃ (A40 : Option Addr), ∃ (c41 : Nat), ∃ (cs42 : List Value), (x37, x39) = o35 ∧ r64 x37 ∧ reps ty8 S0 cs42 x39 ∧ St 55 w0 (ownL ([] ++ [.sn S0])) [(4, .slice A40 x39.length c41), (5, .int .i64 (i64_or (i64_shl x9 5) x28)), (6, .int .i64 x37), (11, .pointer (some ⟨g1, 0, none⟩))] [.row (.slice A40 x39.length c41) 5 1 x39.length cs42, .obj g1 (.stringIter (sb a0) y27.2), .sn S0] a w) ?_ ?_
          · refine c_rs ?_ -- region 10
            refine s_move h rfl _ rfl rfl (by decide) rfl (fun a h => ?_)
            refine s_x h rfl rfl (by decide) (x_bin h.k rfl rfl rfl ib_geq) (fun a h => ?_)
            refine l_end ?_
            refine c_cond h rfl (fun hb => ?_) (fun hb => ?_)
            · rw [if_pos (of_decide_eq_true hb)] at hc36
              refine c_rs ?_ -- region 11
              refine s_move h rfl _ rfl rfl (by decide) rfl (fun a h => ?_)
              refine s_x h rfl rfl (by decide) (x_bin h.k rfl rfl rfl (ib_sub rfl)) (fun a h => ?_)
              refine s_assign h rfl _ rfl rfl (by decide) rfl (fun a h => ?_)
              refine l_end ?_
              refine c_r ?_ -- region 12
              refine s_move h rfl _ rfl rfl (by decide) rfl (fun a h => ?_)
              refine s_move h rfl _ rfl rfl (by decide) rfl (fun a h => ?_)
              refine s_move h rfl _ rfl rfl (by decide) rfl (fun a h => ?_)
              refine s_x h rfl rfl (by decide) (x_convE h.k rfl Tryd.underlying3 Tryd.underlying82 rfl (u64I_wrap _)) (fun a h => ?_)
              refine s_x h rfl rfl (by decide) (x_bin h.k rfl rfl rfl (ib_shr_i64 _ ((u64I (w64 ((w64 (x11 + 5)) - 8))).toNat))) (fun a h => ?_)
              refine s_x h rfl rfl (by decide) (x_convE h.k rfl Tryd.underlying3 Tryd.underlying5 rfl (i8_wrap _).symm) (fun a h => ?_)
              refine q_bslice (T := ty8) (S := S0) h rfl rfl rfl (by decide) Tryd.underlying23 zi_uint8 (by decide) (by decide) (by decide) (by decide) [.int .u8 ((i8 (i64_shr (i64_or (i64_shl x9 5) x28) ((u64I (w64 ((w64 (x11 + 5)) - 8))).toNat))).toNat : Int)] rfl rfl (C := [[.int .u8 ((i8 (i64_shr (i64_or (i64_shl x9 5) x28) ((u64I (w64 ((w64 (x11 + 5)) - 8))).toNat))).toNat : Int)]]) rfl (xs := [i8 (i64_shr (i64_or (i64_shl x9 5) x28) ((u64I (w64 ((w64 (x11 + 5)) - 8))).toNat))]) ⟨[.int .u8 ((i8 (i64_shr (i64_or (i64_shl x9 5) x28) ((u64I (w64 ((w64 (x11 + 5)) - 8))).toNat))).toNat : Int)], _, rfl, rfl, rfl⟩ (by intro c hc; simp only [List.mem_cons, List.not_mem_nil, or_false] at hc; subst hc; rfl) (fun a w A44 h => ?_)
              have hb45 : reps ty8 S0 ([[.int .u8 ((i8 (i64_shr (i64_or (i64_shl x9 5) x28) ((u64I (w64 ((w64 (x11 + 5)) - 8))).toNat))).toNat : Int)]] : List (List Value)).flatten [i8 (i64_shr (i64_or (i64_shl x9 5) x28) ((u64I (w64 ((w64 (x11 + 5)) - 8))).toNat))] := ⟨[.int .u8 ((i8 (i64_shr (i64_or (i64_shl x9 5) x28) ((u64I (w64 ((w64 (x11 + 5)) - 8))).toNat))).toNat : Int)], _, rfl, rfl, rfl⟩
              obtain ⟨x46, h47, hc36⟩ := bsome hc36
              refine q_append (T := ty8) (S := S0) h rfl rfl rfl (by decide) Tryd.underlying23 zb_uint8 rfl (by decide) rfl 1 rfl hq8 rfl hb45 (h.m.rdRowA (i := 0) rfl) h47 (fun a w A48 c49 cs50 hq51 h => ?_)
              refine s_assign h rfl _ rfl rfl (by decide) rfl (fun a h => ?_)
              refine l_nil ?_
              refine e_thenN ?_
              have h := h.pick [1, 2, 3] (by decide) rfl
              exact ⟨w64 ((w64 (x11 + 5)) - 8), x46, A48, c49, cs50, (Option.some.inj hc36), (w64_r _), hq51, h.has (by exact ⟨rfl, rfl, rfl, rfl, trivial⟩)⟩
            · rw [if_neg (of_decide_eq_false hb)] at hc36
              refine wp_skip ?_
              refine e_thenN ?_
              exact ⟨w64 (x11 + 5), x4, A5, c6, cs7, (Option.some.inj hc36), (w64_r _), hq8, h.has (by exact ⟨rfl, rfl, rfl, rfl, trivial⟩)⟩
          · rintro a w ⟨x37, x39, A40, c41, cs42, rfl, hr38, hq43, h⟩
            try dsimp only at hl23
            refine c_r ?_ -- region 13
            refine s_move h rfl _ rfl rfl (by decide) rfl (fun a h => ?_)
            refine s_move h rfl _ rfl rfl (by decide) rfl (fun a h => ?_)
            refine s_x h rfl rfl (by decide) (x_convE h.k rfl Tryd.underlying3 Tryd.underlying82 rfl (u64I_wrap _)) (fun a h => ?_)
            refine s_x h rfl rfl (by decide) (x_bin h.k rfl rfl rfl (ib_shl_i64 _ ((u64I x37).toNat))) (fun a h => ?_)
            refine s_x h rfl rfl (by decide) (x_bin h.k rfl rfl rfl (ib_sub rfl)) (fun a h => ?_)
            refine s_x h rfl rfl (by decide) (x_bin h.k rfl rfl rfl (ib_and rfl)) (fun a h => ?_)
            refine s_assign h rfl _ rfl rfl (by decide) rfl (fun a h => ?_)
            refine l_nil ?_
            refine e_blkN ?_
            exact e_thenN ⟨m24, Nat.lt_succ_self _, x39, A40, c41, cs42, i64_and (i64_or (i64_shl x9 5) x28) (w64 ((i64_shl 1 ((u64I x37).toNat)) - 1)), x37, y27.2, hl23, hq43, (i64_and_r _ _), hr38, h.has (by exact ⟨rfl, rfl, rfl, rfl, trivial⟩)⟩
      · exact absurd hb (by decide)
  · rintro a w ⟨x14, A15, c16, cs17, x19, x21, rfl, hq18, hr20, hr22, h⟩
    try dsimp only at hf
    refine e_thenN ?_
    refine wp_seq ?_
    refine c_rs ?_ -- region 14
    refine s_move h rfl _ rfl rfl (by decide) rfl (fun a h => ?_)
    refine s_x h rfl rfl (by decide) (x_bin h.k rfl rfl rfl ib_geq) (fun a h => ?_)
    refine s_move h rfl _ rfl rfl (by decide) rfl (fun a h => ?_)
    refine q_grp h 3 (t := 50) 53 ((decide (5 ≤ x21)) || (decide (x19 ≠ 0))) rfl (fun hB2 => ?_) (fun hB2 => ?_) (fun a w h => ?_)
    · refine g_no h rfl rfl rfl rfl hB2 rfl (by decide) (fun a h => ?_)
      refine g_no h rfl rfl rfl rfl hB2 rfl (by decide) (fun a h => ?_)
      refine s_x h rfl rfl (by decide) (x_pick (u' := undef) h.k rfl rfl (fun _ => rfl) (fun hh => absurd (hB2.symm.trans hh) (by decide))) (fun a h => ?_)
      exact (h.mid 2 rfl).val (by first | rfl | (rw [hB2]; first | rfl | simp))
    · refine g_yes h rfl rfl rfl rfl hB2 ?_
      refine s_move h rfl _ rfl rfl (by decide) rfl (fun a h => ?_)
      refine g_yes h rfl rfl rfl rfl hB2 ?_
      refine s_x h rfl rfl (by decide) (x_bin h.k rfl rfl rfl ib_neq) (fun a h => ?_)
      refine s_x h rfl rfl (by decide) (x_pick (u' := undef) h.k rfl rfl (fun hh => absurd (hB2.symm.trans hh) (by decide)) (fun _ => rfl)) (fun a h => ?_)
      exact (h.mid 2 rfl).val (by first | rfl | (rw [hB2]; first | rfl | simp))
    refine l_end ?_
    refine c_cond h rfl (fun hb => ?_) (fun hb => ?_)
    · rw [if_pos hb] at hf
      refine c_rs ?_ -- region 15
      refine s_assign h rfl _ rfl rfl (by decide) rfl (fun a h => ?_)
      refine s_assign h rfl _ rfl rfl (by decide) rfl (fun a h => ?_)
      refine l_end ?_
      refine wp_ret ?_
      refine e_thenR ?_
      obtain rfl := Option.some.inj hf
      have h := h.mem (h.m.nilrow 5 1)
      exact r_ret2 h rfl (rv_tmp h rfl) (rv_tmp h rfl) ⟨_, [.row (.slice none ([]).length 0) 5 1 ([]).length []], _, rfl, ⟨none, 0, [], rfl, rfl, (show reps ty8 S0 [] [] from rfl), (show r64 11 from ⟨by decide, by decide⟩), trivial⟩, rfl, (Up.refl _ _ _), (h.m.pick [0, 2] _ (by decide) rfl)⟩
    · rw [if_neg (by rw [hb]; decide)] at hf
      refine wp_skip ?_
      refine e_thenN ?_
      refine c_rs ?_ -- region 16
      refine s_move h rfl _ rfl rfl (by decide) rfl (fun a h => ?_)
      refine s_assign h rfl _ rfl rfl (by decide) rfl (fun a h => ?_)
      refine s_assign h rfl _ rfl rfl (by decide) rfl (fun a h => ?_)
      refine l_end ?_
      refine wp_ret ?_
      obtain rfl := Option.some.inj hf
      exact r_ret2 h rfl (rv_tmp h rfl) (rv_tmp h rfl) ⟨_, [.row (.slice A15 x14.length c16) 5 1 x14.length cs17], _, rfl, ⟨A15, c16, cs17, rfl, rfl, hq18, (show r64 0 from ⟨by decide, by decide⟩), trivial⟩, rfl, (Up.refl _ _ _), h.m⟩
end
end Go.Proofs.YtcjleeclpmgbjaaDoor
