/- Texts put together. -/
import Derived.Test.YtnmeelkfpmodgaaDoorPm
import Derived.Test.YtnmeelkfpmodgaaDoorTy
import Derived.Test.YtnmeelkfpmodgaaDoorTerm2
import Derived.Test.YtnmeelkfpmodgaaDoorSd
import Derived.Test.YtnmeelkfpmodgaaDoorBd
set_option linter.unusedVariables false
set_option linter.unusedSimpArgs false
namespace Go.Proofs.YtnmeelkfpmodgaaDoor
open Go.RowKit
section
section

end
section

end
end
section
def show_Live_l0 (Fu : Nat) (a0 : Int × Int × Int × (List UInt8) × (List (Int × Int)) × (List (List UInt8)) × (List (List UInt8))) : Nat → Int → Int → Option Int
  | 0, _, _ => none
  | k + 1, x31, x33 => if x33 < (a0.2.2.2.2.2.2.length : Int) then (((idx a0.2.2.2.2.2.2 x33).bind fun x43 => if (!(decide (x43 = (List.replicate 32 ((0 : UInt8) : UInt8))))) = true then (some (w64 (x31 + 1))) else (some x31)).bind fun x41 => show_Live_l0 Fu a0 k x41 (w64 (x33 + 1))) else (some x31)
def show_Live (Fu : Nat) (a0 : Int × Int × Int × (List UInt8) × (List (Int × Int)) × (List (List UInt8)) × (List (List UInt8))) : Option Int :=
  (show_Live_l0 Fu a0 Fu 0 0).bind fun x35 => some x35
set_option maxRecDepth 100000 in
set_option maxHeartbeats 2000000 in
theorem show_Live_ok (Fu : Nat) {S0 : Snap} (csa0 : List Value) (a0 : Int × Int × Int × (List UInt8) × (List (Int × Int)) × (List (List UInt8)) × (List (List UInt8))) (hsa0 : (tyP tyI (tyP tyI (tyP tyI (tyP (tyL ty8) (tyP (tyL (tyP tyI tyI)) (tyP (tyL (tyL ty8)) (tyL (tyA 32 ty8)))))))).rep S0 csa0 a0) (r : Int) (hf : show_Live Fu a0 = some r) (w0 : World) (hm : Mem w0 (ownL ([] ++ [.sn S0])) ([] ++ [.sn S0]) w0) :
    Calls Tryd.prog 7 #[.agg csa0.toArray] w0 (Ret w0 S0 [] (fun v L1 S1 => v = .int .i64 r ∧ L1 = [] ∧ r64 r ∧ True)) := by
  unfold show_Live at hf
  obtain ⟨k1, k2, rfl, ⟨rfl, hr3⟩, ⟨k4, k5, rfl, ⟨rfl, hr6⟩, ⟨k7, k8, rfl, ⟨rfl, hr9⟩, ⟨k10, k11, rfl, ⟨A12, c13, rfl, hs14⟩, ⟨k15, k16, rfl, ⟨A17, c18, rfl, hs19⟩, ⟨k20, k21, rfl, ⟨A22, c23, rfl, hs24⟩, ⟨A25, c26, rfl, hs27⟩⟩⟩⟩⟩⟩⟩ := hsa0
  refine c_enterM Tryd.func7 rfl 20 rfl (by simp) _ hm _ rfl (fun a h => ?_)
  refine c_rs ?_ -- region 0
  refine s_box h rfl rfl rfl (by decide) rfl (cs := [.int .i64 a0.1, .int .i64 a0.2.1, .int .i64 a0.2.2.1, .slice A12 a0.2.2.2.1.length c13, .slice A17 a0.2.2.2.2.1.length c18, .slice A22 a0.2.2.2.2.2.1.length c23, .slice A25 a0.2.2.2.2.2.2.length c26]) (by rfl) (fun a w g28 h => ?_)
  refine s_assign h rfl _ rfl rfl (by decide) rfl (fun a h => ?_)
  refine l_end ?_
  refine c_rs ?_ -- region 1
  refine s_assign h rfl _ rfl rfl (by decide) rfl (fun a h => ?_)
  refine l_end ?_
  refine wp_seq ?_
  refine c_rs ?_ -- region 2
  refine s_x h rfl rfl (by decide) (x_faddr h.k rfl Tryd.underlying33 rfl sz_SA32_uint8 rfl) (fun a h => ?_)
  refine s_x h rfl rfl (by decide) (x_ld h.k rfl Tryd.underlying31 rfl rfl ((h.m.cell (i := 0) rfl 6).trans rfl)) (fun a h => ?_)
  refine s_x h rfl rfl (by decide) (x_len h.k rfl Tryd.underlying31 rfl) (fun a h => ?_)
  refine s_move h rfl _ rfl rfl (by decide) rfl (fun a h => ?_)
  refine l_end ?_
  obtain ⟨o29, hl30, hf⟩ := bsome hf
  refine c_fin (fun a w => ∃ (x35 : Int), x35 = o29 ∧ r64 x35 ∧ St 20 w0 (ownL ([] ++ [.sn S0])) [(3, .int .i64 x35)] [.sn S0] a w) ?_ ?_
  · refine wp_block ?_
    have h := h.pick [1] (by decide) rfl
    refine c_loop (fun m38 a w => ∃ (x31 : Int), ∃ (x33 : Int), show_Live_l0 Fu a0 m38 x31 x33 = some o29 ∧ r64 x31 ∧ r64 x33 ∧ St 20 w0 (ownL ([] ++ [.sn S0])) [(3, .int .i64 x31), (7, .slice A25 a0.2.2.2.2.2.2.length c26), (8, .int .i64 (a0.2.2.2.2.2.2.length : Int)), (9, .int .i64 x33)] [.sn S0] a w) Fu ⟨0, 0, hl30, (show r64 0 from ⟨by decide, by decide⟩), (show r64 0 from ⟨by decide, by decide⟩), h.has (by exact ⟨rfl, rfl, rfl, rfl, trivial⟩)⟩ (fun m38 a w hI => ?_)
    obtain ⟨x31, x33, hl37, hr32, hr34, h⟩ := hI
    obtain _ | m38 := m38
    · rw [show_Live_l0] at hl37; cases hl37
    rw [show_Live_l0] at hl37
    refine c_rs ?_ -- region 3
    refine s_x h rfl rfl (by decide) (x_bin h.k rfl rfl rfl ib_lss) (fun a h => ?_)
    refine l_end ?_
    refine c_cs h rfl (fun hb => ?_) (fun hb => ?_)
    · rw [if_pos (of_decide_eq_true hb)] at hl37
      refine wp_skip ?_
      refine e_thenN ?_
      obtain ⟨o39, hc40, hl37⟩ := bsome hl37
      refine c_cut (fun a w => ∃ (x41 : Int), x41 = o39 ∧ r64 x41 ∧ St 20 w0 (ownL ([] ++ [.sn S0])) [(3, .int .i64 x41), (7, .slice A25 a0.2.2.2.2.2.2.length c26), (8, .int .i64 (a0.2.2.2.2.2.2.length : Int)), (9, .int .i64 x33)] [.sn S0] a w) ?_ ?_
      · refine wp_block ?_
        refine c_rs ?_ -- region 4
        obtain ⟨x43, h47, hc40⟩ := bsome hc40
        obtain ⟨m44, hi48, hm49, hx50⟩ := idx_some h47
        obtain ⟨b45, off46, k51, hA52, hu53, hc54⟩ := (hs27).at (by decide) hx50 (h.m.snOK (i := 0) rfl)
        obtain ⟨hs55, hl56⟩ := hu53
        refine s_x h rfl rfl (by decide) (x_iaddrE h.k rfl Tryd.underlying31 sz_A32_uint8 hA52 rfl rfl hi48 hm49) (fun a h => ?_)
        refine s_x h rfl rfl (by decide) (x_ldR h.k rfl ag_A32_uint8 rfl k51 ((hs55).len.trans (by rw [hl56]; rfl)) (hc54 _ (h.m.snOK (i := 0) rfl))) (fun a h => ?_)
        refine s_alloc h rfl rfl rfl (by decide) zi_A32_uint8 rfl (fun a w g57 h => ?_)
        refine s_stW h rfl rfl rfl ag_A32_uint8 rfl (es := k51) rfl ((hs55).len.trans (by rw [hl56]; rfl)) (hs55).one 0 rfl (by first | rfl | simp_all) (fun a w h => ?_)
        refine l_end ?_
        refine c_rs ?_ -- region 5
        refine s_x h rfl rfl (by decide) (x_ldR h.k rfl ag_A32_uint8 rfl k51 ((hs55).len.trans (by rw [hl56]; rfl)) (h.m.range0 (i := 0) rfl)) (fun a h => ?_)
        refine s_x h rfl rfl (by decide) (x_build h.k rfl [] rfl (List.replicate 32 (.int .u8 0 : Value)) (by kernel_rfl)) (fun a h => ?_)
        refine s_x h rfl rfl (by decide) (x_neqA8 (X := k51) (Y := (List.replicate 32 (.int .u8 0 : Value))) h.k rfl Tryd.underlying22 Tryd.underlying5 sz_uint8 gda_A32_uint8 rfl rfl hs55 (show reps ty8 S0 (List.replicate 32 (.int .u8 0 : Value)) (List.replicate 32 ((0 : UInt8) : UInt8)) from repsRep1 (x := ((0 : UInt8) : UInt8)) rfl) hl56 (show (List.replicate 32 ((0 : UInt8) : UInt8)).length = 32 from List.length_replicate)) (fun a h => ?_)
        refine l_end ?_
        refine c_cond h rfl (fun hb => ?_) (fun hb => ?_)
        · rw [if_pos hb] at hc40
          refine c_r ?_ -- region 6
          refine s_move h rfl _ rfl rfl (by decide) rfl (fun a h => ?_)
          refine s_x h rfl rfl (by decide) (x_bin h.k rfl rfl rfl (ib_add rfl)) (fun a h => ?_)
          refine s_assign h rfl _ rfl rfl (by decide) rfl (fun a h => ?_)
          refine l_nil ?_
          refine e_blkN ?_
          refine e_thenN ?_
          have h := h.pick [1] (by decide) rfl
          exact ⟨w64 (x31 + 1), (Option.some.inj hc40), (w64_r _), h.has (by exact ⟨rfl, rfl, rfl, rfl, trivial⟩)⟩
        · rw [if_neg (by rw [hb]; decide)] at hc40
          refine wp_skip ?_
          refine e_blkN ?_
          refine e_thenN ?_
          have h := h.pick [1] (by decide) rfl
          exact ⟨x31, (Option.some.inj hc40), hr32, h.has (by exact ⟨rfl, rfl, rfl, rfl, trivial⟩)⟩
      · rintro a w ⟨x41, rfl, hr42, h⟩
        refine c_r ?_ -- region 7
        refine s_x h rfl rfl (by decide) (x_bin h.k rfl rfl rfl (ib_add rfl)) (fun a h => ?_)
        refine s_move h rfl _ rfl rfl (by decide) rfl (fun a h => ?_)
        refine l_nil ?_
        exact e_thenN ⟨m38, Nat.lt_succ_self _, x41, w64 (x33 + 1), hl37, hr42, (w64_r _), h.has (by exact ⟨rfl, rfl, rfl, rfl, trivial⟩)⟩
    · rw [if_neg (of_decide_eq_false hb)] at hl37
      refine wp_exit ?_
      refine e_thenX ?_
      refine e_thenX ?_
      refine e_blkX ?_
      refine e_thenN ?_
      exact ⟨x31, (Option.some.inj hl37), hr32, h.has (by exact ⟨rfl, trivial⟩)⟩
  · rintro a w ⟨x35, rfl, hr36, h⟩
    refine e_thenN ?_
    refine c_rs ?_ -- region 8
    refine s_move h rfl _ rfl rfl (by decide) rfl (fun a h => ?_)
    refine s_assign h rfl _ rfl rfl (by decide) rfl (fun a h => ?_)
    refine l_end ?_
    refine wp_ret ?_
    rw [← Option.some.inj hf]
    exact r_ret1 h rfl (rv_tmp h rfl) ⟨_, [], _, rfl, ⟨rfl, rfl, hr36, trivial⟩, rfl, (Up.refl _ _ _), h.m⟩
def show_line (Fu : Nat) (a0 : Bool × (List UInt8)) (a1 : List (List UInt8)) : Option ((Bool × (List UInt8))) :=
  (strings_Join Fu a1 ([32] : List UInt8)).bind fun x6 => (strings_Builder_WriteString Fu a0 x6).bind fun x10 => (strings_Builder_WriteByte Fu x10.2 (10 : UInt8)).bind fun x21 => some x21
set_option maxRecDepth 100000 in
set_option maxHeartbeats 2000000 in
theorem show_line_ok (Fu : Nat) {S0 : Snap} (a0 : Bool × (List UInt8)) (g1 : Nat) (A2 : Option Addr) (c3 : Nat) (cs4 : List Value) (hq5 : reps ty8 S0 cs4 a0.2) (Aa1 : Option Addr) (ca1 : Nat) (a1 : List (List UInt8)) (hsa1 : slS tyS S0 Aa1 ca1 a1) (r : (Bool × (List UInt8))) (hf : show_line Fu a0 a1 = some r) (w0 : World) (hm : Mem w0 (ownL ([.box g1 54 ([.pointer (selfA a0.1 g1), .slice A2 a0.2.length c3]), .row (.slice A2 a0.2.length c3) 5 1 a0.2.length cs4] ++ [.sn S0])) ([.box g1 54 ([.pointer (selfA a0.1 g1), .slice A2 a0.2.length c3]), .row (.slice A2 a0.2.length c3) 5 1 a0.2.length cs4] ++ [.sn S0]) w0) :
    Calls Tryd.prog 22 #[.pointer (some ⟨g1, 0, none⟩), .slice Aa1 a1.length ca1] w0 (Ret w0 S0 [.box g1 54 ([.pointer (selfA a0.1 g1), .slice A2 a0.2.length c3]), .row (.slice A2 a0.2.length c3) 5 1 a0.2.length cs4] (fun v L1 S1 => ∃ (A31 : Option Addr), ∃ (c32 : Nat), ∃ (cs33 : List Value), v = .tuple #[] ∧ L1 = [.box g1 54 ([.pointer (selfA r.1 g1), .slice A31 r.2.length c32]), .row (.slice A31 r.2.length c32) 5 1 r.2.length cs33] ∧ reps ty8 S1 cs33 r.2 ∧ True)) := by
  unfold show_line at hf
  obtain ⟨B0, hB0⟩ : ∃ B0, B0 = (ownL ([.box g1 54 ([.pointer (selfA a0.1 g1), .slice A2 a0.2.length c3]), .row (.slice A2 a0.2.length c3) 5 1 a0.2.length cs4] ++ [.sn S0])) := ⟨_, rfl⟩
  rw [← hB0] at hm
  refine c_enterM Tryd.func22 rfl 10 rfl (by simp) _ hm _ rfl (fun a h => ?_)
  refine c_rs ?_ -- region 0
  refine s_move h rfl _ rfl rfl (by decide) rfl (fun a h => ?_)
  refine s_move h rfl _ rfl rfl (by decide) rfl (fun a h => ?_)
  obtain ⟨x6, h7, hf⟩ := bsome hf
  have hX := strings_Join_ok Fu (S0 := snapAll _) Aa1 ca1 a1 (hsa1.mono (h.m.leAll (i := 2) rfl)) ([32] : List UInt8) (by decide) _ h7 _ h.startAll
  refine q_callX hX h rfl rfl rfl (by decide) Tryd.func20 rfl rfl rfl (fun a w v L1 S1 hR hb1 h => ?_)
  obtain ⟨rfl, rfl, hr9, _⟩ := hR
  obtain ⟨x10, h11, hf⟩ := bsome hf
  have hX := strings_Builder_WriteString_ok Fu (S0 := S0) a0 g1 A2 c3 cs4 hq5 x6 hr9 _ h11 _ (h.sub (Ls := [.box g1 54 ([.pointer (selfA a0.1 g1), .slice A2 a0.2.length c3]), .row (.slice A2 a0.2.length c3) 5 1 a0.2.length cs4]))
  refine q_callY (Ls := [.box g1 54 ([.pointer (selfA a0.1 g1), .slice A2 a0.2.length c3]), .row (.slice A2 a0.2.length c3) 5 1 a0.2.length cs4]) hX h (Up.refl _ _ _) rfl rfl rfl (by decide) Tryd.func24 rfl rfl rfl (fun a w v L1 S13 hR le15 up14 h => ?_)
  obtain ⟨A17, c18, cs19, rfl, rfl, hr16, hq20, _⟩ := hR
  refine l_end ?_
  refine c_r ?_ -- region 1
  refine s_move h rfl _ rfl rfl (by decide) rfl (fun a h => ?_)
  obtain ⟨x21, h22, hf⟩ := bsome hf
  have hX := strings_Builder_WriteByte_ok Fu (S0 := S13) x10.2 g1 A17 c18 cs19 hq20 (10 : UInt8) _ h22 _ (h.sub (Ls := [.box g1 54 ([.pointer (selfA x10.2.1 g1), .slice A17 x10.2.2.length c18]), .row (.slice A17 x10.2.2.length c18) 5 1 x10.2.2.length cs19]))
  refine q_callY (Ls := [.box g1 54 ([.pointer (selfA x10.2.1 g1), .slice A17 x10.2.2.length c18]), .row (.slice A17 x10.2.2.length c18) 5 1 x10.2.2.length cs19]) hX h up14 rfl rfl rfl (by decide) Tryd.func25 rfl rfl rfl (fun a w v L1 S24 hR le26 up25 h => ?_)
  obtain ⟨A27, c28, cs29, rfl, rfl, hq30, _⟩ := hR
  refine l_nil ?_
  rw [← Option.some.inj hf]
  subst hB0
  exact r_ret0 h rfl  ⟨_, [.box g1 54 ([.pointer (selfA x21.1 g1), .slice A27 x21.2.length c28]), .row (.slice A27 x21.2.length c28) 5 1 x21.2.length cs29], _, rfl, ⟨A27, c28, cs29, rfl, rfl, hq30, trivial⟩, rfl, up25, h.m⟩
def sha_Hex_l0 (Fu : Nat) (a0 : List UInt8) : Nat → Int → (List UInt8) → Option ((List UInt8))
  | 0, _, _ => none
  | k + 1, x7, x9 => if x7 < 32 then ((idx a0 x7).bind fun x20 => (idx ([48, 49, 50, 51, 52, 53, 54, 55, 56, 57, 97, 98, 99, 100, 101, 102] : List UInt8) ((u8_shr x20 4).toNat : Int)).bind fun x29 => (idx ([48, 49, 50, 51, 52, 53, 54, 55, 56, 57, 97, 98, 99, 100, 101, 102] : List UInt8) ((x20 &&& (15 : UInt8)).toNat : Int)).bind fun x35 => (ix 64 (w64 (2 * x7))).bind fun m40 => (ix 64 (w64 ((w64 (2 * x7)) + 1))).bind fun m47 => sha_Hex_l0 Fu a0 k (w64 (x7 + 1)) ((x9.set m40 x29).set m47 x35)) else (some x9)
def sha_Hex (Fu : Nat) (a0 : List UInt8) : Option ((List UInt8)) :=
  (sha_Hex_l0 Fu a0 Fu 0 (List.replicate 64 ((0 : UInt8) : UInt8))).bind fun x13 => (bnd 64 0 (64 : Int)).bind fun y57 => some ((x13.take y57.2).drop y57.1)
set_option maxRecDepth 100000 in
set_option maxHeartbeats 2000000 in
theorem sha_Hex_ok (Fu : Nat) {S0 : Snap} (csa0 : List Value) (a0 : List UInt8) (hsa0 : (tyA 32 ty8).rep S0 csa0 a0) (r : (List UInt8)) (hf : sha_Hex Fu a0 = some r) (w0 : World) (hm : Mem w0 (ownL ([] ++ [.sn S0])) ([] ++ [.sn S0]) w0) :
    Calls Tryd.prog 23 #[.agg csa0.toArray] w0 (Ret w0 S0 [] (fun v L1 S1 => v = .string (sb r) ∧ L1 = [] ∧ r.length ≤ maxLen ∧ True)) := by
  unfold sha_Hex at hf
  obtain ⟨hs1, hl2⟩ := hsa0
  refine c_enterM Tryd.func23 rfl 27 rfl (by simp) _ hm _ rfl (fun a h => ?_)
  refine c_rs ?_ -- region 0
  refine s_box h rfl rfl rfl (by decide) rfl (cs := csa0) (by rfl) (fun a w g3 h => ?_)
  refine s_assign h rfl _ rfl rfl (by decide) rfl (fun a h => ?_)
  refine l_end ?_
  refine c_rs ?_ -- region 1
  refine s_alloc h rfl rfl rfl (by decide) zi_A64_uint8 rfl (fun a w g4 h => ?_)
  refine l_end ?_
  refine wp_seq ?_
  refine c_rs ?_ -- region 2
  refine s_x h rfl rfl (by decide) (x_ldR h.k rfl ag_A32_uint8 rfl csa0 ((hs1).len.trans (by rw [hl2]; rfl)) (h.m.range0 (i := 1) rfl)) (fun a h => ?_)
  refine s_move h rfl _ rfl rfl (by decide) rfl (fun a h => ?_)
  refine l_end ?_
  obtain ⟨o5, hl6, hf⟩ := bsome hf
  refine c_fin (fun a w => ∃ (x13 : List UInt8), ∃ (k14 : List Value), x13 = o5 ∧ reps ty8 S0 k14 x13 ∧ x13.length = 64 ∧ St 27 w0 (ownL ([] ++ [.sn S0])) [(3, .pointer (some ⟨g4, 0, none⟩))] [.box g4 73 k14, .sn S0] a w) ?_ ?_
  · refine wp_block ?_
    have h := h.pick [0, 2] (by decide) rfl
    refine c_loop (fun m18 a w => ∃ (x7 : Int), ∃ (x9 : List UInt8), ∃ (k10 : List Value), sha_Hex_l0 Fu a0 m18 x7 x9 = some o5 ∧ r64 x7 ∧ reps ty8 S0 k10 x9 ∧ x9.length = 64 ∧ St 27 w0 (ownL ([] ++ [.sn S0])) [(3, .pointer (some ⟨g4, 0, none⟩)), (6, .agg csa0.toArray), (7, .int .i64 x7)] [.box g4 73 k10, .sn S0] a w) Fu ⟨0, (List.replicate 64 ((0 : UInt8) : UInt8)), (List.replicate 64 (.int .u8 0 : Value)), hl6, (show r64 0 from ⟨by decide, by decide⟩), (show reps ty8 S0 (List.replicate 64 (.int .u8 0 : Value)) (List.replicate 64 ((0 : UInt8) : UInt8)) from repsRep1 (x := ((0 : UInt8) : UInt8)) rfl), (show (List.replicate 64 ((0 : UInt8) : UInt8)).length = 64 from List.length_replicate), h.has (by exact ⟨rfl, rfl, rfl, trivial⟩)⟩ (fun m18 a w hI => ?_)
    obtain ⟨x7, x9, k10, hl17, hr8, hs11, hl12, h⟩ := hI
    obtain _ | m18 := m18
    · rw [sha_Hex_l0] at hl17; cases hl17
    rw [sha_Hex_l0] at hl17
    refine c_rs ?_ -- region 3
    refine s_x h rfl rfl (by decide) (x_bin h.k rfl rfl rfl ib_lss) (fun a h => ?_)
    refine l_end ?_
    refine c_cs h rfl (fun hb => ?_) (fun hb => ?_)
    · rw [if_pos (of_decide_eq_true hb)] at hl17
      refine wp_skip ?_
      refine e_thenN ?_
      refine wp_seq ?_
      refine wp_block ?_
      refine c_rs ?_ -- region 4
      refine s_move h rfl _ rfl rfl (by decide) rfl (fun a h => ?_)
      obtain ⟨x20, h21, hl17⟩ := bsome hl17
      obtain ⟨m19, hi22, hm23, hx24⟩ := idx_some h21
      obtain ⟨u25, hv26, hu27⟩ := (hs1).cell rfl hx24
      cases hu27
      refine s_x h rfl rfl (by decide) (x_index h.k rfl Tryd.underlying22 Tryd.underlying5 rfl sz_uint8 rfl rfl hi22 (Nat.lt_of_lt_of_eq hm23 hl2) (by simpa using hv26)) (fun a h => ?_)
      refine s_assign h rfl _ rfl rfl (by decide) rfl (fun a h => ?_)
      refine s_assign h rfl _ rfl rfl (by decide) rfl (fun a h => ?_)
      refine l_end ?_
      -- region 5 draws
      obtain ⟨x29, h30, hl17⟩ := bsome hl17
      obtain ⟨x35, h36, hl17⟩ := bsome hl17
      obtain ⟨m40, h41, hl17⟩ := bsome hl17
      obtain ⟨m47, h48, hl17⟩ := bsome hl17
      refine c_fin (fun a w => ∃ (k54 : List Value), reps ty8 S0 k54 ((x9.set m40 x29).set m47 x35) ∧ ((x9.set m40 x29).set m47 x35).length = 64 ∧ St 27 w0 (ownL ([] ++ [.sn S0])) [(3, .pointer (some ⟨g4, 0, none⟩)), (6, .agg csa0.toArray), (7, .int .i64 x7)] [.box g4 73 k54, .sn S0] a w) ?_ (fun a w h => ?_)
      · refine d_start h (Mem _ _ _) 15 15 rfl (by kernel_rfl) (fun _ _ _ _ _ h => h) (fun _ h => h.pick [1] [.sn S0] (by decide) rfl) (fun Q a w HE HN h HS => ?_)
        refine d_takeP h (fun _ => HS) HN 0 rfl (by kernel_rfl) (by kernel_rfl) (by kernel_rfl) (by decide) rfl rfl (by decide) (fun w' => x_move h.k _ rfl rfl) (fun a h => ?_)
        refine d_takeP h (fun _ => HS) HN 1 rfl (by kernel_rfl) (by kernel_rfl) (by kernel_rfl) (by decide) rfl rfl (by decide) (fun w' => x_bin h.k rfl rfl rfl (ib_mul rfl)) (fun a h => ?_)
        refine d_takeP h (fun _ => HS) HN 2 rfl (by kernel_rfl) (by kernel_rfl) (by kernel_rfl) (by decide) rfl rfl (by decide) (fun w' => x_move h.k _ rfl rfl) (fun a h => ?_)
        refine d_takeP h (fun _ => HS) HN 3 rfl (by kernel_rfl) (by kernel_rfl) (by kernel_rfl) (by decide) rfl rfl (by decide) (fun w' => x_bin h.k rfl rfl rfl (ib_mul rfl)) (fun a h => ?_)
        refine d_takeP h (fun _ => HS) HN 4 rfl (by kernel_rfl) (by kernel_rfl) (by kernel_rfl) (by decide) rfl rfl (by decide) (fun w' => x_bin h.k rfl rfl rfl (ib_add rfl)) (fun a h => ?_)
        refine d_takeP h (fun _ => HS) HN 5 rfl (by kernel_rfl) (by kernel_rfl) (by kernel_rfl) (by decide) rfl rfl (by decide) (fun w' => x_move h.k _ rfl rfl) (fun a h => ?_)
        refine d_takeP h (fun _ => HS) HN 6 rfl (by kernel_rfl) (by kernel_rfl) (by kernel_rfl) (by decide) rfl rfl (by decide) (fun w' => x_bin h.k rfl rfl rfl (ib_shr_u8 x20 4)) (fun a h => ?_)
        obtain ⟨m28, hi31, hm32, hx33⟩ := idx_some h30
        refine d_takeP h (fun _ => HS) HN 7 rfl (by kernel_rfl) (by kernel_rfl) (by kernel_rfl) (by decide) rfl rfl (by decide) (fun w' => x_indexStr h.k rfl Tryd.underlying9 rfl rfl hi31 hx33) (fun a h => ?_)
        refine d_takeP h (fun _ => HS) HN 8 rfl (by kernel_rfl) (by kernel_rfl) (by kernel_rfl) (by decide) rfl rfl (by decide) (fun w' => x_move h.k _ rfl rfl) (fun a h => ?_)
        refine d_takeP h (fun _ => HS) HN 9 rfl (by kernel_rfl) (by kernel_rfl) (by kernel_rfl) (by decide) rfl rfl (by decide) (fun w' => x_bin h.k rfl rfl rfl (ib_and (u8_and_ x20 (15 : UInt8)))) (fun a h => ?_)
        obtain ⟨m34, hi37, hm38, hx39⟩ := idx_some h36
        refine d_takeP h (fun _ => HS) HN 10 rfl (by kernel_rfl) (by kernel_rfl) (by kernel_rfl) (by decide) rfl rfl (by decide) (fun w' => x_indexStr h.k rfl Tryd.underlying9 rfl rfl hi37 hx39) (fun a h => ?_)
        obtain ⟨hi42, hm43⟩ := ix_some h41
        refine d_takeP h (fun _ => HS) HN 11 rfl (by kernel_rfl) (by kernel_rfl) (by kernel_rfl) (by decide) rfl rfl (by decide) (fun w' => x_iaddrA h.k rfl Tryd.underlying73 sz_uint8 rfl rfl hi42 hm43 rfl) (fun a h => ?_)
        refine d_alone 12 rfl (by kernel_rfl) (fun K hK => ?_)
        refine q_setBox (T := ty8) (q := x29) h rfl rfl rfl sz_uint8 rfl rfl 0 rfl rfl hs11 rfl (by first | omega | (simp_all; done)) (fun a w cs44 hq45 h => ?_)
        have hl46 : (x9.set m40 x29).length = 64 := by rw [List.length_set]; exact hl12
        replace HS := h.m.pick [1] [.sn S0] (by decide) rfl
        refine hK _ _ (fun _ _ => HS) ?_
        clear hK
        obtain ⟨hi49, hm50⟩ := ix_some h48
        refine d_takeP h (fun _ => HS) HN 13 rfl (by kernel_rfl) (by kernel_rfl) (by kernel_rfl) (by decide) rfl rfl (by decide) (fun w' => x_iaddrA h.k rfl Tryd.underlying73 sz_uint8 rfl rfl hi49 hm50 rfl) (fun a h => ?_)
        refine d_alone 14 rfl (by kernel_rfl) (fun K hK => ?_)
        refine q_setBox (T := ty8) (q := x35) h rfl rfl rfl sz_uint8 rfl rfl 0 rfl rfl hq45 rfl (by first | omega | (simp_all; done)) (fun a w cs51 hq52 h => ?_)
        have hl53 : ((x9.set m40 x29).set m47 x35).length = 64 := by rw [List.length_set]; exact hl46
        replace HS := h.m.pick [1] [.sn S0] (by decide) rfl
        refine hK _ _ (fun _ _ => HS) ?_
        clear hK
        refine d_done (by kernel_rfl) (HE _ _ ?_) _
        refine e_thenN ?_
        exact ⟨cs51, hq52, hl53, h.has (by exact ⟨rfl, rfl, rfl, trivial⟩)⟩
      obtain ⟨k54, hs55, hl56, h⟩ := h
      refine e_blkN ?_
      refine e_thenN ?_
      refine c_r ?_ -- region 6
      refine s_x h rfl rfl (by decide) (x_bin h.k rfl rfl rfl (ib_add rfl)) (fun a h => ?_)
      refine s_move h rfl _ rfl rfl (by decide) rfl (fun a h => ?_)
      refine l_nil ?_
      exact e_thenN ⟨m18, Nat.lt_succ_self _, w64 (x7 + 1), ((x9.set m40 x29).set m47 x35), k54, hl17, (w64_r _), hs55, hl56, h.has (by exact ⟨rfl, rfl, rfl, trivial⟩)⟩
    · rw [if_neg (of_decide_eq_false hb)] at hl17
      refine wp_exit ?_
      refine e_thenX ?_
      refine e_thenX ?_
      refine e_blkX ?_
      refine e_thenN ?_
      exact ⟨x9, k10, (Option.some.inj hl17), hs11, hl12, h.has (by exact ⟨rfl, trivial⟩)⟩
  · rintro a w ⟨x13, k14, rfl, hs15, hl16, h⟩
    refine e_thenN ?_
    refine c_rs ?_ -- region 7
    obtain ⟨y57, h58, hf⟩ := bsome hf
    obtain ⟨hi59, hi60, hm61, hm62⟩ := bnd_some h58
    obtain ⟨n63, hn64⟩ : ∃ n, y57.2 - y57.1 = n := ⟨_, rfl⟩
    refine s_x h rfl rfl (by decide) (x_viewB h.k rfl Tryd.underlying73 sz_uint8 rfl (bd_none (by omega)) (bd_none (by omega)) hm61 hm62 hn64) (fun a h => ?_)
    obtain ⟨S66, le67, up68, hc69, h⟩ := q_freezeBox h (Up.refl _ _ _)
    obtain rfl : n63 = ((x13.take y57.2).drop y57.1).length := cut_len (by have := hm62; have := hl16; omega) hn64
    have hs70 := slS_vA (T := ty8) hc69 (hs15.mono le67) rfl hl16 (by decide) hm61 hm62
    have hf71 : 64 - y57.1 ≤ ((x13.take y57.2).drop y57.1).length := by have := hl16; have := hi60; simp only [List.length_drop, List.length_take]; omega
    obtain ⟨_, _, vs72, hrd73, hrp74⟩ := id hs70
    refine s_x h rfl rfl (by decide) (x_convBS (S := S66) h.k rfl Tryd.underlying28 Tryd.underlying5 Tryd.underlying9 rfl hrp74 (hrd73 _ (h.m.snOK (i := 0) rfl))) (fun a h => ?_)
    refine s_assign h rfl _ rfl rfl (by decide) rfl (fun a h => ?_)
    refine l_end ?_
    refine wp_ret ?_
    obtain rfl := Option.some.inj hf
    exact r_ret1 h rfl (rv_tmp h rfl) ⟨_, [], _, rfl, ⟨rfl, rfl, (hs70).len, trivial⟩, rfl, up68, h.m⟩
def show_Text_l0 (Fu : Nat) (a0 : Int × (List UInt8) × (List (Int × Int × Int × (List UInt8))) × (List (Int × Int × Int × (List UInt8) × (List (Int × Int)) × (List (List UInt8)) × (List (List UInt8))))) : Nat → Int → (Bool × (List UInt8)) → Option ((Bool × (List UInt8)))
  | 0, _, _ => none
  | k + 1, x64, x66 => if x64 < (a0.2.2.1.length : Int) then ((idx a0.2.2.1 x64).bind fun x81 => (strconv_Itoa Fu x81.1).bind fun x105 => (strconv_Itoa Fu x81.2.1).bind fun x109 => (strconv_Itoa Fu x81.2.2.1).bind fun x113 => (show_line Fu x66 ([([116, 101, 110, 97, 110, 116] : List UInt8), x105, ([113, 117, 111, 116, 97] : List UInt8), x109, ([117, 115, 101, 100] : List UInt8), x113])).bind fun x123 => show_Text_l0 Fu a0 k (w64 (x64 + 1)) x123) else (some x66)
def show_Text_l1 (Fu : Nat) (a0 : Int × (List UInt8) × (List (Int × Int × Int × (List UInt8))) × (List (Int × Int × Int × (List UInt8) × (List (Int × Int)) × (List (List UInt8)) × (List (List UInt8))))) : Nat → Int → (Bool × (List UInt8)) → Option ((Bool × (List UInt8)))
  | 0, _, _ => none
  | k + 1, x149, x151 => if x149 < (a0.2.2.2.length : Int) then ((idx a0.2.2.2 x149).bind fun x166 => (strconv_Itoa Fu x166.1).bind fun x206 => (strconv_Itoa Fu x166.2.1).bind fun x210 => (strconv_Itoa Fu x166.2.2.1).bind fun x214 => (show_Live Fu x166).bind fun x218 => (strconv_Itoa Fu x218).bind fun x222 => (show_line Fu x151 ([([115, 112, 97, 99, 101] : List UInt8), x206, ([111, 102] : List UInt8), x210, ([115, 101, 99, 116, 111, 114, 115] : List UInt8), x214, ([108, 105, 118, 101] : List UInt8), x222])).bind fun x232 => (strings_Builder_WriteString Fu x232 ([32, 32, 97, 116] : List UInt8)).bind fun x253 => ((show_Extents Fu x166.2.2.2.2.1).bind fun x274 => if (!(decide (x274 = ([] : List UInt8)))) = true then ((sapp ([32] : List UInt8) x274).bind fun x278 => (strings_Builder_WriteString Fu x253.2 x278).bind fun x280 => some x280.2) else (some x253.2)).bind fun x269 => (strings_Builder_WriteByte Fu x269 (10 : UInt8)).bind fun x291 => show_Text_l1 Fu a0 k (w64 (x149 + 1)) x291) else (some x151)
def show_Text (Fu : Nat) (a0 : Int × (List UInt8) × (List (Int × Int × Int × (List UInt8))) × (List (Int × Int × Int × (List UInt8) × (List (Int × Int)) × (List (List UInt8)) × (List (List UInt8))))) : Option ((List UInt8)) :=
  (strconv_Itoa Fu a0.1).bind fun x18 => (show_line Fu (false, []) ([([115, 101, 113] : List UInt8), x18])).bind fun x28 => (sha_Hex Fu a0.2.1).bind fun x39 => (show_line Fu x28 ([([104, 101, 97, 100] : List UInt8), x39])).bind fun x49 => (show_Text_l0 Fu a0 Fu 0 x49).bind fun x74 => (show_Text_l1 Fu a0 Fu 0 x74).bind fun x159 => (strings_Builder_String Fu x159).bind fun x302 => some x302
set_option maxRecDepth 100000 in
set_option maxHeartbeats 2000000 in
theorem show_Text_ok (Fu : Nat) {S0 : Snap} (hGT : GT S0) (csa0 : List Value) (a0 : Int × (List UInt8) × (List (Int × Int × Int × (List UInt8))) × (List (Int × Int × Int × (List UInt8) × (List (Int × Int)) × (List (List UInt8)) × (List (List UInt8))))) (hsa0 : (tyP tyI (tyP (tyA 32 ty8) (tyP (tyL (tyP tyI (tyP tyI (tyP tyI (tyA 32 ty8))))) (tyL (tyP tyI (tyP tyI (tyP tyI (tyP (tyL ty8) (tyP (tyL (tyP tyI tyI)) (tyP (tyL (tyL ty8)) (tyL (tyA 32 ty8)))))))))))).rep S0 csa0 a0) (r : (List UInt8)) (hf : show_Text Fu a0 = some r) (w0 : World) (hm : Mem w0 (ownL ([] ++ [.sn S0])) ([] ++ [.sn S0]) w0) :
    Calls Tryd.prog 11 #[.agg csa0.toArray] w0 (Ret w0 S0 [] (fun v L1 S1 => v = .string (sb r) ∧ L1 = [] ∧ r.length ≤ maxLen ∧ True)) := by
  unfold show_Text at hf
  obtain ⟨k1, k2, rfl, ⟨rfl, hr3⟩, ⟨k4, k5, rfl, ⟨hs6, hl7⟩, ⟨k8, k9, rfl, ⟨A10, c11, rfl, hs12⟩, ⟨A13, c14, rfl, hs15⟩⟩⟩⟩ := hsa0
  refine c_enterM Tryd.func11 rfl 71 rfl (by simp) _ hm _ rfl (fun a h => ?_)
  refine c_rs ?_ -- region 0
  refine s_box h rfl rfl rfl (by decide) rfl (cs := ([.int .i64 a0.1] : List Value) ++ (k4 ++ ([.slice A10 a0.2.2.1.length c11, .slice A13 a0.2.2.2.length c14]))) (by rfl) (fun a w g16 h => ?_)
  refine s_assign h rfl _ rfl rfl (by decide) rfl (fun a h => ?_)
  refine l_end ?_
  refine c_rs ?_ -- region 1
  refine s_alloc h rfl rfl rfl (by decide) zi_strings_Builder rfl (fun a w g17 h => ?_)
  refine l_end ?_
  refine c_rs ?_ -- region 2
  refine s_x h rfl rfl (by decide) (x_faddr h.k rfl Tryd.underlying26 rfl sz_int rfl) (fun a h => ?_)
  refine s_x h rfl rfl (by decide) (x_ld h.k rfl Tryd.underlying3 rfl rfl ((h.m.cell (i := 1) rfl 0).trans (cell_oneE (X := []) (Z := k4 ++ (([.slice A10 a0.2.2.1.length c11] : List Value) ++ ([.slice A13 a0.2.2.2.length c14]))) (off := 0) (u := .int .i64 a0.1) (by simp only [List.append_assoc, List.cons_append, List.nil_append, List.append_nil]) rfl))) (fun a h => ?_)
  obtain ⟨x18, h19, hf⟩ := bsome hf
  have hX := strconv_Itoa_ok Fu (S0 := snapAll _) (hGT.mono (h.m.leAll (i := 2) rfl)) a0.1 hr3 _ h19 _ h.startAll
  refine q_callX hX h rfl rfl rfl (by decide) Tryd.func19 rfl rfl rfl (fun a w v L1 S1 hR hb1 h => ?_)
  obtain ⟨rfl, rfl, hr21, _⟩ := hR
  refine q_bslice (T := tyS) (S := S0) h rfl rfl rfl (by decide) Tryd.underlying39 zi_string (by decide) (by decide) (by decide) (by decide) [.string (sb ([115, 101, 113] : List UInt8)), .string (sb x18)] rfl rfl (C := [[.string (sb ([115, 101, 113] : List UInt8))], [.string (sb x18)]]) rfl (xs := [([115, 101, 113] : List UInt8), x18]) ⟨[.string (sb ([115, 101, 113] : List UInt8))], _, rfl, ⟨rfl, (by decide)⟩, ⟨[.string (sb x18)], _, rfl, ⟨rfl, hr21⟩, rfl⟩⟩ (by simp only [List.mem_cons, List.not_mem_nil, or_false]; rintro c (rfl | rfl) <;> rfl) (fun a w A22 h => ?_)
  have hb23 : reps tyS S0 ([[.string (sb ([115, 101, 113] : List UInt8))], [.string (sb x18)]] : List (List Value)).flatten [([115, 101, 113] : List UInt8), x18] := ⟨[.string (sb ([115, 101, 113] : List UInt8))], _, rfl, ⟨rfl, (by decide)⟩, ⟨[.string (sb x18)], _, rfl, ⟨rfl, hr21⟩, rfl⟩⟩
  have h := h.pick [0, 3, 1, 2] (by decide) rfl
  obtain ⟨S24, le25, up26, hs27, h⟩ := q_freeze (T := tyS) h (Up.refl _ _ _) hb23
  obtain ⟨x28, h29, hf⟩ := bsome hf
  have h := h.mem (h.m.nilrow 5 1)
  have h := h.pick [2, 0, 1, 3] (by decide) rfl
  have hX := show_line_ok Fu (S0 := S24) (false, []) g17 none 0 [] (show reps ty8 S24 [] [] from rfl) A22 2 ([([115, 101, 113] : List UInt8), x18]) hs27 _ h29 _ (h.sub (Ls := [.box g17 54 ([.pointer none, .slice none ([]).length 0]), .row (.slice none ([]).length 0) 5 1 ([]).length []]))
  refine q_callY (Ls := [.box g17 54 ([.pointer none, .slice none ([]).length 0]), .row (.slice none ([]).length 0) 5 1 ([]).length []]) hX h up26 rfl rfl rfl (by decide) Tryd.func22 rfl rfl rfl (fun a w v L1 S32 hR le34 up33 h => ?_)
  obtain ⟨A35, c36, cs37, rfl, rfl, hq38, _⟩ := hR
  refine l_end ?_
  refine c_rs ?_ -- region 3
  refine s_x h rfl rfl (by decide) (x_faddr h.k rfl Tryd.underlying26 rfl sz_A32_uint8 rfl) (fun a h => ?_)
  refine s_x h rfl rfl (by decide) (x_ldR h.k rfl ag_A32_uint8 rfl k4 (((hs6.mono (le25.trans le34))).len.trans (by rw [hl7]; rfl)) (h.m.rangeMid (i := 3) (off := 1) (X := [.int .i64 a0.1]) (Y := k4) (Z := ([.slice A10 a0.2.2.1.length c11] : List Value) ++ ([.slice A13 a0.2.2.2.length c14])) rfl (by simp only [List.append_assoc, List.cons_append, List.nil_append, List.append_nil]) rfl)) (fun a h => ?_)
  obtain ⟨x39, h40, hf⟩ := bsome hf
  have hX := sha_Hex_ok Fu (S0 := snapAll _) k4 a0.2.1 ((tyA 32 ty8).mono (h.m.leAll (i := 2) rfl) (show (tyA 32 ty8).rep S32 k4 a0.2.1 from ⟨(hs6.mono (le25.trans le34)), hl7⟩)) _ h40 _ h.startAll
  refine q_callX hX h rfl rfl rfl (by decide) Tryd.func23 rfl rfl rfl (fun a w v L1 S1 hR hb1 h => ?_)
  obtain ⟨rfl, rfl, hr42, _⟩ := hR
  refine q_bslice (T := tyS) (S := S32) h rfl rfl rfl (by decide) Tryd.underlying39 zi_string (by decide) (by decide) (by decide) (by decide) [.string (sb ([104, 101, 97, 100] : List UInt8)), .string (sb x39)] rfl rfl (C := [[.string (sb ([104, 101, 97, 100] : List UInt8))], [.string (sb x39)]]) rfl (xs := [([104, 101, 97, 100] : List UInt8), x39]) ⟨[.string (sb ([104, 101, 97, 100] : List UInt8))], _, rfl, ⟨rfl, (by decide)⟩, ⟨[.string (sb x39)], _, rfl, ⟨rfl, hr42⟩, rfl⟩⟩ (by simp only [List.mem_cons, List.not_mem_nil, or_false]; rintro c (rfl | rfl) <;> rfl) (fun a w A43 h => ?_)
  have hb44 : reps tyS S32 ([[.string (sb ([104, 101, 97, 100] : List UInt8))], [.string (sb x39)]] : List (List Value)).flatten [([104, 101, 97, 100] : List UInt8), x39] := ⟨[.string (sb ([104, 101, 97, 100] : List UInt8))], _, rfl, ⟨rfl, (by decide)⟩, ⟨[.string (sb x39)], _, rfl, ⟨rfl, hr42⟩, rfl⟩⟩
  have h := h.pick [0, 3, 1, 2, 4] (by decide) rfl
  obtain ⟨S45, le46, up47, hs48, h⟩ := q_freeze (T := tyS) h up33 hb44
  obtain ⟨x49, h50, hf⟩ := bsome hf
  have h := h.pick [1, 2, 0, 3] (by decide) rfl
  have hX := show_line_ok Fu (S0 := S45) x28 g17 A35 c36 cs37 (hq38.mono le46) A43 2 ([([104, 101, 97, 100] : List UInt8), x39]) hs48 _ h50 _ (h.sub (Ls := [.box g17 54 ([.pointer (selfA x28.1 g17), .slice A35 x28.2.length c36]), .row (.slice A35 x28.2.length c36) 5 1 x28.2.length cs37]))
  refine q_callY (Ls := [.box g17 54 ([.pointer (selfA x28.1 g17), .slice A35 x28.2.length c36]), .row (.slice A35 x28.2.length c36) 5 1 x28.2.length cs37]) hX h up47 rfl rfl rfl (by decide) Tryd.func22 rfl rfl rfl (fun a w v L1 S52 hR le54 up53 h => ?_)
  obtain ⟨A55, c56, cs57, rfl, rfl, hq58, _⟩ := hR
  refine l_end ?_
  refine wp_seq ?_
  refine c_rs ?_ -- region 4
  refine s_x h rfl rfl (by decide) (x_faddr h.k rfl Tryd.underlying26 rfl sz_Sapi_Tenant rfl) (fun a h => ?_)
  refine s_x h rfl rfl (by decide) (x_ld h.k rfl Tryd.underlying23 rfl rfl ((h.m.cell (i := 3) rfl 33).trans (cell_oneE (X := ([.int .i64 a0.1] : List Value) ++ (k4)) (Z := [.slice A13 a0.2.2.2.length c14]) (off := 33) (u := .slice A10 a0.2.2.1.length c11) (by simp only [List.append_assoc, List.cons_append, List.nil_append, List.append_nil]) (show (([.int .i64 a0.1] : List Value) ++ (k4) : List Value).length = 33 from by simp only [List.length_append, List.length_cons, List.length_nil, (show (k4 : List Value).length = 32 from (((hs6.mono (((le25.trans le34).trans le46).trans le54))).len.trans (by rw [hl7]; rfl)))])))) (fun a h => ?_)
  refine s_x h rfl rfl (by decide) (x_len h.k rfl Tryd.underlying23 rfl) (fun a h => ?_)
  refine s_move h rfl _ rfl rfl (by decide) rfl (fun a h => ?_)
  refine l_end ?_
  obtain ⟨o59, hl60, hf⟩ := bsome hf
  refine c_fin (fun a w => ∃ (S71 : Snap), ∃ (x74 : Bool × (List UInt8)), ∃ (A75 : Option Addr), ∃ (c76 : Nat), ∃ (cs77 : List Value), x74 = o59 ∧ Snap.le S52 S71 ∧ Up (ownL ([] ++ [.sn S0])) w0 S0 S71 ∧ reps ty8 S71 cs77 x74.2 ∧ St 71 w0 (ownL ([] ++ [.sn S0])) [(1, .pointer (some ⟨g16, 0, none⟩)), (3, .pointer (some ⟨g17, 0, none⟩))] [.box g16 26 (([.int .i64 a0.1] : List Value) ++ (k4 ++ ([.slice A10 a0.2.2.1.length c11, .slice A13 a0.2.2.2.length c14]))), .box g17 54 ([.pointer (selfA x74.1 g17), .slice A75 x74.2.length c76]), .row (.slice A75 x74.2.length c76) 5 1 x74.2.length cs77, .sn S71] a w) ?_ ?_
  · refine wp_block ?_
    have h := h.pick [3, 0, 1, 2] (by decide) rfl
    refine c_loop (fun m80 a w => ∃ (S61 : Snap), ∃ (x64 : Int), ∃ (x66 : Bool × (List UInt8)), ∃ (A67 : Option Addr), ∃ (c68 : Nat), ∃ (cs69 : List Value), show_Text_l0 Fu a0 m80 x64 x66 = some o59 ∧ Snap.le S52 S61 ∧ Up (ownL ([] ++ [.sn S0])) w0 S0 S61 ∧ r64 x64 ∧ reps ty8 S61 cs69 x66.2 ∧ St 71 w0 (ownL ([] ++ [.sn S0])) [(1, .pointer (some ⟨g16, 0, none⟩)), (3, .pointer (some ⟨g17, 0, none⟩)), (20, .slice A10 a0.2.2.1.length c11), (21, .int .i64 (a0.2.2.1.length : Int)), (22, .int .i64 x64)] [.box g16 26 (([.int .i64 a0.1] : List Value) ++ (k4 ++ ([.slice A10 a0.2.2.1.length c11, .slice A13 a0.2.2.2.length c14]))), .box g17 54 ([.pointer (selfA x66.1 g17), .slice A67 x66.2.length c68]), .row (.slice A67 x66.2.length c68) 5 1 x66.2.length cs69, .sn S61] a w) Fu ⟨S52, 0, x49, A55, c56, cs57, hl60, (Snap.le.refl _), up53, (show r64 0 from ⟨by decide, by decide⟩), hq58, h.has (by exact ⟨rfl, rfl, rfl, rfl, rfl, trivial⟩)⟩ (fun m80 a w hI => ?_)
    obtain ⟨S61, x64, x66, A67, c68, cs69, hl79, le62, up63, hr65, hq70, h⟩ := hI
    obtain _ | m80 := m80
    · rw [show_Text_l0] at hl79; cases hl79
    rw [show_Text_l0] at hl79
    refine c_rs ?_ -- region 5
    refine s_x h rfl rfl (by decide) (x_bin h.k rfl rfl rfl ib_lss) (fun a h => ?_)
    refine l_end ?_
    refine c_cs h rfl (fun hb => ?_) (fun hb => ?_)
    · rw [if_pos (of_decide_eq_true hb)] at hl79
      refine wp_skip ?_
      refine e_thenN ?_
      refine wp_seq ?_
      refine wp_block ?_
      refine c_rs ?_ -- region 6
      obtain ⟨x81, h85, hl79⟩ := bsome hl79
      obtain ⟨m82, hi86, hm87, hx88⟩ := idx_some h85
      obtain ⟨b83, off84, k89, hA90, hu91, hc92⟩ := ((hs12.mono ((((le25.trans le34).trans le46).trans le54).trans le62))).at (by decide) hx88 (h.m.snOK (i := 3) rfl)
      obtain ⟨k93, k94, rfl, ⟨rfl, hr95⟩, ⟨k96, k97, rfl, ⟨rfl, hr98⟩, ⟨k99, k100, rfl, ⟨rfl, hr101⟩, ⟨hs102, hl103⟩⟩⟩⟩ := hu91
      refine s_x h rfl rfl (by decide) (x_iaddrE h.k rfl Tryd.underlying23 sz_api_Tenant hA90 rfl rfl hi86 hm87) (fun a h => ?_)
      refine s_x h rfl rfl (by decide) (x_ldR h.k rfl ag_api_Tenant rfl (([.int .i64 x81.1, .int .i64 x81.2.1, .int .i64 x81.2.2.1] : List Value) ++ k100) (show (([.int .i64 x81.1, .int .i64 x81.2.1, .int .i64 x81.2.2.1] : List Value) ++ k100 : List Value).length = 35 from by simp only [List.length_append, List.length_cons, List.length_nil, (show (k100 : List Value).length = 32 from ((hs102).len.trans (by rw [hl103]; rfl)))]) (hc92 _ (h.m.snOK (i := 3) rfl))) (fun a h => ?_)
      refine s_alloc h rfl rfl rfl (by decide) zi_api_Tenant rfl (fun a w g104 h => ?_)
      refine s_stW h rfl rfl rfl ag_api_Tenant rfl (es := ([.int .i64 x81.1, .int .i64 x81.2.1, .int .i64 x81.2.2.1] : List Value) ++ k100) rfl (show (([.int .i64 x81.1, .int .i64 x81.2.1, .int .i64 x81.2.2.1] : List Value) ++ k100 : List Value).length = 35 from by simp only [List.length_append, List.length_cons, List.length_nil, (show (k100 : List Value).length = 32 from ((hs102).len.trans (by rw [hl103]; rfl)))]) ((tyP tyI (tyP tyI (tyP tyI (tyA 32 ty8)))).one (show (tyP tyI (tyP tyI (tyP tyI (tyA 32 ty8)))).rep S61 (([.int .i64 x81.1, .int .i64 x81.2.1, .int .i64 x81.2.2.1] : List Value) ++ k100) x81 from ⟨[.int .i64 x81.1], ([.int .i64 x81.2.1, .int .i64 x81.2.2.1] : List Value) ++ k100, rfl, ⟨rfl, hr95⟩, ⟨[.int .i64 x81.2.1], ([.int .i64 x81.2.2.1] : List Value) ++ k100, rfl, ⟨rfl, hr98⟩, ⟨[.int .i64 x81.2.2.1], k100, rfl, ⟨rfl, hr101⟩, ⟨hs102, hl103⟩⟩⟩⟩)) 0 rfl (show (([.int .i64 0, .int .i64 0, .int .i64 0] : List Value) ++ (List.replicate 32 (.int .u8 0 : Value)) : List Value).length = 35 from by simp only [List.length_append, List.length_cons, List.length_nil, (show ((List.replicate 32 (.int .u8 0 : Value)) : List Value).length = 32 from (by first | rfl | simp_all))]) (fun a w h => ?_)
      refine l_end ?_
      -- region 7 draws
      obtain ⟨x105, h106, hl79⟩ := bsome hl79
      obtain ⟨x109, h110, hl79⟩ := bsome hl79
      obtain ⟨x113, h114, hl79⟩ := bsome hl79
      obtain ⟨x123, h124, hl79⟩ := bsome hl79
      refine c_fin (fun a w => ∃ (S133 : Snap), ∃ (A136 : Option Addr), ∃ (c137 : Nat), ∃ (cs138 : List Value), ∃ (A140 : Option Addr), ∃ (c141 : Nat), ∃ (cs142 : List Value), Snap.le S61 S133 ∧ Up (ownL ([] ++ [.sn S0])) w0 S0 S133 ∧ reps ty8 S133 cs138 x123.2 ∧ reps ty8 S133 cs142 x123.2 ∧ St 71 w0 (ownL ([] ++ [.sn S0])) [(1, .pointer (some ⟨g16, 0, none⟩)), (3, .pointer (some ⟨g17, 0, none⟩)), (20, .slice A10 a0.2.2.1.length c11), (21, .int .i64 (a0.2.2.1.length : Int)), (22, .int .i64 x64)] [.box g16 26 (([.int .i64 a0.1] : List Value) ++ (k4 ++ ([.slice A10 a0.2.2.1.length c11, .slice A13 a0.2.2.2.length c14]))), .box g17 54 ([.pointer (selfA x123.1 g17), .slice A140 x123.2.length c141]), .row (.slice A140 x123.2.length c141) 5 1 x123.2.length cs142, .sn S133] a w) ?_ (fun a w h => ?_)
      · refine d_start h (Mem _ _ _) 11 11 rfl (by kernel_rfl) (fun _ _ _ _ _ h => h) (fun _ h => h.pick [0, 1] [.box g104 58 (([.int .i64 x81.1, .int .i64 x81.2.1, .int .i64 x81.2.2.1] : List Value) ++ k100), .box g16 26 (([.int .i64 a0.1] : List Value) ++ (k4 ++ ([.slice A10 a0.2.2.1.length c11, .slice A13 a0.2.2.2.length c14])))] (by decide) rfl) (fun Q a w HE HN h HS => ?_)
        refine d_takeP h (fun _ => HS) HN 0 rfl (by kernel_rfl) (by kernel_rfl) (by kernel_rfl) (by decide) rfl rfl (by decide) (fun w' => x_faddr h.k rfl Tryd.underlying58 rfl sz_int rfl) (fun a h => ?_)
        refine d_take h HS HN 1 rfl (by kernel_rfl) (by kernel_rfl) (by kernel_rfl) (by kernel_rfl) (by kernel_rfl) rfl rfl (by decide) (fun w' hw => x_ld h.k rfl Tryd.underlying3 rfl rfl ((hw.cell (i := 0) rfl 0).trans (cell_oneE (X := []) (Z := ([.int .i64 x81.2.1] : List Value) ++ (([.int .i64 x81.2.2.1] : List Value) ++ (k100))) (off := 0) (u := .int .i64 x81.1) (by simp only [List.append_assoc, List.cons_append, List.nil_append, List.append_nil]) rfl))) (fun a h => ?_)
        refine d_takeP h (fun _ => HS) HN 3 rfl (by kernel_rfl) (by kernel_rfl) (by kernel_rfl) (by decide) rfl rfl (by decide) (fun w' => x_faddr h.k rfl Tryd.underlying58 rfl sz_int rfl) (fun a h => ?_)
        refine d_take h HS HN 4 rfl (by kernel_rfl) (by kernel_rfl) (by kernel_rfl) (by kernel_rfl) (by kernel_rfl) rfl rfl (by decide) (fun w' hw => x_ld h.k rfl Tryd.underlying3 rfl rfl ((hw.cell (i := 0) rfl 1).trans (cell_oneE (X := [.int .i64 x81.1]) (Z := ([.int .i64 x81.2.2.1] : List Value) ++ (k100)) (off := 1) (u := .int .i64 x81.2.1) (by simp only [List.append_assoc, List.cons_append, List.nil_append, List.append_nil]) rfl))) (fun a h => ?_)
        refine d_takeP h (fun _ => HS) HN 6 rfl (by kernel_rfl) (by kernel_rfl) (by kernel_rfl) (by decide) rfl rfl (by decide) (fun w' => x_faddr h.k rfl Tryd.underlying58 rfl sz_int rfl) (fun a h => ?_)
        refine d_take h HS HN 7 rfl (by kernel_rfl) (by kernel_rfl) (by kernel_rfl) (by kernel_rfl) (by kernel_rfl) rfl rfl (by decide) (fun w' hw => x_ld h.k rfl Tryd.underlying3 rfl rfl ((hw.cell (i := 0) rfl 2).trans (cell_oneE (X := ([.int .i64 x81.1] : List Value) ++ ([.int .i64 x81.2.1])) (Z := k100) (off := 2) (u := .int .i64 x81.2.2.1) (by simp only [List.append_assoc, List.cons_append, List.nil_append, List.append_nil]) (show (([.int .i64 x81.1] : List Value) ++ ([.int .i64 x81.2.1]) : List Value).length = 2 from by simp only [List.length_append, List.length_cons, List.length_nil, (show (k100 : List Value).length = 32 from ((hs102).len.trans (by rw [hl103]; rfl)))])))) (fun a h => ?_)
        refine d_alone 2 rfl (by kernel_rfl) (fun K hK => ?_)
        have hX := strconv_Itoa_ok Fu (S0 := snapAll _) ((hGT.mono ((((le25.trans le34).trans le46).trans le54).trans le62)).mono (h.m.leAll (i := 4) rfl)) x81.1 hr95 _ h106 _ h.startAll
        refine q_callX hX h rfl rfl rfl (by decide) Tryd.func19 rfl rfl rfl (fun a w v L1 S1 hR hb1 h => ?_)
        obtain ⟨rfl, rfl, hr108, _⟩ := hR
        replace HS := h.m.pick [0, 1] [.box g104 58 (([.int .i64 x81.1, .int .i64 x81.2.1, .int .i64 x81.2.2.1] : List Value) ++ k100), .box g16 26 (([.int .i64 a0.1] : List Value) ++ (k4 ++ ([.slice A10 a0.2.2.1.length c11, .slice A13 a0.2.2.2.length c14])))] (by decide) rfl
        refine hK _ _ (fun _ _ => HS) ?_
        clear hK
        refine d_alone 5 rfl (by kernel_rfl) (fun K hK => ?_)
        have hX := strconv_Itoa_ok Fu (S0 := snapAll _) ((hGT.mono ((((le25.trans le34).trans le46).trans le54).trans le62)).mono (h.m.leAll (i := 4) rfl)) x81.2.1 hr98 _ h110 _ h.startAll
        refine q_callX hX h rfl rfl rfl (by decide) Tryd.func19 rfl rfl rfl (fun a w v L1 S1 hR hb1 h => ?_)
        obtain ⟨rfl, rfl, hr112, _⟩ := hR
        replace HS := h.m.pick [0, 1] [.box g104 58 (([.int .i64 x81.1, .int .i64 x81.2.1, .int .i64 x81.2.2.1] : List Value) ++ k100), .box g16 26 (([.int .i64 a0.1] : List Value) ++ (k4 ++ ([.slice A10 a0.2.2.1.length c11, .slice A13 a0.2.2.2.length c14])))] (by decide) rfl
        refine hK _ _ (fun _ _ => HS) ?_
        clear hK
        refine d_alone 8 rfl (by kernel_rfl) (fun K hK => ?_)
        have hX := strconv_Itoa_ok Fu (S0 := snapAll _) ((hGT.mono ((((le25.trans le34).trans le46).trans le54).trans le62)).mono (h.m.leAll (i := 4) rfl)) x81.2.2.1 hr101 _ h114 _ h.startAll
        refine q_callX hX h rfl rfl rfl (by decide) Tryd.func19 rfl rfl rfl (fun a w v L1 S1 hR hb1 h => ?_)
        obtain ⟨rfl, rfl, hr116, _⟩ := hR
        replace HS := h.m.pick [0, 1] [.box g104 58 (([.int .i64 x81.1, .int .i64 x81.2.1, .int .i64 x81.2.2.1] : List Value) ++ k100), .box g16 26 (([.int .i64 a0.1] : List Value) ++ (k4 ++ ([.slice A10 a0.2.2.1.length c11, .slice A13 a0.2.2.2.length c14])))] (by decide) rfl
        refine hK _ _ (fun _ _ => HS) ?_
        clear hK
        refine d_alone 9 rfl (by kernel_rfl) (fun K hK => ?_)
        refine q_bslice (T := tyS) (S := S61) h rfl rfl rfl (by decide) Tryd.underlying39 zi_string (by decide) (by decide) (by decide) (by decide) [.string (sb ([116, 101, 110, 97, 110, 116] : List UInt8)), .string (sb x105), .string (sb ([113, 117, 111, 116, 97] : List UInt8)), .string (sb x109), .string (sb ([117, 115, 101, 100] : List UInt8)), .string (sb x113)] rfl rfl (C := [[.string (sb ([116, 101, 110, 97, 110, 116] : List UInt8))], [.string (sb x105)], [.string (sb ([113, 117, 111, 116, 97] : List UInt8))], [.string (sb x109)], [.string (sb ([117, 115, 101, 100] : List UInt8))], [.string (sb x113)]]) rfl (xs := [([116, 101, 110, 97, 110, 116] : List UInt8), x105, ([113, 117, 111, 116, 97] : List UInt8), x109, ([117, 115, 101, 100] : List UInt8), x113]) ⟨[.string (sb ([116, 101, 110, 97, 110, 116] : List UInt8))], _, rfl, ⟨rfl, (by decide)⟩, ⟨[.string (sb x105)], _, rfl, ⟨rfl, hr108⟩, ⟨[.string (sb ([113, 117, 111, 116, 97] : List UInt8))], _, rfl, ⟨rfl, (by decide)⟩, ⟨[.string (sb x109)], _, rfl, ⟨rfl, hr112⟩, ⟨[.string (sb ([117, 115, 101, 100] : List UInt8))], _, rfl, ⟨rfl, (by decide)⟩, ⟨[.string (sb x113)], _, rfl, ⟨rfl, hr116⟩, rfl⟩⟩⟩⟩⟩⟩ (by simp only [List.mem_cons, List.not_mem_nil, or_false]; rintro c (rfl | rfl | rfl | rfl | rfl | rfl) <;> rfl) (fun a w A117 h => ?_)
        have hb118 : reps tyS S61 ([[.string (sb ([116, 101, 110, 97, 110, 116] : List UInt8))], [.string (sb x105)], [.string (sb ([113, 117, 111, 116, 97] : List UInt8))], [.string (sb x109)], [.string (sb ([117, 115, 101, 100] : List UInt8))], [.string (sb x113)]] : List (List Value)).flatten [([116, 101, 110, 97, 110, 116] : List UInt8), x105, ([113, 117, 111, 116, 97] : List UInt8), x109, ([117, 115, 101, 100] : List UInt8), x113] := ⟨[.string (sb ([116, 101, 110, 97, 110, 116] : List UInt8))], _, rfl, ⟨rfl, (by decide)⟩, ⟨[.string (sb x105)], _, rfl, ⟨rfl, hr108⟩, ⟨[.string (sb ([113, 117, 111, 116, 97] : List UInt8))], _, rfl, ⟨rfl, (by decide)⟩, ⟨[.string (sb x109)], _, rfl, ⟨rfl, hr112⟩, ⟨[.string (sb ([117, 115, 101, 100] : List UInt8))], _, rfl, ⟨rfl, (by decide)⟩, ⟨[.string (sb x113)], _, rfl, ⟨rfl, hr116⟩, rfl⟩⟩⟩⟩⟩⟩
        replace HS := h.m.pick [1, 2] [.box g104 58 (([.int .i64 x81.1, .int .i64 x81.2.1, .int .i64 x81.2.2.1] : List Value) ++ k100), .box g16 26 (([.int .i64 a0.1] : List Value) ++ (k4 ++ ([.slice A10 a0.2.2.1.length c11, .slice A13 a0.2.2.2.length c14])))] (by decide) rfl
        refine hK _ _ (fun _ _ => HS) ?_
        clear hK
        refine d_alone 10 rfl (by kernel_rfl) (fun K hK => ?_)
        have h := h.pick [0, 5, 1, 2, 3, 4] (by decide) rfl
        obtain ⟨S119, le120, up121, hs122, h⟩ := q_freeze (T := tyS) h up63 hb118
        have h := h.pick [3, 4, 0, 1, 2] (by decide) rfl
        have hX := show_line_ok Fu (S0 := S119) x66 g17 A67 c68 cs69 (hq70.mono le120) A117 6 ([([116, 101, 110, 97, 110, 116] : List UInt8), x105, ([113, 117, 111, 116, 97] : List UInt8), x109, ([117, 115, 101, 100] : List UInt8), x113]) hs122 _ h124 _ (h.sub (Ls := [.box g17 54 ([.pointer (selfA x66.1 g17), .slice A67 x66.2.length c68]), .row (.slice A67 x66.2.length c68) 5 1 x66.2.length cs69]))
        refine q_callY (Ls := [.box g17 54 ([.pointer (selfA x66.1 g17), .slice A67 x66.2.length c68]), .row (.slice A67 x66.2.length c68) 5 1 x66.2.length cs69]) hX h up121 rfl rfl rfl (by decide) Tryd.func22 rfl rfl rfl (fun a w v L1 S126 hR le128 up127 h => ?_)
        obtain ⟨A129, c130, cs131, rfl, rfl, hq132, _⟩ := hR
        replace HS := h.m.pick [3, 4] [.box g104 58 (([.int .i64 x81.1, .int .i64 x81.2.1, .int .i64 x81.2.2.1] : List Value) ++ k100), .box g16 26 (([.int .i64 a0.1] : List Value) ++ (k4 ++ ([.slice A10 a0.2.2.1.length c11, .slice A13 a0.2.2.2.length c14])))] (by decide) rfl
        refine hK _ _ (fun _ _ => HS) ?_
        clear hK
        refine d_done (by kernel_rfl) (HE _ _ ?_) _
        refine e_thenN ?_
        have h := h.pick [4, 0, 1, 2] (by decide) rfl
        exact ⟨S126, A129, c130, cs131, A129, c130, cs131, (le120.trans le128), up127, hq132, hq132, h.has (by exact ⟨rfl, rfl, rfl, rfl, rfl, trivial⟩)⟩
      obtain ⟨S133, A136, c137, cs138, A140, c141, cs142, le134, up135, hq139, hq143, h⟩ := h
      refine e_blkN ?_
      refine e_thenN ?_
      refine c_r ?_ -- region 8
      refine s_x h rfl rfl (by decide) (x_bin h.k rfl rfl rfl (ib_add rfl)) (fun a h => ?_)
      refine s_move h rfl _ rfl rfl (by decide) rfl (fun a h => ?_)
      refine l_nil ?_
      exact e_thenN ⟨m80, Nat.lt_succ_self _, S133, w64 (x64 + 1), x123, A140, c141, cs142, hl79, (le62.trans le134), up135, (w64_r _), hq143, h.has (by exact ⟨rfl, rfl, rfl, rfl, rfl, trivial⟩)⟩
    · rw [if_neg (of_decide_eq_false hb)] at hl79
      refine wp_exit ?_
      refine e_thenX ?_
      refine e_thenX ?_
      refine e_blkX ?_
      refine e_thenN ?_
      exact ⟨S61, x66, A67, c68, cs69, (Option.some.inj hl79), le62, up63, hq70, h.has (by exact ⟨rfl, rfl, trivial⟩)⟩
  · rintro a w ⟨S71, x74, A75, c76, cs77, rfl, le72, up73, hq78, h⟩
    refine e_thenN ?_
    refine wp_seq ?_
    refine c_rs ?_ -- region 9
    refine s_x h rfl rfl (by decide) (x_faddr h.k rfl Tryd.underlying26 rfl sz_Sapi_Space rfl) (fun a h => ?_)
    refine s_x h rfl rfl (by decide) (x_ld h.k rfl Tryd.underlying24 rfl rfl ((h.m.cell (i := 0) rfl 34).trans (cell_oneE (X := ([.int .i64 a0.1] : List Value) ++ (k4 ++ ([.slice A10 a0.2.2.1.length c11]))) (Z := []) (off := 34) (u := .slice A13 a0.2.2.2.length c14) (by simp only [List.append_assoc, List.cons_append, List.nil_append, List.append_nil]) (show (([.int .i64 a0.1] : List Value) ++ (k4 ++ ([.slice A10 a0.2.2.1.length c11])) : List Value).length = 34 from by simp only [List.length_append, List.length_cons, List.length_nil, (show (k4 : List Value).length = 32 from (((hs6.mono ((((le25.trans le34).trans le46).trans le54).trans le72))).len.trans (by rw [hl7]; rfl)))])))) (fun a h => ?_)
    refine s_x h rfl rfl (by decide) (x_len h.k rfl Tryd.underlying24 rfl) (fun a h => ?_)
    refine s_move h rfl _ rfl rfl (by decide) rfl (fun a h => ?_)
    refine l_end ?_
    obtain ⟨o144, hl145, hf⟩ := bsome hf
    refine c_fin (fun a w => ∃ (S156 : Snap), ∃ (x159 : Bool × (List UInt8)), ∃ (A160 : Option Addr), ∃ (c161 : Nat), ∃ (cs162 : List Value), x159 = o144 ∧ Snap.le S71 S156 ∧ Up (ownL ([] ++ [.sn S0])) w0 S0 S156 ∧ reps ty8 S156 cs162 x159.2 ∧ St 71 w0 (ownL ([] ++ [.sn S0])) [(3, .pointer (some ⟨g17, 0, none⟩))] [.box g17 54 ([.pointer (selfA x159.1 g17), .slice A160 x159.2.length c161]), .row (.slice A160 x159.2.length c161) 5 1 x159.2.length cs162, .sn S156] a w) ?_ ?_
    · refine wp_block ?_
      have h := h.pick [1, 2, 3] (by decide) rfl
      refine c_loop (fun m165 a w => ∃ (S146 : Snap), ∃ (x149 : Int), ∃ (x151 : Bool × (List UInt8)), ∃ (A152 : Option Addr), ∃ (c153 : Nat), ∃ (cs154 : List Value), show_Text_l1 Fu a0 m165 x149 x151 = some o144 ∧ Snap.le S71 S146 ∧ Up (ownL ([] ++ [.sn S0])) w0 S0 S146 ∧ r64 x149 ∧ reps ty8 S146 cs154 x151.2 ∧ St 71 w0 (ownL ([] ++ [.sn S0])) [(3, .pointer (some ⟨g17, 0, none⟩)), (39, .slice A13 a0.2.2.2.length c14), (40, .int .i64 (a0.2.2.2.length : Int)), (41, .int .i64 x149)] [.box g17 54 ([.pointer (selfA x151.1 g17), .slice A152 x151.2.length c153]), .row (.slice A152 x151.2.length c153) 5 1 x151.2.length cs154, .sn S146] a w) Fu ⟨S71, 0, x74, A75, c76, cs77, hl145, (Snap.le.refl _), up73, (show r64 0 from ⟨by decide, by decide⟩), hq78, h.has (by exact ⟨rfl, rfl, rfl, rfl, trivial⟩)⟩ (fun m165 a w hI => ?_)
      obtain ⟨S146, x149, x151, A152, c153, cs154, hl164, le147, up148, hr150, hq155, h⟩ := hI
      obtain _ | m165 := m165
      · rw [show_Text_l1] at hl164; cases hl164
      rw [show_Text_l1] at hl164
      refine c_rs ?_ -- region 10
      refine s_x h rfl rfl (by decide) (x_bin h.k rfl rfl rfl ib_lss) (fun a h => ?_)
      refine l_end ?_
      refine c_cs h rfl (fun hb => ?_) (fun hb => ?_)
      · rw [if_pos (of_decide_eq_true hb)] at hl164
        refine wp_skip ?_
        refine e_thenN ?_
        refine wp_seq ?_
        refine wp_block ?_
        refine c_rs ?_ -- region 11
        obtain ⟨x166, h170, hl164⟩ := bsome hl164
        obtain ⟨m167, hi171, hm172, hx173⟩ := idx_some h170
        obtain ⟨b168, off169, k174, hA175, hu176, hc177⟩ := ((hs15.mono (((((le25.trans le34).trans le46).trans le54).trans le72).trans le147))).at (by decide) hx173 (h.m.snOK (i := 2) rfl)
        obtain ⟨k178, k179, rfl, ⟨rfl, hr180⟩, ⟨k181, k182, rfl, ⟨rfl, hr183⟩, ⟨k184, k185, rfl, ⟨rfl, hr186⟩, ⟨k187, k188, rfl, ⟨A189, c190, rfl, hs191⟩, ⟨k192, k193, rfl, ⟨A194, c195, rfl, hs196⟩, ⟨k197, k198, rfl, ⟨A199, c200, rfl, hs201⟩, ⟨A202, c203, rfl, hs204⟩⟩⟩⟩⟩⟩⟩ := hu176
        refine s_x h rfl rfl (by decide) (x_iaddrE h.k rfl Tryd.underlying24 sz_api_Space hA175 rfl rfl hi171 hm172) (fun a h => ?_)
        refine s_x h rfl rfl (by decide) (x_ldR h.k rfl ag_api_Space rfl ([.int .i64 x166.1, .int .i64 x166.2.1, .int .i64 x166.2.2.1, .slice A189 x166.2.2.2.1.length c190, .slice A194 x166.2.2.2.2.1.length c195, .slice A199 x166.2.2.2.2.2.1.length c200, .slice A202 x166.2.2.2.2.2.2.length c203]) rfl (hc177 _ (h.m.snOK (i := 2) rfl))) (fun a h => ?_)
        refine s_alloc h rfl rfl rfl (by decide) zi_api_Space rfl (fun a w g205 h => ?_)
        refine s_stW h rfl rfl rfl ag_api_Space rfl (es := [.int .i64 x166.1, .int .i64 x166.2.1, .int .i64 x166.2.2.1, .slice A189 x166.2.2.2.1.length c190, .slice A194 x166.2.2.2.2.1.length c195, .slice A199 x166.2.2.2.2.2.1.length c200, .slice A202 x166.2.2.2.2.2.2.length c203]) rfl rfl (by simp [Value.oneCell']) 0 rfl rfl (fun a w h => ?_)
        refine l_end ?_
        refine wp_seq ?_
        -- region 12 draws
        obtain ⟨x206, h207, hl164⟩ := bsome hl164
        obtain ⟨x210, h211, hl164⟩ := bsome hl164
        obtain ⟨x214, h215, hl164⟩ := bsome hl164
        obtain ⟨x218, h219, hl164⟩ := bsome hl164
        obtain ⟨x222, h223, hl164⟩ := bsome hl164
        obtain ⟨x232, h233, hl164⟩ := bsome hl164
        refine c_fin (fun a w => ∃ (S242 : Snap), ∃ (A245 : Option Addr), ∃ (c246 : Nat), ∃ (cs247 : List Value), ∃ (A249 : Option Addr), ∃ (c250 : Nat), ∃ (cs251 : List Value), Snap.le S146 S242 ∧ Up (ownL ([] ++ [.sn S0])) w0 S0 S242 ∧ reps ty8 S242 cs247 x232.2 ∧ reps ty8 S242 cs251 x232.2 ∧ St 71 w0 (ownL ([] ++ [.sn S0])) [(3, .pointer (some ⟨g17, 0, none⟩)), (7, .pointer (some ⟨g205, 0, none⟩)), (39, .slice A13 a0.2.2.2.length c14), (40, .int .i64 (a0.2.2.2.length : Int)), (41, .int .i64 x149)] [.box g17 54 ([.pointer (selfA x232.1 g17), .slice A249 x232.2.length c250]), .row (.slice A249 x232.2.length c250) 5 1 x232.2.length cs251, .box g205 33 ([.int .i64 x166.1, .int .i64 x166.2.1, .int .i64 x166.2.2.1, .slice A189 x166.2.2.2.1.length c190, .slice A194 x166.2.2.2.2.1.length c195, .slice A199 x166.2.2.2.2.2.1.length c200, .slice A202 x166.2.2.2.2.2.2.length c203]), .sn S242] a w) ?_ (fun a w h => ?_)
        · refine d_start h (Mem _ _ _) 14 14 rfl (by kernel_rfl) (fun _ _ _ _ _ h => h) (fun _ h => h.pick [0] [.box g205 33 ([.int .i64 x166.1, .int .i64 x166.2.1, .int .i64 x166.2.2.1, .slice A189 x166.2.2.2.1.length c190, .slice A194 x166.2.2.2.2.1.length c195, .slice A199 x166.2.2.2.2.2.1.length c200, .slice A202 x166.2.2.2.2.2.2.length c203])] (by decide) rfl) (fun Q a w HE HN h HS => ?_)
          refine d_takeP h (fun _ => HS) HN 0 rfl (by kernel_rfl) (by kernel_rfl) (by kernel_rfl) (by decide) rfl rfl (by decide) (fun w' => x_faddr h.k rfl Tryd.underlying33 rfl sz_int rfl) (fun a h => ?_)
          refine d_take h HS HN 1 rfl (by kernel_rfl) (by kernel_rfl) (by kernel_rfl) (by kernel_rfl) (by kernel_rfl) rfl rfl (by decide) (fun w' hw => x_ld h.k rfl Tryd.underlying3 rfl rfl ((hw.cell (i := 0) rfl 0).trans rfl)) (fun a h => ?_)
          refine d_takeP h (fun _ => HS) HN 3 rfl (by kernel_rfl) (by kernel_rfl) (by kernel_rfl) (by decide) rfl rfl (by decide) (fun w' => x_faddr h.k rfl Tryd.underlying33 rfl sz_int rfl) (fun a h => ?_)
          refine d_take h HS HN 4 rfl (by kernel_rfl) (by kernel_rfl) (by kernel_rfl) (by kernel_rfl) (by kernel_rfl) rfl rfl (by decide) (fun w' hw => x_ld h.k rfl Tryd.underlying3 rfl rfl ((hw.cell (i := 0) rfl 1).trans rfl)) (fun a h => ?_)
          refine d_takeP h (fun _ => HS) HN 6 rfl (by kernel_rfl) (by kernel_rfl) (by kernel_rfl) (by decide) rfl rfl (by decide) (fun w' => x_faddr h.k rfl Tryd.underlying33 rfl sz_int rfl) (fun a h => ?_)
          refine d_take h HS HN 7 rfl (by kernel_rfl) (by kernel_rfl) (by kernel_rfl) (by kernel_rfl) (by kernel_rfl) rfl rfl (by decide) (fun w' hw => x_ld h.k rfl Tryd.underlying3 rfl rfl ((hw.cell (i := 0) rfl 2).trans rfl)) (fun a h => ?_)
          refine d_take h HS HN 9 rfl (by kernel_rfl) (by kernel_rfl) (by kernel_rfl) (by kernel_rfl) (by kernel_rfl) rfl rfl (by decide) (fun w' hw => x_ldR h.k rfl ag_api_Space rfl ([.int .i64 x166.1, .int .i64 x166.2.1, .int .i64 x166.2.2.1, .slice A189 x166.2.2.2.1.length c190, .slice A194 x166.2.2.2.2.1.length c195, .slice A199 x166.2.2.2.2.2.1.length c200, .slice A202 x166.2.2.2.2.2.2.length c203]) rfl (hw.range0 (i := 0) rfl)) (fun a h => ?_)
          refine d_alone 2 rfl (by kernel_rfl) (fun K hK => ?_)
          have hX := strconv_Itoa_ok Fu (S0 := snapAll _) ((hGT.mono (((((le25.trans le34).trans le46).trans le54).trans le72).trans le147)).mono (h.m.leAll (i := 3) rfl)) x166.1 hr180 _ h207 _ h.startAll
          refine q_callX hX h rfl rfl rfl (by decide) Tryd.func19 rfl rfl rfl (fun a w v L1 S1 hR hb1 h => ?_)
          obtain ⟨rfl, rfl, hr209, _⟩ := hR
          replace HS := h.m.pick [0] [.box g205 33 ([.int .i64 x166.1, .int .i64 x166.2.1, .int .i64 x166.2.2.1, .slice A189 x166.2.2.2.1.length c190, .slice A194 x166.2.2.2.2.1.length c195, .slice A199 x166.2.2.2.2.2.1.length c200, .slice A202 x166.2.2.2.2.2.2.length c203])] (by decide) rfl
          refine hK _ _ (fun _ _ => HS) ?_
          clear hK
          refine d_alone 5 rfl (by kernel_rfl) (fun K hK => ?_)
          have hX := strconv_Itoa_ok Fu (S0 := snapAll _) ((hGT.mono (((((le25.trans le34).trans le46).trans le54).trans le72).trans le147)).mono (h.m.leAll (i := 3) rfl)) x166.2.1 hr183 _ h211 _ h.startAll
          refine q_callX hX h rfl rfl rfl (by decide) Tryd.func19 rfl rfl rfl (fun a w v L1 S1 hR hb1 h => ?_)
          obtain ⟨rfl, rfl, hr213, _⟩ := hR
          replace HS := h.m.pick [0] [.box g205 33 ([.int .i64 x166.1, .int .i64 x166.2.1, .int .i64 x166.2.2.1, .slice A189 x166.2.2.2.1.length c190, .slice A194 x166.2.2.2.2.1.length c195, .slice A199 x166.2.2.2.2.2.1.length c200, .slice A202 x166.2.2.2.2.2.2.length c203])] (by decide) rfl
          refine hK _ _ (fun _ _ => HS) ?_
          clear hK
          refine d_alone 8 rfl (by kernel_rfl) (fun K hK => ?_)
          have hX := strconv_Itoa_ok Fu (S0 := snapAll _) ((hGT.mono (((((le25.trans le34).trans le46).trans le54).trans le72).trans le147)).mono (h.m.leAll (i := 3) rfl)) x166.2.2.1 hr186 _ h215 _ h.startAll
          refine q_callX hX h rfl rfl rfl (by decide) Tryd.func19 rfl rfl rfl (fun a w v L1 S1 hR hb1 h => ?_)
          obtain ⟨rfl, rfl, hr217, _⟩ := hR
          replace HS := h.m.pick [0] [.box g205 33 ([.int .i64 x166.1, .int .i64 x166.2.1, .int .i64 x166.2.2.1, .slice A189 x166.2.2.2.1.length c190, .slice A194 x166.2.2.2.2.1.length c195, .slice A199 x166.2.2.2.2.2.1.length c200, .slice A202 x166.2.2.2.2.2.2.length c203])] (by decide) rfl
          refine hK _ _ (fun _ _ => HS) ?_
          clear hK
          refine d_alone 10 rfl (by kernel_rfl) (fun K hK => ?_)
          have hX := show_Live_ok Fu (S0 := snapAll _) ([.int .i64 x166.1, .int .i64 x166.2.1, .int .i64 x166.2.2.1, .slice A189 x166.2.2.2.1.length c190, .slice A194 x166.2.2.2.2.1.length c195, .slice A199 x166.2.2.2.2.2.1.length c200, .slice A202 x166.2.2.2.2.2.2.length c203]) x166 ((tyP tyI (tyP tyI (tyP tyI (tyP (tyL ty8) (tyP (tyL (tyP tyI tyI)) (tyP (tyL (tyL ty8)) (tyL (tyA 32 ty8)))))))).mono (h.m.leAll (i := 3) rfl) (show (tyP tyI (tyP tyI (tyP tyI (tyP (tyL ty8) (tyP (tyL (tyP tyI tyI)) (tyP (tyL (tyL ty8)) (tyL (tyA 32 ty8)))))))).rep S146 ([.int .i64 x166.1, .int .i64 x166.2.1, .int .i64 x166.2.2.1, .slice A189 x166.2.2.2.1.length c190, .slice A194 x166.2.2.2.2.1.length c195, .slice A199 x166.2.2.2.2.2.1.length c200, .slice A202 x166.2.2.2.2.2.2.length c203]) x166 from ⟨[.int .i64 x166.1], [.int .i64 x166.2.1, .int .i64 x166.2.2.1, .slice A189 x166.2.2.2.1.length c190, .slice A194 x166.2.2.2.2.1.length c195, .slice A199 x166.2.2.2.2.2.1.length c200, .slice A202 x166.2.2.2.2.2.2.length c203], rfl, ⟨rfl, hr180⟩, ⟨[.int .i64 x166.2.1], [.int .i64 x166.2.2.1, .slice A189 x166.2.2.2.1.length c190, .slice A194 x166.2.2.2.2.1.length c195, .slice A199 x166.2.2.2.2.2.1.length c200, .slice A202 x166.2.2.2.2.2.2.length c203], rfl, ⟨rfl, hr183⟩, ⟨[.int .i64 x166.2.2.1], [.slice A189 x166.2.2.2.1.length c190, .slice A194 x166.2.2.2.2.1.length c195, .slice A199 x166.2.2.2.2.2.1.length c200, .slice A202 x166.2.2.2.2.2.2.length c203], rfl, ⟨rfl, hr186⟩, ⟨[.slice A189 x166.2.2.2.1.length c190], [.slice A194 x166.2.2.2.2.1.length c195, .slice A199 x166.2.2.2.2.2.1.length c200, .slice A202 x166.2.2.2.2.2.2.length c203], rfl, ⟨_, _, rfl, hs191⟩, ⟨[.slice A194 x166.2.2.2.2.1.length c195], [.slice A199 x166.2.2.2.2.2.1.length c200, .slice A202 x166.2.2.2.2.2.2.length c203], rfl, ⟨_, _, rfl, hs196⟩, ⟨[.slice A199 x166.2.2.2.2.2.1.length c200], [.slice A202 x166.2.2.2.2.2.2.length c203], rfl, ⟨_, _, rfl, hs201⟩, ⟨_, _, rfl, hs204⟩⟩⟩⟩⟩⟩⟩)) _ h219 _ h.startAll
          refine q_callX hX h rfl rfl rfl (by decide) Tryd.func7 rfl rfl rfl (fun a w v L1 S1 hR hb1 h => ?_)
          obtain ⟨rfl, rfl, hr221, _⟩ := hR
          replace HS := h.m.pick [0] [.box g205 33 ([.int .i64 x166.1, .int .i64 x166.2.1, .int .i64 x166.2.2.1, .slice A189 x166.2.2.2.1.length c190, .slice A194 x166.2.2.2.2.1.length c195, .slice A199 x166.2.2.2.2.2.1.length c200, .slice A202 x166.2.2.2.2.2.2.length c203])] (by decide) rfl
          refine hK _ _ (fun _ _ => HS) ?_
          clear hK
          refine d_alone 11 rfl (by kernel_rfl) (fun K hK => ?_)
          have hX := strconv_Itoa_ok Fu (S0 := snapAll _) ((hGT.mono (((((le25.trans le34).trans le46).trans le54).trans le72).trans le147)).mono (h.m.leAll (i := 3) rfl)) x218 hr221 _ h223 _ h.startAll
          refine q_callX hX h rfl rfl rfl (by decide) Tryd.func19 rfl rfl rfl (fun a w v L1 S1 hR hb1 h => ?_)
          obtain ⟨rfl, rfl, hr225, _⟩ := hR
          replace HS := h.m.pick [0] [.box g205 33 ([.int .i64 x166.1, .int .i64 x166.2.1, .int .i64 x166.2.2.1, .slice A189 x166.2.2.2.1.length c190, .slice A194 x166.2.2.2.2.1.length c195, .slice A199 x166.2.2.2.2.2.1.length c200, .slice A202 x166.2.2.2.2.2.2.length c203])] (by decide) rfl
          refine hK _ _ (fun _ _ => HS) ?_
          clear hK
          refine d_alone 12 rfl (by kernel_rfl) (fun K hK => ?_)
          refine q_bslice (T := tyS) (S := S146) h rfl rfl rfl (by decide) Tryd.underlying39 zi_string (by decide) (by decide) (by decide) (by decide) [.string (sb ([115, 112, 97, 99, 101] : List UInt8)), .string (sb x206), .string (sb ([111, 102] : List UInt8)), .string (sb x210), .string (sb ([115, 101, 99, 116, 111, 114, 115] : List UInt8)), .string (sb x214), .string (sb ([108, 105, 118, 101] : List UInt8)), .string (sb x222)] rfl rfl (C := [[.string (sb ([115, 112, 97, 99, 101] : List UInt8))], [.string (sb x206)], [.string (sb ([111, 102] : List UInt8))], [.string (sb x210)], [.string (sb ([115, 101, 99, 116, 111, 114, 115] : List UInt8))], [.string (sb x214)], [.string (sb ([108, 105, 118, 101] : List UInt8))], [.string (sb x222)]]) rfl (xs := [([115, 112, 97, 99, 101] : List UInt8), x206, ([111, 102] : List UInt8), x210, ([115, 101, 99, 116, 111, 114, 115] : List UInt8), x214, ([108, 105, 118, 101] : List UInt8), x222]) ⟨[.string (sb ([115, 112, 97, 99, 101] : List UInt8))], _, rfl, ⟨rfl, (by decide)⟩, ⟨[.string (sb x206)], _, rfl, ⟨rfl, hr209⟩, ⟨[.string (sb ([111, 102] : List UInt8))], _, rfl, ⟨rfl, (by decide)⟩, ⟨[.string (sb x210)], _, rfl, ⟨rfl, hr213⟩, ⟨[.string (sb ([115, 101, 99, 116, 111, 114, 115] : List UInt8))], _, rfl, ⟨rfl, (by decide)⟩, ⟨[.string (sb x214)], _, rfl, ⟨rfl, hr217⟩, ⟨[.string (sb ([108, 105, 118, 101] : List UInt8))], _, rfl, ⟨rfl, (by decide)⟩, ⟨[.string (sb x222)], _, rfl, ⟨rfl, hr225⟩, rfl⟩⟩⟩⟩⟩⟩⟩⟩ (by simp only [List.mem_cons, List.not_mem_nil, or_false]; rintro c (rfl | rfl | rfl | rfl | rfl | rfl | rfl | rfl) <;> rfl) (fun a w A226 h => ?_)
          have hb227 : reps tyS S146 ([[.string (sb ([115, 112, 97, 99, 101] : List UInt8))], [.string (sb x206)], [.string (sb ([111, 102] : List UInt8))], [.string (sb x210)], [.string (sb ([115, 101, 99, 116, 111, 114, 115] : List UInt8))], [.string (sb x214)], [.string (sb ([108, 105, 118, 101] : List UInt8))], [.string (sb x222)]] : List (List Value)).flatten [([115, 112, 97, 99, 101] : List UInt8), x206, ([111, 102] : List UInt8), x210, ([115, 101, 99, 116, 111, 114, 115] : List UInt8), x214, ([108, 105, 118, 101] : List UInt8), x222] := ⟨[.string (sb ([115, 112, 97, 99, 101] : List UInt8))], _, rfl, ⟨rfl, (by decide)⟩, ⟨[.string (sb x206)], _, rfl, ⟨rfl, hr209⟩, ⟨[.string (sb ([111, 102] : List UInt8))], _, rfl, ⟨rfl, (by decide)⟩, ⟨[.string (sb x210)], _, rfl, ⟨rfl, hr213⟩, ⟨[.string (sb ([115, 101, 99, 116, 111, 114, 115] : List UInt8))], _, rfl, ⟨rfl, (by decide)⟩, ⟨[.string (sb x214)], _, rfl, ⟨rfl, hr217⟩, ⟨[.string (sb ([108, 105, 118, 101] : List UInt8))], _, rfl, ⟨rfl, (by decide)⟩, ⟨[.string (sb x222)], _, rfl, ⟨rfl, hr225⟩, rfl⟩⟩⟩⟩⟩⟩⟩⟩
          replace HS := h.m.pick [1] [.box g205 33 ([.int .i64 x166.1, .int .i64 x166.2.1, .int .i64 x166.2.2.1, .slice A189 x166.2.2.2.1.length c190, .slice A194 x166.2.2.2.2.1.length c195, .slice A199 x166.2.2.2.2.2.1.length c200, .slice A202 x166.2.2.2.2.2.2.length c203])] (by decide) rfl
          refine hK _ _ (fun _ _ => HS) ?_
          clear hK
          refine d_alone 13 rfl (by kernel_rfl) (fun K hK => ?_)
          have h := h.pick [0, 4, 1, 2, 3] (by decide) rfl
          obtain ⟨S228, le229, up230, hs231, h⟩ := q_freeze (T := tyS) h up148 hb227
          have h := h.pick [2, 3, 0, 1] (by decide) rfl
          have hX := show_line_ok Fu (S0 := S228) x151 g17 A152 c153 cs154 (hq155.mono le229) A226 8 ([([115, 112, 97, 99, 101] : List UInt8), x206, ([111, 102] : List UInt8), x210, ([115, 101, 99, 116, 111, 114, 115] : List UInt8), x214, ([108, 105, 118, 101] : List UInt8), x222]) hs231 _ h233 _ (h.sub (Ls := [.box g17 54 ([.pointer (selfA x151.1 g17), .slice A152 x151.2.length c153]), .row (.slice A152 x151.2.length c153) 5 1 x151.2.length cs154]))
          refine q_callY (Ls := [.box g17 54 ([.pointer (selfA x151.1 g17), .slice A152 x151.2.length c153]), .row (.slice A152 x151.2.length c153) 5 1 x151.2.length cs154]) hX h up230 rfl rfl rfl (by decide) Tryd.func22 rfl rfl rfl (fun a w v L1 S235 hR le237 up236 h => ?_)
          obtain ⟨A238, c239, cs240, rfl, rfl, hq241, _⟩ := hR
          replace HS := h.m.pick [3] [.box g205 33 ([.int .i64 x166.1, .int .i64 x166.2.1, .int .i64 x166.2.2.1, .slice A189 x166.2.2.2.1.length c190, .slice A194 x166.2.2.2.2.1.length c195, .slice A199 x166.2.2.2.2.2.1.length c200, .slice A202 x166.2.2.2.2.2.2.length c203])] (by decide) rfl
          refine hK _ _ (fun _ _ => HS) ?_
          clear hK
          refine d_done (by kernel_rfl) (HE _ _ ?_) _
          refine e_thenN ?_
          have h := h.pick [0, 1, 3, 2] (by decide) rfl
          exact ⟨S235, A238, c239, cs240, A238, c239, cs240, (le229.trans le237), up236, hq241, hq241, h.has (by exact ⟨rfl, rfl, rfl, rfl, rfl, trivial⟩)⟩
        obtain ⟨S242, A245, c246, cs247, A249, c250, cs251, le243, up244, hq248, hq252, h⟩ := h
        refine e_thenN ?_
        refine c_rs ?_ -- region 13
        obtain ⟨x253, h254, hl164⟩ := bsome hl164
        have h := h.pick [0, 1, 3, 2] (by decide) rfl
        have hX := strings_Builder_WriteString_ok Fu (S0 := S242) x232 g17 A249 c250 cs251 hq252 ([32, 32, 97, 116] : List UInt8) (by decide) _ h254 _ (h.sub (Ls := [.box g17 54 ([.pointer (selfA x232.1 g17), .slice A249 x232.2.length c250]), .row (.slice A249 x232.2.length c250) 5 1 x232.2.length cs251]))
        refine q_callY (Ls := [.box g17 54 ([.pointer (selfA x232.1 g17), .slice A249 x232.2.length c250]), .row (.slice A249 x232.2.length c250) 5 1 x232.2.length cs251]) hX h up244 rfl rfl rfl (by decide) Tryd.func24 rfl rfl rfl (fun a w v L1 S256 hR le258 up257 h => ?_)
        obtain ⟨A260, c261, cs262, rfl, rfl, hr259, hq263, _⟩ := hR
        refine l_end ?_
        obtain ⟨o264, hc265, hl164⟩ := bsome hl164
        refine c_cut (fun a w => ∃ (S266 : Snap), ∃ (x269 : Bool × (List UInt8)), ∃ (A270 : Option Addr), ∃ (c271 : Nat), ∃ (cs272 : List Value), x269 = o264 ∧ Snap.le S256 S266 ∧ Up (ownL ([] ++ [.sn S0])) w0 S0 S266 ∧ reps ty8 S266 cs272 x269.2 ∧ St 71 w0 (ownL ([] ++ [.sn S0])) [(3, .pointer (some ⟨g17, 0, none⟩)), (39, .slice A13 a0.2.2.2.length c14), (40, .int .i64 (a0.2.2.2.length : Int)), (41, .int .i64 x149)] [.box g17 54 ([.pointer (selfA x269.1 g17), .slice A270 x269.2.length c271]), .row (.slice A270 x269.2.length c271) 5 1 x269.2.length cs272, .sn S266] a w) ?_ ?_
        · refine c_rs ?_ -- region 14
          refine s_x h rfl rfl (by decide) (x_faddr h.k rfl Tryd.underlying33 rfl sz_Sapi_Extent rfl) (fun a h => ?_)
          refine s_x h rfl rfl (by decide) (x_ld h.k rfl Tryd.underlying29 rfl rfl ((h.m.cell (i := 3) rfl 4).trans rfl)) (fun a h => ?_)
          obtain ⟨x274, h275, hc265⟩ := bsome hc265
          have hX := show_Extents_ok Fu (S0 := snapAll _) ((hGT.mono (((((((le25.trans le34).trans le46).trans le54).trans le72).trans le147).trans le243).trans le258)).mono (h.m.leAll (i := 2) rfl)) A194 c195 x166.2.2.2.2.1 ((hs196.mono (le243.trans le258)).mono (h.m.leAll (i := 2) rfl)) _ h275 _ h.startAll
          refine q_callX hX h rfl rfl rfl (by decide) Tryd.func9 rfl rfl rfl (fun a w v L1 S1 hR hb1 h => ?_)
          obtain ⟨rfl, rfl, hr277, _⟩ := hR
          refine s_assign h rfl _ rfl rfl (by decide) rfl (fun a h => ?_)
          refine l_end ?_
          refine c_rs ?_ -- region 15
          refine s_move h rfl _ rfl rfl (by decide) rfl (fun a h => ?_)
          refine s_x h rfl rfl (by decide) (x_neqStr h.k rfl rfl rfl) (fun a h => ?_)
          refine l_end ?_
          refine c_cond h rfl (fun hb => ?_) (fun hb => ?_)
          · rw [if_pos hb] at hc265
            refine c_r ?_ -- region 16
            refine s_move h rfl _ rfl rfl (by decide) rfl (fun a h => ?_)
            obtain ⟨x278, h279, hc265⟩ := bsome hc265
            refine s_x h rfl rfl (by decide) (x_addS h.k rfl rfl rfl h279) (fun a h => ?_)
            obtain ⟨x280, h281, hc265⟩ := bsome hc265
            have hX := strings_Builder_WriteString_ok Fu (S0 := S256) x253.2 g17 A260 c261 cs262 hq263 x278 (sapp_some h279).2 _ h281 _ (h.sub (Ls := [.box g17 54 ([.pointer (selfA x253.2.1 g17), .slice A260 x253.2.2.length c261]), .row (.slice A260 x253.2.2.length c261) 5 1 x253.2.2.length cs262]))
            refine q_callY (Ls := [.box g17 54 ([.pointer (selfA x253.2.1 g17), .slice A260 x253.2.2.length c261]), .row (.slice A260 x253.2.2.length c261) 5 1 x253.2.2.length cs262]) hX h up257 rfl rfl rfl (by decide) Tryd.func24 rfl rfl rfl (fun a w v L1 S283 hR le285 up284 h => ?_)
            obtain ⟨A287, c288, cs289, rfl, rfl, hr286, hq290, _⟩ := hR
            refine l_nil ?_
            refine e_thenN ?_
            have h := h.pick [0, 1, 2] (by decide) rfl
            exact ⟨S283, x280.2, A287, c288, cs289, (Option.some.inj hc265), le285, up284, hq290, h.has (by exact ⟨rfl, rfl, rfl, rfl, trivial⟩)⟩
          · rw [if_neg (by rw [hb]; decide)] at hc265
            refine wp_skip ?_
            refine e_thenN ?_
            have h := h.pick [0, 1, 2] (by decide) rfl
            exact ⟨S256, x253.2, A260, c261, cs262, (Option.some.inj hc265), (Snap.le.refl _), up257, hq263, h.has (by exact ⟨rfl, rfl, rfl, rfl, trivial⟩)⟩
        · rintro a w ⟨S266, x269, A270, c271, cs272, rfl, le267, up268, hq273, h⟩
          refine c_r ?_ -- region 17
          obtain ⟨x291, h292, hl164⟩ := bsome hl164
          have hX := strings_Builder_WriteByte_ok Fu (S0 := S266) x269 g17 A270 c271 cs272 hq273 (10 : UInt8) _ h292 _ (h.sub (Ls := [.box g17 54 ([.pointer (selfA x269.1 g17), .slice A270 x269.2.length c271]), .row (.slice A270 x269.2.length c271) 5 1 x269.2.length cs272]))
          refine q_callY (Ls := [.box g17 54 ([.pointer (selfA x269.1 g17), .slice A270 x269.2.length c271]), .row (.slice A270 x269.2.length c271) 5 1 x269.2.length cs272]) hX h up268 rfl rfl rfl (by decide) Tryd.func25 rfl rfl rfl (fun a w v L1 S294 hR le296 up295 h => ?_)
          obtain ⟨A297, c298, cs299, rfl, rfl, hq300, _⟩ := hR
          refine l_nil ?_
          refine e_blkN ?_
          refine e_thenN ?_
          refine c_r ?_ -- region 18
          refine s_x h rfl rfl (by decide) (x_bin h.k rfl rfl rfl (ib_add rfl)) (fun a h => ?_)
          refine s_move h rfl _ rfl rfl (by decide) rfl (fun a h => ?_)
          refine l_nil ?_
          exact e_thenN ⟨m165, Nat.lt_succ_self _, S294, w64 (x149 + 1), x291, A297, c298, cs299, hl164, ((((le147.trans le243).trans le258).trans le267).trans le296), up295, (w64_r _), hq300, h.has (by exact ⟨rfl, rfl, rfl, rfl, trivial⟩)⟩
      · rw [if_neg (of_decide_eq_false hb)] at hl164
        refine wp_exit ?_
        refine e_thenX ?_
        refine e_thenX ?_
        refine e_blkX ?_
        refine e_thenN ?_
        exact ⟨S146, x151, A152, c153, cs154, (Option.some.inj hl164), le147, up148, hq155, h.has (by exact ⟨rfl, trivial⟩)⟩
    · rintro a w ⟨S156, x159, A160, c161, cs162, rfl, le157, up158, hq163, h⟩
      refine e_thenN ?_
      refine c_rs ?_ -- region 19
      obtain ⟨x302, h303, hf⟩ := bsome hf
      have hX := strings_Builder_String_ok Fu (S0 := S156) x159 g17 A160 c161 cs162 hq163 _ h303 _ (h.sub (Ls := [.box g17 54 ([.pointer (selfA x159.1 g17), .slice A160 x159.2.length c161]), .row (.slice A160 x159.2.length c161) 5 1 x159.2.length cs162]))
      refine q_callY (Ls := [.box g17 54 ([.pointer (selfA x159.1 g17), .slice A160 x159.2.length c161]), .row (.slice A160 x159.2.length c161) 5 1 x159.2.length cs162]) hX h up158 rfl rfl rfl (by decide) Tryd.func26 rfl rfl rfl (fun a w v L1 S305 hR le307 up306 h => ?_)
      obtain ⟨rfl, rfl, hr308, _⟩ := hR
      refine s_assign h rfl _ rfl rfl (by decide) rfl (fun a h => ?_)
      refine l_end ?_
      refine wp_ret ?_
      rw [← Option.some.inj hf]
      exact r_ret1 h rfl (rv_tmp h rfl) ⟨_, [], _, rfl, ⟨rfl, rfl, hr308, trivial⟩, rfl, up306, h.m⟩
end
end Go.Proofs.YtnmeelkfpmodgaaDoor
