/- Sh: Go functions as plain functions, and that they are so (written by xt.py). -/
import Derived.Test.YtnmeelkfpmodgaaDoorSb
set_option linter.unusedVariables false
set_option linter.unusedSimpArgs false
namespace Go.Proofs.YtnmeelkfpmodgaaDoor
open Go.RowKit
def chatelaineref42_Live_l0 (Fu : Nat) (a0 : Int × Int × Int × (List UInt8) × (List (Int × Int)) × (List (List UInt8)) × (List (List UInt8))) : Nat → Int → Int → Option Int
  | 0, _, _ => none
  | k + 1, x32, x34 => if x34 < (a0.2.2.2.2.2.2.length : Int) then (((idx a0.2.2.2.2.2.2 x34).bind fun x44 => if (!(decide (x44 = (List.replicate 32 ((0 : UInt8) : UInt8))))) = true then (some (w64 (x32 + 1))) else (some x32)).bind fun x42 => chatelaineref42_Live_l0 Fu a0 k x42 (w64 (x34 + 1))) else (some x32)
def chatelaineref42_Live (Fu : Nat) (a0 : Int × Int × Int × (List UInt8) × (List (Int × Int)) × (List (List UInt8)) × (List (List UInt8))) : Option Int :=
  (chatelaineref42_Live_l0 Fu a0 Fu 0 0).bind fun x36 => some x36
set_option maxRecDepth 100000 in
set_option maxHeartbeats 2000000 in
theorem chatelaineref42_Live_ok (Fu : Nat) {S0 : Snap} (csa0 : List Value) (a0 : Int × Int × Int × (List UInt8) × (List (Int × Int)) × (List (List UInt8)) × (List (List UInt8))) (hsa0 : (tyP tyI (tyP tyI (tyP tyI (tyP (tyL ty8) (tyP (tyL (tyP tyI tyI)) (tyP (tyL (tyL ty8)) (tyL (tyA 32 ty8)))))))).rep S0 csa0 a0) (r : Int) (hf : chatelaineref42_Live Fu a0 = some r) (w0 : World) (hm : Mem w0 (ownL ([] ++ [.sn S0])) ([] ++ [.sn S0]) w0) :
    Calls Tryd.prog 8 #[.agg csa0.toArray] w0 (Ret w0 S0 [] (fun v L1 S1 => v = .int .i64 r ∧ L1 = [] ∧ r64 r ∧ True)) := by
  unfold chatelaineref42_Live at hf
  obtain ⟨k1, k2, rfl, ⟨rfl, hr3⟩, ⟨k4, k5, rfl, ⟨rfl, hr6⟩, ⟨k7, k8, rfl, ⟨rfl, hr9⟩, ⟨k10, k11, rfl, ⟨A12, c13, rfl, hs14⟩, ⟨k15, k16, rfl, ⟨A17, c18, rfl, hs19⟩, ⟨k20, k21, rfl, ⟨A22, c23, rfl, hs24⟩, ⟨A25, c26, rfl, hs27⟩⟩⟩⟩⟩⟩⟩ := hsa0
  refine c_enterM Tryd.func8 rfl 23 rfl (by simp) _ hm _ rfl (fun a h => ?_)
  refine c_rs ?_ -- region 0
  refine s_box h rfl rfl rfl (by decide) rfl (cs := [.int .i64 a0.1, .int .i64 a0.2.1, .int .i64 a0.2.2.1, .slice A12 a0.2.2.2.1.length c13, .slice A17 a0.2.2.2.2.1.length c18, .slice A22 a0.2.2.2.2.2.1.length c23, .slice A25 a0.2.2.2.2.2.2.length c26]) (by rfl) (fun a w g28 h => ?_)
  refine s_assign h rfl _ rfl rfl (by decide) rfl (fun a h => ?_)
  refine l_end ?_
  refine c_rs ?_ -- region 1
  refine s_alloc h rfl rfl rfl (by decide) zi_A32_uint8 rfl (fun a w g29 h => ?_)
  refine l_end ?_
  refine c_rs ?_ -- region 2
  refine s_assign h rfl _ rfl rfl (by decide) rfl (fun a h => ?_)
  refine l_end ?_
  refine wp_seq ?_
  refine c_rs ?_ -- region 3
  refine s_assign h rfl _ rfl rfl (by decide) rfl (fun a h => ?_)
  refine l_end ?_
  obtain ⟨o30, hl31, hf⟩ := bsome hf
  refine c_fin (fun a w => ∃ (x36 : Int), x36 = o30 ∧ r64 x36 ∧ St 23 w0 (ownL ([] ++ [.sn S0])) [(4, .int .i64 x36)] [.sn S0] a w) ?_ ?_
  · refine wp_block ?_
    have h := h.pick [1, 0, 2] (by decide) rfl
    refine c_loop (fun m39 a w => ∃ (x32 : Int), ∃ (x34 : Int), chatelaineref42_Live_l0 Fu a0 m39 x32 x34 = some o30 ∧ r64 x32 ∧ r64 x34 ∧ St 23 w0 (ownL ([] ++ [.sn S0])) [(1, .pointer (some ⟨g28, 0, none⟩)), (3, .pointer (some ⟨g29, 0, none⟩)), (4, .int .i64 x32), (5, .int .i64 x34)] [.box g28 33 ([.int .i64 a0.1, .int .i64 a0.2.1, .int .i64 a0.2.2.1, .slice A12 a0.2.2.2.1.length c13, .slice A17 a0.2.2.2.2.1.length c18, .slice A22 a0.2.2.2.2.2.1.length c23, .slice A25 a0.2.2.2.2.2.2.length c26]), .box g29 22 (List.replicate 32 (.int .u8 0 : Value)), .sn S0] a w) Fu ⟨0, 0, hl31, (show r64 0 from ⟨by decide, by decide⟩), (show r64 0 from ⟨by decide, by decide⟩), h.has (by exact ⟨rfl, rfl, rfl, rfl, trivial⟩)⟩ (fun m39 a w hI => ?_)
    obtain ⟨x32, x34, hl38, hr33, hr35, h⟩ := hI
    obtain _ | m39 := m39
    · rw [chatelaineref42_Live_l0] at hl38; cases hl38
    rw [chatelaineref42_Live_l0] at hl38
    refine wp_seq ?_
    refine c_rs ?_ -- region 4
    refine s_move h rfl _ rfl rfl (by decide) rfl (fun a h => ?_)
    refine s_x h rfl rfl (by decide) (x_faddr h.k rfl Tryd.underlying33 rfl sz_SA32_uint8 rfl) (fun a h => ?_)
    refine s_x h rfl rfl (by decide) (x_ld h.k rfl Tryd.underlying31 rfl rfl ((h.m.cell (i := 0) rfl 6).trans rfl)) (fun a h => ?_)
    refine s_x h rfl rfl (by decide) (x_len h.k rfl Tryd.underlying31 rfl) (fun a h => ?_)
    refine s_x h rfl rfl (by decide) (x_bin h.k rfl rfl rfl ib_lss) (fun a h => ?_)
    refine l_end ?_
    refine c_cond h rfl (fun hb => ?_) (fun hb => ?_)
    · rw [if_pos (of_decide_eq_true hb)] at hl38
      refine wp_skip ?_
      refine e_thenN ?_
      obtain ⟨o40, hc41, hl38⟩ := bsome hl38
      refine c_cut (fun a w => ∃ (x42 : Int), x42 = o40 ∧ r64 x42 ∧ St 23 w0 (ownL ([] ++ [.sn S0])) [(1, .pointer (some ⟨g28, 0, none⟩)), (3, .pointer (some ⟨g29, 0, none⟩)), (4, .int .i64 x42), (5, .int .i64 x34)] [.box g28 33 ([.int .i64 a0.1, .int .i64 a0.2.1, .int .i64 a0.2.2.1, .slice A12 a0.2.2.2.1.length c13, .slice A17 a0.2.2.2.2.1.length c18, .slice A22 a0.2.2.2.2.2.1.length c23, .slice A25 a0.2.2.2.2.2.2.length c26]), .box g29 22 (List.replicate 32 (.int .u8 0 : Value)), .sn S0] a w) ?_ ?_
      · refine wp_block ?_
        refine wp_seq ?_
        -- region 6 draws
        obtain ⟨x44, h48, hc41⟩ := bsome hc41
        refine d_start h (Mem _ _ _) 7 7 rfl (by kernel_rfl) (fun _ _ _ _ _ h => h) (fun _ h => h) (fun Q a w HE HN h HS => ?_)
        refine d_takeP h (fun _ => HS) HN 0 rfl (by kernel_rfl) (by kernel_rfl) (by kernel_rfl) (by decide) rfl rfl (by decide) (fun w' => x_faddr h.k rfl Tryd.underlying33 rfl sz_SA32_uint8 rfl) (fun a h => ?_)
        refine d_take h HS HN 1 rfl (by kernel_rfl) (by kernel_rfl) (by kernel_rfl) (by kernel_rfl) (by kernel_rfl) rfl rfl (by decide) (fun w' hw => x_ld h.k rfl Tryd.underlying31 rfl rfl ((hw.cell (i := 0) rfl 6).trans rfl)) (fun a h => ?_)
        refine d_takeP h (fun _ => HS) HN 2 rfl (by kernel_rfl) (by kernel_rfl) (by kernel_rfl) (by decide) rfl rfl (by decide) (fun w' => x_move h.k _ rfl rfl) (fun a h => ?_)
        obtain ⟨m45, hi49, hm50, hx51⟩ := idx_some h48
        obtain ⟨b46, off47, k52, hA53, hu54, hc55⟩ := (hs27).at (by decide) hx51 (h.m.snOK (i := 2) rfl)
        obtain ⟨hs56, hl57⟩ := hu54
        refine d_takeP h (fun _ => HS) HN 3 rfl (by kernel_rfl) (by kernel_rfl) (by kernel_rfl) (by decide) rfl rfl (by decide) (fun w' => x_iaddrE h.k rfl Tryd.underlying31 sz_A32_uint8 hA53 rfl rfl hi49 hm50) (fun a h => ?_)
        refine d_take h HS HN 4 rfl (by kernel_rfl) (by kernel_rfl) (by kernel_rfl) (by kernel_rfl) (by kernel_rfl) rfl rfl (by decide) (fun w' hw => x_ldR h.k rfl ag_A32_uint8 rfl k52 ((hs56).len.trans (by rw [hl57]; rfl)) (hc55 _ (hw.snOK (i := 2) rfl))) (fun a h => ?_)
        refine d_take h HS HN 5 rfl (by kernel_rfl) (by kernel_rfl) (by kernel_rfl) (by kernel_rfl) (by kernel_rfl) rfl rfl (by decide) (fun w' hw => x_ldR h.k rfl ag_A32_uint8 rfl (List.replicate 32 (.int .u8 0 : Value)) (by first | rfl | simp_all) (hw.range0 (i := 1) rfl)) (fun a h => ?_)
        refine d_takeP h (fun _ => HS) HN 6 rfl (by kernel_rfl) (by kernel_rfl) (by kernel_rfl) (by decide) rfl rfl (by decide) (fun w' => x_neqA8 (X := k52) (Y := (List.replicate 32 (.int .u8 0 : Value))) h.k rfl Tryd.underlying22 Tryd.underlying5 sz_uint8 gda_A32_uint8 rfl rfl hs56 (show reps ty8 S0 (List.replicate 32 (.int .u8 0 : Value)) (List.replicate 32 ((0 : UInt8) : UInt8)) from repsRep1 (x := ((0 : UInt8) : UInt8)) rfl) hl57 (show (List.replicate 32 ((0 : UInt8) : UInt8)).length = 32 from List.length_replicate)) (fun a h => ?_)
        refine d_done (by kernel_rfl) (HE _ _ ?_) _
        refine e_thenN ?_
        refine c_cond h rfl (fun hb => ?_) (fun hb => ?_)
        · rw [if_pos hb] at hc41
          refine c_r ?_ -- region 7
          refine s_move h rfl _ rfl rfl (by decide) rfl (fun a h => ?_)
          refine s_x h rfl rfl (by decide) (x_bin h.k rfl rfl rfl (ib_add rfl)) (fun a h => ?_)
          refine s_assign h rfl _ rfl rfl (by decide) rfl (fun a h => ?_)
          refine l_nil ?_
          refine e_blkN ?_
          refine e_thenN ?_
          exact ⟨w64 (x32 + 1), (Option.some.inj hc41), (w64_r _), h.has (by exact ⟨rfl, rfl, rfl, rfl, trivial⟩)⟩
        · rw [if_neg (by rw [hb]; decide)] at hc41
          refine wp_skip ?_
          refine e_blkN ?_
          refine e_thenN ?_
          exact ⟨x32, (Option.some.inj hc41), hr33, h.has (by exact ⟨rfl, rfl, rfl, rfl, trivial⟩)⟩
      · rintro a w ⟨x42, rfl, hr43, h⟩
        refine c_r ?_ -- region 5
        refine s_move h rfl _ rfl rfl (by decide) rfl (fun a h => ?_)
        refine s_x h rfl rfl (by decide) (x_bin h.k rfl rfl rfl (ib_add rfl)) (fun a h => ?_)
        refine s_assign h rfl _ rfl rfl (by decide) rfl (fun a h => ?_)
        refine l_nil ?_
        exact e_thenN ⟨m39, Nat.lt_succ_self _, x42, w64 (x34 + 1), hl38, hr43, (w64_r _), h.has (by exact ⟨rfl, rfl, rfl, rfl, trivial⟩)⟩
    · rw [if_neg (of_decide_eq_false hb)] at hl38
      refine wp_exit ?_
      refine e_thenX ?_
      refine e_thenX ?_
      refine e_blkX ?_
      refine e_thenN ?_
      have h := h.pick [2] (by decide) rfl
      exact ⟨x32, (Option.some.inj hl38), hr33, h.has (by exact ⟨rfl, trivial⟩)⟩
  · rintro a w ⟨x36, rfl, hr37, h⟩
    refine e_thenN ?_
    refine c_rs ?_ -- region 8
    refine s_move h rfl _ rfl rfl (by decide) rfl (fun a h => ?_)
    refine s_assign h rfl _ rfl rfl (by decide) rfl (fun a h => ?_)
    refine l_end ?_
    refine wp_ret ?_
    rw [← Option.some.inj hf]
    exact r_ret1 h rfl (rv_tmp h rfl) ⟨_, [], _, rfl, ⟨rfl, rfl, hr37, trivial⟩, rfl, (Up.refl _ _ _), h.m⟩
def chatelaineref42_Text_l0 (Fu : Nat) (a0 : Int × (List UInt8) × (List (Int × Int × Int × (List UInt8))) × (List (Int × Int × Int × (List UInt8) × (List (Int × Int)) × (List (List UInt8)) × (List (List UInt8))))) : Nat → (List UInt8) → Int → Option ((List UInt8))
  | 0, _, _ => none
  | k + 1, x27, x29 => if x29 < 32 then ((ix 32 x29).bind fun m35 => (a0.2.1[m35]?).bind fun x39 => (sub ([48, 49, 50, 51, 52, 53, 54, 55, 56, 57, 97, 98, 99, 100, 101, 102] : List UInt8) (w64 (Int.tdiv (x39.toNat : Int) 16)) (w64 ((w64 (Int.tdiv (x39.toNat : Int) 16)) + 1))).bind fun x44 => (sapp x27 x44).bind fun x53 => (sub ([48, 49, 50, 51, 52, 53, 54, 55, 56, 57, 97, 98, 99, 100, 101, 102] : List UInt8) (Int.tmod (x39.toNat : Int) 16) (w64 ((Int.tmod (x39.toNat : Int) 16) + 1))).bind fun x55 => (sapp x53 x55).bind fun x64 => chatelaineref42_Text_l0 Fu a0 k x64 (w64 (x29 + 1))) else (some x27)
def chatelaineref42_Text_l1 (Fu : Nat) (a0 : Int × (List UInt8) × (List (Int × Int × Int × (List UInt8))) × (List (Int × Int × Int × (List UInt8) × (List (Int × Int)) × (List (List UInt8)) × (List (List UInt8))))) : Nat → (List UInt8) → Int → Option ((List UInt8))
  | 0, _, _ => none
  | k + 1, x70, x72 => if x72 < (a0.2.2.1.length : Int) then ((idx a0.2.2.1 x72).bind fun x78 => (sapp x70 ([116, 101, 110, 97, 110, 116, 32] : List UInt8)).bind fun x102 => (chatelaineref42_Digits Fu x78.1).bind fun x104 => (sapp x102 x104).bind fun x108 => (sapp x108 ([32, 113, 117, 111, 116, 97, 32] : List UInt8)).bind fun x110 => (chatelaineref42_Digits Fu x78.2.1).bind fun x112 => (sapp x110 x112).bind fun x116 => (sapp x116 ([32, 117, 115, 101, 100, 32] : List UInt8)).bind fun x118 => (chatelaineref42_Digits Fu x78.2.2.1).bind fun x120 => (sapp x118 x120).bind fun x124 => (sapp x124 ([10] : List UInt8)).bind fun x126 => chatelaineref42_Text_l1 Fu a0 k x126 (w64 (x72 + 1))) else (some x70)
def chatelaineref42_Text_l2 (Fu : Nat) (a0 : Int × (List UInt8) × (List (Int × Int × Int × (List UInt8))) × (List (Int × Int × Int × (List UInt8) × (List (Int × Int)) × (List (List UInt8)) × (List (List UInt8))))) : Nat → (List UInt8) → Int → Option ((List UInt8))
  | 0, _, _ => none
  | k + 1, x130, x132 => if x132 < (a0.2.2.2.length : Int) then ((idx a0.2.2.2 x132).bind fun x138 => (sapp x130 ([115, 112, 97, 99, 101, 32] : List UInt8)).bind fun x178 => (chatelaineref42_Digits Fu x138.1).bind fun x180 => (sapp x178 x180).bind fun x184 => (sapp x184 ([32, 111, 102, 32] : List UInt8)).bind fun x186 => (chatelaineref42_Digits Fu x138.2.1).bind fun x188 => (sapp x186 x188).bind fun x192 => (sapp x192 ([32, 115, 101, 99, 116, 111, 114, 115, 32] : List UInt8)).bind fun x194 => (chatelaineref42_Digits Fu x138.2.2.1).bind fun x196 => (sapp x194 x196).bind fun x200 => (sapp x200 ([32, 108, 105, 118, 101, 32] : List UInt8)).bind fun x202 => (chatelaineref42_Live Fu x138).bind fun x204 => (chatelaineref42_Digits Fu x204).bind fun x208 => (sapp x202 x208).bind fun x212 => (sapp x212 ([10, 32, 32, 97, 116] : List UInt8)).bind fun x214 => ((chatelaineref42_Extents Fu x138.2.2.2.2.1).bind fun x220 => if 0 < (x220.length : Int) then ((sapp x214 ([32] : List UInt8)).bind fun x224 => (chatelaineref42_Extents Fu x138.2.2.2.2.1).bind fun x226 => (sapp x224 x226).bind fun x230 => some x230) else (some x214)).bind fun x218 => (sapp x218 ([10] : List UInt8)).bind fun x232 => chatelaineref42_Text_l2 Fu a0 k x232 (w64 (x132 + 1))) else (some x130)
def chatelaineref42_Text (Fu : Nat) (a0 : Int × (List UInt8) × (List (Int × Int × Int × (List UInt8))) × (List (Int × Int × Int × (List UInt8) × (List (Int × Int)) × (List (List UInt8)) × (List (List UInt8))))) : Option ((List UInt8)) :=
  (chatelaineref42_Digits Fu a0.1).bind fun x17 => (sapp ([115, 101, 113, 32] : List UInt8) x17).bind fun x21 => (sapp x21 ([10, 104, 101, 97, 100, 32] : List UInt8)).bind fun x23 => (chatelaineref42_Text_l0 Fu a0 Fu x23 0).bind fun x31 => (sapp x31 ([10] : List UInt8)).bind fun x66 => (chatelaineref42_Text_l1 Fu a0 Fu x66 0).bind fun x74 => (chatelaineref42_Text_l2 Fu a0 Fu x74 0).bind fun x134 => some x134
set_option maxRecDepth 100000 in
set_option maxHeartbeats 2000000 in
theorem chatelaineref42_Text_ok (Fu : Nat) {S0 : Snap} (csa0 : List Value) (a0 : Int × (List UInt8) × (List (Int × Int × Int × (List UInt8))) × (List (Int × Int × Int × (List UInt8) × (List (Int × Int)) × (List (List UInt8)) × (List (List UInt8))))) (hsa0 : (tyP tyI (tyP (tyA 32 ty8) (tyP (tyL (tyP tyI (tyP tyI (tyP tyI (tyA 32 ty8))))) (tyL (tyP tyI (tyP tyI (tyP tyI (tyP (tyL ty8) (tyP (tyL (tyP tyI tyI)) (tyP (tyL (tyL ty8)) (tyL (tyA 32 ty8)))))))))))).rep S0 csa0 a0) (r : (List UInt8)) (hf : chatelaineref42_Text Fu a0 = some r) (w0 : World) (hm : Mem w0 (ownL ([] ++ [.sn S0])) ([] ++ [.sn S0]) w0) :
    Calls Tryd.prog 12 #[.agg csa0.toArray] w0 (Ret w0 S0 [] (fun v L1 S1 => v = .string (sb r) ∧ L1 = [] ∧ r.length ≤ maxLen ∧ True)) := by
  unfold chatelaineref42_Text at hf
  obtain ⟨k1, k2, rfl, ⟨rfl, hr3⟩, ⟨k4, k5, rfl, ⟨hs6, hl7⟩, ⟨k8, k9, rfl, ⟨A10, c11, rfl, hs12⟩, ⟨A13, c14, rfl, hs15⟩⟩⟩⟩ := hsa0
  refine c_enterM Tryd.func12 rfl 118 rfl (by simp) _ hm _ rfl (fun a h => ?_)
  refine c_rs ?_ -- region 0
  refine s_box h rfl rfl rfl (by decide) rfl (cs := ([.int .i64 a0.1] : List Value) ++ (k4 ++ ([.slice A10 a0.2.2.1.length c11, .slice A13 a0.2.2.2.length c14]))) (by rfl) (fun a w g16 h => ?_)
  refine s_assign h rfl _ rfl rfl (by decide) rfl (fun a h => ?_)
  refine l_end ?_
  refine c_rs ?_ -- region 1
  refine s_x h rfl rfl (by decide) (x_faddr h.k rfl Tryd.underlying26 rfl sz_int rfl) (fun a h => ?_)
  refine s_x h rfl rfl (by decide) (x_ld h.k rfl Tryd.underlying3 rfl rfl ((h.m.cell (i := 0) rfl 0).trans (cell_oneE (X := []) (Z := k4 ++ (([.slice A10 a0.2.2.1.length c11] : List Value) ++ ([.slice A13 a0.2.2.2.length c14]))) (off := 0) (u := .int .i64 a0.1) (by simp only [List.append_assoc, List.cons_append, List.nil_append, List.append_nil]) rfl))) (fun a h => ?_)
  obtain ⟨x17, h18, hf⟩ := bsome hf
  have hX := chatelaineref42_Digits_ok Fu (S0 := snapAll _) a0.1 hr3 _ h18 _ h.startAll
  refine q_callX hX h rfl rfl rfl (by decide) Tryd.func21 rfl rfl rfl (fun a w v L1 S1 hR hb1 h => ?_)
  obtain ⟨rfl, rfl, hr20, _⟩ := hR
  obtain ⟨x21, h22, hf⟩ := bsome hf
  refine s_x h rfl rfl (by decide) (x_addS h.k rfl rfl rfl h22) (fun a h => ?_)
  obtain ⟨x23, h24, hf⟩ := bsome hf
  refine s_x h rfl rfl (by decide) (x_addS h.k rfl rfl rfl h24) (fun a h => ?_)
  refine s_assign h rfl _ rfl rfl (by decide) rfl (fun a h => ?_)
  refine l_end ?_
  refine wp_seq ?_
  refine c_rs ?_ -- region 2
  refine s_assign h rfl _ rfl rfl (by decide) rfl (fun a h => ?_)
  refine l_end ?_
  obtain ⟨o25, hl26, hf⟩ := bsome hf
  refine c_fin (fun a w => ∃ (x31 : List UInt8), x31 = o25 ∧ x31.length ≤ maxLen ∧ St 118 w0 (ownL ([] ++ [.sn S0])) [(1, .pointer (some ⟨g16, 0, none⟩)), (3, .string (sb x31))] [.box g16 26 (([.int .i64 a0.1] : List Value) ++ (k4 ++ ([.slice A10 a0.2.2.1.length c11, .slice A13 a0.2.2.2.length c14]))), .sn S0] a w) ?_ ?_
  · refine wp_block ?_
    refine c_loop (fun m34 a w => ∃ (x27 : List UInt8), ∃ (x29 : Int), chatelaineref42_Text_l0 Fu a0 m34 x27 x29 = some o25 ∧ x27.length ≤ maxLen ∧ r64 x29 ∧ St 118 w0 (ownL ([] ++ [.sn S0])) [(1, .pointer (some ⟨g16, 0, none⟩)), (3, .string (sb x27)), (4, .int .i64 x29)] [.box g16 26 (([.int .i64 a0.1] : List Value) ++ (k4 ++ ([.slice A10 a0.2.2.1.length c11, .slice A13 a0.2.2.2.length c14]))), .sn S0] a w) Fu ⟨x23, 0, hl26, (sapp_some h24).2, (show r64 0 from ⟨by decide, by decide⟩), h.has (by exact ⟨rfl, rfl, rfl, trivial⟩)⟩ (fun m34 a w hI => ?_)
    obtain ⟨x27, x29, hl33, hr28, hr30, h⟩ := hI
    obtain _ | m34 := m34
    · rw [chatelaineref42_Text_l0] at hl33; cases hl33
    rw [chatelaineref42_Text_l0] at hl33
    refine wp_seq ?_
    refine c_rs ?_ -- region 3
    refine s_move h rfl _ rfl rfl (by decide) rfl (fun a h => ?_)
    refine s_x h rfl rfl (by decide) (x_bin h.k rfl rfl rfl ib_lss) (fun a h => ?_)
    refine l_end ?_
    refine c_cond h rfl (fun hb => ?_) (fun hb => ?_)
    · rw [if_pos (of_decide_eq_true hb)] at hl33
      refine wp_skip ?_
      refine e_thenN ?_
      refine wp_seq ?_
      refine wp_block ?_
      refine c_rs ?_ -- region 5
      refine s_move h rfl _ rfl rfl (by decide) rfl (fun a h => ?_)
      refine s_x h rfl rfl (by decide) (x_faddr h.k rfl Tryd.underlying26 rfl sz_A32_uint8 rfl) (fun a h => ?_)
      obtain ⟨m35, h36, hl33⟩ := bsome hl33
      obtain ⟨hi37, hm38⟩ := ix_some h36
      refine s_x h rfl rfl (by decide) (x_iaddrA h.k rfl Tryd.underlying22 sz_uint8 rfl rfl hi37 hm38 rfl) (fun a h => ?_)
      obtain ⟨x39, h40, hl33⟩ := bsome hl33
      obtain ⟨u41, hv42, hu43⟩ := (hs6).cell rfl h40
      cases hu43
      refine s_x h rfl rfl (by decide) (x_ld h.k rfl Tryd.underlying5 rfl rfl ((h.m.cell (i := 0) rfl _).trans (by rw [Nat.mul_one]; exact cell_midE (cs := ([.int .i64 a0.1] : List Value) ++ (k4 ++ ([.slice A10 a0.2.2.1.length c11, .slice A13 a0.2.2.2.length c14]))) (X := [.int .i64 a0.1]) (Z := ([.slice A10 a0.2.2.1.length c11] : List Value) ++ ([.slice A13 a0.2.2.2.length c14])) (off := 1) (by simp only [List.append_assoc, List.cons_append, List.nil_append, List.append_nil]) rfl hv42))) (fun a h => ?_)
      refine s_x h rfl rfl (by decide) (x_convE h.k rfl Tryd.underlying5 Tryd.underlying3 rfl (nw64 (u8_r _))) (fun a h => ?_)
      refine s_assign h rfl _ rfl rfl (by decide) rfl (fun a h => ?_)
      refine l_end ?_
      -- region 6 draws
      obtain ⟨x44, h45, hl33⟩ := bsome hl33
      obtain ⟨x53, h54, hl33⟩ := bsome hl33
      obtain ⟨x55, h56, hl33⟩ := bsome hl33
      obtain ⟨x64, h65, hl33⟩ := bsome hl33
      refine d_start h (Mem _ _ _) 16 16 rfl (by kernel_rfl) (fun _ _ _ _ _ h => h) (fun _ h => h) (fun Q a w HE HN h HS => ?_)
      refine d_takeP h (fun _ => HS) HN 0 rfl (by kernel_rfl) (by kernel_rfl) (by kernel_rfl) (by decide) rfl rfl (by decide) (fun w' => x_move h.k _ rfl rfl) (fun a h => ?_)
      refine d_takeP h (fun _ => HS) HN 1 rfl (by kernel_rfl) (by kernel_rfl) (by kernel_rfl) (by decide) rfl rfl (by decide) (fun w' => x_move h.k _ rfl rfl) (fun a h => ?_)
      refine d_takeP h (fun _ => HS) HN 2 rfl (by kernel_rfl) (by kernel_rfl) (by kernel_rfl) (by decide) rfl rfl (by decide) (fun w' => x_bin h.k rfl rfl rfl (ib_quow (by decide))) (fun a h => ?_)
      refine d_takeP h (fun _ => HS) HN 3 rfl (by kernel_rfl) (by kernel_rfl) (by kernel_rfl) (by decide) rfl rfl (by decide) (fun w' => x_move h.k _ rfl rfl) (fun a h => ?_)
      refine d_takeP h (fun _ => HS) HN 4 rfl (by kernel_rfl) (by kernel_rfl) (by kernel_rfl) (by decide) rfl rfl (by decide) (fun w' => x_bin h.k rfl rfl rfl (ib_quow (by decide))) (fun a h => ?_)
      refine d_takeP h (fun _ => HS) HN 5 rfl (by kernel_rfl) (by kernel_rfl) (by kernel_rfl) (by decide) rfl rfl (by decide) (fun w' => x_bin h.k rfl rfl rfl (ib_add rfl)) (fun a h => ?_)
      obtain ⟨m46, n47, hi48, hi49, hm50, hm51, hr52⟩ := sub_some h45
      refine d_takeP h (fun _ => HS) HN 6 rfl (by kernel_rfl) (by kernel_rfl) (by kernel_rfl) (by decide) rfl rfl (by decide) (fun w' => x_sliceStr h.k rfl Tryd.underlying9 rfl hr52 (bd_some rfl hi48) (bd_some rfl hi49) hm50 hm51) (fun a h => ?_)
      refine d_takeP h (fun _ => HS) HN 7 rfl (by kernel_rfl) (by kernel_rfl) (by kernel_rfl) (by decide) rfl rfl (by decide) (fun w' => x_addS h.k rfl rfl rfl h54) (fun a h => ?_)
      refine d_takeP h (fun _ => HS) HN 8 rfl (by kernel_rfl) (by kernel_rfl) (by kernel_rfl) (by decide) rfl rfl (by decide) (fun w' => x_move h.k _ rfl rfl) (fun a h => ?_)
      refine d_takeP h (fun _ => HS) HN 9 rfl (by kernel_rfl) (by kernel_rfl) (by kernel_rfl) (by decide) rfl rfl (by decide) (fun w' => x_bin h.k rfl rfl rfl (ib_remw (by decide))) (fun a h => ?_)
      refine d_takeP h (fun _ => HS) HN 10 rfl (by kernel_rfl) (by kernel_rfl) (by kernel_rfl) (by decide) rfl rfl (by decide) (fun w' => x_move h.k _ rfl rfl) (fun a h => ?_)
      refine d_takeP h (fun _ => HS) HN 11 rfl (by kernel_rfl) (by kernel_rfl) (by kernel_rfl) (by decide) rfl rfl (by decide) (fun w' => x_bin h.k rfl rfl rfl (ib_remw (by decide))) (fun a h => ?_)
      refine d_takeP h (fun _ => HS) HN 12 rfl (by kernel_rfl) (by kernel_rfl) (by kernel_rfl) (by decide) rfl rfl (by decide) (fun w' => x_bin h.k rfl rfl rfl (ib_add rfl)) (fun a h => ?_)
      obtain ⟨m57, n58, hi59, hi60, hm61, hm62, hr63⟩ := sub_some h56
      refine d_takeP h (fun _ => HS) HN 13 rfl (by kernel_rfl) (by kernel_rfl) (by kernel_rfl) (by decide) rfl rfl (by decide) (fun w' => x_sliceStr h.k rfl Tryd.underlying9 rfl hr63 (bd_some rfl hi59) (bd_some rfl hi60) hm61 hm62) (fun a h => ?_)
      refine d_takeP h (fun _ => HS) HN 14 rfl (by kernel_rfl) (by kernel_rfl) (by kernel_rfl) (by decide) rfl rfl (by decide) (fun w' => x_addS h.k rfl rfl rfl h65) (fun a h => ?_)
      refine d_takeP h (fun _ => HS) HN 15 rfl (by kernel_rfl) (by kernel_rfl) (by kernel_rfl) (by decide) rfl rfl (by decide) (fun w' => x_assign h.k _ rfl rfl) (fun a h => ?_)
      refine d_done (by kernel_rfl) (HE _ _ ?_) _
      refine e_blkN ?_
      refine e_thenN ?_
      refine c_r ?_ -- region 4
      refine s_move h rfl _ rfl rfl (by decide) rfl (fun a h => ?_)
      refine s_x h rfl rfl (by decide) (x_bin h.k rfl rfl rfl (ib_add rfl)) (fun a h => ?_)
      refine s_assign h rfl _ rfl rfl (by decide) rfl (fun a h => ?_)
      refine l_nil ?_
      exact e_thenN ⟨m34, Nat.lt_succ_self _, x64, w64 (x29 + 1), hl33, (sapp_some h65).2, (w64_r _), h.has (by exact ⟨rfl, rfl, rfl, trivial⟩)⟩
    · rw [if_neg (of_decide_eq_false hb)] at hl33
      refine wp_exit ?_
      refine e_thenX ?_
      refine e_thenX ?_
      refine e_blkX ?_
      refine e_thenN ?_
      exact ⟨x27, (Option.some.inj hl33), hr28, h.has (by exact ⟨rfl, rfl, trivial⟩)⟩
  · rintro a w ⟨x31, rfl, hr32, h⟩
    refine e_thenN ?_
    refine c_rs ?_ -- region 7
    refine s_move h rfl _ rfl rfl (by decide) rfl (fun a h => ?_)
    obtain ⟨x66, h67, hf⟩ := bsome hf
    refine s_x h rfl rfl (by decide) (x_addS h.k rfl rfl rfl h67) (fun a h => ?_)
    refine s_assign h rfl _ rfl rfl (by decide) rfl (fun a h => ?_)
    refine l_end ?_
    refine wp_seq ?_
    refine c_rs ?_ -- region 8
    refine s_assign h rfl _ rfl rfl (by decide) rfl (fun a h => ?_)
    refine l_end ?_
    obtain ⟨o68, hl69, hf⟩ := bsome hf
    refine c_fin (fun a w => ∃ (x74 : List UInt8), x74 = o68 ∧ x74.length ≤ maxLen ∧ St 118 w0 (ownL ([] ++ [.sn S0])) [(1, .pointer (some ⟨g16, 0, none⟩)), (3, .string (sb x74))] [.box g16 26 (([.int .i64 a0.1] : List Value) ++ (k4 ++ ([.slice A10 a0.2.2.1.length c11, .slice A13 a0.2.2.2.length c14]))), .sn S0] a w) ?_ ?_
    · refine wp_block ?_
      refine c_loop (fun m77 a w => ∃ (x70 : List UInt8), ∃ (x72 : Int), chatelaineref42_Text_l1 Fu a0 m77 x70 x72 = some o68 ∧ x70.length ≤ maxLen ∧ r64 x72 ∧ St 118 w0 (ownL ([] ++ [.sn S0])) [(1, .pointer (some ⟨g16, 0, none⟩)), (3, .string (sb x70)), (6, .int .i64 x72)] [.box g16 26 (([.int .i64 a0.1] : List Value) ++ (k4 ++ ([.slice A10 a0.2.2.1.length c11, .slice A13 a0.2.2.2.length c14]))), .sn S0] a w) Fu ⟨x66, 0, hl69, (sapp_some h67).2, (show r64 0 from ⟨by decide, by decide⟩), h.has (by exact ⟨rfl, rfl, rfl, trivial⟩)⟩ (fun m77 a w hI => ?_)
      obtain ⟨x70, x72, hl76, hr71, hr73, h⟩ := hI
      obtain _ | m77 := m77
      · rw [chatelaineref42_Text_l1] at hl76; cases hl76
      rw [chatelaineref42_Text_l1] at hl76
      refine wp_seq ?_
      refine c_rs ?_ -- region 9
      refine s_move h rfl _ rfl rfl (by decide) rfl (fun a h => ?_)
      refine s_x h rfl rfl (by decide) (x_faddr h.k rfl Tryd.underlying26 rfl sz_Sapi_Tenant rfl) (fun a h => ?_)
      refine s_x h rfl rfl (by decide) (x_ld h.k rfl Tryd.underlying23 rfl rfl ((h.m.cell (i := 0) rfl 33).trans (cell_oneE (X := ([.int .i64 a0.1] : List Value) ++ (k4)) (Z := [.slice A13 a0.2.2.2.length c14]) (off := 33) (u := .slice A10 a0.2.2.1.length c11) (by simp only [List.append_assoc, List.cons_append, List.nil_append, List.append_nil]) (show (([.int .i64 a0.1] : List Value) ++ (k4) : List Value).length = 33 from by simp only [List.length_append, List.length_cons, List.length_nil, (show (k4 : List Value).length = 32 from ((hs6).len.trans (by rw [hl7]; rfl)))])))) (fun a h => ?_)
      refine s_x h rfl rfl (by decide) (x_len h.k rfl Tryd.underlying23 rfl) (fun a h => ?_)
      refine s_x h rfl rfl (by decide) (x_bin h.k rfl rfl rfl ib_lss) (fun a h => ?_)
      refine l_end ?_
      refine c_cond h rfl (fun hb => ?_) (fun hb => ?_)
      · rw [if_pos (of_decide_eq_true hb)] at hl76
        refine wp_skip ?_
        refine e_thenN ?_
        refine wp_seq ?_
        refine wp_block ?_
        refine c_rs ?_ -- region 11
        refine s_x h rfl rfl (by decide) (x_faddr h.k rfl Tryd.underlying26 rfl sz_Sapi_Tenant rfl) (fun a h => ?_)
        refine s_x h rfl rfl (by decide) (x_ld h.k rfl Tryd.underlying23 rfl rfl ((h.m.cell (i := 0) rfl 33).trans (cell_oneE (X := ([.int .i64 a0.1] : List Value) ++ (k4)) (Z := [.slice A13 a0.2.2.2.length c14]) (off := 33) (u := .slice A10 a0.2.2.1.length c11) (by simp only [List.append_assoc, List.cons_append, List.nil_append, List.append_nil]) (show (([.int .i64 a0.1] : List Value) ++ (k4) : List Value).length = 33 from by simp only [List.length_append, List.length_cons, List.length_nil, (show (k4 : List Value).length = 32 from ((hs6).len.trans (by rw [hl7]; rfl)))])))) (fun a h => ?_)
        refine s_move h rfl _ rfl rfl (by decide) rfl (fun a h => ?_)
        obtain ⟨x78, h82, hl76⟩ := bsome hl76
        obtain ⟨m79, hi83, hm84, hx85⟩ := idx_some h82
        obtain ⟨b80, off81, k86, hA87, hu88, hc89⟩ := (hs12).at (by decide) hx85 (h.m.snOK (i := 1) rfl)
        obtain ⟨k90, k91, rfl, ⟨rfl, hr92⟩, ⟨k93, k94, rfl, ⟨rfl, hr95⟩, ⟨k96, k97, rfl, ⟨rfl, hr98⟩, ⟨hs99, hl100⟩⟩⟩⟩ := hu88
        refine s_x h rfl rfl (by decide) (x_iaddrE h.k rfl Tryd.underlying23 sz_api_Tenant hA87 rfl rfl hi83 hm84) (fun a h => ?_)
        refine s_x h rfl rfl (by decide) (x_ldR h.k rfl ag_api_Tenant rfl (([.int .i64 x78.1, .int .i64 x78.2.1, .int .i64 x78.2.2.1] : List Value) ++ k97) (show (([.int .i64 x78.1, .int .i64 x78.2.1, .int .i64 x78.2.2.1] : List Value) ++ k97 : List Value).length = 35 from by simp only [List.length_append, List.length_cons, List.length_nil, (show (k97 : List Value).length = 32 from ((hs99).len.trans (by rw [hl100]; rfl)))]) (hc89 _ (h.m.snOK (i := 1) rfl))) (fun a h => ?_)
        refine s_alloc h rfl rfl rfl (by decide) zi_api_Tenant rfl (fun a w g101 h => ?_)
        refine s_stW h rfl rfl rfl ag_api_Tenant rfl (es := ([.int .i64 x78.1, .int .i64 x78.2.1, .int .i64 x78.2.2.1] : List Value) ++ k97) rfl (show (([.int .i64 x78.1, .int .i64 x78.2.1, .int .i64 x78.2.2.1] : List Value) ++ k97 : List Value).length = 35 from by simp only [List.length_append, List.length_cons, List.length_nil, (show (k97 : List Value).length = 32 from ((hs99).len.trans (by rw [hl100]; rfl)))]) ((tyP tyI (tyP tyI (tyP tyI (tyA 32 ty8)))).one (show (tyP tyI (tyP tyI (tyP tyI (tyA 32 ty8)))).rep S0 (([.int .i64 x78.1, .int .i64 x78.2.1, .int .i64 x78.2.2.1] : List Value) ++ k97) x78 from ⟨[.int .i64 x78.1], ([.int .i64 x78.2.1, .int .i64 x78.2.2.1] : List Value) ++ k97, rfl, ⟨rfl, hr92⟩, ⟨[.int .i64 x78.2.1], ([.int .i64 x78.2.2.1] : List Value) ++ k97, rfl, ⟨rfl, hr95⟩, ⟨[.int .i64 x78.2.2.1], k97, rfl, ⟨rfl, hr98⟩, ⟨hs99, hl100⟩⟩⟩⟩)) 0 rfl (show (([.int .i64 0, .int .i64 0, .int .i64 0] : List Value) ++ (List.replicate 32 (.int .u8 0 : Value)) : List Value).length = 35 from by simp only [List.length_append, List.length_cons, List.length_nil, (show ((List.replicate 32 (.int .u8 0 : Value)) : List Value).length = 32 from (by first | rfl | simp_all))]) (fun a w h => ?_)
        refine l_end ?_
        -- region 12 draws
        obtain ⟨x102, h103, hl76⟩ := bsome hl76
        obtain ⟨x104, h105, hl76⟩ := bsome hl76
        obtain ⟨x108, h109, hl76⟩ := bsome hl76
        obtain ⟨x110, h111, hl76⟩ := bsome hl76
        obtain ⟨x112, h113, hl76⟩ := bsome hl76
        obtain ⟨x116, h117, hl76⟩ := bsome hl76
        obtain ⟨x118, h119, hl76⟩ := bsome hl76
        obtain ⟨x120, h121, hl76⟩ := bsome hl76
        obtain ⟨x124, h125, hl76⟩ := bsome hl76
        obtain ⟨x126, h127, hl76⟩ := bsome hl76
        refine d_start h (Mem _ _ _) 18 18 rfl (by kernel_rfl) (fun _ _ _ _ _ h => h) (fun _ h => h) (fun Q a w HE HN h HS => ?_)
        refine d_takeP h (fun _ => HS) HN 0 rfl (by kernel_rfl) (by kernel_rfl) (by kernel_rfl) (by decide) rfl rfl (by decide) (fun w' => x_move h.k _ rfl rfl) (fun a h => ?_)
        refine d_takeP h (fun _ => HS) HN 1 rfl (by kernel_rfl) (by kernel_rfl) (by kernel_rfl) (by decide) rfl rfl (by decide) (fun w' => x_addS h.k rfl rfl rfl h103) (fun a h => ?_)
        refine d_takeP h (fun _ => HS) HN 2 rfl (by kernel_rfl) (by kernel_rfl) (by kernel_rfl) (by decide) rfl rfl (by decide) (fun w' => x_faddr h.k rfl Tryd.underlying58 rfl sz_int rfl) (fun a h => ?_)
        refine d_take h HS HN 3 rfl (by kernel_rfl) (by kernel_rfl) (by kernel_rfl) (by kernel_rfl) (by kernel_rfl) rfl rfl (by decide) (fun w' hw => x_ld h.k rfl Tryd.underlying3 rfl rfl ((hw.cell (i := 0) rfl 0).trans (cell_oneE (X := []) (Z := ([.int .i64 x78.2.1] : List Value) ++ (([.int .i64 x78.2.2.1] : List Value) ++ (k97))) (off := 0) (u := .int .i64 x78.1) (by simp only [List.append_assoc, List.cons_append, List.nil_append, List.append_nil]) rfl))) (fun a h => ?_)
        refine d_takeP h (fun _ => HS) HN 7 rfl (by kernel_rfl) (by kernel_rfl) (by kernel_rfl) (by decide) rfl rfl (by decide) (fun w' => x_faddr h.k rfl Tryd.underlying58 rfl sz_int rfl) (fun a h => ?_)
        refine d_take h HS HN 8 rfl (by kernel_rfl) (by kernel_rfl) (by kernel_rfl) (by kernel_rfl) (by kernel_rfl) rfl rfl (by decide) (fun w' hw => x_ld h.k rfl Tryd.underlying3 rfl rfl ((hw.cell (i := 0) rfl 1).trans (cell_oneE (X := [.int .i64 x78.1]) (Z := ([.int .i64 x78.2.2.1] : List Value) ++ (k97)) (off := 1) (u := .int .i64 x78.2.1) (by simp only [List.append_assoc, List.cons_append, List.nil_append, List.append_nil]) rfl))) (fun a h => ?_)
        refine d_takeP h (fun _ => HS) HN 12 rfl (by kernel_rfl) (by kernel_rfl) (by kernel_rfl) (by decide) rfl rfl (by decide) (fun w' => x_faddr h.k rfl Tryd.underlying58 rfl sz_int rfl) (fun a h => ?_)
        refine d_take h HS HN 13 rfl (by kernel_rfl) (by kernel_rfl) (by kernel_rfl) (by kernel_rfl) (by kernel_rfl) rfl rfl (by decide) (fun w' hw => x_ld h.k rfl Tryd.underlying3 rfl rfl ((hw.cell (i := 0) rfl 2).trans (cell_oneE (X := ([.int .i64 x78.1] : List Value) ++ ([.int .i64 x78.2.1])) (Z := k97) (off := 2) (u := .int .i64 x78.2.2.1) (by simp only [List.append_assoc, List.cons_append, List.nil_append, List.append_nil]) (show (([.int .i64 x78.1] : List Value) ++ ([.int .i64 x78.2.1]) : List Value).length = 2 from by simp only [List.length_append, List.length_cons, List.length_nil, (show (k97 : List Value).length = 32 from ((hs99).len.trans (by rw [hl100]; rfl)))])))) (fun a h => ?_)
        refine d_alone 4 rfl (by kernel_rfl) (fun K hK => ?_)
        have hX := chatelaineref42_Digits_ok Fu (S0 := snapAll _) x78.1 hr92 _ h105 _ h.startAll
        refine q_callX hX h rfl rfl rfl (by decide) Tryd.func21 rfl rfl rfl (fun a w v L1 S1 hR hb1 h => ?_)
        obtain ⟨rfl, rfl, hr107, _⟩ := hR
        refine hK _ _ (fun _ _ => HS.ext hb1) ?_
        replace HS := HS.ext hb1
        clear hK
        refine d_takeP h (fun _ => HS) HN 5 rfl (by kernel_rfl) (by kernel_rfl) (by kernel_rfl) (by decide) rfl rfl (by decide) (fun w' => x_addS h.k rfl rfl rfl h109) (fun a h => ?_)
        refine d_takeP h (fun _ => HS) HN 6 rfl (by kernel_rfl) (by kernel_rfl) (by kernel_rfl) (by decide) rfl rfl (by decide) (fun w' => x_addS h.k rfl rfl rfl h111) (fun a h => ?_)
        refine d_alone 9 rfl (by kernel_rfl) (fun K hK => ?_)
        have hX := chatelaineref42_Digits_ok Fu (S0 := snapAll _) x78.2.1 hr95 _ h113 _ h.startAll
        refine q_callX hX h rfl rfl rfl (by decide) Tryd.func21 rfl rfl rfl (fun a w v L1 S1 hR hb1 h => ?_)
        obtain ⟨rfl, rfl, hr115, _⟩ := hR
        refine hK _ _ (fun _ _ => HS.ext hb1) ?_
        replace HS := HS.ext hb1
        clear hK
        refine d_takeP h (fun _ => HS) HN 10 rfl (by kernel_rfl) (by kernel_rfl) (by kernel_rfl) (by decide) rfl rfl (by decide) (fun w' => x_addS h.k rfl rfl rfl h117) (fun a h => ?_)
        refine d_takeP h (fun _ => HS) HN 11 rfl (by kernel_rfl) (by kernel_rfl) (by kernel_rfl) (by decide) rfl rfl (by decide) (fun w' => x_addS h.k rfl rfl rfl h119) (fun a h => ?_)
        refine d_alone 14 rfl (by kernel_rfl) (fun K hK => ?_)
        have hX := chatelaineref42_Digits_ok Fu (S0 := snapAll _) x78.2.2.1 hr98 _ h121 _ h.startAll
        refine q_callX hX h rfl rfl rfl (by decide) Tryd.func21 rfl rfl rfl (fun a w v L1 S1 hR hb1 h => ?_)
        obtain ⟨rfl, rfl, hr123, _⟩ := hR
        refine hK _ _ (fun _ _ => HS.ext hb1) ?_
        replace HS := HS.ext hb1
        clear hK
        refine d_takeP h (fun _ => HS) HN 15 rfl (by kernel_rfl) (by kernel_rfl) (by kernel_rfl) (by decide) rfl rfl (by decide) (fun w' => x_addS h.k rfl rfl rfl h125) (fun a h => ?_)
        refine d_takeP h (fun _ => HS) HN 16 rfl (by kernel_rfl) (by kernel_rfl) (by kernel_rfl) (by decide) rfl rfl (by decide) (fun w' => x_addS h.k rfl rfl rfl h127) (fun a h => ?_)
        refine d_takeP h (fun _ => HS) HN 17 rfl (by kernel_rfl) (by kernel_rfl) (by kernel_rfl) (by decide) rfl rfl (by decide) (fun w' => x_assign h.k _ rfl rfl) (fun a h => ?_)
        refine d_done (by kernel_rfl) (HE _ _ ?_) _
        refine e_blkN ?_
        refine e_thenN ?_
        refine c_r ?_ -- region 10
        refine s_move h rfl _ rfl rfl (by decide) rfl (fun a h => ?_)
        refine s_x h rfl rfl (by decide) (x_bin h.k rfl rfl rfl (ib_add rfl)) (fun a h => ?_)
        refine s_assign h rfl _ rfl rfl (by decide) rfl (fun a h => ?_)
        refine l_nil ?_
        have h := h.pick [1, 2] (by decide) rfl
        exact e_thenN ⟨m77, Nat.lt_succ_self _, x126, w64 (x72 + 1), hl76, (sapp_some h127).2, (w64_r _), h.has (by exact ⟨rfl, rfl, rfl, trivial⟩)⟩
      · rw [if_neg (of_decide_eq_false hb)] at hl76
        refine wp_exit ?_
        refine e_thenX ?_
        refine e_thenX ?_
        refine e_blkX ?_
        refine e_thenN ?_
        exact ⟨x70, (Option.some.inj hl76), hr71, h.has (by exact ⟨rfl, rfl, trivial⟩)⟩
    · rintro a w ⟨x74, rfl, hr75, h⟩
      refine e_thenN ?_
      refine wp_seq ?_
      refine c_rs ?_ -- region 13
      refine s_assign h rfl _ rfl rfl (by decide) rfl (fun a h => ?_)
      refine l_end ?_
      obtain ⟨o128, hl129, hf⟩ := bsome hf
      refine c_fin (fun a w => ∃ (x134 : List UInt8), x134 = o128 ∧ x134.length ≤ maxLen ∧ St 118 w0 (ownL ([] ++ [.sn S0])) [(3, .string (sb x134))] [.sn S0] a w) ?_ ?_
      · refine wp_block ?_
        refine c_loop (fun m137 a w => ∃ (x130 : List UInt8), ∃ (x132 : Int), chatelaineref42_Text_l2 Fu a0 m137 x130 x132 = some o128 ∧ x130.length ≤ maxLen ∧ r64 x132 ∧ St 118 w0 (ownL ([] ++ [.sn S0])) [(1, .pointer (some ⟨g16, 0, none⟩)), (3, .string (sb x130)), (8, .int .i64 x132)] [.box g16 26 (([.int .i64 a0.1] : List Value) ++ (k4 ++ ([.slice A10 a0.2.2.1.length c11, .slice A13 a0.2.2.2.length c14]))), .sn S0] a w) Fu ⟨x74, 0, hl129, hr75, (show r64 0 from ⟨by decide, by decide⟩), h.has (by exact ⟨rfl, rfl, rfl, trivial⟩)⟩ (fun m137 a w hI => ?_)
        obtain ⟨x130, x132, hl136, hr131, hr133, h⟩ := hI
        obtain _ | m137 := m137
        · rw [chatelaineref42_Text_l2] at hl136; cases hl136
        rw [chatelaineref42_Text_l2] at hl136
        refine wp_seq ?_
        refine c_rs ?_ -- region 14
        refine s_move h rfl _ rfl rfl (by decide) rfl (fun a h => ?_)
        refine s_x h rfl rfl (by decide) (x_faddr h.k rfl Tryd.underlying26 rfl sz_Sapi_Space rfl) (fun a h => ?_)
        refine s_x h rfl rfl (by decide) (x_ld h.k rfl Tryd.underlying24 rfl rfl ((h.m.cell (i := 0) rfl 34).trans (cell_oneE (X := ([.int .i64 a0.1] : List Value) ++ (k4 ++ ([.slice A10 a0.2.2.1.length c11]))) (Z := []) (off := 34) (u := .slice A13 a0.2.2.2.length c14) (by simp only [List.append_assoc, List.cons_append, List.nil_append, List.append_nil]) (show (([.int .i64 a0.1] : List Value) ++ (k4 ++ ([.slice A10 a0.2.2.1.length c11])) : List Value).length = 34 from by simp only [List.length_append, List.length_cons, List.length_nil, (show (k4 : List Value).length = 32 from ((hs6).len.trans (by rw [hl7]; rfl)))])))) (fun a h => ?_)
        refine s_x h rfl rfl (by decide) (x_len h.k rfl Tryd.underlying24 rfl) (fun a h => ?_)
        refine s_x h rfl rfl (by decide) (x_bin h.k rfl rfl rfl ib_lss) (fun a h => ?_)
        refine l_end ?_
        refine c_cond h rfl (fun hb => ?_) (fun hb => ?_)
        · rw [if_pos (of_decide_eq_true hb)] at hl136
          refine wp_skip ?_
          refine e_thenN ?_
          refine wp_seq ?_
          refine wp_block ?_
          refine c_rs ?_ -- region 16
          refine s_x h rfl rfl (by decide) (x_faddr h.k rfl Tryd.underlying26 rfl sz_Sapi_Space rfl) (fun a h => ?_)
          refine s_x h rfl rfl (by decide) (x_ld h.k rfl Tryd.underlying24 rfl rfl ((h.m.cell (i := 0) rfl 34).trans (cell_oneE (X := ([.int .i64 a0.1] : List Value) ++ (k4 ++ ([.slice A10 a0.2.2.1.length c11]))) (Z := []) (off := 34) (u := .slice A13 a0.2.2.2.length c14) (by simp only [List.append_assoc, List.cons_append, List.nil_append, List.append_nil]) (show (([.int .i64 a0.1] : List Value) ++ (k4 ++ ([.slice A10 a0.2.2.1.length c11])) : List Value).length = 34 from by simp only [List.length_append, List.length_cons, List.length_nil, (show (k4 : List Value).length = 32 from ((hs6).len.trans (by rw [hl7]; rfl)))])))) (fun a h => ?_)
          refine s_move h rfl _ rfl rfl (by decide) rfl (fun a h => ?_)
          obtain ⟨x138, h142, hl136⟩ := bsome hl136
          obtain ⟨m139, hi143, hm144, hx145⟩ := idx_some h142
          obtain ⟨b140, off141, k146, hA147, hu148, hc149⟩ := (hs15).at (by decide) hx145 (h.m.snOK (i := 1) rfl)
          obtain ⟨k150, k151, rfl, ⟨rfl, hr152⟩, ⟨k153, k154, rfl, ⟨rfl, hr155⟩, ⟨k156, k157, rfl, ⟨rfl, hr158⟩, ⟨k159, k160, rfl, ⟨A161, c162, rfl, hs163⟩, ⟨k164, k165, rfl, ⟨A166, c167, rfl, hs168⟩, ⟨k169, k170, rfl, ⟨A171, c172, rfl, hs173⟩, ⟨A174, c175, rfl, hs176⟩⟩⟩⟩⟩⟩⟩ := hu148
          refine s_x h rfl rfl (by decide) (x_iaddrE h.k rfl Tryd.underlying24 sz_api_Space hA147 rfl rfl hi143 hm144) (fun a h => ?_)
          refine s_x h rfl rfl (by decide) (x_ldR h.k rfl ag_api_Space rfl ([.int .i64 x138.1, .int .i64 x138.2.1, .int .i64 x138.2.2.1, .slice A161 x138.2.2.2.1.length c162, .slice A166 x138.2.2.2.2.1.length c167, .slice A171 x138.2.2.2.2.2.1.length c172, .slice A174 x138.2.2.2.2.2.2.length c175]) rfl (hc149 _ (h.m.snOK (i := 1) rfl))) (fun a h => ?_)
          refine s_alloc h rfl rfl rfl (by decide) zi_api_Space rfl (fun a w g177 h => ?_)
          refine s_stW h rfl rfl rfl ag_api_Space rfl (es := [.int .i64 x138.1, .int .i64 x138.2.1, .int .i64 x138.2.2.1, .slice A161 x138.2.2.2.1.length c162, .slice A166 x138.2.2.2.2.1.length c167, .slice A171 x138.2.2.2.2.2.1.length c172, .slice A174 x138.2.2.2.2.2.2.length c175]) rfl rfl (by simp [Value.oneCell']) 0 rfl rfl (fun a w h => ?_)
          refine l_end ?_
          refine wp_seq ?_
          -- region 17 draws
          obtain ⟨x178, h179, hl136⟩ := bsome hl136
          obtain ⟨x180, h181, hl136⟩ := bsome hl136
          obtain ⟨x184, h185, hl136⟩ := bsome hl136
          obtain ⟨x186, h187, hl136⟩ := bsome hl136
          obtain ⟨x188, h189, hl136⟩ := bsome hl136
          obtain ⟨x192, h193, hl136⟩ := bsome hl136
          obtain ⟨x194, h195, hl136⟩ := bsome hl136
          obtain ⟨x196, h197, hl136⟩ := bsome hl136
          obtain ⟨x200, h201, hl136⟩ := bsome hl136
          obtain ⟨x202, h203, hl136⟩ := bsome hl136
          obtain ⟨x204, h205, hl136⟩ := bsome hl136
          obtain ⟨x208, h209, hl136⟩ := bsome hl136
          obtain ⟨x212, h213, hl136⟩ := bsome hl136
          obtain ⟨x214, h215, hl136⟩ := bsome hl136
          refine d_start h (Mem _ _ _) 23 23 rfl (by kernel_rfl) (fun _ _ _ _ _ h => h) (fun _ h => h) (fun Q a w HE HN h HS => ?_)
          refine d_takeP h (fun _ => HS) HN 0 rfl (by kernel_rfl) (by kernel_rfl) (by kernel_rfl) (by decide) rfl rfl (by decide) (fun w' => x_move h.k _ rfl rfl) (fun a h => ?_)
          refine d_takeP h (fun _ => HS) HN 1 rfl (by kernel_rfl) (by kernel_rfl) (by kernel_rfl) (by decide) rfl rfl (by decide) (fun w' => x_addS h.k rfl rfl rfl h179) (fun a h => ?_)
          refine d_takeP h (fun _ => HS) HN 2 rfl (by kernel_rfl) (by kernel_rfl) (by kernel_rfl) (by decide) rfl rfl (by decide) (fun w' => x_faddr h.k rfl Tryd.underlying33 rfl sz_int rfl) (fun a h => ?_)
          refine d_take h HS HN 3 rfl (by kernel_rfl) (by kernel_rfl) (by kernel_rfl) (by kernel_rfl) (by kernel_rfl) rfl rfl (by decide) (fun w' hw => x_ld h.k rfl Tryd.underlying3 rfl rfl ((hw.cell (i := 0) rfl 0).trans rfl)) (fun a h => ?_)
          refine d_takeP h (fun _ => HS) HN 7 rfl (by kernel_rfl) (by kernel_rfl) (by kernel_rfl) (by decide) rfl rfl (by decide) (fun w' => x_faddr h.k rfl Tryd.underlying33 rfl sz_int rfl) (fun a h => ?_)
          refine d_take h HS HN 8 rfl (by kernel_rfl) (by kernel_rfl) (by kernel_rfl) (by kernel_rfl) (by kernel_rfl) rfl rfl (by decide) (fun w' hw => x_ld h.k rfl Tryd.underlying3 rfl rfl ((hw.cell (i := 0) rfl 1).trans rfl)) (fun a h => ?_)
          refine d_takeP h (fun _ => HS) HN 12 rfl (by kernel_rfl) (by kernel_rfl) (by kernel_rfl) (by decide) rfl rfl (by decide) (fun w' => x_faddr h.k rfl Tryd.underlying33 rfl sz_int rfl) (fun a h => ?_)
          refine d_take h HS HN 13 rfl (by kernel_rfl) (by kernel_rfl) (by kernel_rfl) (by kernel_rfl) (by kernel_rfl) rfl rfl (by decide) (fun w' hw => x_ld h.k rfl Tryd.underlying3 rfl rfl ((hw.cell (i := 0) rfl 2).trans rfl)) (fun a h => ?_)
          refine d_take h HS HN 17 rfl (by kernel_rfl) (by kernel_rfl) (by kernel_rfl) (by kernel_rfl) (by kernel_rfl) rfl rfl (by decide) (fun w' hw => x_ldR h.k rfl ag_api_Space rfl ([.int .i64 x138.1, .int .i64 x138.2.1, .int .i64 x138.2.2.1, .slice A161 x138.2.2.2.1.length c162, .slice A166 x138.2.2.2.2.1.length c167, .slice A171 x138.2.2.2.2.2.1.length c172, .slice A174 x138.2.2.2.2.2.2.length c175]) rfl (hw.range0 (i := 0) rfl)) (fun a h => ?_)
          refine d_alone 4 rfl (by kernel_rfl) (fun K hK => ?_)
          have hX := chatelaineref42_Digits_ok Fu (S0 := snapAll _) x138.1 hr152 _ h181 _ h.startAll
          refine q_callX hX h rfl rfl rfl (by decide) Tryd.func21 rfl rfl rfl (fun a w v L1 S1 hR hb1 h => ?_)
          obtain ⟨rfl, rfl, hr183, _⟩ := hR
          refine hK _ _ (fun _ _ => HS.ext hb1) ?_
          replace HS := HS.ext hb1
          clear hK
          refine d_takeP h (fun _ => HS) HN 5 rfl (by kernel_rfl) (by kernel_rfl) (by kernel_rfl) (by decide) rfl rfl (by decide) (fun w' => x_addS h.k rfl rfl rfl h185) (fun a h => ?_)
          refine d_takeP h (fun _ => HS) HN 6 rfl (by kernel_rfl) (by kernel_rfl) (by kernel_rfl) (by decide) rfl rfl (by decide) (fun w' => x_addS h.k rfl rfl rfl h187) (fun a h => ?_)
          refine d_alone 9 rfl (by kernel_rfl) (fun K hK => ?_)
          have hX := chatelaineref42_Digits_ok Fu (S0 := snapAll _) x138.2.1 hr155 _ h189 _ h.startAll
          refine q_callX hX h rfl rfl rfl (by decide) Tryd.func21 rfl rfl rfl (fun a w v L1 S1 hR hb1 h => ?_)
          obtain ⟨rfl, rfl, hr191, _⟩ := hR
          refine hK _ _ (fun _ _ => HS.ext hb1) ?_
          replace HS := HS.ext hb1
          clear hK
          refine d_takeP h (fun _ => HS) HN 10 rfl (by kernel_rfl) (by kernel_rfl) (by kernel_rfl) (by decide) rfl rfl (by decide) (fun w' => x_addS h.k rfl rfl rfl h193) (fun a h => ?_)
          refine d_takeP h (fun _ => HS) HN 11 rfl (by kernel_rfl) (by kernel_rfl) (by kernel_rfl) (by decide) rfl rfl (by decide) (fun w' => x_addS h.k rfl rfl rfl h195) (fun a h => ?_)
          refine d_alone 14 rfl (by kernel_rfl) (fun K hK => ?_)
          have hX := chatelaineref42_Digits_ok Fu (S0 := snapAll _) x138.2.2.1 hr158 _ h197 _ h.startAll
          refine q_callX hX h rfl rfl rfl (by decide) Tryd.func21 rfl rfl rfl (fun a w v L1 S1 hR hb1 h => ?_)
          obtain ⟨rfl, rfl, hr199, _⟩ := hR
          refine hK _ _ (fun _ _ => HS.ext hb1) ?_
          replace HS := HS.ext hb1
          clear hK
          refine d_takeP h (fun _ => HS) HN 15 rfl (by kernel_rfl) (by kernel_rfl) (by kernel_rfl) (by decide) rfl rfl (by decide) (fun w' => x_addS h.k rfl rfl rfl h201) (fun a h => ?_)
          refine d_takeP h (fun _ => HS) HN 16 rfl (by kernel_rfl) (by kernel_rfl) (by kernel_rfl) (by decide) rfl rfl (by decide) (fun w' => x_addS h.k rfl rfl rfl h203) (fun a h => ?_)
          refine d_alone 18 rfl (by kernel_rfl) (fun K hK => ?_)
          have hX := chatelaineref42_Live_ok Fu (S0 := snapAll _) ([.int .i64 x138.1, .int .i64 x138.2.1, .int .i64 x138.2.2.1, .slice A161 x138.2.2.2.1.length c162, .slice A166 x138.2.2.2.2.1.length c167, .slice A171 x138.2.2.2.2.2.1.length c172, .slice A174 x138.2.2.2.2.2.2.length c175]) x138 ((tyP tyI (tyP tyI (tyP tyI (tyP (tyL ty8) (tyP (tyL (tyP tyI tyI)) (tyP (tyL (tyL ty8)) (tyL (tyA 32 ty8)))))))).mono (h.m.leAll (i := 2) rfl) (show (tyP tyI (tyP tyI (tyP tyI (tyP (tyL ty8) (tyP (tyL (tyP tyI tyI)) (tyP (tyL (tyL ty8)) (tyL (tyA 32 ty8)))))))).rep S0 ([.int .i64 x138.1, .int .i64 x138.2.1, .int .i64 x138.2.2.1, .slice A161 x138.2.2.2.1.length c162, .slice A166 x138.2.2.2.2.1.length c167, .slice A171 x138.2.2.2.2.2.1.length c172, .slice A174 x138.2.2.2.2.2.2.length c175]) x138 from ⟨[.int .i64 x138.1], [.int .i64 x138.2.1, .int .i64 x138.2.2.1, .slice A161 x138.2.2.2.1.length c162, .slice A166 x138.2.2.2.2.1.length c167, .slice A171 x138.2.2.2.2.2.1.length c172, .slice A174 x138.2.2.2.2.2.2.length c175], rfl, ⟨rfl, hr152⟩, ⟨[.int .i64 x138.2.1], [.int .i64 x138.2.2.1, .slice A161 x138.2.2.2.1.length c162, .slice A166 x138.2.2.2.2.1.length c167, .slice A171 x138.2.2.2.2.2.1.length c172, .slice A174 x138.2.2.2.2.2.2.length c175], rfl, ⟨rfl, hr155⟩, ⟨[.int .i64 x138.2.2.1], [.slice A161 x138.2.2.2.1.length c162, .slice A166 x138.2.2.2.2.1.length c167, .slice A171 x138.2.2.2.2.2.1.length c172, .slice A174 x138.2.2.2.2.2.2.length c175], rfl, ⟨rfl, hr158⟩, ⟨[.slice A161 x138.2.2.2.1.length c162], [.slice A166 x138.2.2.2.2.1.length c167, .slice A171 x138.2.2.2.2.2.1.length c172, .slice A174 x138.2.2.2.2.2.2.length c175], rfl, ⟨_, _, rfl, hs163⟩, ⟨[.slice A166 x138.2.2.2.2.1.length c167], [.slice A171 x138.2.2.2.2.2.1.length c172, .slice A174 x138.2.2.2.2.2.2.length c175], rfl, ⟨_, _, rfl, hs168⟩, ⟨[.slice A171 x138.2.2.2.2.2.1.length c172], [.slice A174 x138.2.2.2.2.2.2.length c175], rfl, ⟨_, _, rfl, hs173⟩, ⟨_, _, rfl, hs176⟩⟩⟩⟩⟩⟩⟩)) _ h205 _ h.startAll
          refine q_callX hX h rfl rfl rfl (by decide) Tryd.func8 rfl rfl rfl (fun a w v L1 S1 hR hb1 h => ?_)
          obtain ⟨rfl, rfl, hr207, _⟩ := hR
          refine hK _ _ (fun _ _ => HS.ext hb1) ?_
          replace HS := HS.ext hb1
          clear hK
          refine d_alone 19 rfl (by kernel_rfl) (fun K hK => ?_)
          have hX := chatelaineref42_Digits_ok Fu (S0 := snapAll _) x204 hr207 _ h209 _ h.startAll
          refine q_callX hX h rfl rfl rfl (by decide) Tryd.func21 rfl rfl rfl (fun a w v L1 S1 hR hb1 h => ?_)
          obtain ⟨rfl, rfl, hr211, _⟩ := hR
          refine hK _ _ (fun _ _ => HS.ext hb1) ?_
          replace HS := HS.ext hb1
          clear hK
          refine d_takeP h (fun _ => HS) HN 20 rfl (by kernel_rfl) (by kernel_rfl) (by kernel_rfl) (by decide) rfl rfl (by decide) (fun w' => x_addS h.k rfl rfl rfl h213) (fun a h => ?_)
          refine d_takeP h (fun _ => HS) HN 21 rfl (by kernel_rfl) (by kernel_rfl) (by kernel_rfl) (by decide) rfl rfl (by decide) (fun w' => x_addS h.k rfl rfl rfl h215) (fun a h => ?_)
          refine d_takeP h (fun _ => HS) HN 22 rfl (by kernel_rfl) (by kernel_rfl) (by kernel_rfl) (by decide) rfl rfl (by decide) (fun w' => x_assign h.k _ rfl rfl) (fun a h => ?_)
          refine d_done (by kernel_rfl) (HE _ _ ?_) _
          refine e_thenN ?_
          obtain ⟨o216, hc217, hl136⟩ := bsome hl136
          refine c_cut (fun a w => ∃ (x218 : List UInt8), x218 = o216 ∧ x218.length ≤ maxLen ∧ St 118 w0 (ownL ([] ++ [.sn S0])) [(1, .pointer (some ⟨g16, 0, none⟩)), (3, .string (sb x218)), (8, .int .i64 x132)] [.box g16 26 (([.int .i64 a0.1] : List Value) ++ (k4 ++ ([.slice A10 a0.2.2.1.length c11, .slice A13 a0.2.2.2.length c14]))), .sn S0] a w) ?_ ?_
          · refine c_rs ?_ -- region 18
            refine s_x h rfl rfl (by decide) (x_faddr h.k rfl Tryd.underlying33 rfl sz_Sapi_Extent rfl) (fun a h => ?_)
            refine s_x h rfl rfl (by decide) (x_ld h.k rfl Tryd.underlying29 rfl rfl ((h.m.cell (i := 0) rfl 4).trans rfl)) (fun a h => ?_)
            obtain ⟨x220, h221, hc217⟩ := bsome hc217
            have hX := chatelaineref42_Extents_ok Fu (S0 := snapAll _) A166 c167 x138.2.2.2.2.1 (hs168.mono (h.m.leAll (i := 2) rfl)) _ h221 _ h.startAll
            refine q_callX hX h rfl rfl rfl (by decide) Tryd.func10 rfl rfl rfl (fun a w v L1 S1 hR hb1 h => ?_)
            obtain ⟨rfl, rfl, hr223, _⟩ := hR
            refine s_x h rfl rfl (by decide) (x_lenStr h.k rfl Tryd.underlying9 rfl) (fun a h => ?_)
            refine s_x h rfl rfl (by decide) (x_bin h.k rfl rfl rfl ib_gtr) (fun a h => ?_)
            refine l_end ?_
            refine c_cond h rfl (fun hb => ?_) (fun hb => ?_)
            · rw [if_pos (of_decide_eq_true hb)] at hc217
              refine c_r ?_ -- region 19
              refine s_move h rfl _ rfl rfl (by decide) rfl (fun a h => ?_)
              obtain ⟨x224, h225, hc217⟩ := bsome hc217
              refine s_x h rfl rfl (by decide) (x_addS h.k rfl rfl rfl h225) (fun a h => ?_)
              refine s_x h rfl rfl (by decide) (x_faddr h.k rfl Tryd.underlying33 rfl sz_Sapi_Extent rfl) (fun a h => ?_)
              refine s_x h rfl rfl (by decide) (x_ld h.k rfl Tryd.underlying29 rfl rfl ((h.m.cell (i := 0) rfl 4).trans rfl)) (fun a h => ?_)
              obtain ⟨x226, h227, hc217⟩ := bsome hc217
              have hX := chatelaineref42_Extents_ok Fu (S0 := snapAll _) A166 c167 x138.2.2.2.2.1 (hs168.mono (h.m.leAll (i := 2) rfl)) _ h227 _ h.startAll
              refine q_callX hX h rfl rfl rfl (by decide) Tryd.func10 rfl rfl rfl (fun a w v L1 S1 hR hb1 h => ?_)
              obtain ⟨rfl, rfl, hr229, _⟩ := hR
              obtain ⟨x230, h231, hc217⟩ := bsome hc217
              refine s_x h rfl rfl (by decide) (x_addS h.k rfl rfl rfl h231) (fun a h => ?_)
              refine s_assign h rfl _ rfl rfl (by decide) rfl (fun a h => ?_)
              refine l_nil ?_
              refine e_thenN ?_
              have h := h.pick [1, 2] (by decide) rfl
              exact ⟨x230, (Option.some.inj hc217), (sapp_some h231).2, h.has (by exact ⟨rfl, rfl, rfl, trivial⟩)⟩
            · rw [if_neg (of_decide_eq_false hb)] at hc217
              refine wp_skip ?_
              refine e_thenN ?_
              have h := h.pick [1, 2] (by decide) rfl
              exact ⟨x214, (Option.some.inj hc217), (sapp_some h215).2, h.has (by exact ⟨rfl, rfl, rfl, trivial⟩)⟩
          · rintro a w ⟨x218, rfl, hr219, h⟩
            refine c_r ?_ -- region 20
            refine s_move h rfl _ rfl rfl (by decide) rfl (fun a h => ?_)
            obtain ⟨x232, h233, hl136⟩ := bsome hl136
            refine s_x h rfl rfl (by decide) (x_addS h.k rfl rfl rfl h233) (fun a h => ?_)
            refine s_assign h rfl _ rfl rfl (by decide) rfl (fun a h => ?_)
            refine l_nil ?_
            refine e_blkN ?_
            refine e_thenN ?_
            refine c_r ?_ -- region 15
            refine s_move h rfl _ rfl rfl (by decide) rfl (fun a h => ?_)
            refine s_x h rfl rfl (by decide) (x_bin h.k rfl rfl rfl (ib_add rfl)) (fun a h => ?_)
            refine s_assign h rfl _ rfl rfl (by decide) rfl (fun a h => ?_)
            refine l_nil ?_
            exact e_thenN ⟨m137, Nat.lt_succ_self _, x232, w64 (x132 + 1), hl136, (sapp_some h233).2, (w64_r _), h.has (by exact ⟨rfl, rfl, rfl, trivial⟩)⟩
        · rw [if_neg (of_decide_eq_false hb)] at hl136
          refine wp_exit ?_
          refine e_thenX ?_
          refine e_thenX ?_
          refine e_blkX ?_
          refine e_thenN ?_
          have h := h.pick [1] (by decide) rfl
          exact ⟨x130, (Option.some.inj hl136), hr131, h.has (by exact ⟨rfl, trivial⟩)⟩
      · rintro a w ⟨x134, rfl, hr135, h⟩
        refine e_thenN ?_
        refine c_rs ?_ -- region 21
        refine s_move h rfl _ rfl rfl (by decide) rfl (fun a h => ?_)
        refine s_assign h rfl _ rfl rfl (by decide) rfl (fun a h => ?_)
        refine l_end ?_
        refine wp_ret ?_
        rw [← Option.some.inj hf]
        exact r_ret1 h rfl (rv_tmp h rfl) ⟨_, [], _, rfl, ⟨rfl, rfl, hr135, trivial⟩, rfl, (Up.refl _ _ _), h.m⟩
end Go.Proofs.YtnmeelkfpmodgaaDoor
