/- Lr2: Go functions as plain functions, and that they are so (written by xt.py). -/
import Derived.Test.YtcjleeclpmgbjaaLq
set_option linter.unusedVariables false
set_option linter.unusedSimpArgs false
namespace Go.Proofs.Ytcjleeclpmgbjaa
open Go.RowKit
def en_api_Geom (x : Int × Int × Int × Int) : List Value := [.int .i64 x.1, .int .i64 x.2.1, .int .i64 x.2.2.1, .int .i64 x.2.2.2]
theorem gd_api_Geom : Try.prog.eqGuardType Try.prog.depth 44 = false := by kernel_rfl
theorem eqs_api_Geom (w : World) (x y : Int × Int × Int × Int) : (Op.equalIn 10000 44 (.agg (en_api_Geom x).toArray) (.agg (en_api_Geom y).toArray)).run Try.prog w = .ok (decide (x = y)) w := by
  have hq : Try.prog.stoodInHeld 44 = false := by kernel_rfl
  rw [run_equalIn_struct w 9999 _ _ _ (by simp only [Program.fieldsOf, Try.underlying44]) hq]
  simp only [Program.fieldsOf, Try.underlying44]
  refine Eq.trans (b := .ok ((x.1 == y.1) && ((x.2.1 == y.2.1) && ((x.2.2.1 == y.2.2.1) && ((x.2.2.2 == y.2.2.2) && true)))) w) ?_ ?_
  · refine eqf_cons' (by decide) (part_one w Try.underlying3 rfl _ _ _ rfl) (part_one w Try.underlying3 rfl _ _ _ rfl) (run_equalIn_int w 9998 _ .i64 .i64 _ _ Try.underlying3) ?_
    refine eqf_cons' (by decide) (part_one w Try.underlying3 rfl _ _ _ rfl) (part_one w Try.underlying3 rfl _ _ _ rfl) (run_equalIn_int w 9998 _ .i64 .i64 _ _ Try.underlying3) ?_
    refine eqf_cons' (by decide) (part_one w Try.underlying3 rfl _ _ _ rfl) (part_one w Try.underlying3 rfl _ _ _ rfl) (run_equalIn_int w 9998 _ .i64 .i64 _ _ Try.underlying3) ?_
    refine eqf_cons' (by decide) (part_one w Try.underlying3 rfl _ _ _ rfl) (part_one w Try.underlying3 rfl _ _ _ rfl) (run_equalIn_int w 9998 _ .i64 .i64 _ _ Try.underlying3) ?_
    exact eqf_nil'
  · refine congrArg (fun b => Result.ok b w) ?_
    obtain ⟨x0, x1, x2, x3⟩ := x
    obtain ⟨y0, y1, y2, y3⟩ := y
    rw [Bool.eq_iff_iff]
    simp
def chatelainelaw43_LotOps_l0 (Fu : Nat) (a1 : Int × Int × Int × Int × Int × Int) (a2 : Int) (x30 : (List (Int × Int × Int × Int × Int × (List UInt8) × (List UInt8))) × Int) (x98 : (List (Int × Int × Int × Int × Int × (List UInt8) × (List UInt8)))) : Nat → Int → ((List UInt8) × Int) → Option (Sum Bool Unit)
  | 0, _, _ => none
  | k + 1, x119, x121 => if x119 < (x30.1.length : Int) then (((ix x30.1.length x119).bind fun m141 => (x30.1[m141]?).bind fun x147 => if x119 < (x98.length : Int) then ((ix x98.length x119).bind fun m177 => (x98[m177]?).bind fun x183 => (chatelaineref29_Same Fu x147 x183).bind fun x211 => if (!x211) = true then (some (.inl false)) else (some (.inr x121))) else ((chatelaineref43_Lot_Op Fu x121 a1 a2).bind fun x214 => (chatelaineref29_Same Fu x147 x214.1).bind fun x249 => if (!x249) = true then (some (.inl false)) else (some (.inr x214.2))) : Option (Sum Bool (((List UInt8) × Int)))).bind fun o => match o with | .inl r259 => some (.inl r259) | .inr x136 => chatelainelaw43_LotOps_l0 Fu a1 a2 x30 x98 k (w64 (x119 + 1)) x136) else (some (.inr ()))
def chatelainelaw43_LotOps (Fu : Nat) (a0 : List UInt8) (a1 : Int × Int × Int × Int × Int × Int) (a2 : Int) : Option Bool :=
  (chatelainelaw43_awake Fu).bind fun x18 => if (!x18) = true then (some false) else (if ((decide (100 < (a0.length : Int))) || (decide (12 < a1.1))) = true then (some true) else ((lot_Ops Fu a0 a1 ([(97 : UInt8), (100 : UInt8), (109 : UInt8), (105 : UInt8), (110 : UInt8), (105 : UInt8), (115 : UInt8), (116 : UInt8), (114 : UInt8), (97 : UInt8), (116 : UInt8), (111 : UInt8), (114 : UInt8)]) a2).bind fun x30 => (lot_Geom Fu a1 a2).bind fun x41 => (lot_Ops Fu a0 a1 a0 a2).bind fun x58 => (chatelaineref43_May Fu a1).bind fun x69 => (if (!x69) = true then some true else (chatelaineref43_Wide Fu a2).bind fun x75 => some (!x75)).bind fun z73 => if z73 = true then (some (((((decide (x30.2 = 2)) && (decide (x41.2 = 2))) && (decide (x58.2 = 2))) && (decide ((x30.1.length : Int) = 0))) && (decide (x41.1 = (0, 0, 0, 0))))) else ((chatelaineref22_Right Fu a0).bind fun x87 => if ((decide (x58.2 = 30)) == x87) = true then (some false) else (if (((decide (4096 < w64 (a1.2.1 * a1.2.2.1))) && (decide (x41.2 ≠ 3))) || ((decide (w64 (a1.2.1 * a1.2.2.1) ≤ 4096)) && ((decide (x41.2 ≠ 0)) || (!(decide (x41.1 = (a2, a1.2.1, a1.2.1, w64 (a1.2.1 * a1.2.2.1)))))))) = true then (some false) else ((chatelaineref43_First Fu a1 ([(97 : UInt8), (100 : UInt8), (109 : UInt8), (105 : UInt8), (110 : UInt8), (105 : UInt8), (115 : UInt8), (116 : UInt8), (114 : UInt8), (97 : UInt8), (116 : UInt8), (111 : UInt8), (114 : UInt8)])).bind fun x98 => if ((decide (x30.2 ≠ 0)) || (decide ((x30.1.length : Int) ≠ w64 ((x98.length : Int) + a1.1)))) = true then (some false) else ((chatelainelaw43_LotOps_l0 Fu a1 a2 x30 x98 Fu 0 (a0, 0)).bind fun o => match o with | .inl r260 => some r260 | .inr _ => some true))))))
set_option maxRecDepth 100000 in
set_option maxHeartbeats 2000000 in
theorem chatelainelaw43_LotOps_ok (Fu : Nat) {S0 : Snap} (Aa0 : Option Addr) (ca0 : Nat) (a0 : List UInt8) (hsa0 : slS ty8 S0 Aa0 ca0 a0) (csa1 : List Value) (a1 : Int × Int × Int × Int × Int × Int) (hsa1 : (tyP tyI (tyP tyI (tyP tyI (tyP tyI (tyP tyI tyI))))).rep S0 csa1 a1) (a2 : Int) (hra2 : r64 a2) (r : Bool) (hf : chatelainelaw43_LotOps Fu a0 a1 a2 = some r) (w0 : World) (hm : Mem w0 (ownL ([] ++ [.sn S0])) ([] ++ [.sn S0]) w0) :
    Calls Try.prog 4 #[.slice Aa0 a0.length ca0, .agg csa1.toArray, .int .i64 a2] w0 (Ret w0 S0 [] (fun v L1 S1 => v = .bool r ∧ L1 = [] ∧ True)) := by
  unfold chatelainelaw43_LotOps at hf
  obtain ⟨k1, k2, rfl, ⟨rfl, hr3⟩, ⟨k4, k5, rfl, ⟨rfl, hr6⟩, ⟨k7, k8, rfl, ⟨rfl, hr9⟩, ⟨k10, k11, rfl, ⟨rfl, hr12⟩, ⟨k13, k14, rfl, ⟨rfl, hr15⟩, ⟨rfl, hr16⟩⟩⟩⟩⟩⟩ := hsa1
  refine c_enterM Try.func4 rfl 160 rfl (by simp) _ hm _ rfl (fun a h => ?_)
  refine c_rs ?_ -- region 0
  refine s_box h rfl rfl rfl (by decide) rfl (cs := [.int .i64 a1.1, .int .i64 a1.2.1, .int .i64 a1.2.2.1, .int .i64 a1.2.2.2.1, .int .i64 a1.2.2.2.2.1, .int .i64 a1.2.2.2.2.2]) (by rfl) (fun a w g17 h => ?_)
  refine s_assign h rfl _ rfl rfl (by decide) rfl (fun a h => ?_)
  refine l_end ?_
  refine wp_seq ?_
  refine c_rs ?_ -- region 1
  obtain ⟨x18, h19, hf⟩ := bsome hf
  have hX := chatelainelaw43_awake_ok Fu (S0 := snapAll _)  _ h19 _ h.startAll
  refine q_callX hX h rfl rfl rfl (by decide) Try.func6 rfl rfl rfl (fun a w v L1 S1 hR hb1 h => ?_)
  obtain ⟨rfl, rfl, _⟩ := hR
  refine s_x h rfl rfl (by decide) (x_not h.k rfl rfl) (fun a h => ?_)
  refine l_end ?_
  refine c_cond h rfl (fun hb => ?_) (fun hb => ?_)
  · rw [if_pos hb] at hf
    refine c_rs ?_ -- region 2
    refine s_assign h rfl _ rfl rfl (by decide) rfl (fun a h => ?_)
    refine l_end ?_
    refine wp_ret ?_
    refine e_thenR ?_
    rw [← Option.some.inj hf]
    exact r_ret1 h rfl (rv_tmp h rfl) ⟨_, [], _, rfl, ⟨rfl, rfl, trivial⟩, rfl, (Up.refl _ _ _), (h.m.pick [1] _ (by decide) rfl)⟩
  · rw [if_neg (by rw [hb]; decide)] at hf
    refine wp_skip ?_
    refine e_thenN ?_
    refine wp_seq ?_
    refine c_rs ?_ -- region 3
    refine s_move h rfl _ rfl rfl (by decide) rfl (fun a h => ?_)
    refine s_x h rfl rfl (by decide) (x_len h.k rfl Try.underlying22 rfl) (fun a h => ?_)
    refine s_x h rfl rfl (by decide) (x_bin h.k rfl rfl rfl ib_gtr) (fun a h => ?_)
    refine s_move h rfl _ rfl rfl (by decide) rfl (fun a h => ?_)
    refine q_grp h 4 (t := 24) 28 ((decide (100 < (a0.length : Int))) || (decide (12 < a1.1))) rfl (fun hB3 => ?_) (fun hB3 => ?_) (fun a w h => ?_)
    · refine g_no h rfl rfl rfl rfl hB3 rfl (by decide) (fun a h => ?_)
      refine g_no h rfl rfl rfl rfl hB3 rfl (by decide) (fun a h => ?_)
      refine g_no h rfl rfl rfl rfl hB3 rfl (by decide) (fun a h => ?_)
      refine s_x h rfl rfl (by decide) (x_pick (u' := undef) h.k rfl rfl (fun _ => rfl) (fun hh => absurd (hB3.symm.trans hh) (by decide))) (fun a h => ?_)
      exact (h.mid 3 rfl).val (by first | rfl | (rw [hB3]; first | rfl | simp))
    · refine g_yes h rfl rfl rfl rfl hB3 ?_
      refine s_x h rfl rfl (by decide) (x_faddr h.k rfl Try.underlying25 rfl sz_int rfl) (fun a h => ?_)
      refine g_yes h rfl rfl rfl rfl hB3 ?_
      refine s_x h rfl rfl (by decide) (x_ld h.k rfl Try.underlying3 rfl rfl ((h.m.cell (i := 0) rfl 0).trans rfl)) (fun a h => ?_)
      refine g_yes h rfl rfl rfl rfl hB3 ?_
      refine s_x h rfl rfl (by decide) (x_bin h.k rfl rfl rfl ib_gtr) (fun a h => ?_)
      refine s_x h rfl rfl (by decide) (x_pick (u' := undef) h.k rfl rfl (fun hh => absurd (hB3.symm.trans hh) (by decide)) (fun _ => rfl)) (fun a h => ?_)
      exact (h.mid 3 rfl).val (by first | rfl | (rw [hB3]; first | rfl | simp))
    refine l_end ?_
    refine c_cond h rfl (fun hb => ?_) (fun hb => ?_)
    · rw [if_pos hb] at hf
      refine c_rs ?_ -- region 4
      refine s_assign h rfl _ rfl rfl (by decide) rfl (fun a h => ?_)
      refine l_end ?_
      refine wp_ret ?_
      refine e_thenR ?_
      rw [← Option.some.inj hf]
      exact r_ret1 h rfl (rv_tmp h rfl) ⟨_, [], _, rfl, ⟨rfl, rfl, trivial⟩, rfl, (Up.refl _ _ _), (h.m.pick [1] _ (by decide) rfl)⟩
    · rw [if_neg (by rw [hb]; decide)] at hf
      refine wp_skip ?_
      refine e_thenN ?_
      refine c_rs ?_ -- region 5
      refine q_bslice (T := ty8) (S := S0) h rfl rfl rfl (by decide) Try.underlying22 zi_uint8 (by decide) (by decide) (by decide) (by decide) [.int .u8 97, .int .u8 100, .int .u8 109, .int .u8 105, .int .u8 110, .int .u8 105, .int .u8 115, .int .u8 116, .int .u8 114, .int .u8 97, .int .u8 116, .int .u8 111, .int .u8 114] rfl rfl (C := [[.int .u8 97], [.int .u8 100], [.int .u8 109], [.int .u8 105], [.int .u8 110], [.int .u8 105], [.int .u8 115], [.int .u8 116], [.int .u8 114], [.int .u8 97], [.int .u8 116], [.int .u8 111], [.int .u8 114]]) rfl (xs := [(97 : UInt8), (100 : UInt8), (109 : UInt8), (105 : UInt8), (110 : UInt8), (105 : UInt8), (115 : UInt8), (116 : UInt8), (114 : UInt8), (97 : UInt8), (116 : UInt8), (111 : UInt8), (114 : UInt8)]) ⟨[.int .u8 97], _, rfl, rfl, ⟨[.int .u8 100], _, rfl, rfl, ⟨[.int .u8 109], _, rfl, rfl, ⟨[.int .u8 105], _, rfl, rfl, ⟨[.int .u8 110], _, rfl, rfl, ⟨[.int .u8 105], _, rfl, rfl, ⟨[.int .u8 115], _, rfl, rfl, ⟨[.int .u8 116], _, rfl, rfl, ⟨[.int .u8 114], _, rfl, rfl, ⟨[.int .u8 97], _, rfl, rfl, ⟨[.int .u8 116], _, rfl, rfl, ⟨[.int .u8 111], _, rfl, rfl, ⟨[.int .u8 114], _, rfl, rfl, rfl⟩⟩⟩⟩⟩⟩⟩⟩⟩⟩⟩⟩⟩ (by simp only [List.mem_cons, List.not_mem_nil, or_false]; rintro c (rfl | rfl | rfl | rfl | rfl | rfl | rfl | rfl | rfl | rfl | rfl | rfl | rfl) <;> rfl) (fun a w A23 h => ?_)
      have hb24 : reps ty8 S0 ([[.int .u8 97], [.int .u8 100], [.int .u8 109], [.int .u8 105], [.int .u8 110], [.int .u8 105], [.int .u8 115], [.int .u8 116], [.int .u8 114], [.int .u8 97], [.int .u8 116], [.int .u8 111], [.int .u8 114]] : List (List Value)).flatten [(97 : UInt8), (100 : UInt8), (109 : UInt8), (105 : UInt8), (110 : UInt8), (105 : UInt8), (115 : UInt8), (116 : UInt8), (114 : UInt8), (97 : UInt8), (116 : UInt8), (111 : UInt8), (114 : UInt8)] := ⟨[.int .u8 97], _, rfl, rfl, ⟨[.int .u8 100], _, rfl, rfl, ⟨[.int .u8 109], _, rfl, rfl, ⟨[.int .u8 105], _, rfl, rfl, ⟨[.int .u8 110], _, rfl, rfl, ⟨[.int .u8 105], _, rfl, rfl, ⟨[.int .u8 115], _, rfl, rfl, ⟨[.int .u8 116], _, rfl, rfl, ⟨[.int .u8 114], _, rfl, rfl, ⟨[.int .u8 97], _, rfl, rfl, ⟨[.int .u8 116], _, rfl, rfl, ⟨[.int .u8 111], _, rfl, rfl, ⟨[.int .u8 114], _, rfl, rfl, rfl⟩⟩⟩⟩⟩⟩⟩⟩⟩⟩⟩⟩⟩
      have h := h.pick [0, 2, 1] (by decide) rfl
      refine q_convMark (T := ty8) h (Up.refl _ _ _) hb24 rfl rfl rfl (by decide) Try.underlying22 Try.underlying5 rfl (by decide) (fun a w S25 le26 up27 hs28 h => ?_)
      have hf29 : 13 ≤ ([(97 : UInt8), (100 : UInt8), (109 : UInt8), (105 : UInt8), (110 : UInt8), (105 : UInt8), (115 : UInt8), (116 : UInt8), (114 : UInt8), (97 : UInt8), (116 : UInt8), (111 : UInt8), (114 : UInt8)]).length := by decide
      refine s_assign h rfl _ rfl rfl (by decide) rfl (fun a h => ?_)
      refine l_end ?_
      refine c_rs ?_ -- region 6
      refine s_move h rfl _ rfl rfl (by decide) rfl (fun a h => ?_)
      refine s_x h rfl rfl (by decide) (x_ldR h.k rfl ag_api_Load rfl ([.int .i64 a1.1, .int .i64 a1.2.1, .int .i64 a1.2.2.1, .int .i64 a1.2.2.2.1, .int .i64 a1.2.2.2.2.1, .int .i64 a1.2.2.2.2.2]) rfl (h.m.range0 (i := 1) rfl)) (fun a h => ?_)
      refine s_move h rfl _ rfl rfl (by decide) rfl (fun a h => ?_)
      refine s_move h rfl _ rfl rfl (by decide) rfl (fun a h => ?_)
      obtain ⟨x30, h31, hf⟩ := bsome hf
      have hX := lot_Ops_ok Fu (S0 := S25) Aa0 ca0 a0 (hsa0.mono le26) ([.int .i64 a1.1, .int .i64 a1.2.1, .int .i64 a1.2.2.1, .int .i64 a1.2.2.2.1, .int .i64 a1.2.2.2.2.1, .int .i64 a1.2.2.2.2.2]) a1 (⟨[.int .i64 a1.1], [.int .i64 a1.2.1, .int .i64 a1.2.2.1, .int .i64 a1.2.2.2.1, .int .i64 a1.2.2.2.2.1, .int .i64 a1.2.2.2.2.2], rfl, ⟨rfl, hr3⟩, ⟨[.int .i64 a1.2.1], [.int .i64 a1.2.2.1, .int .i64 a1.2.2.2.1, .int .i64 a1.2.2.2.2.1, .int .i64 a1.2.2.2.2.2], rfl, ⟨rfl, hr6⟩, ⟨[.int .i64 a1.2.2.1], [.int .i64 a1.2.2.2.1, .int .i64 a1.2.2.2.2.1, .int .i64 a1.2.2.2.2.2], rfl, ⟨rfl, hr9⟩, ⟨[.int .i64 a1.2.2.2.1], [.int .i64 a1.2.2.2.2.1, .int .i64 a1.2.2.2.2.2], rfl, ⟨rfl, hr12⟩, ⟨[.int .i64 a1.2.2.2.2.1], [.int .i64 a1.2.2.2.2.2], rfl, ⟨rfl, hr15⟩, ⟨rfl, hr16⟩⟩⟩⟩⟩⟩) A23 13 ([(97 : UInt8), (100 : UInt8), (109 : UInt8), (105 : UInt8), (110 : UInt8), (105 : UInt8), (115 : UInt8), (116 : UInt8), (114 : UInt8), (97 : UInt8), (116 : UInt8), (111 : UInt8), (114 : UInt8)]) hs28 a2 hra2 _ h31 _ (h.sub (Ls := []))
      refine q_callY (Ls := []) hX h up27 rfl rfl rfl (by decide) Try.func17 rfl rfl rfl (fun a w v L1 S33 hR le35 up34 h => ?_)
      obtain ⟨A36, c37, cs38, rfl, rfl, hq39, hr40, _⟩ := hR
      refine s_move h rfl _ rfl rfl (by decide) rfl (fun a h => ?_)
      refine s_x h rfl rfl (by decide) (x_ext h.k rfl rfl rfl) (fun a h => ?_)
      refine s_x h rfl rfl (by decide) (x_ext h.k rfl rfl rfl) (fun a h => ?_)
      refine s_assign h rfl _ rfl rfl (by decide) rfl (fun a h => ?_)
      refine s_assign h rfl _ rfl rfl (by decide) rfl (fun a h => ?_)
      refine l_end ?_
      refine c_rs ?_ -- region 7
      refine s_x h rfl rfl (by decide) (x_ldR h.k rfl ag_api_Load rfl ([.int .i64 a1.1, .int .i64 a1.2.1, .int .i64 a1.2.2.1, .int .i64 a1.2.2.2.1, .int .i64 a1.2.2.2.2.1, .int .i64 a1.2.2.2.2.2]) rfl (h.m.range0 (i := 2) rfl)) (fun a h => ?_)
      refine s_move h rfl _ rfl rfl (by decide) rfl (fun a h => ?_)
      obtain ⟨x41, h42, hf⟩ := bsome hf
      have hX := lot_Geom_ok Fu (S0 := snapAll _) ([.int .i64 a1.1, .int .i64 a1.2.1, .int .i64 a1.2.2.1, .int .i64 a1.2.2.2.1, .int .i64 a1.2.2.2.2.1, .int .i64 a1.2.2.2.2.2]) a1 ((tyP tyI (tyP tyI (tyP tyI (tyP tyI (tyP tyI tyI))))).mono (h.m.leAll (i := 1) rfl) (show (tyP tyI (tyP tyI (tyP tyI (tyP tyI (tyP tyI tyI))))).rep S33 ([.int .i64 a1.1, .int .i64 a1.2.1, .int .i64 a1.2.2.1, .int .i64 a1.2.2.2.1, .int .i64 a1.2.2.2.2.1, .int .i64 a1.2.2.2.2.2]) a1 from ⟨[.int .i64 a1.1], [.int .i64 a1.2.1, .int .i64 a1.2.2.1, .int .i64 a1.2.2.2.1, .int .i64 a1.2.2.2.2.1, .int .i64 a1.2.2.2.2.2], rfl, ⟨rfl, hr3⟩, ⟨[.int .i64 a1.2.1], [.int .i64 a1.2.2.1, .int .i64 a1.2.2.2.1, .int .i64 a1.2.2.2.2.1, .int .i64 a1.2.2.2.2.2], rfl, ⟨rfl, hr6⟩, ⟨[.int .i64 a1.2.2.1], [.int .i64 a1.2.2.2.1, .int .i64 a1.2.2.2.2.1, .int .i64 a1.2.2.2.2.2], rfl, ⟨rfl, hr9⟩, ⟨[.int .i64 a1.2.2.2.1], [.int .i64 a1.2.2.2.2.1, .int .i64 a1.2.2.2.2.2], rfl, ⟨rfl, hr12⟩, ⟨[.int .i64 a1.2.2.2.2.1], [.int .i64 a1.2.2.2.2.2], rfl, ⟨rfl, hr15⟩, ⟨rfl, hr16⟩⟩⟩⟩⟩⟩)) a2 hra2 _ h42 _ h.startAll
      refine q_callX hX h rfl rfl rfl (by decide) Try.func18 rfl rfl rfl (fun a w v L1 S1 hR hb1 h => ?_)
      obtain ⟨k44, rfl, rfl, hv45, hr56, _⟩ := hR
      obtain ⟨k46, k47, rfl, ⟨rfl, hr48⟩, ⟨k49, k50, rfl, ⟨rfl, hr51⟩, ⟨k52, k53, rfl, ⟨rfl, hr54⟩, ⟨rfl, hr55⟩⟩⟩⟩ := hv45
      refine s_move h rfl _ rfl rfl (by decide) rfl (fun a h => ?_)
      refine s_x h rfl rfl (by decide) (x_ext h.k rfl rfl rfl) (fun a h => ?_)
      refine s_x h rfl rfl (by decide) (x_ext h.k rfl rfl rfl) (fun a h => ?_)
      refine s_alloc h rfl rfl rfl (by decide) zi_api_Geom rfl (fun a w g57 h => ?_)
      refine s_stW h rfl rfl rfl ag_api_Geom rfl (es := [.int .i64 x41.1.1, .int .i64 x41.1.2.1, .int .i64 x41.1.2.2.1, .int .i64 x41.1.2.2.2]) rfl rfl (by simp [Value.oneCell']) 0 rfl rfl (fun a w h => ?_)
      refine s_assign h rfl _ rfl rfl (by decide) rfl (fun a h => ?_)
      refine l_end ?_
      refine c_rs ?_ -- region 8
      refine s_move h rfl _ rfl rfl (by decide) rfl (fun a h => ?_)
      refine s_x h rfl rfl (by decide) (x_ldR h.k rfl ag_api_Load rfl ([.int .i64 a1.1, .int .i64 a1.2.1, .int .i64 a1.2.2.1, .int .i64 a1.2.2.2.1, .int .i64 a1.2.2.2.2.1, .int .i64 a1.2.2.2.2.2]) rfl (h.m.range0 (i := 3) rfl)) (fun a h => ?_)
      refine s_move h rfl _ rfl rfl (by decide) rfl (fun a h => ?_)
      refine s_move h rfl _ rfl rfl (by decide) rfl (fun a h => ?_)
      obtain ⟨x58, h59, hf⟩ := bsome hf
      have h := h.pick [2, 0, 1, 3] (by decide) rfl
      have hX := lot_Ops_ok Fu (S0 := S33) Aa0 ca0 a0 (hsa0.mono (le26.trans le35)) ([.int .i64 a1.1, .int .i64 a1.2.1, .int .i64 a1.2.2.1, .int .i64 a1.2.2.2.1, .int .i64 a1.2.2.2.2.1, .int .i64 a1.2.2.2.2.2]) a1 (⟨[.int .i64 a1.1], [.int .i64 a1.2.1, .int .i64 a1.2.2.1, .int .i64 a1.2.2.2.1, .int .i64 a1.2.2.2.2.1, .int .i64 a1.2.2.2.2.2], rfl, ⟨rfl, hr3⟩, ⟨[.int .i64 a1.2.1], [.int .i64 a1.2.2.1, .int .i64 a1.2.2.2.1, .int .i64 a1.2.2.2.2.1, .int .i64 a1.2.2.2.2.2], rfl, ⟨rfl, hr6⟩, ⟨[.int .i64 a1.2.2.1], [.int .i64 a1.2.2.2.1, .int .i64 a1.2.2.2.2.1, .int .i64 a1.2.2.2.2.2], rfl, ⟨rfl, hr9⟩, ⟨[.int .i64 a1.2.2.2.1], [.int .i64 a1.2.2.2.2.1, .int .i64 a1.2.2.2.2.2], rfl, ⟨rfl, hr12⟩, ⟨[.int .i64 a1.2.2.2.2.1], [.int .i64 a1.2.2.2.2.2], rfl, ⟨rfl, hr15⟩, ⟨rfl, hr16⟩⟩⟩⟩⟩⟩) Aa0 ca0 a0 (hsa0.mono (le26.trans le35)) a2 hra2 _ h59 _ (h.sub (Ls := []))
      refine q_callY (Ls := []) hX h up34 rfl rfl rfl (by decide) Try.func17 rfl rfl rfl (fun a w v L1 S61 hR le63 up62 h => ?_)
      obtain ⟨A64, c65, cs66, rfl, rfl, hq67, hr68, _⟩ := hR
      refine s_move h rfl _ rfl rfl (by decide) rfl (fun a h => ?_)
      refine s_x h rfl rfl (by decide) (x_ext h.k rfl rfl rfl) (fun a h => ?_)
      refine s_x h rfl rfl (by decide) (x_ext h.k rfl rfl rfl) (fun a h => ?_)
      refine s_assign h rfl _ rfl rfl (by decide) rfl (fun a h => ?_)
      refine s_assign h rfl _ rfl rfl (by decide) rfl (fun a h => ?_)
      refine l_end ?_
      refine wp_seq ?_
      refine c_rs ?_ -- region 9
      refine s_x h rfl rfl (by decide) (x_ldR h.k rfl ag_api_Load rfl ([.int .i64 a1.1, .int .i64 a1.2.1, .int .i64 a1.2.2.1, .int .i64 a1.2.2.2.1, .int .i64 a1.2.2.2.2.1, .int .i64 a1.2.2.2.2.2]) rfl (h.m.range0 (i := 4) rfl)) (fun a h => ?_)
      obtain ⟨x69, h70, hf⟩ := bsome hf
      have hX := chatelaineref43_May_ok Fu (S0 := snapAll _) ([.int .i64 a1.1, .int .i64 a1.2.1, .int .i64 a1.2.2.1, .int .i64 a1.2.2.2.1, .int .i64 a1.2.2.2.2.1, .int .i64 a1.2.2.2.2.2]) a1 ((tyP tyI (tyP tyI (tyP tyI (tyP tyI (tyP tyI tyI))))).mono (h.m.leAll (i := 1) rfl) (show (tyP tyI (tyP tyI (tyP tyI (tyP tyI (tyP tyI tyI))))).rep S61 ([.int .i64 a1.1, .int .i64 a1.2.1, .int .i64 a1.2.2.1, .int .i64 a1.2.2.2.1, .int .i64 a1.2.2.2.2.1, .int .i64 a1.2.2.2.2.2]) a1 from ⟨[.int .i64 a1.1], [.int .i64 a1.2.1, .int .i64 a1.2.2.1, .int .i64 a1.2.2.2.1, .int .i64 a1.2.2.2.2.1, .int .i64 a1.2.2.2.2.2], rfl, ⟨rfl, hr3⟩, ⟨[.int .i64 a1.2.1], [.int .i64 a1.2.2.1, .int .i64 a1.2.2.2.1, .int .i64 a1.2.2.2.2.1, .int .i64 a1.2.2.2.2.2], rfl, ⟨rfl, hr6⟩, ⟨[.int .i64 a1.2.2.1], [.int .i64 a1.2.2.2.1, .int .i64 a1.2.2.2.2.1, .int .i64 a1.2.2.2.2.2], rfl, ⟨rfl, hr9⟩, ⟨[.int .i64 a1.2.2.2.1], [.int .i64 a1.2.2.2.2.1, .int .i64 a1.2.2.2.2.2], rfl, ⟨rfl, hr12⟩, ⟨[.int .i64 a1.2.2.2.2.1], [.int .i64 a1.2.2.2.2.2], rfl, ⟨rfl, hr15⟩, ⟨rfl, hr16⟩⟩⟩⟩⟩⟩)) _ h70 _ h.startAll
      refine q_callX hX h rfl rfl rfl (by decide) Try.func16 rfl rfl rfl (fun a w v L1 S1 hR hb1 h => ?_)
      obtain ⟨rfl, rfl, _⟩ := hR
      refine s_x h rfl rfl (by decide) (x_not h.k rfl rfl) (fun a h => ?_)
      refine s_move h rfl _ rfl rfl (by decide) rfl (fun a h => ?_)
      obtain ⟨z73, hz72, hf⟩ := bsome hf
      refine q_grp h 4 (t := 56) 60 z73 rfl (fun hB3 => ?_) (fun hB3 => ?_) (fun a w h => ?_)
      · refine g_no h rfl rfl rfl rfl hB3 rfl (by decide) (fun a h => ?_)
        refine g_no h rfl rfl rfl rfl hB3 rfl (by decide) (fun a h => ?_)
        refine g_no h rfl rfl rfl rfl hB3 rfl (by decide) (fun a h => ?_)
        rw [if_pos hB3] at hz72
        refine s_x h rfl rfl (by decide) (x_pick (u' := undef) h.k rfl rfl (fun _ => rfl) (fun hh => absurd (hB3.symm.trans hh) (by decide))) (fun a h => ?_)
        exact (h.mid 3 rfl).val (by rw [Option.some.inj hz72])
      · rw [if_neg (by rw [hB3]; decide)] at hz72
        refine g_yes h rfl rfl rfl rfl hB3 ?_
        refine s_move h rfl _ rfl rfl (by decide) rfl (fun a h => ?_)
        refine g_yes h rfl rfl rfl rfl hB3 ?_
        obtain ⟨x75, h76, hz72⟩ := bsome hz72
        have hX := chatelaineref43_Wide_ok Fu (S0 := snapAll _) a2 hra2 _ h76 _ h.startAll
        refine q_callX hX h rfl rfl rfl (by decide) Try.func19 rfl rfl rfl (fun a w v L1 S1 hR hb1 h => ?_)
        obtain ⟨rfl, rfl, _⟩ := hR
        refine g_yes h rfl rfl rfl rfl hB3 ?_
        refine s_x h rfl rfl (by decide) (x_not h.k rfl rfl) (fun a h => ?_)
        refine s_x h rfl rfl (by decide) (x_pick (u' := undef) h.k rfl rfl (fun hh => absurd (hB3.symm.trans hh) (by decide)) (fun _ => rfl)) (fun a h => ?_)
        exact (h.mid 3 rfl).val (by rw [Option.some.inj hz72])
      refine l_end ?_
      refine c_cond h rfl (fun hb => ?_) (fun hb => ?_)
      · rw [if_pos hb] at hf
        refine c_rs ?_ -- region 10
        refine s_move h rfl _ rfl rfl (by decide) rfl (fun a h => ?_)
        refine s_x h rfl rfl (by decide) (x_bin h.k rfl rfl rfl ib_eql) (fun a h => ?_)
        refine s_move h rfl _ rfl rfl (by decide) rfl (fun a h => ?_)
        refine q_grp h 3 (t := 63) 66 ((decide (x30.2 = 2)) && (decide (x41.2 = 2))) rfl (fun hB2 => ?_) (fun hB2 => ?_) (fun a w h => ?_)
        · refine g_yes h rfl rfl rfl rfl hB2 ?_
          refine s_move h rfl _ rfl rfl (by decide) rfl (fun a h => ?_)
          refine g_yes h rfl rfl rfl rfl hB2 ?_
          refine s_x h rfl rfl (by decide) (x_bin h.k rfl rfl rfl ib_eql) (fun a h => ?_)
          refine s_x h rfl rfl (by decide) (x_pick (u' := undef) h.k rfl rfl (fun _ => rfl) (fun hh => absurd (hB2.symm.trans hh) (by decide))) (fun a h => ?_)
          exact (h.mid 2 rfl).val (by first | rfl | (rw [hB2]; first | rfl | simp))
        · refine g_no h rfl rfl rfl rfl hB2 rfl (by decide) (fun a h => ?_)
          refine g_no h rfl rfl rfl rfl hB2 rfl (by decide) (fun a h => ?_)
          refine s_x h rfl rfl (by decide) (x_pick (u' := undef) h.k rfl rfl (fun hh => absurd (hB2.symm.trans hh) (by decide)) (fun _ => rfl)) (fun a h => ?_)
          exact (h.mid 2 rfl).val (by first | rfl | (rw [hB2]; first | rfl | simp))
        refine s_move h rfl _ rfl rfl (by decide) rfl (fun a h => ?_)
        refine q_grp h 3 (t := 67) 70 (((decide (x30.2 = 2)) && (decide (x41.2 = 2))) && (decide (x58.2 = 2))) rfl (fun hB6 => ?_) (fun hB6 => ?_) (fun a w h => ?_)
        · refine g_yes h rfl rfl rfl rfl hB6 ?_
          refine s_move h rfl _ rfl rfl (by decide) rfl (fun a h => ?_)
          refine g_yes h rfl rfl rfl rfl hB6 ?_
          refine s_x h rfl rfl (by decide) (x_bin h.k rfl rfl rfl ib_eql) (fun a h => ?_)
          refine s_x h rfl rfl (by decide) (x_pick (u' := undef) h.k rfl rfl (fun _ => rfl) (fun hh => absurd (hB6.symm.trans hh) (by decide))) (fun a h => ?_)
          exact (h.mid 2 rfl).val (by first | rfl | (rw [hB6]; first | rfl | simp))
        · refine g_no h rfl rfl rfl rfl hB6 rfl (by decide) (fun a h => ?_)
          refine g_no h rfl rfl rfl rfl hB6 rfl (by decide) (fun a h => ?_)
          refine s_x h rfl rfl (by decide) (x_pick (u' := undef) h.k rfl rfl (fun hh => absurd (hB6.symm.trans hh) (by decide)) (fun _ => rfl)) (fun a h => ?_)
          exact (h.mid 2 rfl).val (by first | rfl | (rw [hB6]; first | rfl | simp))
        refine s_move h rfl _ rfl rfl (by decide) rfl (fun a h => ?_)
        refine q_grp h 4 (t := 71) 75 ((((decide (x30.2 = 2)) && (decide (x41.2 = 2))) && (decide (x58.2 = 2))) && (decide ((x30.1.length : Int) = 0))) rfl (fun hB10 => ?_) (fun hB10 => ?_) (fun a w h => ?_)
        · refine g_yes h rfl rfl rfl rfl hB10 ?_
          refine s_move h rfl _ rfl rfl (by decide) rfl (fun a h => ?_)
          refine g_yes h rfl rfl rfl rfl hB10 ?_
          have hr84 : r64 (x30.1.length : Int) := len_r (h.m.rowLen (i := 3) rfl)
          refine s_x h rfl rfl (by decide) (x_len h.k rfl Try.underlying40 rfl) (fun a h => ?_)
          refine g_yes h rfl rfl rfl rfl hB10 ?_
          refine s_x h rfl rfl (by decide) (x_bin h.k rfl rfl rfl ib_eql) (fun a h => ?_)
          refine s_x h rfl rfl (by decide) (x_pick (u' := undef) h.k rfl rfl (fun _ => rfl) (fun hh => absurd (hB10.symm.trans hh) (by decide))) (fun a h => ?_)
          exact (h.mid 3 rfl).val (by first | rfl | (rw [hB10]; first | rfl | simp))
        · refine g_no h rfl rfl rfl rfl hB10 rfl (by decide) (fun a h => ?_)
          refine g_no h rfl rfl rfl rfl hB10 rfl (by decide) (fun a h => ?_)
          refine g_no h rfl rfl rfl rfl hB10 rfl (by decide) (fun a h => ?_)
          refine s_x h rfl rfl (by decide) (x_pick (u' := undef) h.k rfl rfl (fun hh => absurd (hB10.symm.trans hh) (by decide)) (fun _ => rfl)) (fun a h => ?_)
          exact (h.mid 3 rfl).val (by first | rfl | (rw [hB10]; first | rfl | simp))
        refine s_move h rfl _ rfl rfl (by decide) rfl (fun a h => ?_)
        refine q_grp h 4 (t := 76) 80 (((((decide (x30.2 = 2)) && (decide (x41.2 = 2))) && (decide (x58.2 = 2))) && (decide ((x30.1.length : Int) = 0))) && (decide (x41.1 = (0, 0, 0, 0)))) rfl (fun hB15 => ?_) (fun hB15 => ?_) (fun a w h => ?_)
        · refine g_yes h rfl rfl rfl rfl hB15 ?_
          refine s_x h rfl rfl (by decide) (x_ldR h.k rfl ag_api_Geom rfl ([.int .i64 x41.1.1, .int .i64 x41.1.2.1, .int .i64 x41.1.2.2.1, .int .i64 x41.1.2.2.2]) rfl (h.m.range0 (i := 2) rfl)) (fun a h => ?_)
          refine g_yes h rfl rfl rfl rfl hB15 ?_
          refine s_x h rfl rfl (by decide) (x_build h.k rfl [] rfl ([.int .i64 0, .int .i64 0, .int .i64 0, .int .i64 0]) (by kernel_rfl)) (fun a h => ?_)
          refine g_yes h rfl rfl rfl rfl hB15 ?_
          refine s_x h rfl rfl (by decide) (x_eqlS h.k rfl rfl rfl gd_api_Geom (eqs_api_Geom _ x41.1 (0, 0, 0, 0))) (fun a h => ?_)
          refine s_x h rfl rfl (by decide) (x_pick (u' := undef) h.k rfl rfl (fun _ => rfl) (fun hh => absurd (hB15.symm.trans hh) (by decide))) (fun a h => ?_)
          exact (h.mid 3 rfl).val (by first | rfl | (rw [hB15]; first | rfl | simp))
        · refine g_no h rfl rfl rfl rfl hB15 rfl (by decide) (fun a h => ?_)
          refine g_no h rfl rfl rfl rfl hB15 rfl (by decide) (fun a h => ?_)
          refine g_no h rfl rfl rfl rfl hB15 rfl (by decide) (fun a h => ?_)
          refine s_x h rfl rfl (by decide) (x_pick (u' := undef) h.k rfl rfl (fun hh => absurd (hB15.symm.trans hh) (by decide)) (fun _ => rfl)) (fun a h => ?_)
          exact (h.mid 3 rfl).val (by first | rfl | (rw [hB15]; first | rfl | simp))
        refine s_assign h rfl _ rfl rfl (by decide) rfl (fun a h => ?_)
        refine l_end ?_
        refine wp_ret ?_
        refine e_thenR ?_
        obtain rfl := Option.some.inj hf
        exact r_ret1 h rfl (rv_tmp h rfl) ⟨_, [], _, rfl, ⟨rfl, rfl, trivial⟩, rfl, up62, (h.m.pick [1] _ (by decide) rfl)⟩
      · rw [if_neg (by rw [hb]; decide)] at hf
        refine wp_skip ?_
        refine e_thenN ?_
        refine wp_seq ?_
        refine c_rs ?_ -- region 11
        refine s_move h rfl _ rfl rfl (by decide) rfl (fun a h => ?_)
        refine s_x h rfl rfl (by decide) (x_bin h.k rfl rfl rfl ib_eql) (fun a h => ?_)
        refine s_move h rfl _ rfl rfl (by decide) rfl (fun a h => ?_)
        obtain ⟨x87, h88, hf⟩ := bsome hf
        have hX := chatelaineref22_Right_ok Fu (S0 := snapAll _) Aa0 ca0 a0 ((hsa0.mono ((le26.trans le35).trans le63)).mono (h.m.leAll (i := 1) rfl)) _ h88 _ h.startAll
        refine q_callX hX h rfl rfl rfl (by decide) Try.func20 rfl rfl rfl (fun a w v L1 S1 hR hb1 h => ?_)
        obtain ⟨rfl, rfl, _⟩ := hR
        refine s_x h rfl rfl (by decide) (x_eqlB h.k rfl Try.underlying4 rfl rfl) (fun a h => ?_)
        refine l_end ?_
        refine c_cond h rfl (fun hb => ?_) (fun hb => ?_)
        · rw [if_pos hb] at hf
          refine c_rs ?_ -- region 12
          refine s_assign h rfl _ rfl rfl (by decide) rfl (fun a h => ?_)
          refine l_end ?_
          refine wp_ret ?_
          refine e_thenR ?_
          rw [← Option.some.inj hf]
          exact r_ret1 h rfl (rv_tmp h rfl) ⟨_, [], _, rfl, ⟨rfl, rfl, trivial⟩, rfl, up62, (h.m.pick [1] _ (by decide) rfl)⟩
        · rw [if_neg (by rw [hb]; decide)] at hf
          refine wp_skip ?_
          refine e_thenN ?_
          refine c_rs ?_ -- region 13
          refine s_x h rfl rfl (by decide) (x_faddr h.k rfl Try.underlying25 rfl sz_int rfl) (fun a h => ?_)
          refine s_x h rfl rfl (by decide) (x_ld h.k rfl Try.underlying3 rfl rfl ((h.m.cell (i := 4) rfl 1).trans rfl)) (fun a h => ?_)
          refine s_x h rfl rfl (by decide) (x_faddr h.k rfl Try.underlying25 rfl sz_int rfl) (fun a h => ?_)
          refine s_x h rfl rfl (by decide) (x_ld h.k rfl Try.underlying3 rfl rfl ((h.m.cell (i := 4) rfl 2).trans rfl)) (fun a h => ?_)
          refine s_x h rfl rfl (by decide) (x_bin h.k rfl rfl rfl (ib_mul rfl)) (fun a h => ?_)
          refine s_assign h rfl _ rfl rfl (by decide) rfl (fun a h => ?_)
          refine l_end ?_
          refine wp_seq ?_
          refine c_rs ?_ -- region 14
          refine s_move h rfl _ rfl rfl (by decide) rfl (fun a h => ?_)
          refine s_x h rfl rfl (by decide) (x_bin h.k rfl rfl rfl ib_gtr) (fun a h => ?_)
          refine s_move h rfl _ rfl rfl (by decide) rfl (fun a h => ?_)
          refine q_grp h 3 (t := 93) 96 ((decide (4096 < w64 (a1.2.1 * a1.2.2.1))) && (decide (x41.2 ≠ 3))) rfl (fun hB2 => ?_) (fun hB2 => ?_) (fun a w h => ?_)
          · refine g_yes h rfl rfl rfl rfl hB2 ?_
            refine s_move h rfl _ rfl rfl (by decide) rfl (fun a h => ?_)
            refine g_yes h rfl rfl rfl rfl hB2 ?_
            refine s_x h rfl rfl (by decide) (x_bin h.k rfl rfl rfl ib_neq) (fun a h => ?_)
            refine s_x h rfl rfl (by decide) (x_pick (u' := undef) h.k rfl rfl (fun _ => rfl) (fun hh => absurd (hB2.symm.trans hh) (by decide))) (fun a h => ?_)
            exact (h.mid 2 rfl).val (by first | rfl | (rw [hB2]; first | rfl | simp))
          · refine g_no h rfl rfl rfl rfl hB2 rfl (by decide) (fun a h => ?_)
            refine g_no h rfl rfl rfl rfl hB2 rfl (by decide) (fun a h => ?_)
            refine s_x h rfl rfl (by decide) (x_pick (u' := undef) h.k rfl rfl (fun hh => absurd (hB2.symm.trans hh) (by decide)) (fun _ => rfl)) (fun a h => ?_)
            exact (h.mid 2 rfl).val (by first | rfl | (rw [hB2]; first | rfl | simp))
          refine s_move h rfl _ rfl rfl (by decide) rfl (fun a h => ?_)
          refine q_grp h 18 (t := 97) 115 (((decide (4096 < w64 (a1.2.1 * a1.2.2.1))) && (decide (x41.2 ≠ 3))) || ((decide (w64 (a1.2.1 * a1.2.2.1) ≤ 4096)) && ((decide (x41.2 ≠ 0)) || (!(decide (x41.1 = (a2, a1.2.1, a1.2.1, w64 (a1.2.1 * a1.2.2.1)))))))) rfl (fun hB6 => ?_) (fun hB6 => ?_) (fun a w h => ?_)
          · refine g_no h rfl rfl rfl rfl hB6 rfl (by decide) (fun a h => ?_)
            refine g_no h rfl rfl rfl rfl hB6 rfl (by decide) (fun a h => ?_)
            refine g_no h rfl rfl rfl rfl hB6 rfl (by decide) (fun a h => ?_)
            refine g_off h rfl rfl rfl rfl rfl (by decide) (fun a h => ?_)
            refine g_off h rfl rfl rfl rfl rfl (by decide) (fun a h => ?_)
            refine g_off h rfl rfl rfl rfl rfl (by decide) (fun a h => ?_)
            refine g_off h rfl rfl rfl rfl rfl (by decide) (fun a h => ?_)
            refine g_off h rfl rfl rfl rfl rfl (by decide) (fun a h => ?_)
            refine g_off h rfl rfl rfl rfl rfl (by decide) (fun a h => ?_)
            refine g_off h rfl rfl rfl rfl rfl (by decide) (fun a h => ?_)
            refine g_off h rfl rfl rfl rfl rfl (by decide) (fun a h => ?_)
            refine g_off h rfl rfl rfl rfl rfl (by decide) (fun a h => ?_)
            refine g_off h rfl rfl rfl rfl rfl (by decide) (fun a h => ?_)
            refine g_off h rfl rfl rfl rfl rfl (by decide) (fun a h => ?_)
            refine g_off h rfl rfl rfl rfl rfl (by decide) (fun a h => ?_)
            refine g_off h rfl rfl rfl rfl rfl (by decide) (fun a h => ?_)
            refine g_no h rfl rfl rfl rfl hB6 rfl (by decide) (fun a h => ?_)
            refine s_x h rfl rfl (by decide) (x_pick (u' := undef) h.k rfl rfl (fun _ => rfl) (fun hh => absurd (hB6.symm.trans hh) (by decide))) (fun a h => ?_)
            exact (h.mid 17 rfl).val (by first | rfl | (rw [hB6]; first | rfl | simp))
          · refine g_yes h rfl rfl rfl rfl hB6 ?_
            refine s_move h rfl _ rfl rfl (by decide) rfl (fun a h => ?_)
            refine g_yes h rfl rfl rfl rfl hB6 ?_
            refine s_x h rfl rfl (by decide) (x_bin h.k rfl rfl rfl ib_leq) (fun a h => ?_)
            refine g_yes h rfl rfl rfl rfl hB6 ?_
            refine s_move h rfl _ rfl rfl (by decide) rfl (fun a h => ?_)
            refine q_grp h 14 (t := 100) 114 ((decide (w64 (a1.2.1 * a1.2.2.1) ≤ 4096)) && ((decide (x41.2 ≠ 0)) || (!(decide (x41.1 = (a2, a1.2.1, a1.2.1, w64 (a1.2.1 * a1.2.2.1))))))) rfl (fun hB9 => ?_) (fun hB9 => ?_) (fun a w h => ?_)
            · refine g_yes h rfl rfl rfl rfl hB9 ?_
              refine s_move h rfl _ rfl rfl (by decide) rfl (fun a h => ?_)
              refine g_yes h rfl rfl rfl rfl hB9 ?_
              refine s_x h rfl rfl (by decide) (x_bin h.k rfl rfl rfl ib_neq) (fun a h => ?_)
              refine g_yes h rfl rfl rfl rfl hB9 ?_
              refine s_move h rfl _ rfl rfl (by decide) rfl (fun a h => ?_)
              refine q_grp h 10 (t := 103) 113 ((decide (x41.2 ≠ 0)) || (!(decide (x41.1 = (a2, a1.2.1, a1.2.1, w64 (a1.2.1 * a1.2.2.1)))))) rfl (fun hB12 => ?_) (fun hB12 => ?_) (fun a w h => ?_)
              · refine g_no h rfl rfl rfl rfl hB12 rfl (by decide) (fun a h => ?_)
                refine g_no h rfl rfl rfl rfl hB12 rfl (by decide) (fun a h => ?_)
                refine g_no h rfl rfl rfl rfl hB12 rfl (by decide) (fun a h => ?_)
                refine g_no h rfl rfl rfl rfl hB12 rfl (by decide) (fun a h => ?_)
                refine g_no h rfl rfl rfl rfl hB12 rfl (by decide) (fun a h => ?_)
                refine g_no h rfl rfl rfl rfl hB12 rfl (by decide) (fun a h => ?_)
                refine g_no h rfl rfl rfl rfl hB12 rfl (by decide) (fun a h => ?_)
                refine g_no h rfl rfl rfl rfl hB12 rfl (by decide) (fun a h => ?_)
                refine g_no h rfl rfl rfl rfl hB12 rfl (by decide) (fun a h => ?_)
                refine g_yes h rfl rfl rfl rfl hB9 ?_
                refine s_x h rfl rfl (by decide) (x_pick (u' := undef) h.k rfl rfl (fun _ => rfl) (fun hh => absurd (hB12.symm.trans hh) (by decide))) (fun a h => ?_)
                exact (h.mid 9 rfl).val (by first | rfl | (rw [hB12]; first | rfl | simp))
              · refine g_yes h rfl rfl rfl rfl hB12 ?_
                refine s_x h rfl rfl (by decide) (x_ldR h.k rfl ag_api_Geom rfl ([.int .i64 x41.1.1, .int .i64 x41.1.2.1, .int .i64 x41.1.2.2.1, .int .i64 x41.1.2.2.2]) rfl (h.m.range0 (i := 2) rfl)) (fun a h => ?_)
                refine g_yes h rfl rfl rfl rfl hB12 ?_
                refine s_move h rfl _ rfl rfl (by decide) rfl (fun a h => ?_)
                refine g_yes h rfl rfl rfl rfl hB12 ?_
                refine s_x h rfl rfl (by decide) (x_faddr h.k rfl Try.underlying25 rfl sz_int rfl) (fun a h => ?_)
                refine g_yes h rfl rfl rfl rfl hB12 ?_
                refine s_x h rfl rfl (by decide) (x_ld h.k rfl Try.underlying3 rfl rfl ((h.m.cell (i := 4) rfl 1).trans rfl)) (fun a h => ?_)
                refine g_yes h rfl rfl rfl rfl hB12 ?_
                refine s_x h rfl rfl (by decide) (x_faddr h.k rfl Try.underlying25 rfl sz_int rfl) (fun a h => ?_)
                refine g_yes h rfl rfl rfl rfl hB12 ?_
                refine s_x h rfl rfl (by decide) (x_ld h.k rfl Try.underlying3 rfl rfl ((h.m.cell (i := 4) rfl 1).trans rfl)) (fun a h => ?_)
                refine g_yes h rfl rfl rfl rfl hB12 ?_
                refine s_move h rfl _ rfl rfl (by decide) rfl (fun a h => ?_)
                refine g_yes h rfl rfl rfl rfl hB12 ?_
                refine s_x h rfl rfl (by decide) (x_build h.k rfl [(0, .int .i64 a2), (1, .int .i64 a1.2.1), (2, .int .i64 a1.2.1), (3, .int .i64 (w64 (a1.2.1 * a1.2.2.1)))] rfl ([.int .i64 a2, .int .i64 a1.2.1, .int .i64 a1.2.1, .int .i64 (w64 (a1.2.1 * a1.2.2.1))]) (by kernel_rfl)) (fun a h => ?_)
                refine g_yes h rfl rfl rfl rfl hB12 ?_
                refine s_x h rfl rfl (by decide) (x_neqS h.k rfl rfl rfl gd_api_Geom (eqs_api_Geom _ x41.1 (a2, a1.2.1, a1.2.1, w64 (a1.2.1 * a1.2.2.1)))) (fun a h => ?_)
                refine g_yes h rfl rfl rfl rfl hB9 ?_
                refine s_x h rfl rfl (by decide) (x_pick (u' := undef) h.k rfl rfl (fun hh => absurd (hB12.symm.trans hh) (by decide)) (fun _ => rfl)) (fun a h => ?_)
                exact (h.mid 9 rfl).val (by first | rfl | (rw [hB12]; first | rfl | simp))
              refine g_yes h rfl rfl rfl rfl hB6 ?_
              refine s_x h rfl rfl (by decide) (x_pick (u' := undef) h.k rfl rfl (fun _ => rfl) (fun hh => absurd (hB9.symm.trans hh) (by decide))) (fun a h => ?_)
              exact (h.mid 4 rfl).val (by first | rfl | (rw [hB9]; first | rfl | simp))
            · refine g_no h rfl rfl rfl rfl hB9 rfl (by decide) (fun a h => ?_)
              refine g_no h rfl rfl rfl rfl hB9 rfl (by decide) (fun a h => ?_)
              refine g_no h rfl rfl rfl rfl hB9 rfl (by decide) (fun a h => ?_)
              refine g_off h rfl rfl rfl rfl rfl (by decide) (fun a h => ?_)
              refine g_off h rfl rfl rfl rfl rfl (by decide) (fun a h => ?_)
              refine g_off h rfl rfl rfl rfl rfl (by decide) (fun a h => ?_)
              refine g_off h rfl rfl rfl rfl rfl (by decide) (fun a h => ?_)
              refine g_off h rfl rfl rfl rfl rfl (by decide) (fun a h => ?_)
              refine g_off h rfl rfl rfl rfl rfl (by decide) (fun a h => ?_)
              refine g_off h rfl rfl rfl rfl rfl (by decide) (fun a h => ?_)
              refine g_off h rfl rfl rfl rfl rfl (by decide) (fun a h => ?_)
              refine g_off h rfl rfl rfl rfl rfl (by decide) (fun a h => ?_)
              refine g_no h rfl rfl rfl rfl hB9 rfl (by decide) (fun a h => ?_)
              refine g_yes h rfl rfl rfl rfl hB6 ?_
              refine s_x h rfl rfl (by decide) (x_pick (u' := undef) h.k rfl rfl (fun hh => absurd (hB9.symm.trans hh) (by decide)) (fun _ => rfl)) (fun a h => ?_)
              exact (h.mid 13 rfl).val (by first | rfl | (rw [hB9]; first | rfl | simp))
            refine s_x h rfl rfl (by decide) (x_pick (u' := undef) h.k rfl rfl (fun hh => absurd (hB6.symm.trans hh) (by decide)) (fun _ => rfl)) (fun a h => ?_)
            exact (h.mid 4 rfl).val (by first | rfl | (rw [hB6]; first | rfl | simp))
          refine l_end ?_
          refine c_cond h rfl (fun hb => ?_) (fun hb => ?_)
          · rw [if_pos hb] at hf
            refine c_rs ?_ -- region 15
            refine s_assign h rfl _ rfl rfl (by decide) rfl (fun a h => ?_)
            refine l_end ?_
            refine wp_ret ?_
            refine e_thenR ?_
            rw [← Option.some.inj hf]
            exact r_ret1 h rfl (rv_tmp h rfl) ⟨_, [], _, rfl, ⟨rfl, rfl, trivial⟩, rfl, up62, (h.m.pick [1] _ (by decide) rfl)⟩
          · rw [if_neg (by rw [hb]; decide)] at hf
            refine wp_skip ?_
            refine e_thenN ?_
            refine c_rs ?_ -- region 16
            refine s_x h rfl rfl (by decide) (x_ldR h.k rfl ag_api_Load rfl ([.int .i64 a1.1, .int .i64 a1.2.1, .int .i64 a1.2.2.1, .int .i64 a1.2.2.2.1, .int .i64 a1.2.2.2.2.1, .int .i64 a1.2.2.2.2.2]) rfl (h.m.range0 (i := 4) rfl)) (fun a h => ?_)
            refine s_move h rfl _ rfl rfl (by decide) rfl (fun a h => ?_)
            obtain ⟨x98, h99, hf⟩ := bsome hf
            have h := h.pick [1, 0, 2, 3, 4] (by decide) rfl
            have hX := chatelaineref43_First_ok Fu (S0 := S61) ([.int .i64 a1.1, .int .i64 a1.2.1, .int .i64 a1.2.2.1, .int .i64 a1.2.2.2.1, .int .i64 a1.2.2.2.2.1, .int .i64 a1.2.2.2.2.2]) a1 (⟨[.int .i64 a1.1], [.int .i64 a1.2.1, .int .i64 a1.2.2.1, .int .i64 a1.2.2.2.1, .int .i64 a1.2.2.2.2.1, .int .i64 a1.2.2.2.2.2], rfl, ⟨rfl, hr3⟩, ⟨[.int .i64 a1.2.1], [.int .i64 a1.2.2.1, .int .i64 a1.2.2.2.1, .int .i64 a1.2.2.2.2.1, .int .i64 a1.2.2.2.2.2], rfl, ⟨rfl, hr6⟩, ⟨[.int .i64 a1.2.2.1], [.int .i64 a1.2.2.2.1, .int .i64 a1.2.2.2.2.1, .int .i64 a1.2.2.2.2.2], rfl, ⟨rfl, hr9⟩, ⟨[.int .i64 a1.2.2.2.1], [.int .i64 a1.2.2.2.2.1, .int .i64 a1.2.2.2.2.2], rfl, ⟨rfl, hr12⟩, ⟨[.int .i64 a1.2.2.2.2.1], [.int .i64 a1.2.2.2.2.2], rfl, ⟨rfl, hr15⟩, ⟨rfl, hr16⟩⟩⟩⟩⟩⟩) A23 13 ([(97 : UInt8), (100 : UInt8), (109 : UInt8), (105 : UInt8), (110 : UInt8), (105 : UInt8), (115 : UInt8), (116 : UInt8), (114 : UInt8), (97 : UInt8), (116 : UInt8), (111 : UInt8), (114 : UInt8)]) (hs28.mono (le35.trans le63)) _ h99 _ (h.sub (Ls := []))
            refine q_callY (Ls := []) hX h up62 rfl rfl rfl (by decide) Try.func21 rfl rfl rfl (fun a w v L1 S101 hR le103 up102 h => ?_)
            obtain ⟨A104, c105, cs106, rfl, rfl, hq107, _⟩ := hR
            refine s_assign h rfl _ rfl rfl (by decide) rfl (fun a h => ?_)
            refine l_end ?_
            refine c_rs ?_ -- region 17
            refine s_move h rfl _ rfl rfl (by decide) rfl (fun a h => ?_)
            refine s_x h rfl rfl (by decide) (x_build h.k rfl [(0, .slice Aa0 a0.length ca0)] rfl ([.slice Aa0 a0.length ca0, .int .i64 0]) (by kernel_rfl)) (fun a h => ?_)
            refine s_box h rfl rfl rfl (by decide) rfl (cs := [.slice Aa0 a0.length ca0, .int .i64 0]) (by rfl) (fun a w g108 h => ?_)
            refine s_assign h rfl _ rfl rfl (by decide) rfl (fun a h => ?_)
            refine l_end ?_
            refine wp_seq ?_
            refine c_rs ?_ -- region 18
            refine s_move h rfl _ rfl rfl (by decide) rfl (fun a h => ?_)
            refine s_x h rfl rfl (by decide) (x_bin h.k rfl rfl rfl ib_neq) (fun a h => ?_)
            refine s_move h rfl _ rfl rfl (by decide) rfl (fun a h => ?_)
            refine q_grp h 9 (t := 124) 133 ((decide (x30.2 ≠ 0)) || (decide ((x30.1.length : Int) ≠ w64 ((x98.length : Int) + a1.1)))) rfl (fun hB2 => ?_) (fun hB2 => ?_) (fun a w h => ?_)
            · refine g_no h rfl rfl rfl rfl hB2 rfl (by decide) (fun a h => ?_)
              refine g_no h rfl rfl rfl rfl hB2 rfl (by decide) (fun a h => ?_)
              refine g_no h rfl rfl rfl rfl hB2 rfl (by decide) (fun a h => ?_)
              refine g_no h rfl rfl rfl rfl hB2 rfl (by decide) (fun a h => ?_)
              refine g_no h rfl rfl rfl rfl hB2 rfl (by decide) (fun a h => ?_)
              refine g_no h rfl rfl rfl rfl hB2 rfl (by decide) (fun a h => ?_)
              refine g_no h rfl rfl rfl rfl hB2 rfl (by decide) (fun a h => ?_)
              refine g_no h rfl rfl rfl rfl hB2 rfl (by decide) (fun a h => ?_)
              refine s_x h rfl rfl (by decide) (x_pick (u' := undef) h.k rfl rfl (fun _ => rfl) (fun hh => absurd (hB2.symm.trans hh) (by decide))) (fun a h => ?_)
              exact (h.mid 8 rfl).val (by first | rfl | (rw [hB2]; first | rfl | simp))
            · refine g_yes h rfl rfl rfl rfl hB2 ?_
              refine s_move h rfl _ rfl rfl (by decide) rfl (fun a h => ?_)
              refine g_yes h rfl rfl rfl rfl hB2 ?_
              have hr111 : r64 (x30.1.length : Int) := len_r (h.m.rowLen (i := 5) rfl)
              refine s_x h rfl rfl (by decide) (x_len h.k rfl Try.underlying40 rfl) (fun a h => ?_)
              refine g_yes h rfl rfl rfl rfl hB2 ?_
              refine s_move h rfl _ rfl rfl (by decide) rfl (fun a h => ?_)
              refine g_yes h rfl rfl rfl rfl hB2 ?_
              have hr112 : r64 (x98.length : Int) := len_r (h.m.rowLen (i := 1) rfl)
              refine s_x h rfl rfl (by decide) (x_len h.k rfl Try.underlying40 rfl) (fun a h => ?_)
              refine g_yes h rfl rfl rfl rfl hB2 ?_
              refine s_x h rfl rfl (by decide) (x_faddr h.k rfl Try.underlying25 rfl sz_int rfl) (fun a h => ?_)
              refine g_yes h rfl rfl rfl rfl hB2 ?_
              refine s_x h rfl rfl (by decide) (x_ld h.k rfl Try.underlying3 rfl rfl ((h.m.cell (i := 6) rfl 0).trans rfl)) (fun a h => ?_)
              refine g_yes h rfl rfl rfl rfl hB2 ?_
              refine s_x h rfl rfl (by decide) (x_bin h.k rfl rfl rfl (ib_add rfl)) (fun a h => ?_)
              refine g_yes h rfl rfl rfl rfl hB2 ?_
              refine s_x h rfl rfl (by decide) (x_bin h.k rfl rfl rfl ib_neq) (fun a h => ?_)
              refine s_x h rfl rfl (by decide) (x_pick (u' := undef) h.k rfl rfl (fun hh => absurd (hB2.symm.trans hh) (by decide)) (fun _ => rfl)) (fun a h => ?_)
              exact (h.mid 8 rfl).val (by first | rfl | (rw [hB2]; first | rfl | simp))
            refine l_end ?_
            refine c_cond h rfl (fun hb => ?_) (fun hb => ?_)
            · rw [if_pos hb] at hf
              refine c_rs ?_ -- region 19
              refine s_assign h rfl _ rfl rfl (by decide) rfl (fun a h => ?_)
              refine l_end ?_
              refine wp_ret ?_
              refine e_thenR ?_
              rw [← Option.some.inj hf]
              exact r_ret1 h rfl (rv_tmp h rfl) ⟨_, [], _, rfl, ⟨rfl, rfl, trivial⟩, rfl, up102, (h.m.pick [2] _ (by decide) rfl)⟩
            · rw [if_neg (by rw [hb]; decide)] at hf
              refine wp_skip ?_
              refine e_thenN ?_
              refine wp_seq ?_
              refine c_rs ?_ -- region 20
              refine s_move h rfl _ rfl rfl (by decide) rfl (fun a h => ?_)
              have hr113 : r64 (x30.1.length : Int) := len_r (h.m.rowLen (i := 5) rfl)
              refine s_x h rfl rfl (by decide) (x_len h.k rfl Try.underlying40 rfl) (fun a h => ?_)
              refine s_move h rfl _ rfl rfl (by decide) rfl (fun a h => ?_)
              refine l_end ?_
              obtain ⟨o114, hl115, hf⟩ := bsome hf
              refine c_fin (fun a w => ∃ (S126 : Snap), (.inr ()) = o114 ∧ Snap.le S101 S126 ∧ Up (ownL ([] ++ [.sn S0])) w0 S0 S126 ∧ St 160 w0 (ownL ([] ++ [.sn S0])) [] [.sn S126] a w) ?_ ?_
              · refine wp_block ?_
                have h := h.pick [6, 1, 0, 5, 2] (by decide) rfl
                refine c_loop (fun m130 a w => ∃ (S116 : Snap), ∃ (x119 : Int), ∃ (x121 : (List UInt8) × Int), ∃ (A122 : Option Addr), ∃ (c123 : Nat), chatelainelaw43_LotOps_l0 Fu a1 a2 x30 x98 m130 x119 x121 = some o114 ∧ Snap.le S101 S116 ∧ Up (ownL ([] ++ [.sn S0])) w0 S0 S116 ∧ r64 x119 ∧ slS ty8 S116 A122 c123 x121.1 ∧ r64 x121.2 ∧ St 160 w0 (ownL ([] ++ [.sn S0])) [(2, .int .i64 a2), (4, .pointer (some ⟨g17, 0, none⟩)), (15, .slice A104 x98.length c105), (16, .pointer (some ⟨g108, 0, none⟩)), (134, .slice A36 x30.1.length c37), (135, .int .i64 (x30.1.length : Int)), (136, .int .i64 x119)] [.box g17 25 ([.int .i64 a1.1, .int .i64 a1.2.1, .int .i64 a1.2.2.1, .int .i64 a1.2.2.2.1, .int .i64 a1.2.2.2.2.1, .int .i64 a1.2.2.2.2.2]), .row (.slice A104 x98.length c105) 51 7 x98.length cs106, .box g108 33 ([.slice A122 x121.1.length c123, .int .i64 x121.2]), .row (.slice A36 x30.1.length c37) 51 7 x30.1.length cs38, .sn S116] a w) Fu ⟨S101, 0, (a0, 0), Aa0, ca0, hl115, (Snap.le.refl _), up102, (show r64 0 from ⟨by decide, by decide⟩), (hsa0.mono (((le26.trans le35).trans le63).trans le103)), (show r64 0 from ⟨by decide, by decide⟩), h.has (by exact ⟨rfl, rfl, rfl, rfl, rfl, rfl, rfl, trivial⟩)⟩ (fun m130 a w hI => ?_)
                obtain ⟨S116, x119, x121, A122, c123, hl129, le117, up118, hr120, hs124, hr125, h⟩ := hI
                obtain _ | m130 := m130
                · rw [chatelainelaw43_LotOps_l0] at hl129; cases hl129
                rw [chatelainelaw43_LotOps_l0] at hl129
                refine c_rs ?_ -- region 21
                refine s_x h rfl rfl (by decide) (x_bin h.k rfl rfl rfl ib_lss) (fun a h => ?_)
                refine l_end ?_
                refine c_cs h rfl (fun hb => ?_) (fun hb => ?_)
                · rw [if_pos (of_decide_eq_true hb)] at hl129
                  refine wp_skip ?_
                  refine e_thenN ?_
                  obtain ⟨o131, hc132, hl129⟩ := bsome hl129
                  refine c_cut (fun a w => ∃ (S133 : Snap), ∃ (x136 : (List UInt8) × Int), ∃ (A137 : Option Addr), ∃ (c138 : Nat), (.inr x136) = o131 ∧ Snap.le S116 S133 ∧ Up (ownL ([] ++ [.sn S0])) w0 S0 S133 ∧ slS ty8 S133 A137 c138 x136.1 ∧ r64 x136.2 ∧ St 160 w0 (ownL ([] ++ [.sn S0])) [(2, .int .i64 a2), (4, .pointer (some ⟨g17, 0, none⟩)), (15, .slice A104 x98.length c105), (16, .pointer (some ⟨g108, 0, none⟩)), (134, .slice A36 x30.1.length c37), (135, .int .i64 (x30.1.length : Int)), (136, .int .i64 x119)] [.box g17 25 ([.int .i64 a1.1, .int .i64 a1.2.1, .int .i64 a1.2.2.1, .int .i64 a1.2.2.2.1, .int .i64 a1.2.2.2.2.1, .int .i64 a1.2.2.2.2.2]), .row (.slice A104 x98.length c105) 51 7 x98.length cs106, .box g108 33 ([.slice A137 x136.1.length c138, .int .i64 x136.2]), .row (.slice A36 x30.1.length c37) 51 7 x30.1.length cs38, .sn S133] a w) ?_ ?_
                  · refine wp_block ?_
                    refine c_rs ?_ -- region 22
                    refine s_move h rfl _ rfl rfl (by decide) rfl (fun a h => ?_)
                    obtain ⟨m141, h142, hc132⟩ := bsome hc132
                    obtain ⟨hi143, hm144⟩ := ix_some h142
                    obtain ⟨g146, hA145⟩ := h.m.rowHead (i := 3) rfl (Nat.lt_of_le_of_lt (Nat.zero_le _) hm144)
                    refine s_x h rfl rfl (by decide) (x_iaddrE h.k rfl Try.underlying40 sz_api_Op hA145 rfl rfl hi143 hm144) (fun a h => ?_)
                    obtain ⟨x147, h148, hc132⟩ := bsome hc132
                    obtain ⟨k149, hk150, hu151⟩ : ∃ k, k = (cs38.drop (m141 * 7)).take 7 ∧ (tyP tyI (tyP tyI (tyP tyI (tyP tyI (tyP tyI (tyP (tyL ty8) (tyL ty8))))))).rep S116 k x147 := ⟨_, rfl, reps.at (hq39.mono ((le63.trans le103).trans le117)) h148⟩
                    obtain ⟨k152, k153, rfl, ⟨rfl, hr154⟩, ⟨k155, k156, rfl, ⟨rfl, hr157⟩, ⟨k158, k159, rfl, ⟨rfl, hr160⟩, ⟨k161, k162, rfl, ⟨rfl, hr163⟩, ⟨k164, k165, rfl, ⟨rfl, hr166⟩, ⟨k167, k168, rfl, ⟨A169, c170, rfl, hs171⟩, ⟨A172, c173, rfl, hs174⟩⟩⟩⟩⟩⟩⟩ := hu151
                    refine s_x h rfl rfl (by decide) (x_ldR h.k rfl ag_api_Op rfl ([.int .i64 x147.1, .int .i64 x147.2.1, .int .i64 x147.2.2.1, .int .i64 x147.2.2.2.1, .int .i64 x147.2.2.2.2.1, .slice A169 x147.2.2.2.2.2.1.length c170, .slice A172 x147.2.2.2.2.2.2.length c173]) rfl (by have hz := h.m.rangeRowE (i := 3) rfl hA145 (m141 * 7) 7; rw [← hk150] at hz; exact hz)) (fun a h => ?_)
                    refine s_alloc h rfl rfl rfl (by decide) zi_api_Op rfl (fun a w g175 h => ?_)
                    refine s_assign h rfl _ rfl rfl (by decide) rfl (fun a h => ?_)
                    refine s_stW h rfl rfl rfl ag_api_Op rfl (es := [.int .i64 x147.1, .int .i64 x147.2.1, .int .i64 x147.2.2.1, .int .i64 x147.2.2.2.1, .int .i64 x147.2.2.2.2.1, .slice A169 x147.2.2.2.2.2.1.length c170, .slice A172 x147.2.2.2.2.2.2.length c173]) rfl rfl (by simp [Value.oneCell']) 0 rfl rfl (fun a w h => ?_)
                    refine l_end ?_
                    refine c_rs ?_ -- region 23
                    refine s_move h rfl _ rfl rfl (by decide) rfl (fun a h => ?_)
                    refine s_move h rfl _ rfl rfl (by decide) rfl (fun a h => ?_)
                    have hr176 : r64 (x98.length : Int) := len_r (h.m.rowLen (i := 2) rfl)
                    refine s_x h rfl rfl (by decide) (x_len h.k rfl Try.underlying40 rfl) (fun a h => ?_)
                    refine s_x h rfl rfl (by decide) (x_bin h.k rfl rfl rfl ib_lss) (fun a h => ?_)
                    refine l_end ?_
                    refine c_cond h rfl (fun hb => ?_) (fun hb => ?_)
                    · rw [if_pos (of_decide_eq_true hb)] at hc132
                      refine wp_seq ?_
                      -- region 24 draws
                      obtain ⟨m177, h178, hc132⟩ := bsome hc132
                      obtain ⟨x183, h184, hc132⟩ := bsome hc132
                      obtain ⟨x211, h212, hc132⟩ := bsome hc132
                      refine d_start h (Mem _ _ _) 7 7 rfl (by kernel_rfl) (fun _ _ _ _ _ h => h) (fun _ h => h) (fun Q a w HE HN h HS => ?_)
                      refine d_take h HS HN 0 rfl (by kernel_rfl) (by kernel_rfl) (by kernel_rfl) (by kernel_rfl) (by kernel_rfl) rfl rfl (by decide) (fun w' hw => x_ldR h.k rfl ag_api_Op rfl ([.int .i64 x147.1, .int .i64 x147.2.1, .int .i64 x147.2.2.1, .int .i64 x147.2.2.2.1, .int .i64 x147.2.2.2.2.1, .slice A169 x147.2.2.2.2.2.1.length c170, .slice A172 x147.2.2.2.2.2.2.length c173]) rfl (hw.range0 (i := 0) rfl)) (fun a h => ?_)
                      refine d_takeP h (fun _ => HS) HN 1 rfl (by kernel_rfl) (by kernel_rfl) (by kernel_rfl) (by decide) rfl rfl (by decide) (fun w' => x_move h.k _ rfl rfl) (fun a h => ?_)
                      refine d_takeP h (fun _ => HS) HN 2 rfl (by kernel_rfl) (by kernel_rfl) (by kernel_rfl) (by decide) rfl rfl (by decide) (fun w' => x_move h.k _ rfl rfl) (fun a h => ?_)
                      obtain ⟨hi179, hm180⟩ := ix_some h178
                      obtain ⟨g182, hA181⟩ := h.m.rowHead (i := 2) rfl (Nat.lt_of_le_of_lt (Nat.zero_le _) hm180)
                      refine d_takeP h (fun _ => HS) HN 3 rfl (by kernel_rfl) (by kernel_rfl) (by kernel_rfl) (by decide) rfl rfl (by decide) (fun w' => x_iaddrE h.k rfl Try.underlying40 sz_api_Op hA181 rfl rfl hi179 hm180) (fun a h => ?_)
                      obtain ⟨k185, hk186, hu187⟩ : ∃ k, k = (cs106.drop (m177 * 7)).take 7 ∧ (tyP tyI (tyP tyI (tyP tyI (tyP tyI (tyP tyI (tyP (tyL ty8) (tyL ty8))))))).rep S116 k x183 := ⟨_, rfl, reps.at (hq107.mono le117) h184⟩
                      obtain ⟨k188, k189, rfl, ⟨rfl, hr190⟩, ⟨k191, k192, rfl, ⟨rfl, hr193⟩, ⟨k194, k195, rfl, ⟨rfl, hr196⟩, ⟨k197, k198, rfl, ⟨rfl, hr199⟩, ⟨k200, k201, rfl, ⟨rfl, hr202⟩, ⟨k203, k204, rfl, ⟨A205, c206, rfl, hs207⟩, ⟨A208, c209, rfl, hs210⟩⟩⟩⟩⟩⟩⟩ := hu187
                      refine d_take h HS HN 4 rfl (by kernel_rfl) (by kernel_rfl) (by kernel_rfl) (by kernel_rfl) (by kernel_rfl) rfl rfl (by decide) (fun w' hw => x_ldR h.k rfl ag_api_Op rfl ([.int .i64 x183.1, .int .i64 x183.2.1, .int .i64 x183.2.2.1, .int .i64 x183.2.2.2.1, .int .i64 x183.2.2.2.2.1, .slice A205 x183.2.2.2.2.2.1.length c206, .slice A208 x183.2.2.2.2.2.2.length c209]) rfl (by have hz := hw.rangeRowE (i := 2) rfl hA181 (m177 * 7) 7; rw [← hk186] at hz; exact hz)) (fun a h => ?_)
                      refine d_alone 5 rfl (by kernel_rfl) (fun K hK => ?_)
                      have hX := chatelaineref29_Same_ok Fu (S0 := snapAll _) ([.int .i64 x147.1, .int .i64 x147.2.1, .int .i64 x147.2.2.1, .int .i64 x147.2.2.2.1, .int .i64 x147.2.2.2.2.1, .slice A169 x147.2.2.2.2.2.1.length c170, .slice A172 x147.2.2.2.2.2.2.length c173]) x147 ((tyP tyI (tyP tyI (tyP tyI (tyP tyI (tyP tyI (tyP (tyL ty8) (tyL ty8))))))).mono (h.m.leAll (i := 5) rfl) (show (tyP tyI (tyP tyI (tyP tyI (tyP tyI (tyP tyI (tyP (tyL ty8) (tyL ty8))))))).rep S116 ([.int .i64 x147.1, .int .i64 x147.2.1, .int .i64 x147.2.2.1, .int .i64 x147.2.2.2.1, .int .i64 x147.2.2.2.2.1, .slice A169 x147.2.2.2.2.2.1.length c170, .slice A172 x147.2.2.2.2.2.2.length c173]) x147 from ⟨[.int .i64 x147.1], [.int .i64 x147.2.1, .int .i64 x147.2.2.1, .int .i64 x147.2.2.2.1, .int .i64 x147.2.2.2.2.1, .slice A169 x147.2.2.2.2.2.1.length c170, .slice A172 x147.2.2.2.2.2.2.length c173], rfl, ⟨rfl, hr154⟩, ⟨[.int .i64 x147.2.1], [.int .i64 x147.2.2.1, .int .i64 x147.2.2.2.1, .int .i64 x147.2.2.2.2.1, .slice A169 x147.2.2.2.2.2.1.length c170, .slice A172 x147.2.2.2.2.2.2.length c173], rfl, ⟨rfl, hr157⟩, ⟨[.int .i64 x147.2.2.1], [.int .i64 x147.2.2.2.1, .int .i64 x147.2.2.2.2.1, .slice A169 x147.2.2.2.2.2.1.length c170, .slice A172 x147.2.2.2.2.2.2.length c173], rfl, ⟨rfl, hr160⟩, ⟨[.int .i64 x147.2.2.2.1], [.int .i64 x147.2.2.2.2.1, .slice A169 x147.2.2.2.2.2.1.length c170, .slice A172 x147.2.2.2.2.2.2.length c173], rfl, ⟨rfl, hr163⟩, ⟨[.int .i64 x147.2.2.2.2.1], [.slice A169 x147.2.2.2.2.2.1.length c170, .slice A172 x147.2.2.2.2.2.2.length c173], rfl, ⟨rfl, hr166⟩, ⟨[.slice A169 x147.2.2.2.2.2.1.length c170], [.slice A172 x147.2.2.2.2.2.2.length c173], rfl, ⟨_, _, rfl, hs171⟩, ⟨_, _, rfl, hs174⟩⟩⟩⟩⟩⟩⟩)) ([.int .i64 x183.1, .int .i64 x183.2.1, .int .i64 x183.2.2.1, .int .i64 x183.2.2.2.1, .int .i64 x183.2.2.2.2.1, .slice A205 x183.2.2.2.2.2.1.length c206, .slice A208 x183.2.2.2.2.2.2.length c209]) x183 ((tyP tyI (tyP tyI (tyP tyI (tyP tyI (tyP tyI (tyP (tyL ty8) (tyL ty8))))))).mono (h.m.leAll (i := 5) rfl) (show (tyP tyI (tyP tyI (tyP tyI (tyP tyI (tyP tyI (tyP (tyL ty8) (tyL ty8))))))).rep S116 ([.int .i64 x183.1, .int .i64 x183.2.1, .int .i64 x183.2.2.1, .int .i64 x183.2.2.2.1, .int .i64 x183.2.2.2.2.1, .slice A205 x183.2.2.2.2.2.1.length c206, .slice A208 x183.2.2.2.2.2.2.length c209]) x183 from ⟨[.int .i64 x183.1], [.int .i64 x183.2.1, .int .i64 x183.2.2.1, .int .i64 x183.2.2.2.1, .int .i64 x183.2.2.2.2.1, .slice A205 x183.2.2.2.2.2.1.length c206, .slice A208 x183.2.2.2.2.2.2.length c209], rfl, ⟨rfl, hr190⟩, ⟨[.int .i64 x183.2.1], [.int .i64 x183.2.2.1, .int .i64 x183.2.2.2.1, .int .i64 x183.2.2.2.2.1, .slice A205 x183.2.2.2.2.2.1.length c206, .slice A208 x183.2.2.2.2.2.2.length c209], rfl, ⟨rfl, hr193⟩, ⟨[.int .i64 x183.2.2.1], [.int .i64 x183.2.2.2.1, .int .i64 x183.2.2.2.2.1, .slice A205 x183.2.2.2.2.2.1.length c206, .slice A208 x183.2.2.2.2.2.2.length c209], rfl, ⟨rfl, hr196⟩, ⟨[.int .i64 x183.2.2.2.1], [.int .i64 x183.2.2.2.2.1, .slice A205 x183.2.2.2.2.2.1.length c206, .slice A208 x183.2.2.2.2.2.2.length c209], rfl, ⟨rfl, hr199⟩, ⟨[.int .i64 x183.2.2.2.2.1], [.slice A205 x183.2.2.2.2.2.1.length c206, .slice A208 x183.2.2.2.2.2.2.length c209], rfl, ⟨rfl, hr202⟩, ⟨[.slice A205 x183.2.2.2.2.2.1.length c206], [.slice A208 x183.2.2.2.2.2.2.length c209], rfl, ⟨_, _, rfl, hs207⟩, ⟨_, _, rfl, hs210⟩⟩⟩⟩⟩⟩⟩)) _ h212 _ h.startAll
                      refine q_callX hX h rfl rfl rfl (by decide) Try.func22 rfl rfl rfl (fun a w v L1 S1 hR hb1 h => ?_)
                      obtain ⟨rfl, rfl, _⟩ := hR
                      refine hK _ _ (fun _ _ => HS.ext hb1) ?_
                      replace HS := HS.ext hb1
                      clear hK
                      refine d_takeP h (fun _ => HS) HN 6 rfl (by kernel_rfl) (by kernel_rfl) (by kernel_rfl) (by decide) rfl rfl (by decide) (fun w' => x_not h.k rfl rfl) (fun a h => ?_)
                      refine d_done (by kernel_rfl) (HE _ _ ?_) _
                      refine e_thenN ?_
                      refine c_cond h rfl (fun hb => ?_) (fun hb => ?_)
                      · rw [if_pos hb] at hc132
                        refine c_rs ?_ -- region 25
                        refine s_assign h rfl _ rfl rfl (by decide) rfl (fun a h => ?_)
                        refine l_end ?_
                        refine wp_ret ?_
                        refine e_blkR ?_
                        refine e_thenR ?_
                        cases hc132
                        try dsimp only at hl129
                        refine e_thenR ?_
                        refine e_blkR ?_
                        refine e_thenR ?_
                        cases hl129
                        try dsimp only at hf
                        refine e_thenR ?_
                        rw [← Option.some.inj hf]
                        exact r_ret1 h rfl (rv_tmp h rfl) ⟨_, [], _, rfl, ⟨rfl, rfl, trivial⟩, rfl, up118, (h.m.pick [5] _ (by decide) rfl)⟩
                      · rw [if_neg (by rw [hb]; decide)] at hc132
                        refine wp_skip ?_
                        refine e_blkN ?_
                        refine e_thenN ?_
                        have h := h.pick [1, 2, 3, 4, 5] (by decide) rfl
                        exact ⟨S116, x121, A122, c123, (Option.some.inj hc132), (Snap.le.refl _), up118, hs124, hr125, h.has (by exact ⟨rfl, rfl, rfl, rfl, rfl, rfl, rfl, trivial⟩)⟩
                    · rw [if_neg (of_decide_eq_false hb)] at hc132
                      refine wp_seq ?_
                      -- region 26 draws
                      obtain ⟨x214, h215, hc132⟩ := bsome hc132
                      obtain ⟨x249, h250, hc132⟩ := bsome hc132
                      refine c_fin (fun a w => ∃ (S252 : Snap), ∃ (A255 : Option Addr), ∃ (c256 : Nat), Snap.le S116 S252 ∧ Up (ownL ([] ++ [.sn S0])) w0 S0 S252 ∧ slS ty8 S252 A255 c256 x214.2.1 ∧ r64 x214.2.2 ∧ St 160 w0 (ownL ([] ++ [.sn S0])) [(2, .int .i64 a2), (4, .pointer (some ⟨g17, 0, none⟩)), (15, .slice A104 x98.length c105), (16, .pointer (some ⟨g108, 0, none⟩)), (134, .slice A36 x30.1.length c37), (135, .int .i64 (x30.1.length : Int)), (136, .int .i64 x119), (158, .bool (!x249))] [.box g17 25 ([.int .i64 a1.1, .int .i64 a1.2.1, .int .i64 a1.2.2.1, .int .i64 a1.2.2.2.1, .int .i64 a1.2.2.2.2.1, .int .i64 a1.2.2.2.2.2]), .row (.slice A104 x98.length c105) 51 7 x98.length cs106, .box g108 33 ([.slice A255 x214.2.1.length c256, .int .i64 x214.2.2]), .row (.slice A36 x30.1.length c37) 51 7 x30.1.length cs38, .sn S252] a w) ?_ (fun a w h => ?_)
                      · refine d_start h (Mem _ _ _) 7 7 rfl (by kernel_rfl) (fun _ _ _ _ _ h => h) (fun _ h => h.pick [0, 1, 2, 4] [.box g175 51 ([.int .i64 x147.1, .int .i64 x147.2.1, .int .i64 x147.2.2.1, .int .i64 x147.2.2.2.1, .int .i64 x147.2.2.2.2.1, .slice A169 x147.2.2.2.2.2.1.length c170, .slice A172 x147.2.2.2.2.2.2.length c173]), .box g17 25 ([.int .i64 a1.1, .int .i64 a1.2.1, .int .i64 a1.2.2.1, .int .i64 a1.2.2.2.1, .int .i64 a1.2.2.2.2.1, .int .i64 a1.2.2.2.2.2]), .row (.slice A104 x98.length c105) 51 7 x98.length cs106, .row (.slice A36 x30.1.length c37) 51 7 x30.1.length cs38] (by decide) rfl) (fun Q a w HE HN h HS => ?_)
                        refine d_take h HS HN 0 rfl (by kernel_rfl) (by kernel_rfl) (by kernel_rfl) (by kernel_rfl) (by kernel_rfl) rfl rfl (by decide) (fun w' hw => x_ldR h.k rfl ag_api_Op rfl ([.int .i64 x147.1, .int .i64 x147.2.1, .int .i64 x147.2.2.1, .int .i64 x147.2.2.2.1, .int .i64 x147.2.2.2.2.1, .slice A169 x147.2.2.2.2.2.1.length c170, .slice A172 x147.2.2.2.2.2.2.length c173]) rfl (hw.range0 (i := 0) rfl)) (fun a h => ?_)
                        refine d_takeP h (fun _ => HS) HN 1 rfl (by kernel_rfl) (by kernel_rfl) (by kernel_rfl) (by decide) rfl rfl (by decide) (fun w' => x_move h.k _ rfl rfl) (fun a h => ?_)
                        refine d_take h HS HN 2 rfl (by kernel_rfl) (by kernel_rfl) (by kernel_rfl) (by kernel_rfl) (by kernel_rfl) rfl rfl (by decide) (fun w' hw => x_ldR h.k rfl ag_api_Load rfl ([.int .i64 a1.1, .int .i64 a1.2.1, .int .i64 a1.2.2.1, .int .i64 a1.2.2.2.1, .int .i64 a1.2.2.2.2.1, .int .i64 a1.2.2.2.2.2]) rfl (hw.range0 (i := 1) rfl)) (fun a h => ?_)
                        refine d_takeP h (fun _ => HS) HN 3 rfl (by kernel_rfl) (by kernel_rfl) (by kernel_rfl) (by decide) rfl rfl (by decide) (fun w' => x_move h.k _ rfl rfl) (fun a h => ?_)
                        refine d_alone 4 rfl (by kernel_rfl) (fun K hK => ?_)
                        have h := h.pick [3, 5, 0, 1, 2, 4] (by decide) rfl
                        have hX := chatelaineref43_Lot_Op_ok Fu (S0 := S116) x121 g108 A122 c123 hs124 hr125 ([.int .i64 a1.1, .int .i64 a1.2.1, .int .i64 a1.2.2.1, .int .i64 a1.2.2.2.1, .int .i64 a1.2.2.2.2.1, .int .i64 a1.2.2.2.2.2]) a1 (⟨[.int .i64 a1.1], [.int .i64 a1.2.1, .int .i64 a1.2.2.1, .int .i64 a1.2.2.2.1, .int .i64 a1.2.2.2.2.1, .int .i64 a1.2.2.2.2.2], rfl, ⟨rfl, hr3⟩, ⟨[.int .i64 a1.2.1], [.int .i64 a1.2.2.1, .int .i64 a1.2.2.2.1, .int .i64 a1.2.2.2.2.1, .int .i64 a1.2.2.2.2.2], rfl, ⟨rfl, hr6⟩, ⟨[.int .i64 a1.2.2.1], [.int .i64 a1.2.2.2.1, .int .i64 a1.2.2.2.2.1, .int .i64 a1.2.2.2.2.2], rfl, ⟨rfl, hr9⟩, ⟨[.int .i64 a1.2.2.2.1], [.int .i64 a1.2.2.2.2.1, .int .i64 a1.2.2.2.2.2], rfl, ⟨rfl, hr12⟩, ⟨[.int .i64 a1.2.2.2.2.1], [.int .i64 a1.2.2.2.2.2], rfl, ⟨rfl, hr15⟩, ⟨rfl, hr16⟩⟩⟩⟩⟩⟩) a2 hra2 _ h215 _ (h.sub (Ls := [.box g108 33 ([.slice A122 x121.1.length c123, .int .i64 x121.2])]))
                        refine q_callY (Ls := [.box g108 33 ([.slice A122 x121.1.length c123, .int .i64 x121.2])]) hX h up118 rfl rfl rfl (by decide) Try.func23 rfl rfl rfl (fun a w v L1 S217 hR le219 up218 h => ?_)
                        obtain ⟨k220, A245, c246, rfl, rfl, hv221, hs247, hr248, _⟩ := hR
                        obtain ⟨k222, k223, rfl, ⟨rfl, hr224⟩, ⟨k225, k226, rfl, ⟨rfl, hr227⟩, ⟨k228, k229, rfl, ⟨rfl, hr230⟩, ⟨k231, k232, rfl, ⟨rfl, hr233⟩, ⟨k234, k235, rfl, ⟨rfl, hr236⟩, ⟨k237, k238, rfl, ⟨A239, c240, rfl, hs241⟩, ⟨A242, c243, rfl, hs244⟩⟩⟩⟩⟩⟩⟩ := hv221
                        replace HS := h.m.pick [2, 3, 4, 5] [.box g175 51 ([.int .i64 x147.1, .int .i64 x147.2.1, .int .i64 x147.2.2.1, .int .i64 x147.2.2.2.1, .int .i64 x147.2.2.2.2.1, .slice A169 x147.2.2.2.2.2.1.length c170, .slice A172 x147.2.2.2.2.2.2.length c173]), .box g17 25 ([.int .i64 a1.1, .int .i64 a1.2.1, .int .i64 a1.2.2.1, .int .i64 a1.2.2.2.1, .int .i64 a1.2.2.2.2.1, .int .i64 a1.2.2.2.2.2]), .row (.slice A104 x98.length c105) 51 7 x98.length cs106, .row (.slice A36 x30.1.length c37) 51 7 x30.1.length cs38] (by decide) rfl
                        refine hK _ _ (fun _ _ => HS) ?_
                        clear hK
                        refine d_alone 5 rfl (by kernel_rfl) (fun K hK => ?_)
                        have hX := chatelaineref29_Same_ok Fu (S0 := snapAll _) ([.int .i64 x147.1, .int .i64 x147.2.1, .int .i64 x147.2.2.1, .int .i64 x147.2.2.2.1, .int .i64 x147.2.2.2.2.1, .slice A169 x147.2.2.2.2.2.1.length c170, .slice A172 x147.2.2.2.2.2.2.length c173]) x147 ((tyP tyI (tyP tyI (tyP tyI (tyP tyI (tyP tyI (tyP (tyL ty8) (tyL ty8))))))).mono (h.m.leAll (i := 1) rfl) (show (tyP tyI (tyP tyI (tyP tyI (tyP tyI (tyP tyI (tyP (tyL ty8) (tyL ty8))))))).rep S217 ([.int .i64 x147.1, .int .i64 x147.2.1, .int .i64 x147.2.2.1, .int .i64 x147.2.2.2.1, .int .i64 x147.2.2.2.2.1, .slice A169 x147.2.2.2.2.2.1.length c170, .slice A172 x147.2.2.2.2.2.2.length c173]) x147 from ⟨[.int .i64 x147.1], [.int .i64 x147.2.1, .int .i64 x147.2.2.1, .int .i64 x147.2.2.2.1, .int .i64 x147.2.2.2.2.1, .slice A169 x147.2.2.2.2.2.1.length c170, .slice A172 x147.2.2.2.2.2.2.length c173], rfl, ⟨rfl, hr154⟩, ⟨[.int .i64 x147.2.1], [.int .i64 x147.2.2.1, .int .i64 x147.2.2.2.1, .int .i64 x147.2.2.2.2.1, .slice A169 x147.2.2.2.2.2.1.length c170, .slice A172 x147.2.2.2.2.2.2.length c173], rfl, ⟨rfl, hr157⟩, ⟨[.int .i64 x147.2.2.1], [.int .i64 x147.2.2.2.1, .int .i64 x147.2.2.2.2.1, .slice A169 x147.2.2.2.2.2.1.length c170, .slice A172 x147.2.2.2.2.2.2.length c173], rfl, ⟨rfl, hr160⟩, ⟨[.int .i64 x147.2.2.2.1], [.int .i64 x147.2.2.2.2.1, .slice A169 x147.2.2.2.2.2.1.length c170, .slice A172 x147.2.2.2.2.2.2.length c173], rfl, ⟨rfl, hr163⟩, ⟨[.int .i64 x147.2.2.2.2.1], [.slice A169 x147.2.2.2.2.2.1.length c170, .slice A172 x147.2.2.2.2.2.2.length c173], rfl, ⟨rfl, hr166⟩, ⟨[.slice A169 x147.2.2.2.2.2.1.length c170], [.slice A172 x147.2.2.2.2.2.2.length c173], rfl, ⟨_, _, rfl, (hs171.mono le219)⟩, ⟨_, _, rfl, (hs174.mono le219)⟩⟩⟩⟩⟩⟩⟩)) ([.int .i64 x214.1.1, .int .i64 x214.1.2.1, .int .i64 x214.1.2.2.1, .int .i64 x214.1.2.2.2.1, .int .i64 x214.1.2.2.2.2.1, .slice A239 x214.1.2.2.2.2.2.1.length c240, .slice A242 x214.1.2.2.2.2.2.2.length c243]) x214.1 ((tyP tyI (tyP tyI (tyP tyI (tyP tyI (tyP tyI (tyP (tyL ty8) (tyL ty8))))))).mono (h.m.leAll (i := 1) rfl) (show (tyP tyI (tyP tyI (tyP tyI (tyP tyI (tyP tyI (tyP (tyL ty8) (tyL ty8))))))).rep S217 ([.int .i64 x214.1.1, .int .i64 x214.1.2.1, .int .i64 x214.1.2.2.1, .int .i64 x214.1.2.2.2.1, .int .i64 x214.1.2.2.2.2.1, .slice A239 x214.1.2.2.2.2.2.1.length c240, .slice A242 x214.1.2.2.2.2.2.2.length c243]) x214.1 from ⟨[.int .i64 x214.1.1], [.int .i64 x214.1.2.1, .int .i64 x214.1.2.2.1, .int .i64 x214.1.2.2.2.1, .int .i64 x214.1.2.2.2.2.1, .slice A239 x214.1.2.2.2.2.2.1.length c240, .slice A242 x214.1.2.2.2.2.2.2.length c243], rfl, ⟨rfl, hr224⟩, ⟨[.int .i64 x214.1.2.1], [.int .i64 x214.1.2.2.1, .int .i64 x214.1.2.2.2.1, .int .i64 x214.1.2.2.2.2.1, .slice A239 x214.1.2.2.2.2.2.1.length c240, .slice A242 x214.1.2.2.2.2.2.2.length c243], rfl, ⟨rfl, hr227⟩, ⟨[.int .i64 x214.1.2.2.1], [.int .i64 x214.1.2.2.2.1, .int .i64 x214.1.2.2.2.2.1, .slice A239 x214.1.2.2.2.2.2.1.length c240, .slice A242 x214.1.2.2.2.2.2.2.length c243], rfl, ⟨rfl, hr230⟩, ⟨[.int .i64 x214.1.2.2.2.1], [.int .i64 x214.1.2.2.2.2.1, .slice A239 x214.1.2.2.2.2.2.1.length c240, .slice A242 x214.1.2.2.2.2.2.2.length c243], rfl, ⟨rfl, hr233⟩, ⟨[.int .i64 x214.1.2.2.2.2.1], [.slice A239 x214.1.2.2.2.2.2.1.length c240, .slice A242 x214.1.2.2.2.2.2.2.length c243], rfl, ⟨rfl, hr236⟩, ⟨[.slice A239 x214.1.2.2.2.2.2.1.length c240], [.slice A242 x214.1.2.2.2.2.2.2.length c243], rfl, ⟨_, _, rfl, hs241⟩, ⟨_, _, rfl, hs244⟩⟩⟩⟩⟩⟩⟩)) _ h250 _ h.startAll
                        refine q_callX hX h rfl rfl rfl (by decide) Try.func22 rfl rfl rfl (fun a w v L1 S1 hR hb1 h => ?_)
                        obtain ⟨rfl, rfl, _⟩ := hR
                        replace HS := h.m.pick [2, 3, 4, 5] [.box g175 51 ([.int .i64 x147.1, .int .i64 x147.2.1, .int .i64 x147.2.2.1, .int .i64 x147.2.2.2.1, .int .i64 x147.2.2.2.2.1, .slice A169 x147.2.2.2.2.2.1.length c170, .slice A172 x147.2.2.2.2.2.2.length c173]), .box g17 25 ([.int .i64 a1.1, .int .i64 a1.2.1, .int .i64 a1.2.2.1, .int .i64 a1.2.2.2.1, .int .i64 a1.2.2.2.2.1, .int .i64 a1.2.2.2.2.2]), .row (.slice A104 x98.length c105) 51 7 x98.length cs106, .row (.slice A36 x30.1.length c37) 51 7 x30.1.length cs38] (by decide) rfl
                        refine hK _ _ (fun _ _ => HS) ?_
                        clear hK
                        refine d_takeP h (fun _ => HS) HN 6 rfl (by kernel_rfl) (by kernel_rfl) (by kernel_rfl) (by decide) rfl rfl (by decide) (fun w' => x_not h.k rfl rfl) (fun a h => ?_)
                        refine d_done (by kernel_rfl) (HE _ _ ?_) _
                        refine e_thenN ?_
                        have h := h.pick [3, 4, 0, 5, 1] (by decide) rfl
                        exact ⟨S217, A245, c246, le219, up218, hs247, hr248, h.has (by exact ⟨rfl, rfl, rfl, rfl, rfl, rfl, rfl, rfl, trivial⟩)⟩
                      obtain ⟨S252, A255, c256, le253, up254, hs257, hr258, h⟩ := h
                      refine e_thenN ?_
                      refine c_cond h rfl (fun hb => ?_) (fun hb => ?_)
                      · rw [if_pos hb] at hc132
                        refine c_rs ?_ -- region 27
                        refine s_assign h rfl _ rfl rfl (by decide) rfl (fun a h => ?_)
                        refine l_end ?_
                        refine wp_ret ?_
                        refine e_blkR ?_
                        refine e_thenR ?_
                        cases hc132
                        try dsimp only at hl129
                        refine e_thenR ?_
                        refine e_blkR ?_
                        refine e_thenR ?_
                        cases hl129
                        try dsimp only at hf
                        refine e_thenR ?_
                        rw [← Option.some.inj hf]
                        exact r_ret1 h rfl (rv_tmp h rfl) ⟨_, [], _, rfl, ⟨rfl, rfl, trivial⟩, rfl, up254, (h.m.pick [4] _ (by decide) rfl)⟩
                      · rw [if_neg (by rw [hb]; decide)] at hc132
                        refine wp_skip ?_
                        refine e_blkN ?_
                        refine e_thenN ?_
                        exact ⟨S252, x214.2, A255, c256, (Option.some.inj hc132), le253, up254, hs257, hr258, h.has (by exact ⟨rfl, rfl, rfl, rfl, rfl, rfl, rfl, trivial⟩)⟩
                  · rintro a w ⟨S133, x136, A137, c138, rfl, le134, up135, hs139, hr140, h⟩
                    try dsimp only at hl129
                    refine c_r ?_ -- region 28
                    refine s_x h rfl rfl (by decide) (x_bin h.k rfl rfl rfl (ib_add rfl)) (fun a h => ?_)
                    refine s_move h rfl _ rfl rfl (by decide) rfl (fun a h => ?_)
                    refine l_nil ?_
                    exact e_thenN ⟨m130, Nat.lt_succ_self _, S133, w64 (x119 + 1), x136, A137, c138, hl129, (le117.trans le134), up135, (w64_r _), hs139, hr140, h.has (by exact ⟨rfl, rfl, rfl, rfl, rfl, rfl, rfl, trivial⟩)⟩
                · rw [if_neg (of_decide_eq_false hb)] at hl129
                  refine wp_exit ?_
                  refine e_thenX ?_
                  refine e_thenX ?_
                  refine e_blkX ?_
                  refine e_thenN ?_
                  have h := h.pick [4] (by decide) rfl
                  exact ⟨S116, (Option.some.inj hl129), le117, up118, h.has trivial⟩
              · rintro a w ⟨S126, rfl, le127, up128, h⟩
                try dsimp only at hf
                refine e_thenN ?_
                refine c_rs ?_ -- region 29
                refine s_assign h rfl _ rfl rfl (by decide) rfl (fun a h => ?_)
                refine l_end ?_
                refine wp_ret ?_
                rw [← Option.some.inj hf]
                exact r_ret1 h rfl (rv_tmp h rfl) ⟨_, [], _, rfl, ⟨rfl, rfl, trivial⟩, rfl, up128, h.m⟩
end Go.Proofs.Ytcjleeclpmgbjaa
