/- Ft: Go functions as plain functions, and that they are so (written by xt.py). -/
import Derived.Test.YtlgcfnbhnpnkiaaFs
set_option linter.unusedVariables false
set_option linter.unusedSimpArgs false
namespace Go.Proofs.Ytlgcfnbhnpnkiaa
open Go.RowKit
def chatelainelaw24_ForestRoots_l0 (Fu : Nat) (a0 : List (Int × Int × Int × (List UInt8) × (List (Int × Int)) × (List (List UInt8)) × (List (List UInt8)))) : Nat → Int → Option (Sum Bool Unit)
  | 0, _ => none
  | k + 1, x9 => if x9 < (a0.length : Int) then (((idx a0 x9).bind fun x15 => (forest_Sum Fu x15).bind fun x55 => (chatelaineref24_One Fu x15).bind fun x65 => if x65 = true then ((if x55.2 ≠ 0 then some true else (chatelaineref24_Sum Fu x15).bind fun x70 => some (!(decide (x55.1 = x70)))).bind fun z68 => if z68 = true then (some (.inl false)) else (some (.inr ()))) else (if ((decide (x55.2 ≠ 2)) || (!(decide (x55.1 = (List.replicate 32 ((0 : UInt8) : UInt8)))))) = true then (some (.inl false)) else (some (.inr ()))) : Option (Sum Bool Unit)).bind fun o => match o with | .inl r80 => some (.inl r80) | .inr _ => chatelainelaw24_ForestRoots_l0 Fu a0 k (w64 (x9 + 1))) else (some (.inr ()))
def chatelainelaw24_ForestRoots (Fu : Nat) (a0 : List (Int × Int × Int × (List UInt8) × (List (Int × Int)) × (List (List UInt8)) × (List (List UInt8)))) : Option Bool :=
  (chatelainelaw24_awake Fu).bind fun x1 => if (!x1) = true then (some false) else ((chatelainelaw24_Few Fu a0).bind fun x4 => if (!x4) = true then (some true) else ((chatelainelaw24_ForestRoots_l0 Fu a0 Fu 0).bind fun o => match o with | .inl r112 => some r112 | .inr _ => (forest_Root Fu a0).bind fun x81 => (forest_Right Fu a0).bind fun x91 => (chatelaineref24_Right Fu a0).bind fun x94 => if (!(x91 == x94)) = true then (some false) else ((chatelaineref24_Right Fu a0).bind fun x97 => if (!x97) = true then (some ((decide (x81.2 = 2)) && (decide (x81.1 = (List.replicate 32 ((0 : UInt8) : UInt8)))))) else ((if x81.2 = 0 then (chatelaineref24_Root Fu a0).bind fun x104 => some (decide (x81.1 = x104)) else some false).bind fun z102 => some z102))))
set_option maxRecDepth 100000 in
set_option maxHeartbeats 2000000 in
theorem chatelainelaw24_ForestRoots_ok (Fu : Nat) {S0 : Snap} (Aa0 : Option Addr) (ca0 : Nat) (a0 : List (Int × Int × Int × (List UInt8) × (List (Int × Int)) × (List (List UInt8)) × (List (List UInt8)))) (hsa0 : slS (tyP tyI (tyP tyI (tyP tyI (tyP (tyL ty8) (tyP (tyL (tyP tyI tyI)) (tyP (tyL (tyL ty8)) (tyL (tyA 32 ty8)))))))) S0 Aa0 ca0 a0) (r : Bool) (hf : chatelainelaw24_ForestRoots Fu a0 = some r) (w0 : World) (hm : Mem w0 (ownL ([] ++ [.sn S0])) ([] ++ [.sn S0]) w0) :
    Calls Try.prog 9 #[.slice Aa0 a0.length ca0] w0 (Ret w0 S0 [] (fun v L1 S1 => v = .bool r ∧ L1 = [] ∧ True)) := by
  unfold chatelainelaw24_ForestRoots at hf
  refine c_enterM Try.func9 rfl 71 rfl (by simp) _ hm _ rfl (fun a h => ?_)
  refine c_rs ?_ -- region 0
  refine s_assign h rfl _ rfl rfl (by decide) rfl (fun a h => ?_)
  refine l_end ?_
  refine wp_seq ?_
  refine c_rs ?_ -- region 1
  obtain ⟨x1, h2, hf⟩ := bsome hf
  have hX := chatelainelaw24_awake_ok Fu (S0 := snapAll _)  _ h2 _ h.startAll
  refine q_callX hX h rfl rfl rfl (by decide) Try.func35 rfl rfl rfl (fun a w v L1 S1 hR hb1 h => ?_)
  obtain ⟨rfl, rfl, _⟩ := hR
  refine s_x h rfl rfl (by decide) (x_not h.k rfl rfl) (fun a h => ?_)
  refine l_end ?_
  refine c_cond h rfl (fun hb => ?_) (fun hb => ?_)
  · rw [if_pos hb] at hf
    refine c_rs ?_ -- region 2
    refine s_assign h rfl _ rfl rfl (by decide) rfl (fun a h => ?_)
    refine l_end ?_
    refine wp_ret ?_
    refine e_thenR ?_
    rw [← Option.some.inj hf]
    exact r_ret1 h rfl (rv_tmp h rfl) ⟨_, [], _, rfl, ⟨rfl, rfl, trivial⟩, rfl, (Up.refl _ _ _), h.m⟩
  · rw [if_neg (by rw [hb]; decide)] at hf
    refine wp_skip ?_
    refine e_thenN ?_
    refine wp_seq ?_
    refine c_rs ?_ -- region 3
    refine s_move h rfl _ rfl rfl (by decide) rfl (fun a h => ?_)
    obtain ⟨x4, h5, hf⟩ := bsome hf
    have hX := chatelainelaw24_Few_ok Fu (S0 := snapAll _) Aa0 ca0 a0 (hsa0.mono (h.m.leAll (i := 0) rfl)) _ h5 _ h.startAll
    refine q_callX hX h rfl rfl rfl (by decide) Try.func36 rfl rfl rfl (fun a w v L1 S1 hR hb1 h => ?_)
    obtain ⟨rfl, rfl, _⟩ := hR
    refine s_x h rfl rfl (by decide) (x_not h.k rfl rfl) (fun a h => ?_)
    refine l_end ?_
    refine c_cond h rfl (fun hb => ?_) (fun hb => ?_)
    · rw [if_pos hb] at hf
      refine c_rs ?_ -- region 4
      refine s_assign h rfl _ rfl rfl (by decide) rfl (fun a h => ?_)
      refine l_end ?_
      refine wp_ret ?_
      refine e_thenR ?_
      rw [← Option.some.inj hf]
      exact r_ret1 h rfl (rv_tmp h rfl) ⟨_, [], _, rfl, ⟨rfl, rfl, trivial⟩, rfl, (Up.refl _ _ _), h.m⟩
    · rw [if_neg (by rw [hb]; decide)] at hf
      refine wp_skip ?_
      refine e_thenN ?_
      refine wp_seq ?_
      refine c_rs ?_ -- region 5
      refine s_move h rfl _ rfl rfl (by decide) rfl (fun a h => ?_)
      refine s_x h rfl rfl (by decide) (x_len h.k rfl Try.underlying61 rfl) (fun a h => ?_)
      refine s_move h rfl _ rfl rfl (by decide) rfl (fun a h => ?_)
      refine l_end ?_
      obtain ⟨o7, hl8, hf⟩ := bsome hf
      refine c_fin (fun a w => (.inr ()) = o7 ∧ St 71 w0 (ownL ([] ++ [.sn S0])) [(0, .slice Aa0 a0.length ca0)] [.sn S0] a w) ?_ ?_
      · refine wp_block ?_
        refine c_loop (fun m12 a w => ∃ (x9 : Int), chatelainelaw24_ForestRoots_l0 Fu a0 m12 x9 = some o7 ∧ r64 x9 ∧ St 71 w0 (ownL ([] ++ [.sn S0])) [(0, .slice Aa0 a0.length ca0), (14, .slice Aa0 a0.length ca0), (15, .int .i64 (a0.length : Int)), (16, .int .i64 x9)] [.sn S0] a w) Fu ⟨0, hl8, (show r64 0 from ⟨by decide, by decide⟩), h.has (by exact ⟨rfl, rfl, rfl, rfl, trivial⟩)⟩ (fun m12 a w hI => ?_)
        obtain ⟨x9, hl11, hr10, h⟩ := hI
        obtain _ | m12 := m12
        · rw [chatelainelaw24_ForestRoots_l0] at hl11; cases hl11
        rw [chatelainelaw24_ForestRoots_l0] at hl11
        refine c_rs ?_ -- region 6
        refine s_x h rfl rfl (by decide) (x_bin h.k rfl rfl rfl ib_lss) (fun a h => ?_)
        refine l_end ?_
        refine c_cs h rfl (fun hb => ?_) (fun hb => ?_)
        · rw [if_pos (of_decide_eq_true hb)] at hl11
          refine wp_skip ?_
          refine e_thenN ?_
          obtain ⟨o13, hc14, hl11⟩ := bsome hl11
          refine c_cut (fun a w => (.inr ()) = o13 ∧ St 71 w0 (ownL ([] ++ [.sn S0])) [(0, .slice Aa0 a0.length ca0), (14, .slice Aa0 a0.length ca0), (15, .int .i64 (a0.length : Int)), (16, .int .i64 x9)] [.sn S0] a w) ?_ ?_
          · refine wp_block ?_
            refine c_rs ?_ -- region 7
            obtain ⟨x15, h19, hc14⟩ := bsome hc14
            obtain ⟨m16, hi20, hm21, hx22⟩ := idx_some h19
            obtain ⟨b17, off18, k23, hA24, hu25, hc26⟩ := (hsa0).at (by decide) hx22 (h.m.snOK (i := 0) rfl)
            obtain ⟨k27, k28, rfl, ⟨rfl, hr29⟩, ⟨k30, k31, rfl, ⟨rfl, hr32⟩, ⟨k33, k34, rfl, ⟨rfl, hr35⟩, ⟨k36, k37, rfl, ⟨A38, c39, rfl, hs40⟩, ⟨k41, k42, rfl, ⟨A43, c44, rfl, hs45⟩, ⟨k46, k47, rfl, ⟨A48, c49, rfl, hs50⟩, ⟨A51, c52, rfl, hs53⟩⟩⟩⟩⟩⟩⟩ := hu25
            refine s_x h rfl rfl (by decide) (x_iaddrE h.k rfl Try.underlying61 sz_api_Space hA24 rfl rfl hi20 hm21) (fun a h => ?_)
            refine s_x h rfl rfl (by decide) (x_ldR h.k rfl ag_api_Space rfl ([.int .i64 x15.1, .int .i64 x15.2.1, .int .i64 x15.2.2.1, .slice A38 x15.2.2.2.1.length c39, .slice A43 x15.2.2.2.2.1.length c44, .slice A48 x15.2.2.2.2.2.1.length c49, .slice A51 x15.2.2.2.2.2.2.length c52]) rfl (hc26 _ (h.m.snOK (i := 0) rfl))) (fun a h => ?_)
            refine s_alloc h rfl rfl rfl (by decide) zi_api_Space rfl (fun a w g54 h => ?_)
            refine s_stW h rfl rfl rfl ag_api_Space rfl (es := [.int .i64 x15.1, .int .i64 x15.2.1, .int .i64 x15.2.2.1, .slice A38 x15.2.2.2.1.length c39, .slice A43 x15.2.2.2.2.1.length c44, .slice A48 x15.2.2.2.2.2.1.length c49, .slice A51 x15.2.2.2.2.2.2.length c52]) rfl rfl (by simp [Value.oneCell']) 0 rfl rfl (fun a w h => ?_)
            refine l_end ?_
            refine c_rs ?_ -- region 8
            refine s_x h rfl rfl (by decide) (x_ldR h.k rfl ag_api_Space rfl ([.int .i64 x15.1, .int .i64 x15.2.1, .int .i64 x15.2.2.1, .slice A38 x15.2.2.2.1.length c39, .slice A43 x15.2.2.2.2.1.length c44, .slice A48 x15.2.2.2.2.2.1.length c49, .slice A51 x15.2.2.2.2.2.2.length c52]) rfl (h.m.range0 (i := 0) rfl)) (fun a h => ?_)
            obtain ⟨x55, h56, hc14⟩ := bsome hc14
            have hX := forest_Sum_ok Fu (S0 := snapAll _) ([.int .i64 x15.1, .int .i64 x15.2.1, .int .i64 x15.2.2.1, .slice A38 x15.2.2.2.1.length c39, .slice A43 x15.2.2.2.2.1.length c44, .slice A48 x15.2.2.2.2.2.1.length c49, .slice A51 x15.2.2.2.2.2.2.length c52]) x15 ((tyP tyI (tyP tyI (tyP tyI (tyP (tyL ty8) (tyP (tyL (tyP tyI tyI)) (tyP (tyL (tyL ty8)) (tyL (tyA 32 ty8)))))))).mono (h.m.leAll (i := 1) rfl) (show (tyP tyI (tyP tyI (tyP tyI (tyP (tyL ty8) (tyP (tyL (tyP tyI tyI)) (tyP (tyL (tyL ty8)) (tyL (tyA 32 ty8)))))))).rep S0 ([.int .i64 x15.1, .int .i64 x15.2.1, .int .i64 x15.2.2.1, .slice A38 x15.2.2.2.1.length c39, .slice A43 x15.2.2.2.2.1.length c44, .slice A48 x15.2.2.2.2.2.1.length c49, .slice A51 x15.2.2.2.2.2.2.length c52]) x15 from ⟨[.int .i64 x15.1], [.int .i64 x15.2.1, .int .i64 x15.2.2.1, .slice A38 x15.2.2.2.1.length c39, .slice A43 x15.2.2.2.2.1.length c44, .slice A48 x15.2.2.2.2.2.1.length c49, .slice A51 x15.2.2.2.2.2.2.length c52], rfl, ⟨rfl, hr29⟩, ⟨[.int .i64 x15.2.1], [.int .i64 x15.2.2.1, .slice A38 x15.2.2.2.1.length c39, .slice A43 x15.2.2.2.2.1.length c44, .slice A48 x15.2.2.2.2.2.1.length c49, .slice A51 x15.2.2.2.2.2.2.length c52], rfl, ⟨rfl, hr32⟩, ⟨[.int .i64 x15.2.2.1], [.slice A38 x15.2.2.2.1.length c39, .slice A43 x15.2.2.2.2.1.length c44, .slice A48 x15.2.2.2.2.2.1.length c49, .slice A51 x15.2.2.2.2.2.2.length c52], rfl, ⟨rfl, hr35⟩, ⟨[.slice A38 x15.2.2.2.1.length c39], [.slice A43 x15.2.2.2.2.1.length c44, .slice A48 x15.2.2.2.2.2.1.length c49, .slice A51 x15.2.2.2.2.2.2.length c52], rfl, ⟨_, _, rfl, hs40⟩, ⟨[.slice A43 x15.2.2.2.2.1.length c44], [.slice A48 x15.2.2.2.2.2.1.length c49, .slice A51 x15.2.2.2.2.2.2.length c52], rfl, ⟨_, _, rfl, hs45⟩, ⟨[.slice A48 x15.2.2.2.2.2.1.length c49], [.slice A51 x15.2.2.2.2.2.2.length c52], rfl, ⟨_, _, rfl, hs50⟩, ⟨_, _, rfl, hs53⟩⟩⟩⟩⟩⟩⟩)) _ h56 _ h.startAll
            refine q_callX hX h rfl rfl rfl (by decide) Try.func37 rfl rfl rfl (fun a w v L1 S1 hR hb1 h => ?_)
            obtain ⟨k58, rfl, rfl, hv59, hr62, _⟩ := hR
            obtain ⟨hs60, hl61⟩ := hv59
            have hq63 := hs60.fl (S' := S0) fl_8
            refine s_move h rfl _ rfl rfl (by decide) rfl (fun a h => ?_)
            refine s_x h rfl rfl (by decide) (x_ext h.k rfl rfl rfl) (fun a h => ?_)
            refine s_x h rfl rfl (by decide) (x_ext h.k rfl rfl rfl) (fun a h => ?_)
            refine s_alloc h rfl rfl rfl (by decide) zi_A32_uint8 rfl (fun a w g64 h => ?_)
            refine s_stW h rfl rfl rfl ag_A32_uint8 rfl (es := k58) rfl ((hq63).len.trans (by rw [hl61]; rfl)) (hq63).one 0 rfl (by first | rfl | simp_all) (fun a w h => ?_)
            refine s_assign h rfl _ rfl rfl (by decide) rfl (fun a h => ?_)
            refine l_end ?_
            refine c_rs ?_ -- region 9
            refine s_x h rfl rfl (by decide) (x_ldR h.k rfl ag_api_Space rfl ([.int .i64 x15.1, .int .i64 x15.2.1, .int .i64 x15.2.2.1, .slice A38 x15.2.2.2.1.length c39, .slice A43 x15.2.2.2.2.1.length c44, .slice A48 x15.2.2.2.2.2.1.length c49, .slice A51 x15.2.2.2.2.2.2.length c52]) rfl (h.m.range0 (i := 1) rfl)) (fun a h => ?_)
            obtain ⟨x65, h66, hc14⟩ := bsome hc14
            have hX := chatelaineref24_One_ok Fu (S0 := snapAll _) ([.int .i64 x15.1, .int .i64 x15.2.1, .int .i64 x15.2.2.1, .slice A38 x15.2.2.2.1.length c39, .slice A43 x15.2.2.2.2.1.length c44, .slice A48 x15.2.2.2.2.2.1.length c49, .slice A51 x15.2.2.2.2.2.2.length c52]) x15 ((tyP tyI (tyP tyI (tyP tyI (tyP (tyL ty8) (tyP (tyL (tyP tyI tyI)) (tyP (tyL (tyL ty8)) (tyL (tyA 32 ty8)))))))).mono (h.m.leAll (i := 2) rfl) (show (tyP tyI (tyP tyI (tyP tyI (tyP (tyL ty8) (tyP (tyL (tyP tyI tyI)) (tyP (tyL (tyL ty8)) (tyL (tyA 32 ty8)))))))).rep S0 ([.int .i64 x15.1, .int .i64 x15.2.1, .int .i64 x15.2.2.1, .slice A38 x15.2.2.2.1.length c39, .slice A43 x15.2.2.2.2.1.length c44, .slice A48 x15.2.2.2.2.2.1.length c49, .slice A51 x15.2.2.2.2.2.2.length c52]) x15 from ⟨[.int .i64 x15.1], [.int .i64 x15.2.1, .int .i64 x15.2.2.1, .slice A38 x15.2.2.2.1.length c39, .slice A43 x15.2.2.2.2.1.length c44, .slice A48 x15.2.2.2.2.2.1.length c49, .slice A51 x15.2.2.2.2.2.2.length c52], rfl, ⟨rfl, hr29⟩, ⟨[.int .i64 x15.2.1], [.int .i64 x15.2.2.1, .slice A38 x15.2.2.2.1.length c39, .slice A43 x15.2.2.2.2.1.length c44, .slice A48 x15.2.2.2.2.2.1.length c49, .slice A51 x15.2.2.2.2.2.2.length c52], rfl, ⟨rfl, hr32⟩, ⟨[.int .i64 x15.2.2.1], [.slice A38 x15.2.2.2.1.length c39, .slice A43 x15.2.2.2.2.1.length c44, .slice A48 x15.2.2.2.2.2.1.length c49, .slice A51 x15.2.2.2.2.2.2.length c52], rfl, ⟨rfl, hr35⟩, ⟨[.slice A38 x15.2.2.2.1.length c39], [.slice A43 x15.2.2.2.2.1.length c44, .slice A48 x15.2.2.2.2.2.1.length c49, .slice A51 x15.2.2.2.2.2.2.length c52], rfl, ⟨_, _, rfl, hs40⟩, ⟨[.slice A43 x15.2.2.2.2.1.length c44], [.slice A48 x15.2.2.2.2.2.1.length c49, .slice A51 x15.2.2.2.2.2.2.length c52], rfl, ⟨_, _, rfl, hs45⟩, ⟨[.slice A48 x15.2.2.2.2.2.1.length c49], [.slice A51 x15.2.2.2.2.2.2.length c52], rfl, ⟨_, _, rfl, hs50⟩, ⟨_, _, rfl, hs53⟩⟩⟩⟩⟩⟩⟩)) _ h66 _ h.startAll
            refine q_callX hX h rfl rfl rfl (by decide) Try.func38 rfl rfl rfl (fun a w v L1 S1 hR hb1 h => ?_)
            obtain ⟨rfl, rfl, _⟩ := hR
            refine l_end ?_
            refine c_cond h rfl (fun hb => ?_) (fun hb => ?_)
            · rw [if_pos hb] at hc14
              refine wp_seq ?_
              -- region 10 draws
              obtain ⟨z68, hz69, hc14⟩ := bsome hc14
              refine c_fin (fun a w => St 71 w0 (ownL ([] ++ [.sn S0])) [(0, .slice Aa0 a0.length ca0), (14, .slice Aa0 a0.length ca0), (15, .int .i64 (a0.length : Int)), (16, .int .i64 x9), (34, .bool z68)] [.sn S0] a w) ?_ (fun a w h => ?_)
              · refine d_start h (Mem _ _ _) 8 8 rfl (by kernel_rfl) (fun _ _ _ _ _ h => h) (fun _ h => h) (fun Q a w HE HN h HS => ?_)
                refine d_takeP h (fun _ => HS) HN 0 rfl (by kernel_rfl) (by kernel_rfl) (by kernel_rfl) (by decide) rfl rfl (by decide) (fun w' => x_move h.k _ rfl rfl) (fun a h => ?_)
                refine d_takeP h (fun _ => HS) HN 1 rfl (by kernel_rfl) (by kernel_rfl) (by kernel_rfl) (by decide) rfl rfl (by decide) (fun w' => x_bin h.k rfl rfl rfl ib_neq) (fun a h => ?_)
                refine d_takeP h (fun _ => HS) HN 2 rfl (by kernel_rfl) (by kernel_rfl) (by kernel_rfl) (by decide) rfl rfl (by decide) (fun w' => x_move h.k _ rfl rfl) (fun a h => ?_)
                refine d_split (t := 29) h rfl (fun hB2 => ?_) (fun hB2 => ?_)
                · rw [if_pos (of_decide_eq_true hB2)] at hz69
                  refine d_takeNP h (fun _ => HS) HN 3 rfl (by kernel_rfl) (by kernel_rfl) (by kernel_rfl) (by decide) (by rw [g_want h rfl rfl rfl rfl hB2]; rfl) rfl (by decide) (fun a h => ?_)
                  refine d_takeNP h (fun _ => HS) HN 4 rfl (by kernel_rfl) (by kernel_rfl) (by kernel_rfl) (by decide) (by rw [g_want h rfl rfl rfl rfl hB2]; rfl) rfl (by decide) (fun a h => ?_)
                  refine d_takeNP h (fun _ => HS) HN 5 rfl (by kernel_rfl) (by kernel_rfl) (by kernel_rfl) (by decide) (by rw [g_want h rfl rfl rfl rfl hB2]; rfl) rfl (by decide) (fun a h => ?_)
                  refine d_takeNP h (fun _ => HS) HN 6 rfl (by kernel_rfl) (by kernel_rfl) (by kernel_rfl) (by decide) (by rw [g_want h rfl rfl rfl rfl hB2]; rfl) rfl (by decide) (fun a h => ?_)
                  refine d_takeP h (fun _ => HS) HN 7 rfl (by kernel_rfl) (by kernel_rfl) (by kernel_rfl) (by decide) rfl rfl (by decide) (fun w' => x_pick (v := .bool z68) (u' := undef) h.k rfl rfl (fun _ => by rw [← Option.some.inj hz69]; rfl) (fun hh => absurd (hB2.symm.trans hh) (by decide))) (fun a h => ?_)
                  refine d_done (by kernel_rfl) (HE _ _ ?_) _
                  refine e_thenN ?_
                  have h := h.pick [2] (by decide) rfl
                  exact h.has (by exact ⟨rfl, rfl, rfl, rfl, rfl, trivial⟩)
                · rw [if_neg (of_decide_eq_false hB2)] at hz69
                  obtain ⟨x70, h71, hz69⟩ := bsome hz69
                  refine d_takeY h HS HN 3 rfl (by kernel_rfl) (by kernel_rfl) (by kernel_rfl) (by kernel_rfl) (by kernel_rfl) (by rw [g_want h rfl rfl rfl rfl hB2]; rfl) rfl (by decide) (fun w' hw => x_ldR h.k rfl ag_A32_uint8 rfl k58 ((hq63).len.trans (by rw [hl61]; rfl)) (hw.range0 (i := 0) rfl)) (fun a h => ?_)
                  refine d_takeY h HS HN 4 rfl (by kernel_rfl) (by kernel_rfl) (by kernel_rfl) (by kernel_rfl) (by kernel_rfl) (by rw [g_want h rfl rfl rfl rfl hB2]; rfl) rfl (by decide) (fun w' hw => x_ldR h.k rfl ag_api_Space rfl ([.int .i64 x15.1, .int .i64 x15.2.1, .int .i64 x15.2.2.1, .slice A38 x15.2.2.2.1.length c39, .slice A43 x15.2.2.2.2.1.length c44, .slice A48 x15.2.2.2.2.2.1.length c49, .slice A51 x15.2.2.2.2.2.2.length c52]) rfl (hw.range0 (i := 1) rfl)) (fun a h => ?_)
                  refine d_alone 5 rfl (by kernel_rfl) (fun K hK => ?_)
                  refine g_yes (j := 2) (t := 29) h rfl rfl rfl rfl hB2 ?_
                  have hX := chatelaineref24_Sum_ok Fu (S0 := snapAll _) ([.int .i64 x15.1, .int .i64 x15.2.1, .int .i64 x15.2.2.1, .slice A38 x15.2.2.2.1.length c39, .slice A43 x15.2.2.2.2.1.length c44, .slice A48 x15.2.2.2.2.2.1.length c49, .slice A51 x15.2.2.2.2.2.2.length c52]) x15 ((tyP tyI (tyP tyI (tyP tyI (tyP (tyL ty8) (tyP (tyL (tyP tyI tyI)) (tyP (tyL (tyL ty8)) (tyL (tyA 32 ty8)))))))).mono (h.m.leAll (i := 2) rfl) (show (tyP tyI (tyP tyI (tyP tyI (tyP (tyL ty8) (tyP (tyL (tyP tyI tyI)) (tyP (tyL (tyL ty8)) (tyL (tyA 32 ty8)))))))).rep S0 ([.int .i64 x15.1, .int .i64 x15.2.1, .int .i64 x15.2.2.1, .slice A38 x15.2.2.2.1.length c39, .slice A43 x15.2.2.2.2.1.length c44, .slice A48 x15.2.2.2.2.2.1.length c49, .slice A51 x15.2.2.2.2.2.2.length c52]) x15 from ⟨[.int .i64 x15.1], [.int .i64 x15.2.1, .int .i64 x15.2.2.1, .slice A38 x15.2.2.2.1.length c39, .slice A43 x15.2.2.2.2.1.length c44, .slice A48 x15.2.2.2.2.2.1.length c49, .slice A51 x15.2.2.2.2.2.2.length c52], rfl, ⟨rfl, hr29⟩, ⟨[.int .i64 x15.2.1], [.int .i64 x15.2.2.1, .slice A38 x15.2.2.2.1.length c39, .slice A43 x15.2.2.2.2.1.length c44, .slice A48 x15.2.2.2.2.2.1.length c49, .slice A51 x15.2.2.2.2.2.2.length c52], rfl, ⟨rfl, hr32⟩, ⟨[.int .i64 x15.2.2.1], [.slice A38 x15.2.2.2.1.length c39, .slice A43 x15.2.2.2.2.1.length c44, .slice A48 x15.2.2.2.2.2.1.length c49, .slice A51 x15.2.2.2.2.2.2.length c52], rfl, ⟨rfl, hr35⟩, ⟨[.slice A38 x15.2.2.2.1.length c39], [.slice A43 x15.2.2.2.2.1.length c44, .slice A48 x15.2.2.2.2.2.1.length c49, .slice A51 x15.2.2.2.2.2.2.length c52], rfl, ⟨_, _, rfl, hs40⟩, ⟨[.slice A43 x15.2.2.2.2.1.length c44], [.slice A48 x15.2.2.2.2.2.1.length c49, .slice A51 x15.2.2.2.2.2.2.length c52], rfl, ⟨_, _, rfl, hs45⟩, ⟨[.slice A48 x15.2.2.2.2.2.1.length c49], [.slice A51 x15.2.2.2.2.2.2.length c52], rfl, ⟨_, _, rfl, hs50⟩, ⟨_, _, rfl, hs53⟩⟩⟩⟩⟩⟩⟩)) _ h71 _ h.startAll
                  refine q_callX hX h rfl rfl rfl (by decide) Try.func39 rfl rfl rfl (fun a w v L1 S1 hR hb1 h => ?_)
                  obtain ⟨k73, rfl, rfl, hv74, _⟩ := hR
                  obtain ⟨hs75, hl76⟩ := hv74
                  have hq77 := hs75.fl (S' := S0) fl_8
                  refine hK _ _ (fun _ _ => HS.ext hb1) ?_
                  replace HS := HS.ext hb1
                  clear hK
                  refine d_takeP h (fun _ => HS) HN 6 rfl (by kernel_rfl) (by kernel_rfl) (by kernel_rfl) (by decide) (by rw [g_want h rfl rfl rfl rfl hB2]; rfl) rfl (by decide) (fun w' => x_neqA8 (X := k58) (Y := k73) h.k rfl Try.underlying40 Try.underlying5 sz_uint8 gda_A32_uint8 rfl rfl hq63 hq77 hl61 hl76) (fun a h => ?_)
                  refine d_takeP h (fun _ => HS) HN 7 rfl (by kernel_rfl) (by kernel_rfl) (by kernel_rfl) (by decide) rfl rfl (by decide) (fun w' => x_pick (v := .bool z68) (u' := undef) h.k rfl rfl (fun hh => absurd (hB2.symm.trans hh) (by decide)) (fun _ => by rw [← Option.some.inj hz69]; rfl)) (fun a h => ?_)
                  refine d_done (by kernel_rfl) (HE _ _ ?_) _
                  refine e_thenN ?_
                  have h := h.pick [2] (by decide) rfl
                  exact h.has (by exact ⟨rfl, rfl, rfl, rfl, rfl, trivial⟩)
              refine e_thenN ?_
              refine c_cond h rfl (fun hb => ?_) (fun hb => ?_)
              · rw [if_pos hb] at hc14
                refine c_rs ?_ -- region 11
                refine s_assign h rfl _ rfl rfl (by decide) rfl (fun a h => ?_)
                refine l_end ?_
                refine wp_ret ?_
                refine e_blkR ?_
                refine e_thenR ?_
                cases hc14
                try dsimp only at hl11
                refine e_thenR ?_
                refine e_blkR ?_
                refine e_thenR ?_
                cases hl11
                try dsimp only at hf
                refine e_thenR ?_
                rw [← Option.some.inj hf]
                exact r_ret1 h rfl (rv_tmp h rfl) ⟨_, [], _, rfl, ⟨rfl, rfl, trivial⟩, rfl, (Up.refl _ _ _), h.m⟩
              · rw [if_neg (by rw [hb]; decide)] at hc14
                refine wp_skip ?_
                refine e_blkN ?_
                refine e_thenN ?_
                exact ⟨(Option.some.inj hc14), h.has (by exact ⟨rfl, rfl, rfl, rfl, trivial⟩)⟩
            · rw [if_neg (by rw [hb]; decide)] at hc14
              refine c_rs ?_ -- region 12
              refine s_move h rfl _ rfl rfl (by decide) rfl (fun a h => ?_)
              refine s_x h rfl rfl (by decide) (x_bin h.k rfl rfl rfl ib_neq) (fun a h => ?_)
              refine s_move h rfl _ rfl rfl (by decide) rfl (fun a h => ?_)
              refine q_grp h 4 (t := 37) 41 ((decide (x55.2 ≠ 2)) || (!(decide (x55.1 = (List.replicate 32 ((0 : UInt8) : UInt8)))))) rfl (fun hB2 => ?_) (fun hB2 => ?_) (fun a w h => ?_)
              · refine g_no h rfl rfl rfl rfl hB2 rfl (by decide) (fun a h => ?_)
                refine g_no h rfl rfl rfl rfl hB2 rfl (by decide) (fun a h => ?_)
                refine g_no h rfl rfl rfl rfl hB2 rfl (by decide) (fun a h => ?_)
                refine s_x h rfl rfl (by decide) (x_pick (u' := undef) h.k rfl rfl (fun _ => rfl) (fun hh => absurd (hB2.symm.trans hh) (by decide))) (fun a h => ?_)
                exact (h.mid 3 rfl).val (by first | rfl | (rw [hB2]; first | rfl | simp))
              · refine g_yes h rfl rfl rfl rfl hB2 ?_
                refine s_x h rfl rfl (by decide) (x_ldR h.k rfl ag_A32_uint8 rfl k58 ((hq63).len.trans (by rw [hl61]; rfl)) (h.m.range0 (i := 0) rfl)) (fun a h => ?_)
                refine g_yes h rfl rfl rfl rfl hB2 ?_
                refine s_x h rfl rfl (by decide) (x_build h.k rfl [] rfl (List.replicate 32 (.int .u8 0 : Value)) (by kernel_rfl)) (fun a h => ?_)
                refine g_yes h rfl rfl rfl rfl hB2 ?_
                refine s_x h rfl rfl (by decide) (x_neqA8 (X := k58) (Y := (List.replicate 32 (.int .u8 0 : Value))) h.k rfl Try.underlying40 Try.underlying5 sz_uint8 gda_A32_uint8 rfl rfl hq63 (show reps ty8 S0 (List.replicate 32 (.int .u8 0 : Value)) (List.replicate 32 ((0 : UInt8) : UInt8)) from repsRep1 (x := ((0 : UInt8) : UInt8)) rfl) hl61 (show (List.replicate 32 ((0 : UInt8) : UInt8)).length = 32 from List.length_replicate)) (fun a h => ?_)
                refine s_x h rfl rfl (by decide) (x_pick (u' := undef) h.k rfl rfl (fun hh => absurd (hB2.symm.trans hh) (by decide)) (fun _ => rfl)) (fun a h => ?_)
                exact (h.mid 3 rfl).val (by first | rfl | (rw [hB2]; first | rfl | simp))
              refine l_end ?_
              refine c_cond h rfl (fun hb => ?_) (fun hb => ?_)
              · rw [if_pos hb] at hc14
                refine c_rs ?_ -- region 13
                refine s_assign h rfl _ rfl rfl (by decide) rfl (fun a h => ?_)
                refine l_end ?_
                refine wp_ret ?_
                refine e_blkR ?_
                refine e_thenR ?_
                cases hc14
                try dsimp only at hl11
                refine e_thenR ?_
                refine e_blkR ?_
                refine e_thenR ?_
                cases hl11
                try dsimp only at hf
                refine e_thenR ?_
                rw [← Option.some.inj hf]
                exact r_ret1 h rfl (rv_tmp h rfl) ⟨_, [], _, rfl, ⟨rfl, rfl, trivial⟩, rfl, (Up.refl _ _ _), (h.m.pick [2] _ (by decide) rfl)⟩
              · rw [if_neg (by rw [hb]; decide)] at hc14
                refine wp_skip ?_
                refine e_blkN ?_
                refine e_thenN ?_
                have h := h.pick [2] (by decide) rfl
                exact ⟨(Option.some.inj hc14), h.has (by exact ⟨rfl, rfl, rfl, rfl, trivial⟩)⟩
          · rintro a w ⟨rfl, h⟩
            try dsimp only at hl11
            refine c_r ?_ -- region 14
            refine s_x h rfl rfl (by decide) (x_bin h.k rfl rfl rfl (ib_add rfl)) (fun a h => ?_)
            refine s_move h rfl _ rfl rfl (by decide) rfl (fun a h => ?_)
            refine l_nil ?_
            exact e_thenN ⟨m12, Nat.lt_succ_self _, w64 (x9 + 1), hl11, (w64_r _), h.has (by exact ⟨rfl, rfl, rfl, rfl, trivial⟩)⟩
        · rw [if_neg (of_decide_eq_false hb)] at hl11
          refine wp_exit ?_
          refine e_thenX ?_
          refine e_thenX ?_
          refine e_blkX ?_
          refine e_thenN ?_
          exact ⟨(Option.some.inj hl11), h.has (by exact ⟨rfl, trivial⟩)⟩
      · rintro a w ⟨rfl, h⟩
        try dsimp only at hf
        refine e_thenN ?_
        refine c_rs ?_ -- region 15
        refine s_move h rfl _ rfl rfl (by decide) rfl (fun a h => ?_)
        obtain ⟨x81, h82, hf⟩ := bsome hf
        have hX := forest_Root_ok Fu (S0 := snapAll _) Aa0 ca0 a0 (hsa0.mono (h.m.leAll (i := 0) rfl)) _ h82 _ h.startAll
        refine q_callX hX h rfl rfl rfl (by decide) Try.func40 rfl rfl rfl (fun a w v L1 S1 hR hb1 h => ?_)
        obtain ⟨k84, rfl, rfl, hv85, hr88, _⟩ := hR
        obtain ⟨hs86, hl87⟩ := hv85
        have hq89 := hs86.fl (S' := S0) fl_8
        refine s_move h rfl _ rfl rfl (by decide) rfl (fun a h => ?_)
        refine s_x h rfl rfl (by decide) (x_ext h.k rfl rfl rfl) (fun a h => ?_)
        refine s_x h rfl rfl (by decide) (x_ext h.k rfl rfl rfl) (fun a h => ?_)
        refine s_alloc h rfl rfl rfl (by decide) zi_A32_uint8 rfl (fun a w g90 h => ?_)
        refine s_stW h rfl rfl rfl ag_A32_uint8 rfl (es := k84) rfl ((hq89).len.trans (by rw [hl87]; rfl)) (hq89).one 0 rfl (by first | rfl | simp_all) (fun a w h => ?_)
        refine s_assign h rfl _ rfl rfl (by decide) rfl (fun a h => ?_)
        refine l_end ?_
        refine wp_seq ?_
        refine c_rs ?_ -- region 16
        refine s_move h rfl _ rfl rfl (by decide) rfl (fun a h => ?_)
        obtain ⟨x91, h92, hf⟩ := bsome hf
        have hX := forest_Right_ok Fu (S0 := snapAll _) Aa0 ca0 a0 (hsa0.mono (h.m.leAll (i := 1) rfl)) _ h92 _ h.startAll
        refine q_callX hX h rfl rfl rfl (by decide) Try.func41 rfl rfl rfl (fun a w v L1 S1 hR hb1 h => ?_)
        obtain ⟨rfl, rfl, _⟩ := hR
        refine s_move h rfl _ rfl rfl (by decide) rfl (fun a h => ?_)
        obtain ⟨x94, h95, hf⟩ := bsome hf
        have hX := chatelaineref24_Right_ok Fu (S0 := snapAll _) Aa0 ca0 a0 (hsa0.mono (h.m.leAll (i := 1) rfl)) _ h95 _ h.startAll
        refine q_callX hX h rfl rfl rfl (by decide) Try.func42 rfl rfl rfl (fun a w v L1 S1 hR hb1 h => ?_)
        obtain ⟨rfl, rfl, _⟩ := hR
        refine s_x h rfl rfl (by decide) (x_neqB h.k rfl Try.underlying4 rfl rfl) (fun a h => ?_)
        refine l_end ?_
        refine c_cond h rfl (fun hb => ?_) (fun hb => ?_)
        · rw [if_pos hb] at hf
          refine c_rs ?_ -- region 17
          refine s_assign h rfl _ rfl rfl (by decide) rfl (fun a h => ?_)
          refine l_end ?_
          refine wp_ret ?_
          refine e_thenR ?_
          rw [← Option.some.inj hf]
          exact r_ret1 h rfl (rv_tmp h rfl) ⟨_, [], _, rfl, ⟨rfl, rfl, trivial⟩, rfl, (Up.refl _ _ _), (h.m.pick [1] _ (by decide) rfl)⟩
        · rw [if_neg (by rw [hb]; decide)] at hf
          refine wp_skip ?_
          refine e_thenN ?_
          refine wp_seq ?_
          refine c_rs ?_ -- region 18
          refine s_move h rfl _ rfl rfl (by decide) rfl (fun a h => ?_)
          obtain ⟨x97, h98, hf⟩ := bsome hf
          have hX := chatelaineref24_Right_ok Fu (S0 := snapAll _) Aa0 ca0 a0 (hsa0.mono (h.m.leAll (i := 1) rfl)) _ h98 _ h.startAll
          refine q_callX hX h rfl rfl rfl (by decide) Try.func42 rfl rfl rfl (fun a w v L1 S1 hR hb1 h => ?_)
          obtain ⟨rfl, rfl, _⟩ := hR
          refine s_x h rfl rfl (by decide) (x_not h.k rfl rfl) (fun a h => ?_)
          refine l_end ?_
          refine c_cond h rfl (fun hb => ?_) (fun hb => ?_)
          · rw [if_pos hb] at hf
            refine c_rs ?_ -- region 19
            refine s_move h rfl _ rfl rfl (by decide) rfl (fun a h => ?_)
            refine s_x h rfl rfl (by decide) (x_bin h.k rfl rfl rfl ib_eql) (fun a h => ?_)
            refine s_move h rfl _ rfl rfl (by decide) rfl (fun a h => ?_)
            refine q_grp h 4 (t := 58) 62 ((decide (x81.2 = 2)) && (decide (x81.1 = (List.replicate 32 ((0 : UInt8) : UInt8))))) rfl (fun hB2 => ?_) (fun hB2 => ?_) (fun a w h => ?_)
            · refine g_yes h rfl rfl rfl rfl hB2 ?_
              refine s_x h rfl rfl (by decide) (x_ldR h.k rfl ag_A32_uint8 rfl k84 ((hq89).len.trans (by rw [hl87]; rfl)) (h.m.range0 (i := 0) rfl)) (fun a h => ?_)
              refine g_yes h rfl rfl rfl rfl hB2 ?_
              refine s_x h rfl rfl (by decide) (x_build h.k rfl [] rfl (List.replicate 32 (.int .u8 0 : Value)) (by kernel_rfl)) (fun a h => ?_)
              refine g_yes h rfl rfl rfl rfl hB2 ?_
              refine s_x h rfl rfl (by decide) (x_eqlA8 (X := k84) (Y := (List.replicate 32 (.int .u8 0 : Value))) h.k rfl Try.underlying40 Try.underlying5 sz_uint8 gda_A32_uint8 rfl rfl hq89 (show reps ty8 S0 (List.replicate 32 (.int .u8 0 : Value)) (List.replicate 32 ((0 : UInt8) : UInt8)) from repsRep1 (x := ((0 : UInt8) : UInt8)) rfl) hl87 (show (List.replicate 32 ((0 : UInt8) : UInt8)).length = 32 from List.length_replicate)) (fun a h => ?_)
              refine s_x h rfl rfl (by decide) (x_pick (u' := undef) h.k rfl rfl (fun _ => rfl) (fun hh => absurd (hB2.symm.trans hh) (by decide))) (fun a h => ?_)
              exact (h.mid 3 rfl).val (by first | rfl | (rw [hB2]; first | rfl | simp))
            · refine g_no h rfl rfl rfl rfl hB2 rfl (by decide) (fun a h => ?_)
              refine g_no h rfl rfl rfl rfl hB2 rfl (by decide) (fun a h => ?_)
              refine g_no h rfl rfl rfl rfl hB2 rfl (by decide) (fun a h => ?_)
              refine s_x h rfl rfl (by decide) (x_pick (u' := undef) h.k rfl rfl (fun hh => absurd (hB2.symm.trans hh) (by decide)) (fun _ => rfl)) (fun a h => ?_)
              exact (h.mid 3 rfl).val (by first | rfl | (rw [hB2]; first | rfl | simp))
            refine s_assign h rfl _ rfl rfl (by decide) rfl (fun a h => ?_)
            refine l_end ?_
            refine wp_ret ?_
            refine e_thenR ?_
            obtain rfl := Option.some.inj hf
            exact r_ret1 h rfl (rv_tmp h rfl) ⟨_, [], _, rfl, ⟨rfl, rfl, trivial⟩, rfl, (Up.refl _ _ _), (h.m.pick [1] _ (by decide) rfl)⟩
          · rw [if_neg (by rw [hb]; decide)] at hf
            refine wp_skip ?_
            refine e_thenN ?_
            refine wp_seq ?_
            -- region 20 draws
            obtain ⟨z102, hz103, hf⟩ := bsome hf
            refine c_fin (fun a w => St 71 w0 (ownL ([] ++ [.sn S0])) [(2, .bool z102)] [.sn S0] a w) ?_ (fun a w h => ?_)
            · refine d_start h (Mem _ _ _) 9 9 rfl (by kernel_rfl) (fun _ _ _ _ _ h => h) (fun _ h => h) (fun Q a w HE HN h HS => ?_)
              refine d_takeP h (fun _ => HS) HN 0 rfl (by kernel_rfl) (by kernel_rfl) (by kernel_rfl) (by decide) rfl rfl (by decide) (fun w' => x_move h.k _ rfl rfl) (fun a h => ?_)
              refine d_takeP h (fun _ => HS) HN 1 rfl (by kernel_rfl) (by kernel_rfl) (by kernel_rfl) (by decide) rfl rfl (by decide) (fun w' => x_bin h.k rfl rfl rfl ib_eql) (fun a h => ?_)
              refine d_takeP h (fun _ => HS) HN 2 rfl (by kernel_rfl) (by kernel_rfl) (by kernel_rfl) (by decide) rfl rfl (by decide) (fun w' => x_move h.k _ rfl rfl) (fun a h => ?_)
              refine d_split (t := 65) h rfl (fun hB2 => ?_) (fun hB2 => ?_)
              · rw [if_pos (of_decide_eq_true hB2)] at hz103
                obtain ⟨x104, h105, hz103⟩ := bsome hz103
                refine d_takeY h HS HN 3 rfl (by kernel_rfl) (by kernel_rfl) (by kernel_rfl) (by kernel_rfl) (by kernel_rfl) (by rw [g_want h rfl rfl rfl rfl hB2]; rfl) rfl (by decide) (fun w' hw => x_ldR h.k rfl ag_A32_uint8 rfl k84 ((hq89).len.trans (by rw [hl87]; rfl)) (hw.range0 (i := 0) rfl)) (fun a h => ?_)
                refine d_takeP h (fun _ => HS) HN 4 rfl (by kernel_rfl) (by kernel_rfl) (by kernel_rfl) (by decide) (by rw [g_want h rfl rfl rfl rfl hB2]; rfl) rfl (by decide) (fun w' => x_move h.k _ rfl rfl) (fun a h => ?_)
                refine d_alone 5 rfl (by kernel_rfl) (fun K hK => ?_)
                refine g_yes (j := 2) (t := 65) h rfl rfl rfl rfl hB2 ?_
                have hX := chatelaineref24_Root_ok Fu (S0 := snapAll _) Aa0 ca0 a0 (hsa0.mono (h.m.leAll (i := 1) rfl)) _ h105 _ h.startAll
                refine q_callX hX h rfl rfl rfl (by decide) Try.func43 rfl rfl rfl (fun a w v L1 S1 hR hb1 h => ?_)
                obtain ⟨k107, rfl, rfl, hv108, _⟩ := hR
                obtain ⟨hs109, hl110⟩ := hv108
                have hq111 := hs109.fl (S' := S0) fl_8
                refine hK _ _ (fun _ _ => HS.ext hb1) ?_
                replace HS := HS.ext hb1
                clear hK
                refine d_takeP h (fun _ => HS) HN 6 rfl (by kernel_rfl) (by kernel_rfl) (by kernel_rfl) (by decide) (by rw [g_want h rfl rfl rfl rfl hB2]; rfl) rfl (by decide) (fun w' => x_eqlA8 (X := k84) (Y := k107) h.k rfl Try.underlying40 Try.underlying5 sz_uint8 gda_A32_uint8 rfl rfl hq89 hq111 hl87 hl110) (fun a h => ?_)
                refine d_takeP h (fun _ => HS) HN 7 rfl (by kernel_rfl) (by kernel_rfl) (by kernel_rfl) (by decide) rfl rfl (by decide) (fun w' => x_pick (v := .bool z102) (u' := undef) h.k rfl rfl (fun _ => by rw [← Option.some.inj hz103]; rfl) (fun hh => absurd (hB2.symm.trans hh) (by decide))) (fun a h => ?_)
                refine d_takeP h (fun _ => HS) HN 8 rfl (by kernel_rfl) (by kernel_rfl) (by kernel_rfl) (by decide) rfl rfl (by decide) (fun w' => x_assign h.k _ rfl rfl) (fun a h => ?_)
                refine d_done (by kernel_rfl) (HE _ _ ?_) _
                refine e_thenN ?_
                have h := h.pick [1] (by decide) rfl
                exact h.has (by exact ⟨rfl, trivial⟩)
              · rw [if_neg (of_decide_eq_false hB2)] at hz103
                refine d_takeNP h (fun _ => HS) HN 3 rfl (by kernel_rfl) (by kernel_rfl) (by kernel_rfl) (by decide) (by rw [g_want h rfl rfl rfl rfl hB2]; rfl) rfl (by decide) (fun a h => ?_)
                refine d_takeNP h (fun _ => HS) HN 4 rfl (by kernel_rfl) (by kernel_rfl) (by kernel_rfl) (by decide) (by rw [g_want h rfl rfl rfl rfl hB2]; rfl) rfl (by decide) (fun a h => ?_)
                refine d_takeNP h (fun _ => HS) HN 5 rfl (by kernel_rfl) (by kernel_rfl) (by kernel_rfl) (by decide) (by rw [g_want h rfl rfl rfl rfl hB2]; rfl) rfl (by decide) (fun a h => ?_)
                refine d_takeNP h (fun _ => HS) HN 6 rfl (by kernel_rfl) (by kernel_rfl) (by kernel_rfl) (by decide) (by rw [g_want h rfl rfl rfl rfl hB2]; rfl) rfl (by decide) (fun a h => ?_)
                refine d_takeP h (fun _ => HS) HN 7 rfl (by kernel_rfl) (by kernel_rfl) (by kernel_rfl) (by decide) rfl rfl (by decide) (fun w' => x_pick (v := .bool z102) (u' := undef) h.k rfl rfl (fun hh => absurd (hB2.symm.trans hh) (by decide)) (fun _ => by rw [← Option.some.inj hz103]; rfl)) (fun a h => ?_)
                refine d_takeP h (fun _ => HS) HN 8 rfl (by kernel_rfl) (by kernel_rfl) (by kernel_rfl) (by decide) rfl rfl (by decide) (fun w' => x_assign h.k _ rfl rfl) (fun a h => ?_)
                refine d_done (by kernel_rfl) (HE _ _ ?_) _
                refine e_thenN ?_
                have h := h.pick [1] (by decide) rfl
                exact h.has (by exact ⟨rfl, trivial⟩)
            refine e_thenN ?_
            refine wp_ret ?_
            rw [← Option.some.inj hf]
            exact r_ret1 h rfl (rv_tmp h rfl) ⟨_, [], _, rfl, ⟨rfl, rfl, trivial⟩, rfl, (Up.refl _ _ _), h.m⟩
end Go.Proofs.Ytlgcfnbhnpnkiaa
