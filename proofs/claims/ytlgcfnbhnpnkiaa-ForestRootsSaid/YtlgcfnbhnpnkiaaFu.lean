/- Fu: Go functions as plain functions, and that they are so (written by xt.py). -/
import Derived.Test.YtlgcfnbhnpnkiaaFs
set_option linter.unusedVariables false
set_option linter.unusedSimpArgs false
namespace Go.Proofs.Ytlgcfnbhnpnkiaa
open Go.RowKit
def chatelainelaw24_ForestOrder_l0 (Fu : Nat) (x57 : List (List UInt8)) (x159 : Int × Int × Int × (List UInt8) × (List (Int × Int)) × (List (List UInt8)) × (List (List UInt8))) : Nat → Int → Option (Sum Bool Unit)
  | 0, _ => none
  | k + 1, x203 => if x203 < (x159.2.2.2.2.2.2.length : Int) then ((idx x159.2.2.2.2.2.2 x203).bind fun x210 => (bnd 32 0 (32 : Int)).bind fun y225 => (idx x57 x203).bind fun x234 => (chatelaineref01_Same Fu ((x210.take y225.2).drop y225.1) x234).bind fun x255 => if (!x255) = true then (some (.inl false)) else (chatelainelaw24_ForestOrder_l0 Fu x57 x159 k (w64 (x203 + 1)))) else (some (.inr ()))
def chatelainelaw24_ForestOrder (Fu : Nat) (a0 : List (Int × Int × Int × (List UInt8) × (List (Int × Int)) × (List (List UInt8)) × (List (List UInt8)))) (a1 : UInt8) : Option Bool :=
  (chatelainelaw24_awake Fu).bind fun x1 => if (!x1) = true then (some false) else ((chatelainelaw24_Few Fu a0).bind fun x4 => (if (!x4) = true then some true else (chatelaineref24_Right Fu a0).bind fun x10 => some (!x10)).bind fun z8 => if (z8 || (decide ((a0.length : Int) = 0))) = true then (some true) else ((remI (a1.toNat : Int) (a0.length : Int)).bind fun x15 => (idx a0 x15).bind fun x18 => (app 32 ([]) x18.2.2.2.2.2.2).bind fun x57 => (idx a0 x15).bind fun x70 => (forest_Sum Fu x70).bind fun x109 => (forest_Root Fu a0).bind fun x119 => (sub a0 x15 (w64 (x15 + 1))).bind fun x129 => (forest_Root Fu x129).bind fun x139 => if (((((decide (x109.2 ≠ 0)) || (decide (x119.2 ≠ 0))) || (decide (x139.2 ≠ 0))) || (!(decide (x139.1 = x109.1)))) || ((decide ((a0.length : Int) = 1)) && (!(decide (x119.1 = x109.1))))) = true then (some false) else ((idx a0 x15).bind fun x159 => (chatelainelaw24_ForestOrder_l0 Fu x57 x159 Fu 0).bind fun o => match o with | .inl r258 => some r258 | .inr _ => some true)))
set_option maxRecDepth 100000 in
set_option maxHeartbeats 2000000 in
theorem chatelainelaw24_ForestOrder_ok (Fu : Nat) {S0 : Snap} (Aa0 : Option Addr) (ca0 : Nat) (a0 : List (Int × Int × Int × (List UInt8) × (List (Int × Int)) × (List (List UInt8)) × (List (List UInt8)))) (hsa0 : slS (tyP tyI (tyP tyI (tyP tyI (tyP (tyL ty8) (tyP (tyL (tyP tyI tyI)) (tyP (tyL (tyL ty8)) (tyL (tyA 32 ty8)))))))) S0 Aa0 ca0 a0) (a1 : UInt8) (r : Bool) (hf : chatelainelaw24_ForestOrder Fu a0 a1 = some r) (w0 : World) (hm : Mem w0 (ownL ([] ++ [.sn S0])) ([] ++ [.sn S0]) w0) :
    Calls Try.prog 10 #[.slice Aa0 a0.length ca0, .int .u8 (a1.toNat : Int)] w0 (Ret w0 S0 [] (fun v L1 S1 => v = .bool r ∧ L1 = [] ∧ True)) := by
  unfold chatelainelaw24_ForestOrder at hf
  refine c_enterM Try.func10 rfl 108 rfl (by simp) _ hm _ rfl (fun a h => ?_)
  refine c_rs ?_ -- region 0
  refine s_assign h rfl _ rfl rfl (by decide) rfl (fun a h => ?_)
  refine l_end ?_
  refine wp_seq ?_
  refine c_rs ?_ -- region 1
  obtain ⟨x1, h2, hf⟩ := bsome hf
  have hX := chatelainelaw24_awake_ok Fu (S0 := snapAll _)  _ h2 _ h.startAll
  refine q_callX hX h rfl rfl rfl (by decide) Try.func35 rfl rfl rfl (fun a w v L1 S1 hR hb1 h => ?_)
  obtain ⟨rfl, rfl, _⟩ := hR
  refine s_x h rfl rfl (by decide) (x_not h.k rfl rfl) (fun a h => ?_)
  refine l_end ?_
  refine c_cond h rfl (fun hb => ?_) (fun hb => ?_)
  · rw [if_pos hb] at hf
    refine c_rs ?_ -- region 2
    refine s_assign h rfl _ rfl rfl (by decide) rfl (fun a h => ?_)
    refine l_end ?_
    refine wp_ret ?_
    refine e_thenR ?_
    rw [← Option.some.inj hf]
    exact r_ret1 h rfl (rv_tmp h rfl) ⟨_, [], _, rfl, ⟨rfl, rfl, trivial⟩, rfl, (Up.refl _ _ _), h.m⟩
  · rw [if_neg (by rw [hb]; decide)] at hf
    refine wp_skip ?_
    refine e_thenN ?_
    refine wp_seq ?_
    refine c_rs ?_ -- region 3
    refine s_move h rfl _ rfl rfl (by decide) rfl (fun a h => ?_)
    obtain ⟨x4, h5, hf⟩ := bsome hf
    have hX := chatelainelaw24_Few_ok Fu (S0 := snapAll _) Aa0 ca0 a0 (hsa0.mono (h.m.leAll (i := 0) rfl)) _ h5 _ h.startAll
    refine q_callX hX h rfl rfl rfl (by decide) Try.func36 rfl rfl rfl (fun a w v L1 S1 hR hb1 h => ?_)
    obtain ⟨rfl, rfl, _⟩ := hR
    refine s_x h rfl rfl (by decide) (x_not h.k rfl rfl) (fun a h => ?_)
    refine s_move h rfl _ rfl rfl (by decide) rfl (fun a h => ?_)
    obtain ⟨z8, hz7, hf⟩ := bsome hf
    refine q_grp h 4 (t := 20) 24 z8 rfl (fun hB3 => ?_) (fun hB3 => ?_) (fun a w h => ?_)
    · refine g_no h rfl rfl rfl rfl hB3 rfl (by decide) (fun a h => ?_)
      refine g_no h rfl rfl rfl rfl hB3 rfl (by decide) (fun a h => ?_)
      refine g_no h rfl rfl rfl rfl hB3 rfl (by decide) (fun a h => ?_)
      rw [if_pos hB3] at hz7
      refine s_x h rfl rfl (by decide) (x_pick (u' := undef) h.k rfl rfl (fun _ => rfl) (fun hh => absurd (hB3.symm.trans hh) (by decide))) (fun a h => ?_)
      exact (h.mid 3 rfl).val (by rw [Option.some.inj hz7])
    · rw [if_neg (by rw [hB3]; decide)] at hz7
      refine g_yes h rfl rfl rfl rfl hB3 ?_
      refine s_move h rfl _ rfl rfl (by decide) rfl (fun a h => ?_)
      refine g_yes h rfl rfl rfl rfl hB3 ?_
      obtain ⟨x10, h11, hz7⟩ := bsome hz7
      have hX := chatelaineref24_Right_ok Fu (S0 := snapAll _) Aa0 ca0 a0 (hsa0.mono (h.m.leAll (i := 0) rfl)) _ h11 _ h.startAll
      refine q_callX hX h rfl rfl rfl (by decide) Try.func42 rfl rfl rfl (fun a w v L1 S1 hR hb1 h => ?_)
      obtain ⟨rfl, rfl, _⟩ := hR
      refine g_yes h rfl rfl rfl rfl hB3 ?_
      refine s_x h rfl rfl (by decide) (x_not h.k rfl rfl) (fun a h => ?_)
      refine s_x h rfl rfl (by decide) (x_pick (u' := undef) h.k rfl rfl (fun hh => absurd (hB3.symm.trans hh) (by decide)) (fun _ => rfl)) (fun a h => ?_)
      exact (h.mid 3 rfl).val (by rw [Option.some.inj hz7])
    refine s_move h rfl _ rfl rfl (by decide) rfl (fun a h => ?_)
    refine q_grp h 4 (t := 25) 29 (z8 || (decide ((a0.length : Int) = 0))) rfl (fun hB8 => ?_) (fun hB8 => ?_) (fun a w h => ?_)
    · refine g_no h rfl rfl rfl rfl hB8 rfl (by decide) (fun a h => ?_)
      refine g_no h rfl rfl rfl rfl hB8 rfl (by decide) (fun a h => ?_)
      refine g_no h rfl rfl rfl rfl hB8 rfl (by decide) (fun a h => ?_)
      refine s_x h rfl rfl (by decide) (x_pick (u' := undef) h.k rfl rfl (fun _ => rfl) (fun hh => absurd (hB8.symm.trans hh) (by decide))) (fun a h => ?_)
      exact (h.mid 3 rfl).val (by first | rfl | (rw [hB8]; first | rfl | simp))
    · refine g_yes h rfl rfl rfl rfl hB8 ?_
      refine s_move h rfl _ rfl rfl (by decide) rfl (fun a h => ?_)
      refine g_yes h rfl rfl rfl rfl hB8 ?_
      refine s_x h rfl rfl (by decide) (x_len h.k rfl Try.underlying61 rfl) (fun a h => ?_)
      refine g_yes h rfl rfl rfl rfl hB8 ?_
      refine s_x h rfl rfl (by decide) (x_bin h.k rfl rfl rfl ib_eql) (fun a h => ?_)
      refine s_x h rfl rfl (by decide) (x_pick (u' := undef) h.k rfl rfl (fun hh => absurd (hB8.symm.trans hh) (by decide)) (fun _ => rfl)) (fun a h => ?_)
      exact (h.mid 3 rfl).val (by first | rfl | (rw [hB8]; first | rfl | simp))
    refine l_end ?_
    refine c_cond h rfl (fun hb => ?_) (fun hb => ?_)
    · rw [if_pos hb] at hf
      refine c_rs ?_ -- region 4
      refine s_assign h rfl _ rfl rfl (by decide) rfl (fun a h => ?_)
      refine l_end ?_
      refine wp_ret ?_
      refine e_thenR ?_
      rw [← Option.some.inj hf]
      exact r_ret1 h rfl (rv_tmp h rfl) ⟨_, [], _, rfl, ⟨rfl, rfl, trivial⟩, rfl, (Up.refl _ _ _), h.m⟩
    · rw [if_neg (by rw [hb]; decide)] at hf
      refine wp_skip ?_
      refine e_thenN ?_
      refine c_rs ?_ -- region 5
      refine s_move h rfl _ rfl rfl (by decide) rfl (fun a h => ?_)
      refine s_x h rfl rfl (by decide) (x_convE h.k rfl Try.underlying5 Try.underlying3 rfl (nw64 (u8_r _))) (fun a h => ?_)
      refine s_move h rfl _ rfl rfl (by decide) rfl (fun a h => ?_)
      refine s_x h rfl rfl (by decide) (x_len h.k rfl Try.underlying61 rfl) (fun a h => ?_)
      obtain ⟨x15, h16, hf⟩ := bsome hf
      refine s_x h rfl rfl (by decide) (x_bin h.k rfl rfl rfl (ib_rem_ h16)) (fun a h => ?_)
      refine s_assign h rfl _ rfl rfl (by decide) rfl (fun a h => ?_)
      refine l_end ?_
      refine c_rs ?_ -- region 6
      refine q_bslice0 h rfl rfl rfl (by decide) Try.underlying39 sz_A32_uint8 (fun a w A17 h => ?_)
      refine s_move h rfl _ rfl rfl (by decide) rfl (fun a h => ?_)
      refine s_move h rfl _ rfl rfl (by decide) rfl (fun a h => ?_)
      obtain ⟨x18, h22, hf⟩ := bsome hf
      obtain ⟨m19, hi23, hm24, hx25⟩ := idx_some h22
      obtain ⟨b20, off21, k26, hA27, hu28, hc29⟩ := (hsa0).at (by decide) hx25 (h.m.snOK (i := 1) rfl)
      obtain ⟨k30, k31, rfl, ⟨rfl, hr32⟩, ⟨k33, k34, rfl, ⟨rfl, hr35⟩, ⟨k36, k37, rfl, ⟨rfl, hr38⟩, ⟨k39, k40, rfl, ⟨A41, c42, rfl, hs43⟩, ⟨k44, k45, rfl, ⟨A46, c47, rfl, hs48⟩, ⟨k49, k50, rfl, ⟨A51, c52, rfl, hs53⟩, ⟨A54, c55, rfl, hs56⟩⟩⟩⟩⟩⟩⟩ := hu28
      refine s_x h rfl rfl (by decide) (x_iaddrE h.k rfl Try.underlying61 sz_api_Space hA27 rfl rfl hi23 hm24) (fun a h => ?_)
      refine s_x h rfl rfl (by decide) (x_faddr h.k rfl Try.underlying66 rfl sz_SA32_uint8 rfl) (fun a h => ?_)
      refine s_x h rfl rfl (by decide) (x_ld h.k rfl Try.underlying39 rfl rfl (hc29 _ (h.m.snOK (i := 1) rfl) 6 _ rfl)) (fun a h => ?_)
      obtain ⟨x57, h58, hf⟩ := bsome hf
      obtain ⟨_, _, vs59, hrd60, hrp61⟩ := id hs56
      refine q_append (T := tyA 32 ty8) (S := S0) h rfl rfl rfl (by decide) Try.underlying39 zb_A32_uint8 rfl (by decide) rfl 0 rfl (show reps (tyA 32 ty8) S0 [] [] from rfl) rfl hrp61 (hrd60 _ (h.m.snOK (i := 1) rfl)) h58 (fun a w A62 c63 cs64 hq65 h => ?_)
      obtain ⟨S66, le67, up68, hs69, h⟩ := q_freeze (T := tyA 32 ty8) h (Up.refl _ _ _) hq65
      refine s_assign h rfl _ rfl rfl (by decide) rfl (fun a h => ?_)
      refine l_end ?_
      refine c_rs ?_ -- region 7
      refine s_move h rfl _ rfl rfl (by decide) rfl (fun a h => ?_)
      refine s_move h rfl _ rfl rfl (by decide) rfl (fun a h => ?_)
      obtain ⟨x70, h74, hf⟩ := bsome hf
      obtain ⟨m71, hi75, hm76, hx77⟩ := idx_some h74
      obtain ⟨b72, off73, k78, hA79, hu80, hc81⟩ := ((hsa0.mono le67)).at (by decide) hx77 (h.m.snOK (i := 0) rfl)
      obtain ⟨k82, k83, rfl, ⟨rfl, hr84⟩, ⟨k85, k86, rfl, ⟨rfl, hr87⟩, ⟨k88, k89, rfl, ⟨rfl, hr90⟩, ⟨k91, k92, rfl, ⟨A93, c94, rfl, hs95⟩, ⟨k96, k97, rfl, ⟨A98, c99, rfl, hs100⟩, ⟨k101, k102, rfl, ⟨A103, c104, rfl, hs105⟩, ⟨A106, c107, rfl, hs108⟩⟩⟩⟩⟩⟩⟩ := hu80
      refine s_x h rfl rfl (by decide) (x_iaddrE h.k rfl Try.underlying61 sz_api_Space hA79 rfl rfl hi75 hm76) (fun a h => ?_)
      refine s_x h rfl rfl (by decide) (x_ldR h.k rfl ag_api_Space rfl ([.int .i64 x70.1, .int .i64 x70.2.1, .int .i64 x70.2.2.1, .slice A93 x70.2.2.2.1.length c94, .slice A98 x70.2.2.2.2.1.length c99, .slice A103 x70.2.2.2.2.2.1.length c104, .slice A106 x70.2.2.2.2.2.2.length c107]) rfl (hc81 _ (h.m.snOK (i := 0) rfl))) (fun a h => ?_)
      obtain ⟨x109, h110, hf⟩ := bsome hf
      have hX := forest_Sum_ok Fu (S0 := snapAll _) ([.int .i64 x70.1, .int .i64 x70.2.1, .int .i64 x70.2.2.1, .slice A93 x70.2.2.2.1.length c94, .slice A98 x70.2.2.2.2.1.length c99, .slice A103 x70.2.2.2.2.2.1.length c104, .slice A106 x70.2.2.2.2.2.2.length c107]) x70 ((tyP tyI (tyP tyI (tyP tyI (tyP (tyL ty8) (tyP (tyL (tyP tyI tyI)) (tyP (tyL (tyL ty8)) (tyL (tyA 32 ty8)))))))).mono (h.m.leAll (i := 0) rfl) (show (tyP tyI (tyP tyI (tyP tyI (tyP (tyL ty8) (tyP (tyL (tyP tyI tyI)) (tyP (tyL (tyL ty8)) (tyL (tyA 32 ty8)))))))).rep S66 ([.int .i64 x70.1, .int .i64 x70.2.1, .int .i64 x70.2.2.1, .slice A93 x70.2.2.2.1.length c94, .slice A98 x70.2.2.2.2.1.length c99, .slice A103 x70.2.2.2.2.2.1.length c104, .slice A106 x70.2.2.2.2.2.2.length c107]) x70 from ⟨[.int .i64 x70.1], [.int .i64 x70.2.1, .int .i64 x70.2.2.1, .slice A93 x70.2.2.2.1.length c94, .slice A98 x70.2.2.2.2.1.length c99, .slice A103 x70.2.2.2.2.2.1.length c104, .slice A106 x70.2.2.2.2.2.2.length c107], rfl, ⟨rfl, hr84⟩, ⟨[.int .i64 x70.2.1], [.int .i64 x70.2.2.1, .slice A93 x70.2.2.2.1.length c94, .slice A98 x70.2.2.2.2.1.length c99, .slice A103 x70.2.2.2.2.2.1.length c104, .slice A106 x70.2.2.2.2.2.2.length c107], rfl, ⟨rfl, hr87⟩, ⟨[.int .i64 x70.2.2.1], [.slice A93 x70.2.2.2.1.length c94, .slice A98 x70.2.2.2.2.1.length c99, .slice A103 x70.2.2.2.2.2.1.length c104, .slice A106 x70.2.2.2.2.2.2.length c107], rfl, ⟨rfl, hr90⟩, ⟨[.slice A93 x70.2.2.2.1.length c94], [.slice A98 x70.2.2.2.2.1.length c99, .slice A103 x70.2.2.2.2.2.1.length c104, .slice A106 x70.2.2.2.2.2.2.length c107], rfl, ⟨_, _, rfl, hs95⟩, ⟨[.slice A98 x70.2.2.2.2.1.length c99], [.slice A103 x70.2.2.2.2.2.1.length c104, .slice A106 x70.2.2.2.2.2.2.length c107], rfl, ⟨_, _, rfl, hs100⟩, ⟨[.slice A103 x70.2.2.2.2.2.1.length c104], [.slice A106 x70.2.2.2.2.2.2.length c107], rfl, ⟨_, _, rfl, hs105⟩, ⟨_, _, rfl, hs108⟩⟩⟩⟩⟩⟩⟩)) _ h110 _ h.startAll
      refine q_callX hX h rfl rfl rfl (by decide) Try.func37 rfl rfl rfl (fun a w v L1 S1 hR hb1 h => ?_)
      obtain ⟨k112, rfl, rfl, hv113, hr116, _⟩ := hR
      obtain ⟨hs114, hl115⟩ := hv113
      have hq117 := hs114.fl (S' := S66) fl_8
      refine s_move h rfl _ rfl rfl (by decide) rfl (fun a h => ?_)
      refine s_x h rfl rfl (by decide) (x_ext h.k rfl rfl rfl) (fun a h => ?_)
      refine s_x h rfl rfl (by decide) (x_ext h.k rfl rfl rfl) (fun a h => ?_)
      refine s_alloc h rfl rfl rfl (by decide) zi_A32_uint8 rfl (fun a w g118 h => ?_)
      refine s_stW h rfl rfl rfl ag_A32_uint8 rfl (es := k112) rfl ((hq117).len.trans (by rw [hl115]; rfl)) (hq117).one 0 rfl (by first | rfl | simp_all) (fun a w h => ?_)
      refine s_assign h rfl _ rfl rfl (by decide) rfl (fun a h => ?_)
      refine l_end ?_
      refine c_rs ?_ -- region 8
      refine s_move h rfl _ rfl rfl (by decide) rfl (fun a h => ?_)
      obtain ⟨x119, h120, hf⟩ := bsome hf
      have hX := forest_Root_ok Fu (S0 := snapAll _) Aa0 ca0 a0 ((hsa0.mono le67).mono (h.m.leAll (i := 1) rfl)) _ h120 _ h.startAll
      refine q_callX hX h rfl rfl rfl (by decide) Try.func40 rfl rfl rfl (fun a w v L1 S1 hR hb1 h => ?_)
      obtain ⟨k122, rfl, rfl, hv123, hr126, _⟩ := hR
      obtain ⟨hs124, hl125⟩ := hv123
      have hq127 := hs124.fl (S' := S66) fl_8
      refine s_move h rfl _ rfl rfl (by decide) rfl (fun a h => ?_)
      refine s_x h rfl rfl (by decide) (x_ext h.k rfl rfl rfl) (fun a h => ?_)
      refine s_x h rfl rfl (by decide) (x_ext h.k rfl rfl rfl) (fun a h => ?_)
      refine s_alloc h rfl rfl rfl (by decide) zi_A32_uint8 rfl (fun a w g128 h => ?_)
      refine s_stW h rfl rfl rfl ag_A32_uint8 rfl (es := k122) rfl ((hq127).len.trans (by rw [hl125]; rfl)) (hq127).one 0 rfl (by first | rfl | simp_all) (fun a w h => ?_)
      refine s_assign h rfl _ rfl rfl (by decide) rfl (fun a h => ?_)
      refine l_end ?_
      refine c_rs ?_ -- region 9
      refine s_move h rfl _ rfl rfl (by decide) rfl (fun a h => ?_)
      refine s_move h rfl _ rfl rfl (by decide) rfl (fun a h => ?_)
      refine s_move h rfl _ rfl rfl (by decide) rfl (fun a h => ?_)
      refine s_x h rfl rfl (by decide) (x_bin h.k rfl rfl rfl (ib_add rfl)) (fun a h => ?_)
      obtain ⟨x129, h130, hf⟩ := bsome hf
      obtain ⟨m131, n132, hi133, hi134, hm135, hm136, hr137⟩ := sub_some h130
      have hs138 := slS.sub ((hsa0.mono le67)) hm135 hm136 (Nat.le_trans hm136 ((hsa0.mono le67)).1) (Nat.le_refl _) hr137
      refine s_x h rfl rfl (by decide) (x_sliceE h.k rfl Try.underlying61 sz_api_Space rfl ca0 hr137 (bd_some rfl hi133) (bd_some rfl hi134) (bd_none rfl) (by intro hh; cases hh) hm135 hm136 (Nat.le_trans hm136 ((hsa0.mono le67)).1) (Nat.le_refl _)) (fun a h => ?_)
      obtain ⟨x139, h140, hf⟩ := bsome hf
      have hX := forest_Root_ok Fu (S0 := snapAll _) (sA Aa0 ca0 m131 7) (ca0 - m131) x129 (hs138.mono (h.m.leAll (i := 2) rfl)) _ h140 _ h.startAll
      refine q_callX hX h rfl rfl rfl (by decide) Try.func40 rfl rfl rfl (fun a w v L1 S1 hR hb1 h => ?_)
      obtain ⟨k142, rfl, rfl, hv143, hr146, _⟩ := hR
      obtain ⟨hs144, hl145⟩ := hv143
      have hq147 := hs144.fl (S' := S66) fl_8
      refine s_move h rfl _ rfl rfl (by decide) rfl (fun a h => ?_)
      refine s_x h rfl rfl (by decide) (x_ext h.k rfl rfl rfl) (fun a h => ?_)
      refine s_x h rfl rfl (by decide) (x_ext h.k rfl rfl rfl) (fun a h => ?_)
      refine s_alloc h rfl rfl rfl (by decide) zi_A32_uint8 rfl (fun a w g148 h => ?_)
      refine s_stW h rfl rfl rfl ag_A32_uint8 rfl (es := k142) rfl ((hq147).len.trans (by rw [hl145]; rfl)) (hq147).one 0 rfl (by first | rfl | simp_all) (fun a w h => ?_)
      refine s_assign h rfl _ rfl rfl (by decide) rfl (fun a h => ?_)
      refine l_end ?_
      refine wp_seq ?_
      refine c_rs ?_ -- region 10
      refine s_move h rfl _ rfl rfl (by decide) rfl (fun a h => ?_)
      refine s_x h rfl rfl (by decide) (x_bin h.k rfl rfl rfl ib_neq) (fun a h => ?_)
      refine s_move h rfl _ rfl rfl (by decide) rfl (fun a h => ?_)
      refine q_grp h 3 (t := 66) 69 ((decide (x109.2 ≠ 0)) || (decide (x119.2 ≠ 0))) rfl (fun hB2 => ?_) (fun hB2 => ?_) (fun a w h => ?_)
      · refine g_no h rfl rfl rfl rfl hB2 rfl (by decide) (fun a h => ?_)
        refine g_no h rfl rfl rfl rfl hB2 rfl (by decide) (fun a h => ?_)
        refine s_x h rfl rfl (by decide) (x_pick (u' := undef) h.k rfl rfl (fun _ => rfl) (fun hh => absurd (hB2.symm.trans hh) (by decide))) (fun a h => ?_)
        exact (h.mid 2 rfl).val (by first | rfl | (rw [hB2]; first | rfl | simp))
      · refine g_yes h rfl rfl rfl rfl hB2 ?_
        refine s_move h rfl _ rfl rfl (by decide) rfl (fun a h => ?_)
        refine g_yes h rfl rfl rfl rfl hB2 ?_
        refine s_x h rfl rfl (by decide) (x_bin h.k rfl rfl rfl ib_neq) (fun a h => ?_)
        refine s_x h rfl rfl (by decide) (x_pick (u' := undef) h.k rfl rfl (fun hh => absurd (hB2.symm.trans hh) (by decide)) (fun _ => rfl)) (fun a h => ?_)
        exact (h.mid 2 rfl).val (by first | rfl | (rw [hB2]; first | rfl | simp))
      refine s_move h rfl _ rfl rfl (by decide) rfl (fun a h => ?_)
      refine q_grp h 3 (t := 70) 73 (((decide (x109.2 ≠ 0)) || (decide (x119.2 ≠ 0))) || (decide (x139.2 ≠ 0))) rfl (fun hB6 => ?_) (fun hB6 => ?_) (fun a w h => ?_)
      · refine g_no h rfl rfl rfl rfl hB6 rfl (by decide) (fun a h => ?_)
        refine g_no h rfl rfl rfl rfl hB6 rfl (by decide) (fun a h => ?_)
        refine s_x h rfl rfl (by decide) (x_pick (u' := undef) h.k rfl rfl (fun _ => rfl) (fun hh => absurd (hB6.symm.trans hh) (by decide))) (fun a h => ?_)
        exact (h.mid 2 rfl).val (by first | rfl | (rw [hB6]; first | rfl | simp))
      · refine g_yes h rfl rfl rfl rfl hB6 ?_
        refine s_move h rfl _ rfl rfl (by decide) rfl (fun a h => ?_)
        refine g_yes h rfl rfl rfl rfl hB6 ?_
        refine s_x h rfl rfl (by decide) (x_bin h.k rfl rfl rfl ib_neq) (fun a h => ?_)
        refine s_x h rfl rfl (by decide) (x_pick (u' := undef) h.k rfl rfl (fun hh => absurd (hB6.symm.trans hh) (by decide)) (fun _ => rfl)) (fun a h => ?_)
        exact (h.mid 2 rfl).val (by first | rfl | (rw [hB6]; first | rfl | simp))
      refine s_move h rfl _ rfl rfl (by decide) rfl (fun a h => ?_)
      refine q_grp h 4 (t := 74) 78 ((((decide (x109.2 ≠ 0)) || (decide (x119.2 ≠ 0))) || (decide (x139.2 ≠ 0))) || (!(decide (x139.1 = x109.1)))) rfl (fun hB10 => ?_) (fun hB10 => ?_) (fun a w h => ?_)
      · refine g_no h rfl rfl rfl rfl hB10 rfl (by decide) (fun a h => ?_)
        refine g_no h rfl rfl rfl rfl hB10 rfl (by decide) (fun a h => ?_)
        refine g_no h rfl rfl rfl rfl hB10 rfl (by decide) (fun a h => ?_)
        refine s_x h rfl rfl (by decide) (x_pick (u' := undef) h.k rfl rfl (fun _ => rfl) (fun hh => absurd (hB10.symm.trans hh) (by decide))) (fun a h => ?_)
        exact (h.mid 3 rfl).val (by first | rfl | (rw [hB10]; first | rfl | simp))
      · refine g_yes h rfl rfl rfl rfl hB10 ?_
        refine s_x h rfl rfl (by decide) (x_ldR h.k rfl ag_A32_uint8 rfl k142 ((hq147).len.trans (by rw [hl145]; rfl)) (h.m.range0 (i := 0) rfl)) (fun a h => ?_)
        refine g_yes h rfl rfl rfl rfl hB10 ?_
        refine s_x h rfl rfl (by decide) (x_ldR h.k rfl ag_A32_uint8 rfl k112 ((hq117).len.trans (by rw [hl115]; rfl)) (h.m.range0 (i := 2) rfl)) (fun a h => ?_)
        refine g_yes h rfl rfl rfl rfl hB10 ?_
        refine s_x h rfl rfl (by decide) (x_neqA8 (X := k142) (Y := k112) h.k rfl Try.underlying40 Try.underlying5 sz_uint8 gda_A32_uint8 rfl rfl hq147 hq117 hl145 hl115) (fun a h => ?_)
        refine s_x h rfl rfl (by decide) (x_pick (u' := undef) h.k rfl rfl (fun hh => absurd (hB10.symm.trans hh) (by decide)) (fun _ => rfl)) (fun a h => ?_)
        exact (h.mid 3 rfl).val (by first | rfl | (rw [hB10]; first | rfl | simp))
      refine s_move h rfl _ rfl rfl (by decide) rfl (fun a h => ?_)
      refine q_grp h 9 (t := 79) 88 (((((decide (x109.2 ≠ 0)) || (decide (x119.2 ≠ 0))) || (decide (x139.2 ≠ 0))) || (!(decide (x139.1 = x109.1)))) || ((decide ((a0.length : Int) = 1)) && (!(decide (x119.1 = x109.1))))) rfl (fun hB15 => ?_) (fun hB15 => ?_) (fun a w h => ?_)
      · refine g_no h rfl rfl rfl rfl hB15 rfl (by decide) (fun a h => ?_)
        refine g_no h rfl rfl rfl rfl hB15 rfl (by decide) (fun a h => ?_)
        refine g_no h rfl rfl rfl rfl hB15 rfl (by decide) (fun a h => ?_)
        refine g_no h rfl rfl rfl rfl hB15 rfl (by decide) (fun a h => ?_)
        refine g_off h rfl rfl rfl rfl rfl (by decide) (fun a h => ?_)
        refine g_off h rfl rfl rfl rfl rfl (by decide) (fun a h => ?_)
        refine g_off h rfl rfl rfl rfl rfl (by decide) (fun a h => ?_)
        refine g_no h rfl rfl rfl rfl hB15 rfl (by decide) (fun a h => ?_)
        refine s_x h rfl rfl (by decide) (x_pick (u' := undef) h.k rfl rfl (fun _ => rfl) (fun hh => absurd (hB15.symm.trans hh) (by decide))) (fun a h => ?_)
        exact (h.mid 8 rfl).val (by first | rfl | (rw [hB15]; first | rfl | simp))
      · refine g_yes h rfl rfl rfl rfl hB15 ?_
        refine s_move h rfl _ rfl rfl (by decide) rfl (fun a h => ?_)
        refine g_yes h rfl rfl rfl rfl hB15 ?_
        refine s_x h rfl rfl (by decide) (x_len h.k rfl Try.underlying61 rfl) (fun a h => ?_)
        refine g_yes h rfl rfl rfl rfl hB15 ?_
        refine s_x h rfl rfl (by decide) (x_bin h.k rfl rfl rfl ib_eql) (fun a h => ?_)
        refine g_yes h rfl rfl rfl rfl hB15 ?_
        refine s_move h rfl _ rfl rfl (by decide) rfl (fun a h => ?_)
        refine q_grp h 4 (t := 83) 87 ((decide ((a0.length : Int) = 1)) && (!(decide (x119.1 = x109.1)))) rfl (fun hB19 => ?_) (fun hB19 => ?_) (fun a w h => ?_)
        · refine g_yes h rfl rfl rfl rfl hB19 ?_
          refine s_x h rfl rfl (by decide) (x_ldR h.k rfl ag_A32_uint8 rfl k122 ((hq127).len.trans (by rw [hl125]; rfl)) (h.m.range0 (i := 1) rfl)) (fun a h => ?_)
          refine g_yes h rfl rfl rfl rfl hB19 ?_
          refine s_x h rfl rfl (by decide) (x_ldR h.k rfl ag_A32_uint8 rfl k112 ((hq117).len.trans (by rw [hl115]; rfl)) (h.m.range0 (i := 2) rfl)) (fun a h => ?_)
          refine g_yes h rfl rfl rfl rfl hB19 ?_
          refine s_x h rfl rfl (by decide) (x_neqA8 (X := k122) (Y := k112) h.k rfl Try.underlying40 Try.underlying5 sz_uint8 gda_A32_uint8 rfl rfl hq127 hq117 hl125 hl115) (fun a h => ?_)
          refine g_yes h rfl rfl rfl rfl hB15 ?_
          refine s_x h rfl rfl (by decide) (x_pick (u' := undef) h.k rfl rfl (fun _ => rfl) (fun hh => absurd (hB19.symm.trans hh) (by decide))) (fun a h => ?_)
          exact (h.mid 3 rfl).val (by first | rfl | (rw [hB19]; first | rfl | simp))
        · refine g_no h rfl rfl rfl rfl hB19 rfl (by decide) (fun a h => ?_)
          refine g_no h rfl rfl rfl rfl hB19 rfl (by decide) (fun a h => ?_)
          refine g_no h rfl rfl rfl rfl hB19 rfl (by decide) (fun a h => ?_)
          refine g_yes h rfl rfl rfl rfl hB15 ?_
          refine s_x h rfl rfl (by decide) (x_pick (u' := undef) h.k rfl rfl (fun hh => absurd (hB19.symm.trans hh) (by decide)) (fun _ => rfl)) (fun a h => ?_)
          exact (h.mid 3 rfl).val (by first | rfl | (rw [hB19]; first | rfl | simp))
        refine s_x h rfl rfl (by decide) (x_pick (u' := undef) h.k rfl rfl (fun hh => absurd (hB15.symm.trans hh) (by decide)) (fun _ => rfl)) (fun a h => ?_)
        exact (h.mid 5 rfl).val (by first | rfl | (rw [hB15]; first | rfl | simp))
      refine l_end ?_
      refine c_cond h rfl (fun hb => ?_) (fun hb => ?_)
      · rw [if_pos hb] at hf
        refine c_rs ?_ -- region 11
        refine s_assign h rfl _ rfl rfl (by decide) rfl (fun a h => ?_)
        refine l_end ?_
        refine wp_ret ?_
        refine e_thenR ?_
        rw [← Option.some.inj hf]
        exact r_ret1 h rfl (rv_tmp h rfl) ⟨_, [], _, rfl, ⟨rfl, rfl, trivial⟩, rfl, up68, (h.m.pick [3] _ (by decide) rfl)⟩
      · rw [if_neg (by rw [hb]; decide)] at hf
        refine wp_skip ?_
        refine e_thenN ?_
        refine wp_seq ?_
        refine c_rs ?_ -- region 12
        refine s_move h rfl _ rfl rfl (by decide) rfl (fun a h => ?_)
        refine s_move h rfl _ rfl rfl (by decide) rfl (fun a h => ?_)
        obtain ⟨x159, h163, hf⟩ := bsome hf
        obtain ⟨m160, hi164, hm165, hx166⟩ := idx_some h163
        obtain ⟨b161, off162, k167, hA168, hu169, hc170⟩ := ((hsa0.mono le67)).at (by decide) hx166 (h.m.snOK (i := 3) rfl)
        obtain ⟨k171, k172, rfl, ⟨rfl, hr173⟩, ⟨k174, k175, rfl, ⟨rfl, hr176⟩, ⟨k177, k178, rfl, ⟨rfl, hr179⟩, ⟨k180, k181, rfl, ⟨A182, c183, rfl, hs184⟩, ⟨k185, k186, rfl, ⟨A187, c188, rfl, hs189⟩, ⟨k190, k191, rfl, ⟨A192, c193, rfl, hs194⟩, ⟨A195, c196, rfl, hs197⟩⟩⟩⟩⟩⟩⟩ := hu169
        refine s_x h rfl rfl (by decide) (x_iaddrE h.k rfl Try.underlying61 sz_api_Space hA168 rfl rfl hi164 hm165) (fun a h => ?_)
        refine s_x h rfl rfl (by decide) (x_faddr h.k rfl Try.underlying66 rfl sz_SA32_uint8 rfl) (fun a h => ?_)
        refine s_x h rfl rfl (by decide) (x_ld h.k rfl Try.underlying39 rfl rfl (hc170 _ (h.m.snOK (i := 3) rfl) 6 _ rfl)) (fun a h => ?_)
        refine s_x h rfl rfl (by decide) (x_len h.k rfl Try.underlying39 rfl) (fun a h => ?_)
        refine s_move h rfl _ rfl rfl (by decide) rfl (fun a h => ?_)
        refine l_end ?_
        obtain ⟨o198, hl199, hf⟩ := bsome hf
        refine c_fin (fun a w => ∃ (S205 : Snap), (.inr ()) = o198 ∧ Snap.le S66 S205 ∧ Up (ownL ([] ++ [.sn S0])) w0 S0 S205 ∧ St 108 w0 (ownL ([] ++ [.sn S0])) [] [.sn S205] a w) ?_ ?_
        · refine wp_block ?_
          have h := h.pick [3] (by decide) rfl
          refine c_loop (fun m209 a w => ∃ (S200 : Snap), ∃ (x203 : Int), chatelainelaw24_ForestOrder_l0 Fu x57 x159 m209 x203 = some o198 ∧ Snap.le S66 S200 ∧ Up (ownL ([] ++ [.sn S0])) w0 S0 S200 ∧ r64 x203 ∧ St 108 w0 (ownL ([] ++ [.sn S0])) [(6, .slice A62 x57.length c63), (93, .slice A195 x159.2.2.2.2.2.2.length c196), (94, .int .i64 (x159.2.2.2.2.2.2.length : Int)), (95, .int .i64 x203)] [.sn S200] a w) Fu ⟨S66, 0, hl199, (Snap.le.refl _), up68, (show r64 0 from ⟨by decide, by decide⟩), h.has (by exact ⟨rfl, rfl, rfl, rfl, trivial⟩)⟩ (fun m209 a w hI => ?_)
          obtain ⟨S200, x203, hl208, le201, up202, hr204, h⟩ := hI
          obtain _ | m209 := m209
          · rw [chatelainelaw24_ForestOrder_l0] at hl208; cases hl208
          rw [chatelainelaw24_ForestOrder_l0] at hl208
          refine c_rs ?_ -- region 13
          refine s_x h rfl rfl (by decide) (x_bin h.k rfl rfl rfl ib_lss) (fun a h => ?_)
          refine l_end ?_
          refine c_cs h rfl (fun hb => ?_) (fun hb => ?_)
          · rw [if_pos (of_decide_eq_true hb)] at hl208
            refine wp_skip ?_
            refine e_thenN ?_
            refine wp_seq ?_
            refine wp_block ?_
            refine c_rs ?_ -- region 14
            refine s_move h rfl _ rfl rfl (by decide) rfl (fun a h => ?_)
            obtain ⟨x210, h214, hl208⟩ := bsome hl208
            obtain ⟨m211, hi215, hm216, hx217⟩ := idx_some h214
            obtain ⟨b212, off213, k218, hA219, hu220, hc221⟩ := ((hs197.mono le201)).at (by decide) hx217 (h.m.snOK (i := 0) rfl)
            obtain ⟨hs222, hl223⟩ := hu220
            refine s_x h rfl rfl (by decide) (x_iaddrE h.k rfl Try.underlying39 sz_A32_uint8 hA219 rfl rfl hi215 hm216) (fun a h => ?_)
            refine s_x h rfl rfl (by decide) (x_ldR h.k rfl ag_A32_uint8 rfl k218 ((hs222).len.trans (by rw [hl223]; rfl)) (hc221 _ (h.m.snOK (i := 0) rfl))) (fun a h => ?_)
            refine s_alloc h rfl rfl rfl (by decide) zi_A32_uint8 rfl (fun a w g224 h => ?_)
            refine s_assign h rfl _ rfl rfl (by decide) rfl (fun a h => ?_)
            refine s_stW h rfl rfl rfl ag_A32_uint8 rfl (es := k218) rfl ((hs222).len.trans (by rw [hl223]; rfl)) (hs222).one 0 rfl (by first | rfl | simp_all) (fun a w h => ?_)
            refine l_end ?_
            refine wp_seq ?_
            -- region 15 draws
            obtain ⟨y225, h226, hl208⟩ := bsome hl208
            obtain ⟨x234, h238, hl208⟩ := bsome hl208
            obtain ⟨x255, h256, hl208⟩ := bsome hl208
            refine d_start h (Mem _ _ _) 7 7 rfl (by kernel_rfl) (fun _ _ _ _ _ h => h) (fun _ h => h) (fun Q a w HE HN h HS => ?_)
            obtain ⟨hi227, hi228, hm229, hm230⟩ := bnd_some h226
            obtain ⟨n231, hn232⟩ : ∃ n, y225.2 - y225.1 = n := ⟨_, rfl⟩
            refine d_takeP h (fun _ => HS) HN 0 rfl (by kernel_rfl) (by kernel_rfl) (by kernel_rfl) (by decide) rfl rfl (by decide) (fun w' => x_viewB h.k rfl Try.underlying40 sz_uint8 rfl (bd_none (by omega)) (bd_none (by omega)) hm229 hm230 hn232) (fun a h => ?_)
            refine d_takeP h (fun _ => HS) HN 1 rfl (by kernel_rfl) (by kernel_rfl) (by kernel_rfl) (by decide) rfl rfl (by decide) (fun w' => x_move h.k _ rfl rfl) (fun a h => ?_)
            refine d_takeP h (fun _ => HS) HN 2 rfl (by kernel_rfl) (by kernel_rfl) (by kernel_rfl) (by decide) rfl rfl (by decide) (fun w' => x_move h.k _ rfl rfl) (fun a h => ?_)
            obtain ⟨m235, hi239, hm240, hx241⟩ := idx_some h238
            obtain ⟨b236, off237, k242, hA243, hu244, hc245⟩ := ((hs69.mono le201)).at (by decide) hx241 (h.m.snOK (i := 1) rfl)
            obtain ⟨hs246, hl247⟩ := hu244
            refine d_takeP h (fun _ => HS) HN 3 rfl (by kernel_rfl) (by kernel_rfl) (by kernel_rfl) (by decide) rfl rfl (by decide) (fun w' => x_iaddrE h.k rfl Try.underlying39 sz_A32_uint8 hA243 rfl rfl hi239 hm240) (fun a h => ?_)
            have hs248 : slS ty8 S200 (some ⟨b236, off237 + m235 * 32, none⟩) 32 x234 := slS_arr (fun w hw => hc245 w hw) hs246 hl247 (by decide)
            have hhs248 : x234.length = 32 := hl247
            refine d_takeP h (fun _ => HS) HN 4 rfl (by kernel_rfl) (by kernel_rfl) (by kernel_rfl) (by decide) rfl rfl (by decide) (fun w' => x_slAllE (p := x234) h.k rfl Try.underlying40 sz_uint8 rfl (by decide) hhs248) (fun a h => ?_)
            refine d_alone 5 rfl (by kernel_rfl) (fun K hK => ?_)
            obtain ⟨S249, le250, up251, hc252, h⟩ := q_freezeBox h up202
            obtain rfl : n231 = ((x210.take y225.2).drop y225.1).length := cut_len (by have := hm230; have := hl223; omega) hn232
            have hs253 := slS_vA (T := ty8) hc252 (hs222.mono le250) rfl hl223 (by decide) hm229 hm230
            have hf254 : 32 - y225.1 ≤ ((x210.take y225.2).drop y225.1).length := by have := hl223; have := hi228; simp only [List.length_drop, List.length_take]; omega
            have hX := chatelaineref01_Same_ok Fu (S0 := snapAll _) (vA g224 32 y225.1) (32 - y225.1) ((x210.take y225.2).drop y225.1) (hs253.mono (h.m.leAll (i := 0) rfl)) (some ⟨b236, off237 + m235 * 32, none⟩) 32 x234 ((hs248.mono le250).mono (h.m.leAll (i := 0) rfl)) _ h256 _ h.startAll
            refine q_callX hX h rfl rfl rfl (by decide) Try.func44 rfl rfl rfl (fun a w v L1 S1 hR hb1 h => ?_)
            obtain ⟨rfl, rfl, _⟩ := hR
            refine hK _ _ (fun _ _ => HS.ext hb1) ?_
            replace HS := HS.ext hb1
            clear hK
            refine d_takeP h (fun _ => HS) HN 6 rfl (by kernel_rfl) (by kernel_rfl) (by kernel_rfl) (by decide) rfl rfl (by decide) (fun w' => x_not h.k rfl rfl) (fun a h => ?_)
            refine d_done (by kernel_rfl) (HE _ _ ?_) _
            refine e_thenN ?_
            refine c_cond h rfl (fun hb => ?_) (fun hb => ?_)
            · rw [if_pos hb] at hl208
              refine c_rs ?_ -- region 16
              refine s_assign h rfl _ rfl rfl (by decide) rfl (fun a h => ?_)
              refine l_end ?_
              refine wp_ret ?_
              refine e_blkR ?_
              refine e_thenR ?_
              refine e_thenR ?_
              refine e_blkR ?_
              refine e_thenR ?_
              cases hl208
              try dsimp only at hf
              refine e_thenR ?_
              rw [← Option.some.inj hf]
              exact r_ret1 h rfl (rv_tmp h rfl) ⟨_, [], _, rfl, ⟨rfl, rfl, trivial⟩, rfl, up251, h.m⟩
            · rw [if_neg (by rw [hb]; decide)] at hl208
              refine wp_skip ?_
              refine e_blkN ?_
              refine e_thenN ?_
              refine c_r ?_ -- region 17
              refine s_x h rfl rfl (by decide) (x_bin h.k rfl rfl rfl (ib_add rfl)) (fun a h => ?_)
              refine s_move h rfl _ rfl rfl (by decide) rfl (fun a h => ?_)
              refine l_nil ?_
              exact e_thenN ⟨m209, Nat.lt_succ_self _, S249, w64 (x203 + 1), hl208, (le201.trans le250), up251, (w64_r _), h.has (by exact ⟨rfl, rfl, rfl, rfl, trivial⟩)⟩
          · rw [if_neg (of_decide_eq_false hb)] at hl208
            refine wp_exit ?_
            refine e_thenX ?_
            refine e_thenX ?_
            refine e_blkX ?_
            refine e_thenN ?_
            exact ⟨S200, (Option.some.inj hl208), le201, up202, h.has trivial⟩
        · rintro a w ⟨S205, rfl, le206, up207, h⟩
          try dsimp only at hf
          refine e_thenN ?_
          refine c_rs ?_ -- region 18
          refine s_assign h rfl _ rfl rfl (by decide) rfl (fun a h => ?_)
          refine l_end ?_
          refine wp_ret ?_
          rw [← Option.some.inj hf]
          exact r_ret1 h rfl (rv_tmp h rfl) ⟨_, [], _, rfl, ⟨rfl, rfl, trivial⟩, rfl, up207, h.m⟩
end Go.Proofs.Ytlgcfnbhnpnkiaa
