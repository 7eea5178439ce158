/- Sr: Go functions as plain functions, and that they are so (written by xt.py). -/
import Derived.Test.YthaakmdafnjkpaaOr
set_option linter.unusedVariables false
set_option linter.unusedSimpArgs false
namespace Go.Proofs.Ythaakmdafnjkpaa
open Go.RowKit
def chatelaineref33_numbers (Fu : Nat) (a0 : Int × Int × Int × Int × Int × (List UInt8) × (List UInt8)) : Option ((List Int)) :=
  some ([a0.1, a0.2.1, a0.2.2.1, a0.2.2.2.1, a0.2.2.2.2.1])
set_option maxRecDepth 100000 in
set_option maxHeartbeats 2000000 in
theorem chatelaineref33_numbers_ok (Fu : Nat) {S0 : Snap} (csa0 : List Value) (a0 : Int × Int × Int × Int × Int × (List UInt8) × (List UInt8)) (hsa0 : (tyP tyI (tyP tyI (tyP tyI (tyP tyI (tyP tyI (tyP (tyL ty8) (tyL ty8))))))).rep S0 csa0 a0) (r : (List Int)) (hf : chatelaineref33_numbers Fu a0 = some r) (w0 : World) (hm : Mem w0 (ownL ([] ++ [.sn S0])) ([] ++ [.sn S0]) w0) :
    Calls Try.prog 150 #[.agg csa0.toArray] w0 (Ret w0 S0 [] (fun v L1 S1 => ∃ (A27 : Option Addr), ∃ (c28 : Nat), ∃ (cs29 : List Value), v = .slice A27 r.length c28 ∧ L1 = [.row (.slice A27 r.length c28) 3 1 r.length cs29] ∧ reps tyI S1 cs29 r ∧ True)) := by
  unfold chatelaineref33_numbers at hf
  obtain ⟨k1, k2, rfl, ⟨rfl, hr3⟩, ⟨k4, k5, rfl, ⟨rfl, hr6⟩, ⟨k7, k8, rfl, ⟨rfl, hr9⟩, ⟨k10, k11, rfl, ⟨rfl, hr12⟩, ⟨k13, k14, rfl, ⟨rfl, hr15⟩, ⟨k16, k17, rfl, ⟨A18, c19, rfl, hs20⟩, ⟨A21, c22, rfl, hs23⟩⟩⟩⟩⟩⟩⟩ := hsa0
  refine c_enterM Try.func150 rfl 14 rfl (by simp) _ hm _ rfl (fun a h => ?_)
  refine c_rs ?_ -- region 0
  refine s_box h rfl rfl rfl (by decide) rfl (cs := [.int .i64 a0.1, .int .i64 a0.2.1, .int .i64 a0.2.2.1, .int .i64 a0.2.2.2.1, .int .i64 a0.2.2.2.2.1, .slice A18 a0.2.2.2.2.2.1.length c19, .slice A21 a0.2.2.2.2.2.2.length c22]) (by rfl) (fun a w g24 h => ?_)
  refine s_assign h rfl _ rfl rfl (by decide) rfl (fun a h => ?_)
  refine l_end ?_
  refine c_rs ?_ -- region 1
  refine s_x h rfl rfl (by decide) (x_faddr h.k rfl Try.underlying24 rfl sz_int rfl) (fun a h => ?_)
  refine s_x h rfl rfl (by decide) (x_ld h.k rfl Try.underlying3 rfl rfl ((h.m.cell (i := 0) rfl 0).trans rfl)) (fun a h => ?_)
  refine s_x h rfl rfl (by decide) (x_faddr h.k rfl Try.underlying24 rfl sz_int rfl) (fun a h => ?_)
  refine s_x h rfl rfl (by decide) (x_ld h.k rfl Try.underlying3 rfl rfl ((h.m.cell (i := 0) rfl 1).trans rfl)) (fun a h => ?_)
  refine s_x h rfl rfl (by decide) (x_faddr h.k rfl Try.underlying24 rfl sz_int rfl) (fun a h => ?_)
  refine s_x h rfl rfl (by decide) (x_ld h.k rfl Try.underlying3 rfl rfl ((h.m.cell (i := 0) rfl 2).trans rfl)) (fun a h => ?_)
  refine s_x h rfl rfl (by decide) (x_faddr h.k rfl Try.underlying24 rfl sz_int rfl) (fun a h => ?_)
  refine s_x h rfl rfl (by decide) (x_ld h.k rfl Try.underlying3 rfl rfl ((h.m.cell (i := 0) rfl 3).trans rfl)) (fun a h => ?_)
  refine s_x h rfl rfl (by decide) (x_faddr h.k rfl Try.underlying24 rfl sz_int rfl) (fun a h => ?_)
  refine s_x h rfl rfl (by decide) (x_ld h.k rfl Try.underlying3 rfl rfl ((h.m.cell (i := 0) rfl 4).trans rfl)) (fun a h => ?_)
  refine q_bslice (T := tyI) (S := S0) h rfl rfl rfl (by decide) Try.underlying44 zi_int (by decide) (by decide) (by decide) (by decide) [.int .i64 a0.1, .int .i64 a0.2.1, .int .i64 a0.2.2.1, .int .i64 a0.2.2.2.1, .int .i64 a0.2.2.2.2.1] rfl rfl (C := [[.int .i64 a0.1], [.int .i64 a0.2.1], [.int .i64 a0.2.2.1], [.int .i64 a0.2.2.2.1], [.int .i64 a0.2.2.2.2.1]]) rfl (xs := [a0.1, a0.2.1, a0.2.2.1, a0.2.2.2.1, a0.2.2.2.2.1]) ⟨[.int .i64 a0.1], _, rfl, ⟨rfl, hr3⟩, ⟨[.int .i64 a0.2.1], _, rfl, ⟨rfl, hr6⟩, ⟨[.int .i64 a0.2.2.1], _, rfl, ⟨rfl, hr9⟩, ⟨[.int .i64 a0.2.2.2.1], _, rfl, ⟨rfl, hr12⟩, ⟨[.int .i64 a0.2.2.2.2.1], _, rfl, ⟨rfl, hr15⟩, rfl⟩⟩⟩⟩⟩ (by simp only [List.mem_cons, List.not_mem_nil, or_false]; rintro c (rfl | rfl | rfl | rfl | rfl) <;> rfl) (fun a w A25 h => ?_)
  have hb26 : reps tyI S0 ([[.int .i64 a0.1], [.int .i64 a0.2.1], [.int .i64 a0.2.2.1], [.int .i64 a0.2.2.2.1], [.int .i64 a0.2.2.2.2.1]]).flatten [a0.1, a0.2.1, a0.2.2.1, a0.2.2.2.1, a0.2.2.2.2.1] := ⟨[.int .i64 a0.1], _, rfl, ⟨rfl, hr3⟩, ⟨[.int .i64 a0.2.1], _, rfl, ⟨rfl, hr6⟩, ⟨[.int .i64 a0.2.2.1], _, rfl, ⟨rfl, hr9⟩, ⟨[.int .i64 a0.2.2.2.1], _, rfl, ⟨rfl, hr12⟩, ⟨[.int .i64 a0.2.2.2.2.1], _, rfl, ⟨rfl, hr15⟩, rfl⟩⟩⟩⟩⟩
  refine s_assign h rfl _ rfl rfl (by decide) rfl (fun a h => ?_)
  refine l_end ?_
  refine wp_ret ?_
  obtain rfl := Option.some.inj hf
  exact r_ret1 h rfl (rv_tmp h rfl) ⟨_, [.row (.slice A25 ([a0.1, a0.2.1, a0.2.2.1, a0.2.2.2.1, a0.2.2.2.2.1]).length 5) 3 1 ([a0.1, a0.2.1, a0.2.2.1, a0.2.2.2.1, a0.2.2.2.2.1]).length ([[.int .i64 a0.1], [.int .i64 a0.2.1], [.int .i64 a0.2.2.1], [.int .i64 a0.2.2.2.1], [.int .i64 a0.2.2.2.2.1]]).flatten], _, rfl, ⟨A25, 5, ([[.int .i64 a0.1], [.int .i64 a0.2.1], [.int .i64 a0.2.2.1], [.int .i64 a0.2.2.2.1], [.int .i64 a0.2.2.2.2.1]]).flatten, rfl, rfl, hb26, trivial⟩, rfl, (Up.refl _ _ _), (h.m.pick [0, 2] _ (by decide) rfl)⟩
def chatelaineref33_Right_l0 (Fu : Nat) (x36 : (List Int)) : Nat → Int → Option (Sum Bool Unit)
  | 0, _ => none
  | k + 1, x46 => if x46 < 5 then ((ix x36.length x46).bind fun m50 => (x36[m50]?).bind fun x56 => (if x56 < 0 then some true else (ix x36.length x46).bind fun m66 => (x36[m66]?).bind fun x72 => some (decide (1099511627776 < x72))).bind fun z64 => if z64 = true then (some (.inl false)) else (chatelaineref33_Right_l0 Fu x36 k (w64 (x46 + 1)))) else (some (.inr ()))
def chatelaineref33_Right (Fu : Nat) (a0 : (Int × Int × Int × Int × Int × (List UInt8) × (List UInt8)) × Int × Int × (List UInt8)) (a1 : Int) : Option Bool :=
  if a0.2.1 = 0 then ((chatelaineref33_numbers Fu a0.1).bind fun x36 => (chatelaineref33_Right_l0 Fu x36 Fu 0).bind fun o => match o with | .inl r85 => some r85 | .inr _ => some ((((decide (a0.2.2.1 = 0)) && (decide ((a0.2.2.2.length : Int) = 0))) && (decide ((a0.1.2.2.2.2.2.1.length : Int) ≤ 512))) && (decide ((a0.1.2.2.2.2.2.2.length : Int) ≤ 512)))) else ((chatelaineref29_Same Fu a0.1 (0, 0, 0, 0, 0, [], [])).bind fun x86 => if ((!x86) || (decide (a0.2.2.1 < 0))) = true then (some false) else (if a0.2.1 = 1 then (some ((decide (a0.2.2.1 ≤ 1099511627776)) && (decide ((a0.2.2.2.length : Int) ≤ 64)))) else (if a0.2.1 = 2 then (some ((decide (a0.2.2.1 = 0)) && (decide ((a0.2.2.2.length : Int) = 0)))) else (if a0.2.1 = 3 then (some (((decide (a0.2.2.1 ≤ 1048575)) && (decide ((a0.2.2.2.length : Int) = a1))) && (decide ((a0.2.2.2.length : Int) ≤ 512)))) else (some ((((decide (a0.2.1 = 4)) || (decide (a0.2.1 = 5))) && (decide (a0.2.2.1 ≤ 7))) && (decide ((a0.2.2.2.length : Int) = 0))))))))
set_option maxRecDepth 100000 in
set_option maxHeartbeats 2000000 in
theorem chatelaineref33_Right_ok (Fu : Nat) {S0 : Snap} (csa0 : List Value) (a0 : (Int × Int × Int × Int × Int × (List UInt8) × (List UInt8)) × Int × Int × (List UInt8)) (hsa0 : (tyP (tyP tyI (tyP tyI (tyP tyI (tyP tyI (tyP tyI (tyP (tyL ty8) (tyL ty8))))))) (tyP tyI (tyP tyI (tyL ty8)))).rep S0 csa0 a0) (a1 : Int) (hra1 : r64 a1) (r : Bool) (hf : chatelaineref33_Right Fu a0 a1 = some r) (w0 : World) (hm : Mem w0 (ownL ([] ++ [.sn S0])) ([] ++ [.sn S0]) w0) :
    Calls Try.prog 102 #[.agg csa0.toArray, .int .i64 a1] w0 (Ret w0 S0 [] (fun v L1 S1 => v = .bool r ∧ L1 = [] ∧ True)) := by
  unfold chatelaineref33_Right at hf
  obtain ⟨k1, k2, rfl, ⟨k3, k4, rfl, ⟨rfl, hr5⟩, ⟨k6, k7, rfl, ⟨rfl, hr8⟩, ⟨k9, k10, rfl, ⟨rfl, hr11⟩, ⟨k12, k13, rfl, ⟨rfl, hr14⟩, ⟨k15, k16, rfl, ⟨rfl, hr17⟩, ⟨k18, k19, rfl, ⟨A20, c21, rfl, hs22⟩, ⟨A23, c24, rfl, hs25⟩⟩⟩⟩⟩⟩⟩, ⟨k26, k27, rfl, ⟨rfl, hr28⟩, ⟨k29, k30, rfl, ⟨rfl, hr31⟩, ⟨A32, c33, rfl, hs34⟩⟩⟩⟩ := hsa0
  refine c_enterM Try.func102 rfl 116 rfl (by simp) _ hm _ rfl (fun a h => ?_)
  refine c_rs ?_ -- region 0
  refine s_box h rfl rfl rfl (by decide) rfl (cs := [.int .i64 a0.1.1, .int .i64 a0.1.2.1, .int .i64 a0.1.2.2.1, .int .i64 a0.1.2.2.2.1, .int .i64 a0.1.2.2.2.2.1, .slice A20 a0.1.2.2.2.2.2.1.length c21, .slice A23 a0.1.2.2.2.2.2.2.length c24, .int .i64 a0.2.1, .int .i64 a0.2.2.1, .slice A32 a0.2.2.2.length c33]) (by rfl) (fun a w g35 h => ?_)
  refine s_assign h rfl _ rfl rfl (by decide) rfl (fun a h => ?_)
  refine l_end ?_
  refine c_rs ?_ -- region 1
  refine s_x h rfl rfl (by decide) (x_faddr h.k rfl Try.underlying77 rfl sz_Suint8 rfl) (fun a h => ?_)
  refine s_x h rfl rfl (by decide) (x_ld h.k rfl Try.underlying22 rfl rfl ((h.m.cell (i := 0) rfl 9).trans rfl)) (fun a h => ?_)
  refine s_x h rfl rfl (by decide) (x_len h.k rfl Try.underlying22 rfl) (fun a h => ?_)
  refine s_assign h rfl _ rfl rfl (by decide) rfl (fun a h => ?_)
  refine l_end ?_
  refine wp_seq ?_
  refine c_rs ?_ -- region 2
  refine s_x h rfl rfl (by decide) (x_faddr h.k rfl Try.underlying77 rfl sz_int rfl) (fun a h => ?_)
  refine s_x h rfl rfl (by decide) (x_ld h.k rfl Try.underlying3 rfl rfl ((h.m.cell (i := 0) rfl 7).trans rfl)) (fun a h => ?_)
  refine s_x h rfl rfl (by decide) (x_bin h.k rfl rfl rfl ib_eql) (fun a h => ?_)
  refine l_end ?_
  refine c_cond h rfl (fun hb => ?_) (fun hb => ?_)
  · rw [if_pos (of_decide_eq_true hb)] at hf
    refine c_rs ?_ -- region 3
    refine s_x h rfl rfl (by decide) (x_faddr h.k rfl Try.underlying77 rfl sz_api_Op rfl) (fun a h => ?_)
    refine s_x h rfl rfl (by decide) (x_ldR h.k rfl ag_api_Op rfl ([.int .i64 a0.1.1, .int .i64 a0.1.2.1, .int .i64 a0.1.2.2.1, .int .i64 a0.1.2.2.2.1, .int .i64 a0.1.2.2.2.2.1, .slice A20 a0.1.2.2.2.2.2.1.length c21, .slice A23 a0.1.2.2.2.2.2.2.length c24]) rfl (h.m.range (i := 0) rfl 0 7)) (fun a h => ?_)
    obtain ⟨x36, h37, hf⟩ := bsome hf
    have hX := chatelaineref33_numbers_ok Fu (S0 := snapAll _) ([.int .i64 a0.1.1, .int .i64 a0.1.2.1, .int .i64 a0.1.2.2.1, .int .i64 a0.1.2.2.2.1, .int .i64 a0.1.2.2.2.2.1, .slice A20 a0.1.2.2.2.2.2.1.length c21, .slice A23 a0.1.2.2.2.2.2.2.length c24]) a0.1 ((tyP tyI (tyP tyI (tyP tyI (tyP tyI (tyP tyI (tyP (tyL ty8) (tyL ty8))))))).mono (h.m.leAll (i := 1) rfl) (show (tyP tyI (tyP tyI (tyP tyI (tyP tyI (tyP tyI (tyP (tyL ty8) (tyL ty8))))))).rep S0 ([.int .i64 a0.1.1, .int .i64 a0.1.2.1, .int .i64 a0.1.2.2.1, .int .i64 a0.1.2.2.2.1, .int .i64 a0.1.2.2.2.2.1, .slice A20 a0.1.2.2.2.2.2.1.length c21, .slice A23 a0.1.2.2.2.2.2.2.length c24]) a0.1 from ⟨[.int .i64 a0.1.1], [.int .i64 a0.1.2.1, .int .i64 a0.1.2.2.1, .int .i64 a0.1.2.2.2.1, .int .i64 a0.1.2.2.2.2.1, .slice A20 a0.1.2.2.2.2.2.1.length c21, .slice A23 a0.1.2.2.2.2.2.2.length c24], rfl, ⟨rfl, hr5⟩, ⟨[.int .i64 a0.1.2.1], [.int .i64 a0.1.2.2.1, .int .i64 a0.1.2.2.2.1, .int .i64 a0.1.2.2.2.2.1, .slice A20 a0.1.2.2.2.2.2.1.length c21, .slice A23 a0.1.2.2.2.2.2.2.length c24], rfl, ⟨rfl, hr8⟩, ⟨[.int .i64 a0.1.2.2.1], [.int .i64 a0.1.2.2.2.1, .int .i64 a0.1.2.2.2.2.1, .slice A20 a0.1.2.2.2.2.2.1.length c21, .slice A23 a0.1.2.2.2.2.2.2.length c24], rfl, ⟨rfl, hr11⟩, ⟨[.int .i64 a0.1.2.2.2.1], [.int .i64 a0.1.2.2.2.2.1, .slice A20 a0.1.2.2.2.2.2.1.length c21, .slice A23 a0.1.2.2.2.2.2.2.length c24], rfl, ⟨rfl, hr14⟩, ⟨[.int .i64 a0.1.2.2.2.2.1], [.slice A20 a0.1.2.2.2.2.2.1.length c21, .slice A23 a0.1.2.2.2.2.2.2.length c24], rfl, ⟨rfl, hr17⟩, ⟨[.slice A20 a0.1.2.2.2.2.2.1.length c21], [.slice A23 a0.1.2.2.2.2.2.2.length c24], rfl, ⟨_, _, rfl, hs22⟩, ⟨_, _, rfl, hs25⟩⟩⟩⟩⟩⟩⟩)) _ h37 _ h.startAll
    refine q_callX hX h rfl rfl rfl (by decide) Try.func150 rfl rfl rfl (fun a w v L1 S1 hR hb1 h => ?_)
    obtain ⟨A39, c40, cs41, rfl, rfl, hq42, _⟩ := hR
    have hq43 := hq42.fl (S' := S0) fl_I
    refine s_assign h rfl _ rfl rfl (by decide) rfl (fun a h => ?_)
    refine l_end ?_
    refine wp_seq ?_
    refine c_rs ?_ -- region 4
    refine s_assign h rfl _ rfl rfl (by decide) rfl (fun a h => ?_)
    refine l_end ?_
    obtain ⟨o44, hl45, hf⟩ := bsome hf
    refine c_fin (fun a w => (.inr ()) = o44 ∧ St 116 w0 (ownL ([] ++ [.sn S0])) [(2, .pointer (some ⟨g35, 0, none⟩)), (5, .int .i64 (a0.2.2.2.length : Int))] [.box g35 77 ([.int .i64 a0.1.1, .int .i64 a0.1.2.1, .int .i64 a0.1.2.2.1, .int .i64 a0.1.2.2.2.1, .int .i64 a0.1.2.2.2.2.1, .slice A20 a0.1.2.2.2.2.2.1.length c21, .slice A23 a0.1.2.2.2.2.2.2.length c24, .int .i64 a0.2.1, .int .i64 a0.2.2.1, .slice A32 a0.2.2.2.length c33]), .sn S0] a w) ?_ ?_
    · refine wp_block ?_
      have h := h.pick [1, 0, 2] (by decide) rfl
      refine c_loop (fun m49 a w => ∃ (x46 : Int), chatelaineref33_Right_l0 Fu x36 m49 x46 = some o44 ∧ r64 x46 ∧ St 116 w0 (ownL ([] ++ [.sn S0])) [(2, .pointer (some ⟨g35, 0, none⟩)), (5, .int .i64 (a0.2.2.2.length : Int)), (6, .slice A39 x36.length c40), (7, .int .i64 x46)] [.box g35 77 ([.int .i64 a0.1.1, .int .i64 a0.1.2.1, .int .i64 a0.1.2.2.1, .int .i64 a0.1.2.2.2.1, .int .i64 a0.1.2.2.2.2.1, .slice A20 a0.1.2.2.2.2.2.1.length c21, .slice A23 a0.1.2.2.2.2.2.2.length c24, .int .i64 a0.2.1, .int .i64 a0.2.2.1, .slice A32 a0.2.2.2.length c33]), .row (.slice A39 x36.length c40) 3 1 x36.length cs41, .sn S0] a w) Fu ⟨0, hl45, (show r64 0 from ⟨by decide, by decide⟩), h.has (by exact ⟨rfl, rfl, rfl, rfl, trivial⟩)⟩ (fun m49 a w hI => ?_)
      obtain ⟨x46, hl48, hr47, h⟩ := hI
      obtain _ | m49 := m49
      · rw [chatelaineref33_Right_l0] at hl48; cases hl48
      rw [chatelaineref33_Right_l0] at hl48
      refine wp_seq ?_
      refine c_rs ?_ -- region 5
      refine s_move h rfl _ rfl rfl (by decide) rfl (fun a h => ?_)
      refine s_x h rfl rfl (by decide) (x_bin h.k rfl rfl rfl ib_lss) (fun a h => ?_)
      refine l_end ?_
      refine c_cond h rfl (fun hb => ?_) (fun hb => ?_)
      · rw [if_pos (of_decide_eq_true hb)] at hl48
        refine wp_skip ?_
        refine e_thenN ?_
        refine wp_seq ?_
        refine wp_block ?_
        refine c_rs ?_ -- region 7
        refine s_move h rfl _ rfl rfl (by decide) rfl (fun a h => ?_)
        refine s_move h rfl _ rfl rfl (by decide) rfl (fun a h => ?_)
        obtain ⟨m50, h51, hl48⟩ := bsome hl48
        obtain ⟨hi52, hm53⟩ := ix_some h51
        obtain ⟨g55, hA54⟩ := h.m.rowHead (i := 1) rfl (Nat.lt_of_le_of_lt (Nat.zero_le _) hm53)
        refine s_x h rfl rfl (by decide) (x_iaddrE h.k rfl Try.underlying44 sz_int hA54 rfl rfl hi52 hm53) (fun a h => ?_)
        obtain ⟨x56, h57, hl48⟩ := bsome hl48
        obtain ⟨u58, hv59, hu60⟩ := (hq43).cell rfl h57
        obtain ⟨e62, hr61⟩ := hu60
        cases e62
        refine s_x h rfl rfl (by decide) (x_ld h.k rfl Try.underlying3 rfl rfl (h.m.cellRowE (i := 1) rfl hA54 _ (by rw [Nat.mul_one]; exact hv59))) (fun a h => ?_)
        refine s_x h rfl rfl (by decide) (x_bin h.k rfl rfl rfl ib_lss) (fun a h => ?_)
        refine s_move h rfl _ rfl rfl (by decide) rfl (fun a h => ?_)
        obtain ⟨z64, hz63, hl48⟩ := bsome hl48
        refine q_grp h 6 (t := 26) 32 z64 rfl (fun hB5 => ?_) (fun hB5 => ?_) (fun a w h => ?_)
        · refine g_no h rfl rfl rfl rfl hB5 rfl (by decide) (fun a h => ?_)
          refine g_no h rfl rfl rfl rfl hB5 rfl (by decide) (fun a h => ?_)
          refine g_no h rfl rfl rfl rfl hB5 rfl (by decide) (fun a h => ?_)
          refine g_no h rfl rfl rfl rfl hB5 rfl (by decide) (fun a h => ?_)
          refine g_no h rfl rfl rfl rfl hB5 rfl (by decide) (fun a h => ?_)
          rw [if_pos (of_decide_eq_true hB5)] at hz63
          refine s_x h rfl rfl (by decide) (x_pick (u' := undef) h.k rfl rfl (fun _ => rfl) (fun hh => absurd (hB5.symm.trans hh) (by decide))) (fun a h => ?_)
          exact (h.mid 5 rfl).val (by rw [Option.some.inj hz63])
        · rw [if_neg (of_decide_eq_false hB5)] at hz63
          refine g_yes h rfl rfl rfl rfl hB5 ?_
          refine s_move h rfl _ rfl rfl (by decide) rfl (fun a h => ?_)
          refine g_yes h rfl rfl rfl rfl hB5 ?_
          refine s_move h rfl _ rfl rfl (by decide) rfl (fun a h => ?_)
          refine g_yes h rfl rfl rfl rfl hB5 ?_
          obtain ⟨m66, h67, hz63⟩ := bsome hz63
          obtain ⟨hi68, hm69⟩ := ix_some h67
          obtain ⟨g71, hA70⟩ := h.m.rowHead (i := 1) rfl (Nat.lt_of_le_of_lt (Nat.zero_le _) hm69)
          refine s_x h rfl rfl (by decide) (x_iaddrE h.k rfl Try.underlying44 sz_int hA70 rfl rfl hi68 hm69) (fun a h => ?_)
          refine g_yes h rfl rfl rfl rfl hB5 ?_
          obtain ⟨x72, h73, hz63⟩ := bsome hz63
          obtain ⟨u74, hv75, hu76⟩ := (hq43).cell rfl h73
          obtain ⟨e78, hr77⟩ := hu76
          cases e78
          refine s_x h rfl rfl (by decide) (x_ld h.k rfl Try.underlying3 rfl rfl (h.m.cellRowE (i := 1) rfl hA70 _ (by rw [Nat.mul_one]; exact hv75))) (fun a h => ?_)
          refine g_yes h rfl rfl rfl rfl hB5 ?_
          refine s_x h rfl rfl (by decide) (x_bin h.k rfl rfl rfl ib_gtr) (fun a h => ?_)
          refine s_x h rfl rfl (by decide) (x_pick (u' := undef) h.k rfl rfl (fun hh => absurd (hB5.symm.trans hh) (by decide)) (fun _ => rfl)) (fun a h => ?_)
          exact (h.mid 5 rfl).val (by rw [Option.some.inj hz63])
        refine l_end ?_
        refine c_cond h rfl (fun hb => ?_) (fun hb => ?_)
        · rw [if_pos hb] at hl48
          refine c_rs ?_ -- region 8
          refine s_assign h rfl _ rfl rfl (by decide) rfl (fun a h => ?_)
          refine l_end ?_
          refine wp_ret ?_
          refine e_blkR ?_
          refine e_thenR ?_
          refine e_thenR ?_
          refine e_blkR ?_
          refine e_thenR ?_
          cases hl48
          try dsimp only at hf
          refine e_thenR ?_
          refine e_thenR ?_
          rw [← Option.some.inj hf]
          exact r_ret1 h rfl (rv_tmp h rfl) ⟨_, [], _, rfl, ⟨rfl, rfl, trivial⟩, rfl, (Up.refl _ _ _), (h.m.pick [2] _ (by decide) rfl)⟩
        · rw [if_neg (by rw [hb]; decide)] at hl48
          refine wp_skip ?_
          refine e_blkN ?_
          refine e_thenN ?_
          refine c_r ?_ -- region 6
          refine s_move h rfl _ rfl rfl (by decide) rfl (fun a h => ?_)
          refine s_x h rfl rfl (by decide) (x_bin h.k rfl rfl rfl (ib_add rfl)) (fun a h => ?_)
          refine s_assign h rfl _ rfl rfl (by decide) rfl (fun a h => ?_)
          refine l_nil ?_
          exact e_thenN ⟨m49, Nat.lt_succ_self _, w64 (x46 + 1), hl48, (w64_r _), h.has (by exact ⟨rfl, rfl, rfl, rfl, trivial⟩)⟩
      · rw [if_neg (of_decide_eq_false hb)] at hl48
        refine wp_exit ?_
        refine e_thenX ?_
        refine e_thenX ?_
        refine e_blkX ?_
        refine e_thenN ?_
        have h := h.pick [0, 2] (by decide) rfl
        exact ⟨(Option.some.inj hl48), h.has (by exact ⟨rfl, rfl, trivial⟩)⟩
    · rintro a w ⟨rfl, h⟩
      try dsimp only at hf
      refine e_thenN ?_
      refine c_rs ?_ -- region 9
      refine s_x h rfl rfl (by decide) (x_faddr h.k rfl Try.underlying77 rfl sz_int rfl) (fun a h => ?_)
      refine s_x h rfl rfl (by decide) (x_ld h.k rfl Try.underlying3 rfl rfl ((h.m.cell (i := 0) rfl 8).trans rfl)) (fun a h => ?_)
      refine s_x h rfl rfl (by decide) (x_bin h.k rfl rfl rfl ib_eql) (fun a h => ?_)
      refine s_move h rfl _ rfl rfl (by decide) rfl (fun a h => ?_)
      refine q_grp h 3 (t := 36) 39 ((decide (a0.2.2.1 = 0)) && (decide ((a0.2.2.2.length : Int) = 0))) rfl (fun hB3 => ?_) (fun hB3 => ?_) (fun a w h => ?_)
      · refine g_yes h rfl rfl rfl rfl hB3 ?_
        refine s_move h rfl _ rfl rfl (by decide) rfl (fun a h => ?_)
        refine g_yes h rfl rfl rfl rfl hB3 ?_
        refine s_x h rfl rfl (by decide) (x_bin h.k rfl rfl rfl ib_eql) (fun a h => ?_)
        refine s_x h rfl rfl (by decide) (x_pick (u' := undef) h.k rfl rfl (fun _ => rfl) (fun hh => absurd (hB3.symm.trans hh) (by decide))) (fun a h => ?_)
        exact (h.mid 2 rfl).val (by first | rfl | (rw [hB3]; first | rfl | simp))
      · refine g_no h rfl rfl rfl rfl hB3 rfl (by decide) (fun a h => ?_)
        refine g_no h rfl rfl rfl rfl hB3 rfl (by decide) (fun a h => ?_)
        refine s_x h rfl rfl (by decide) (x_pick (u' := undef) h.k rfl rfl (fun hh => absurd (hB3.symm.trans hh) (by decide)) (fun _ => rfl)) (fun a h => ?_)
        exact (h.mid 2 rfl).val (by first | rfl | (rw [hB3]; first | rfl | simp))
      refine s_move h rfl _ rfl rfl (by decide) rfl (fun a h => ?_)
      refine q_grp h 6 (t := 40) 46 (((decide (a0.2.2.1 = 0)) && (decide ((a0.2.2.2.length : Int) = 0))) && (decide ((a0.1.2.2.2.2.2.1.length : Int) ≤ 512))) rfl (fun hB7 => ?_) (fun hB7 => ?_) (fun a w h => ?_)
      · refine g_yes h rfl rfl rfl rfl hB7 ?_
        refine s_x h rfl rfl (by decide) (x_faddr h.k rfl Try.underlying77 rfl sz_api_Op rfl) (fun a h => ?_)
        refine g_yes h rfl rfl rfl rfl hB7 ?_
        refine s_x h rfl rfl (by decide) (x_faddr h.k rfl Try.underlying24 rfl sz_Suint8 rfl) (fun a h => ?_)
        refine g_yes h rfl rfl rfl rfl hB7 ?_
        refine s_x h rfl rfl (by decide) (x_ld h.k rfl Try.underlying22 rfl rfl ((h.m.cell (i := 0) rfl 5).trans rfl)) (fun a h => ?_)
        refine g_yes h rfl rfl rfl rfl hB7 ?_
        refine s_x h rfl rfl (by decide) (x_len h.k rfl Try.underlying22 rfl) (fun a h => ?_)
        refine g_yes h rfl rfl rfl rfl hB7 ?_
        refine s_x h rfl rfl (by decide) (x_bin h.k rfl rfl rfl ib_leq) (fun a h => ?_)
        refine s_x h rfl rfl (by decide) (x_pick (u' := undef) h.k rfl rfl (fun _ => rfl) (fun hh => absurd (hB7.symm.trans hh) (by decide))) (fun a h => ?_)
        exact (h.mid 5 rfl).val (by first | rfl | (rw [hB7]; first | rfl | simp))
      · refine g_no h rfl rfl rfl rfl hB7 rfl (by decide) (fun a h => ?_)
        refine g_no h rfl rfl rfl rfl hB7 rfl (by decide) (fun a h => ?_)
        refine g_no h rfl rfl rfl rfl hB7 rfl (by decide) (fun a h => ?_)
        refine g_no h rfl rfl rfl rfl hB7 rfl (by decide) (fun a h => ?_)
        refine g_no h rfl rfl rfl rfl hB7 rfl (by decide) (fun a h => ?_)
        refine s_x h rfl rfl (by decide) (x_pick (u' := undef) h.k rfl rfl (fun hh => absurd (hB7.symm.trans hh) (by decide)) (fun _ => rfl)) (fun a h => ?_)
        exact (h.mid 5 rfl).val (by first | rfl | (rw [hB7]; first | rfl | simp))
      refine s_move h rfl _ rfl rfl (by decide) rfl (fun a h => ?_)
      refine q_grp h 6 (t := 47) 53 ((((decide (a0.2.2.1 = 0)) && (decide ((a0.2.2.2.length : Int) = 0))) && (decide ((a0.1.2.2.2.2.2.1.length : Int) ≤ 512))) && (decide ((a0.1.2.2.2.2.2.2.length : Int) ≤ 512))) rfl (fun hB14 => ?_) (fun hB14 => ?_) (fun a w h => ?_)
      · refine g_yes h rfl rfl rfl rfl hB14 ?_
        refine s_x h rfl rfl (by decide) (x_faddr h.k rfl Try.underlying77 rfl sz_api_Op rfl) (fun a h => ?_)
        refine g_yes h rfl rfl rfl rfl hB14 ?_
        refine s_x h rfl rfl (by decide) (x_faddr h.k rfl Try.underlying24 rfl sz_Suint8 rfl) (fun a h => ?_)
        refine g_yes h rfl rfl rfl rfl hB14 ?_
        refine s_x h rfl rfl (by decide) (x_ld h.k rfl Try.underlying22 rfl rfl ((h.m.cell (i := 0) rfl 6).trans rfl)) (fun a h => ?_)
        refine g_yes h rfl rfl rfl rfl hB14 ?_
        refine s_x h rfl rfl (by decide) (x_len h.k rfl Try.underlying22 rfl) (fun a h => ?_)
        refine g_yes h rfl rfl rfl rfl hB14 ?_
        refine s_x h rfl rfl (by decide) (x_bin h.k rfl rfl rfl ib_leq) (fun a h => ?_)
        refine s_x h rfl rfl (by decide) (x_pick (u' := undef) h.k rfl rfl (fun _ => rfl) (fun hh => absurd (hB14.symm.trans hh) (by decide))) (fun a h => ?_)
        exact (h.mid 5 rfl).val (by first | rfl | (rw [hB14]; first | rfl | simp))
      · refine g_no h rfl rfl rfl rfl hB14 rfl (by decide) (fun a h => ?_)
        refine g_no h rfl rfl rfl rfl hB14 rfl (by decide) (fun a h => ?_)
        refine g_no h rfl rfl rfl rfl hB14 rfl (by decide) (fun a h => ?_)
        refine g_no h rfl rfl rfl rfl hB14 rfl (by decide) (fun a h => ?_)
        refine g_no h rfl rfl rfl rfl hB14 rfl (by decide) (fun a h => ?_)
        refine s_x h rfl rfl (by decide) (x_pick (u' := undef) h.k rfl rfl (fun hh => absurd (hB14.symm.trans hh) (by decide)) (fun _ => rfl)) (fun a h => ?_)
        exact (h.mid 5 rfl).val (by first | rfl | (rw [hB14]; first | rfl | simp))
      refine s_assign h rfl _ rfl rfl (by decide) rfl (fun a h => ?_)
      refine l_end ?_
      refine wp_ret ?_
      refine e_thenR ?_
      obtain rfl := Option.some.inj hf
      exact r_ret1 h rfl (rv_tmp h rfl) ⟨_, [], _, rfl, ⟨rfl, rfl, trivial⟩, rfl, (Up.refl _ _ _), (h.m.pick [1] _ (by decide) rfl)⟩
  · rw [if_neg (of_decide_eq_false hb)] at hf
    refine wp_skip ?_
    refine e_thenN ?_
    refine wp_seq ?_
    refine c_rs ?_ -- region 10
    refine s_x h rfl rfl (by decide) (x_faddr h.k rfl Try.underlying77 rfl sz_api_Op rfl) (fun a h => ?_)
    refine s_x h rfl rfl (by decide) (x_ldR h.k rfl ag_api_Op rfl ([.int .i64 a0.1.1, .int .i64 a0.1.2.1, .int .i64 a0.1.2.2.1, .int .i64 a0.1.2.2.2.1, .int .i64 a0.1.2.2.2.2.1, .slice A20 a0.1.2.2.2.2.2.1.length c21, .slice A23 a0.1.2.2.2.2.2.2.length c24]) rfl (h.m.range (i := 0) rfl 0 7)) (fun a h => ?_)
    refine s_x h rfl rfl (by decide) (x_build h.k rfl [] rfl ([.int .i64 0, .int .i64 0, .int .i64 0, .int .i64 0, .int .i64 0, .slice none 0 0, .slice none 0 0]) (by kernel_rfl)) (fun a h => ?_)
    obtain ⟨x86, h87, hf⟩ := bsome hf
    have hX := chatelaineref29_Same_ok Fu (S0 := snapAll _) ([.int .i64 a0.1.1, .int .i64 a0.1.2.1, .int .i64 a0.1.2.2.1, .int .i64 a0.1.2.2.2.1, .int .i64 a0.1.2.2.2.2.1, .slice A20 a0.1.2.2.2.2.2.1.length c21, .slice A23 a0.1.2.2.2.2.2.2.length c24]) a0.1 ((tyP tyI (tyP tyI (tyP tyI (tyP tyI (tyP tyI (tyP (tyL ty8) (tyL ty8))))))).mono (h.m.leAll (i := 1) rfl) (show (tyP tyI (tyP tyI (tyP tyI (tyP tyI (tyP tyI (tyP (tyL ty8) (tyL ty8))))))).rep S0 ([.int .i64 a0.1.1, .int .i64 a0.1.2.1, .int .i64 a0.1.2.2.1, .int .i64 a0.1.2.2.2.1, .int .i64 a0.1.2.2.2.2.1, .slice A20 a0.1.2.2.2.2.2.1.length c21, .slice A23 a0.1.2.2.2.2.2.2.length c24]) a0.1 from ⟨[.int .i64 a0.1.1], [.int .i64 a0.1.2.1, .int .i64 a0.1.2.2.1, .int .i64 a0.1.2.2.2.1, .int .i64 a0.1.2.2.2.2.1, .slice A20 a0.1.2.2.2.2.2.1.length c21, .slice A23 a0.1.2.2.2.2.2.2.length c24], rfl, ⟨rfl, hr5⟩, ⟨[.int .i64 a0.1.2.1], [.int .i64 a0.1.2.2.1, .int .i64 a0.1.2.2.2.1, .int .i64 a0.1.2.2.2.2.1, .slice A20 a0.1.2.2.2.2.2.1.length c21, .slice A23 a0.1.2.2.2.2.2.2.length c24], rfl, ⟨rfl, hr8⟩, ⟨[.int .i64 a0.1.2.2.1], [.int .i64 a0.1.2.2.2.1, .int .i64 a0.1.2.2.2.2.1, .slice A20 a0.1.2.2.2.2.2.1.length c21, .slice A23 a0.1.2.2.2.2.2.2.length c24], rfl, ⟨rfl, hr11⟩, ⟨[.int .i64 a0.1.2.2.2.1], [.int .i64 a0.1.2.2.2.2.1, .slice A20 a0.1.2.2.2.2.2.1.length c21, .slice A23 a0.1.2.2.2.2.2.2.length c24], rfl, ⟨rfl, hr14⟩, ⟨[.int .i64 a0.1.2.2.2.2.1], [.slice A20 a0.1.2.2.2.2.2.1.length c21, .slice A23 a0.1.2.2.2.2.2.2.length c24], rfl, ⟨rfl, hr17⟩, ⟨[.slice A20 a0.1.2.2.2.2.2.1.length c21], [.slice A23 a0.1.2.2.2.2.2.2.length c24], rfl, ⟨_, _, rfl, hs22⟩, ⟨_, _, rfl, hs25⟩⟩⟩⟩⟩⟩⟩)) ([.int .i64 0, .int .i64 0, .int .i64 0, .int .i64 0, .int .i64 0, .slice none 0 0, .slice none 0 0]) (0, 0, 0, 0, 0, [], []) ((tyP tyI (tyP tyI (tyP tyI (tyP tyI (tyP tyI (tyP (tyL ty8) (tyL ty8))))))).mono (h.m.leAll (i := 1) rfl) (show (tyP tyI (tyP tyI (tyP tyI (tyP tyI (tyP tyI (tyP (tyL ty8) (tyL ty8))))))).rep S0 ([.int .i64 0, .int .i64 0, .int .i64 0, .int .i64 0, .int .i64 0, .slice none 0 0, .slice none 0 0]) (0, 0, 0, 0, 0, [], []) from ⟨[.int .i64 0], [.int .i64 0, .int .i64 0, .int .i64 0, .int .i64 0, .slice none 0 0, .slice none 0 0], rfl, ⟨rfl, (show r64 0 from ⟨by decide, by decide⟩)⟩, ⟨[.int .i64 0], [.int .i64 0, .int .i64 0, .int .i64 0, .slice none 0 0, .slice none 0 0], rfl, ⟨rfl, (show r64 0 from ⟨by decide, by decide⟩)⟩, ⟨[.int .i64 0], [.int .i64 0, .int .i64 0, .slice none 0 0, .slice none 0 0], rfl, ⟨rfl, (show r64 0 from ⟨by decide, by decide⟩)⟩, ⟨[.int .i64 0], [.int .i64 0, .slice none 0 0, .slice none 0 0], rfl, ⟨rfl, (show r64 0 from ⟨by decide, by decide⟩)⟩, ⟨[.int .i64 0], [.slice none 0 0, .slice none 0 0], rfl, ⟨rfl, (show r64 0 from ⟨by decide, by decide⟩)⟩, ⟨[.slice none 0 0], [.slice none 0 0], rfl, ⟨_, _, rfl, (slS.nil ty8 _)⟩, ⟨_, _, rfl, (slS.nil ty8 _)⟩⟩⟩⟩⟩⟩⟩)) _ h87 _ h.startAll
    refine q_callX hX h rfl rfl rfl (by decide) Try.func25 rfl rfl rfl (fun a w v L1 S1 hR hb1 h => ?_)
    obtain ⟨rfl, rfl, _⟩ := hR
    refine s_x h rfl rfl (by decide) (x_not h.k rfl rfl) (fun a h => ?_)
    refine s_move h rfl _ rfl rfl (by decide) rfl (fun a h => ?_)
    refine q_grp h 4 (t := 59) 63 ((!x86) || (decide (a0.2.2.1 < 0))) rfl (fun hB5 => ?_) (fun hB5 => ?_) (fun a w h => ?_)
    · refine g_no h rfl rfl rfl rfl hB5 rfl (by decide) (fun a h => ?_)
      refine g_no h rfl rfl rfl rfl hB5 rfl (by decide) (fun a h => ?_)
      refine g_no h rfl rfl rfl rfl hB5 rfl (by decide) (fun a h => ?_)
      refine s_x h rfl rfl (by decide) (x_pick (u' := undef) h.k rfl rfl (fun _ => rfl) (fun hh => absurd (hB5.symm.trans hh) (by decide))) (fun a h => ?_)
      exact (h.mid 3 rfl).val (by first | rfl | (rw [hB5]; first | rfl | simp))
    · refine g_yes h rfl rfl rfl rfl hB5 ?_
      refine s_x h rfl rfl (by decide) (x_faddr h.k rfl Try.underlying77 rfl sz_int rfl) (fun a h => ?_)
      refine g_yes h rfl rfl rfl rfl hB5 ?_
      refine s_x h rfl rfl (by decide) (x_ld h.k rfl Try.underlying3 rfl rfl ((h.m.cell (i := 0) rfl 8).trans rfl)) (fun a h => ?_)
      refine g_yes h rfl rfl rfl rfl hB5 ?_
      refine s_x h rfl rfl (by decide) (x_bin h.k rfl rfl rfl ib_lss) (fun a h => ?_)
      refine s_x h rfl rfl (by decide) (x_pick (u' := undef) h.k rfl rfl (fun hh => absurd (hB5.symm.trans hh) (by decide)) (fun _ => rfl)) (fun a h => ?_)
      exact (h.mid 3 rfl).val (by first | rfl | (rw [hB5]; first | rfl | simp))
    refine l_end ?_
    refine c_cond h rfl (fun hb => ?_) (fun hb => ?_)
    · rw [if_pos hb] at hf
      refine c_rs ?_ -- region 11
      refine s_assign h rfl _ rfl rfl (by decide) rfl (fun a h => ?_)
      refine l_end ?_
      refine wp_ret ?_
      refine e_thenR ?_
      rw [← Option.some.inj hf]
      exact r_ret1 h rfl (rv_tmp h rfl) ⟨_, [], _, rfl, ⟨rfl, rfl, trivial⟩, rfl, (Up.refl _ _ _), (h.m.pick [1] _ (by decide) rfl)⟩
    · rw [if_neg (by rw [hb]; decide)] at hf
      refine wp_skip ?_
      refine e_thenN ?_
      refine wp_seq ?_
      refine c_rs ?_ -- region 12
      refine s_x h rfl rfl (by decide) (x_faddr h.k rfl Try.underlying77 rfl sz_int rfl) (fun a h => ?_)
      refine s_x h rfl rfl (by decide) (x_ld h.k rfl Try.underlying3 rfl rfl ((h.m.cell (i := 0) rfl 7).trans rfl)) (fun a h => ?_)
      refine s_x h rfl rfl (by decide) (x_bin h.k rfl rfl rfl ib_eql) (fun a h => ?_)
      refine l_end ?_
      refine c_cond h rfl (fun hb => ?_) (fun hb => ?_)
      · rw [if_pos (of_decide_eq_true hb)] at hf
        refine c_rs ?_ -- region 13
        refine s_x h rfl rfl (by decide) (x_faddr h.k rfl Try.underlying77 rfl sz_int rfl) (fun a h => ?_)
        refine s_x h rfl rfl (by decide) (x_ld h.k rfl Try.underlying3 rfl rfl ((h.m.cell (i := 0) rfl 8).trans rfl)) (fun a h => ?_)
        refine s_x h rfl rfl (by decide) (x_bin h.k rfl rfl rfl ib_leq) (fun a h => ?_)
        refine s_move h rfl _ rfl rfl (by decide) rfl (fun a h => ?_)
        refine q_grp h 3 (t := 70) 73 ((decide (a0.2.2.1 ≤ 1099511627776)) && (decide ((a0.2.2.2.length : Int) ≤ 64))) rfl (fun hB3 => ?_) (fun hB3 => ?_) (fun a w h => ?_)
        · refine g_yes h rfl rfl rfl rfl hB3 ?_
          refine s_move h rfl _ rfl rfl (by decide) rfl (fun a h => ?_)
          refine g_yes h rfl rfl rfl rfl hB3 ?_
          refine s_x h rfl rfl (by decide) (x_bin h.k rfl rfl rfl ib_leq) (fun a h => ?_)
          refine s_x h rfl rfl (by decide) (x_pick (u' := undef) h.k rfl rfl (fun _ => rfl) (fun hh => absurd (hB3.symm.trans hh) (by decide))) (fun a h => ?_)
          exact (h.mid 2 rfl).val (by first | rfl | (rw [hB3]; first | rfl | simp))
        · refine g_no h rfl rfl rfl rfl hB3 rfl (by decide) (fun a h => ?_)
          refine g_no h rfl rfl rfl rfl hB3 rfl (by decide) (fun a h => ?_)
          refine s_x h rfl rfl (by decide) (x_pick (u' := undef) h.k rfl rfl (fun hh => absurd (hB3.symm.trans hh) (by decide)) (fun _ => rfl)) (fun a h => ?_)
          exact (h.mid 2 rfl).val (by first | rfl | (rw [hB3]; first | rfl | simp))
        refine s_assign h rfl _ rfl rfl (by decide) rfl (fun a h => ?_)
        refine l_end ?_
        refine wp_ret ?_
        refine e_thenR ?_
        obtain rfl := Option.some.inj hf
        exact r_ret1 h rfl (rv_tmp h rfl) ⟨_, [], _, rfl, ⟨rfl, rfl, trivial⟩, rfl, (Up.refl _ _ _), (h.m.pick [1] _ (by decide) rfl)⟩
      · rw [if_neg (of_decide_eq_false hb)] at hf
        refine wp_skip ?_
        refine e_thenN ?_
        refine wp_seq ?_
        refine c_rs ?_ -- region 14
        refine s_x h rfl rfl (by decide) (x_faddr h.k rfl Try.underlying77 rfl sz_int rfl) (fun a h => ?_)
        refine s_x h rfl rfl (by decide) (x_ld h.k rfl Try.underlying3 rfl rfl ((h.m.cell (i := 0) rfl 7).trans rfl)) (fun a h => ?_)
        refine s_x h rfl rfl (by decide) (x_bin h.k rfl rfl rfl ib_eql) (fun a h => ?_)
        refine l_end ?_
        refine c_cond h rfl (fun hb => ?_) (fun hb => ?_)
        · rw [if_pos (of_decide_eq_true hb)] at hf
          refine c_rs ?_ -- region 15
          refine s_x h rfl rfl (by decide) (x_faddr h.k rfl Try.underlying77 rfl sz_int rfl) (fun a h => ?_)
          refine s_x h rfl rfl (by decide) (x_ld h.k rfl Try.underlying3 rfl rfl ((h.m.cell (i := 0) rfl 8).trans rfl)) (fun a h => ?_)
          refine s_x h rfl rfl (by decide) (x_bin h.k rfl rfl rfl ib_eql) (fun a h => ?_)
          refine s_move h rfl _ rfl rfl (by decide) rfl (fun a h => ?_)
          refine q_grp h 3 (t := 80) 83 ((decide (a0.2.2.1 = 0)) && (decide ((a0.2.2.2.length : Int) = 0))) rfl (fun hB3 => ?_) (fun hB3 => ?_) (fun a w h => ?_)
          · refine g_yes h rfl rfl rfl rfl hB3 ?_
            refine s_move h rfl _ rfl rfl (by decide) rfl (fun a h => ?_)
            refine g_yes h rfl rfl rfl rfl hB3 ?_
            refine s_x h rfl rfl (by decide) (x_bin h.k rfl rfl rfl ib_eql) (fun a h => ?_)
            refine s_x h rfl rfl (by decide) (x_pick (u' := undef) h.k rfl rfl (fun _ => rfl) (fun hh => absurd (hB3.symm.trans hh) (by decide))) (fun a h => ?_)
            exact (h.mid 2 rfl).val (by first | rfl | (rw [hB3]; first | rfl | simp))
          · refine g_no h rfl rfl rfl rfl hB3 rfl (by decide) (fun a h => ?_)
            refine g_no h rfl rfl rfl rfl hB3 rfl (by decide) (fun a h => ?_)
            refine s_x h rfl rfl (by decide) (x_pick (u' := undef) h.k rfl rfl (fun hh => absurd (hB3.symm.trans hh) (by decide)) (fun _ => rfl)) (fun a h => ?_)
            exact (h.mid 2 rfl).val (by first | rfl | (rw [hB3]; first | rfl | simp))
          refine s_assign h rfl _ rfl rfl (by decide) rfl (fun a h => ?_)
          refine l_end ?_
          refine wp_ret ?_
          refine e_thenR ?_
          obtain rfl := Option.some.inj hf
          exact r_ret1 h rfl (rv_tmp h rfl) ⟨_, [], _, rfl, ⟨rfl, rfl, trivial⟩, rfl, (Up.refl _ _ _), (h.m.pick [1] _ (by decide) rfl)⟩
        · rw [if_neg (of_decide_eq_false hb)] at hf
          refine wp_skip ?_
          refine e_thenN ?_
          refine wp_seq ?_
          refine c_rs ?_ -- region 16
          refine s_x h rfl rfl (by decide) (x_faddr h.k rfl Try.underlying77 rfl sz_int rfl) (fun a h => ?_)
          refine s_x h rfl rfl (by decide) (x_ld h.k rfl Try.underlying3 rfl rfl ((h.m.cell (i := 0) rfl 7).trans rfl)) (fun a h => ?_)
          refine s_x h rfl rfl (by decide) (x_bin h.k rfl rfl rfl ib_eql) (fun a h => ?_)
          refine l_end ?_
          refine c_cond h rfl (fun hb => ?_) (fun hb => ?_)
          · rw [if_pos (of_decide_eq_true hb)] at hf
            refine c_rs ?_ -- region 17
            refine s_x h rfl rfl (by decide) (x_faddr h.k rfl Try.underlying77 rfl sz_int rfl) (fun a h => ?_)
            refine s_x h rfl rfl (by decide) (x_ld h.k rfl Try.underlying3 rfl rfl ((h.m.cell (i := 0) rfl 8).trans rfl)) (fun a h => ?_)
            refine s_x h rfl rfl (by decide) (x_bin h.k rfl rfl rfl ib_leq) (fun a h => ?_)
            refine s_move h rfl _ rfl rfl (by decide) rfl (fun a h => ?_)
            refine q_grp h 4 (t := 90) 94 ((decide (a0.2.2.1 ≤ 1048575)) && (decide ((a0.2.2.2.length : Int) = a1))) rfl (fun hB3 => ?_) (fun hB3 => ?_) (fun a w h => ?_)
            · refine g_yes h rfl rfl rfl rfl hB3 ?_
              refine s_move h rfl _ rfl rfl (by decide) rfl (fun a h => ?_)
              refine g_yes h rfl rfl rfl rfl hB3 ?_
              refine s_move h rfl _ rfl rfl (by decide) rfl (fun a h => ?_)
              refine g_yes h rfl rfl rfl rfl hB3 ?_
              refine s_x h rfl rfl (by decide) (x_bin h.k rfl rfl rfl ib_eql) (fun a h => ?_)
              refine s_x h rfl rfl (by decide) (x_pick (u' := undef) h.k rfl rfl (fun _ => rfl) (fun hh => absurd (hB3.symm.trans hh) (by decide))) (fun a h => ?_)
              exact (h.mid 3 rfl).val (by first | rfl | (rw [hB3]; first | rfl | simp))
            · refine g_no h rfl rfl rfl rfl hB3 rfl (by decide) (fun a h => ?_)
              refine g_no h rfl rfl rfl rfl hB3 rfl (by decide) (fun a h => ?_)
              refine g_no h rfl rfl rfl rfl hB3 rfl (by decide) (fun a h => ?_)
              refine s_x h rfl rfl (by decide) (x_pick (u' := undef) h.k rfl rfl (fun hh => absurd (hB3.symm.trans hh) (by decide)) (fun _ => rfl)) (fun a h => ?_)
              exact (h.mid 3 rfl).val (by first | rfl | (rw [hB3]; first | rfl | simp))
            refine s_move h rfl _ rfl rfl (by decide) rfl (fun a h => ?_)
            refine q_grp h 3 (t := 95) 98 (((decide (a0.2.2.1 ≤ 1048575)) && (decide ((a0.2.2.2.length : Int) = a1))) && (decide ((a0.2.2.2.length : Int) ≤ 512))) rfl (fun hB8 => ?_) (fun hB8 => ?_) (fun a w h => ?_)
            · refine g_yes h rfl rfl rfl rfl hB8 ?_
              refine s_move h rfl _ rfl rfl (by decide) rfl (fun a h => ?_)
              refine g_yes h rfl rfl rfl rfl hB8 ?_
              refine s_x h rfl rfl (by decide) (x_bin h.k rfl rfl rfl ib_leq) (fun a h => ?_)
              refine s_x h rfl rfl (by decide) (x_pick (u' := undef) h.k rfl rfl (fun _ => rfl) (fun hh => absurd (hB8.symm.trans hh) (by decide))) (fun a h => ?_)
              exact (h.mid 2 rfl).val (by first | rfl | (rw [hB8]; first | rfl | simp))
            · refine g_no h rfl rfl rfl rfl hB8 rfl (by decide) (fun a h => ?_)
              refine g_no h rfl rfl rfl rfl hB8 rfl (by decide) (fun a h => ?_)
              refine s_x h rfl rfl (by decide) (x_pick (u' := undef) h.k rfl rfl (fun hh => absurd (hB8.symm.trans hh) (by decide)) (fun _ => rfl)) (fun a h => ?_)
              exact (h.mid 2 rfl).val (by first | rfl | (rw [hB8]; first | rfl | simp))
            refine s_assign h rfl _ rfl rfl (by decide) rfl (fun a h => ?_)
            refine l_end ?_
            refine wp_ret ?_
            refine e_thenR ?_
            obtain rfl := Option.some.inj hf
            exact r_ret1 h rfl (rv_tmp h rfl) ⟨_, [], _, rfl, ⟨rfl, rfl, trivial⟩, rfl, (Up.refl _ _ _), (h.m.pick [1] _ (by decide) rfl)⟩
          · rw [if_neg (of_decide_eq_false hb)] at hf
            refine wp_skip ?_
            refine e_thenN ?_
            refine c_rs ?_ -- region 18
            refine s_x h rfl rfl (by decide) (x_faddr h.k rfl Try.underlying77 rfl sz_int rfl) (fun a h => ?_)
            refine s_x h rfl rfl (by decide) (x_ld h.k rfl Try.underlying3 rfl rfl ((h.m.cell (i := 0) rfl 7).trans rfl)) (fun a h => ?_)
            refine s_x h rfl rfl (by decide) (x_bin h.k rfl rfl rfl ib_eql) (fun a h => ?_)
            refine s_move h rfl _ rfl rfl (by decide) rfl (fun a h => ?_)
            refine q_grp h 4 (t := 102) 106 ((decide (a0.2.1 = 4)) || (decide (a0.2.1 = 5))) rfl (fun hB3 => ?_) (fun hB3 => ?_) (fun a w h => ?_)
            · refine g_no h rfl rfl rfl rfl hB3 rfl (by decide) (fun a h => ?_)
              refine g_no h rfl rfl rfl rfl hB3 rfl (by decide) (fun a h => ?_)
              refine g_no h rfl rfl rfl rfl hB3 rfl (by decide) (fun a h => ?_)
              refine s_x h rfl rfl (by decide) (x_pick (u' := undef) h.k rfl rfl (fun _ => rfl) (fun hh => absurd (hB3.symm.trans hh) (by decide))) (fun a h => ?_)
              exact (h.mid 3 rfl).val (by first | rfl | (rw [hB3]; first | rfl | simp))
            · refine g_yes h rfl rfl rfl rfl hB3 ?_
              refine s_x h rfl rfl (by decide) (x_faddr h.k rfl Try.underlying77 rfl sz_int rfl) (fun a h => ?_)
              refine g_yes h rfl rfl rfl rfl hB3 ?_
              refine s_x h rfl rfl (by decide) (x_ld h.k rfl Try.underlying3 rfl rfl ((h.m.cell (i := 0) rfl 7).trans rfl)) (fun a h => ?_)
              refine g_yes h rfl rfl rfl rfl hB3 ?_
              refine s_x h rfl rfl (by decide) (x_bin h.k rfl rfl rfl ib_eql) (fun a h => ?_)
              refine s_x h rfl rfl (by decide) (x_pick (u' := undef) h.k rfl rfl (fun hh => absurd (hB3.symm.trans hh) (by decide)) (fun _ => rfl)) (fun a h => ?_)
              exact (h.mid 3 rfl).val (by first | rfl | (rw [hB3]; first | rfl | simp))
            refine s_move h rfl _ rfl rfl (by decide) rfl (fun a h => ?_)
            refine q_grp h 4 (t := 107) 111 (((decide (a0.2.1 = 4)) || (decide (a0.2.1 = 5))) && (decide (a0.2.2.1 ≤ 7))) rfl (fun hB8 => ?_) (fun hB8 => ?_) (fun a w h => ?_)
            · refine g_yes h rfl rfl rfl rfl hB8 ?_
              refine s_x h rfl rfl (by decide) (x_faddr h.k rfl Try.underlying77 rfl sz_int rfl) (fun a h => ?_)
              refine g_yes h rfl rfl rfl rfl hB8 ?_
              refine s_x h rfl rfl (by decide) (x_ld h.k rfl Try.underlying3 rfl rfl ((h.m.cell (i := 0) rfl 8).trans rfl)) (fun a h => ?_)
              refine g_yes h rfl rfl rfl rfl hB8 ?_
              refine s_x h rfl rfl (by decide) (x_bin h.k rfl rfl rfl ib_leq) (fun a h => ?_)
              refine s_x h rfl rfl (by decide) (x_pick (u' := undef) h.k rfl rfl (fun _ => rfl) (fun hh => absurd (hB8.symm.trans hh) (by decide))) (fun a h => ?_)
              exact (h.mid 3 rfl).val (by first | rfl | (rw [hB8]; first | rfl | simp))
            · refine g_no h rfl rfl rfl rfl hB8 rfl (by decide) (fun a h => ?_)
              refine g_no h rfl rfl rfl rfl hB8 rfl (by decide) (fun a h => ?_)
              refine g_no h rfl rfl rfl rfl hB8 rfl (by decide) (fun a h => ?_)
              refine s_x h rfl rfl (by decide) (x_pick (u' := undef) h.k rfl rfl (fun hh => absurd (hB8.symm.trans hh) (by decide)) (fun _ => rfl)) (fun a h => ?_)
              exact (h.mid 3 rfl).val (by first | rfl | (rw [hB8]; first | rfl | simp))
            refine s_move h rfl _ rfl rfl (by decide) rfl (fun a h => ?_)
            refine q_grp h 3 (t := 112) 115 ((((decide (a0.2.1 = 4)) || (decide (a0.2.1 = 5))) && (decide (a0.2.2.1 ≤ 7))) && (decide ((a0.2.2.2.length : Int) = 0))) rfl (fun hB13 => ?_) (fun hB13 => ?_) (fun a w h => ?_)
            · refine g_yes h rfl rfl rfl rfl hB13 ?_
              refine s_move h rfl _ rfl rfl (by decide) rfl (fun a h => ?_)
              refine g_yes h rfl rfl rfl rfl hB13 ?_
              refine s_x h rfl rfl (by decide) (x_bin h.k rfl rfl rfl ib_eql) (fun a h => ?_)
              refine s_x h rfl rfl (by decide) (x_pick (u' := undef) h.k rfl rfl (fun _ => rfl) (fun hh => absurd (hB13.symm.trans hh) (by decide))) (fun a h => ?_)
              exact (h.mid 2 rfl).val (by first | rfl | (rw [hB13]; first | rfl | simp))
            · refine g_no h rfl rfl rfl rfl hB13 rfl (by decide) (fun a h => ?_)
              refine g_no h rfl rfl rfl rfl hB13 rfl (by decide) (fun a h => ?_)
              refine s_x h rfl rfl (by decide) (x_pick (u' := undef) h.k rfl rfl (fun hh => absurd (hB13.symm.trans hh) (by decide)) (fun _ => rfl)) (fun a h => ?_)
              exact (h.mid 2 rfl).val (by first | rfl | (rw [hB13]; first | rfl | simp))
            refine s_assign h rfl _ rfl rfl (by decide) rfl (fun a h => ?_)
            refine l_end ?_
            refine wp_ret ?_
            obtain rfl := Option.some.inj hf
            exact r_ret1 h rfl (rv_tmp h rfl) ⟨_, [], _, rfl, ⟨rfl, rfl, trivial⟩, rfl, (Up.refl _ _ _), (h.m.pick [1] _ (by decide) rfl)⟩
def chatelaineref33_Take (Fu : Nat) (a0 : List UInt8) (a1 : Int) : Option (((Int × Int × Int × Int × Int × (List UInt8) × (List UInt8)) × Int × Int × (List UInt8)) × Int) :=
  (chatelaineref12_Reader_Number Fu (a0, 0) 1 5).bind fun x4 => (if x4.1 = 0 then ((chatelaineref12_Reader_Number Fu x4.2 8 1099511627776).bind fun x51 => (chatelaineref12_Reader_Number Fu x51.2 8 1099511627776).bind fun x62 => (chatelaineref12_Reader_Number Fu x62.2 8 1099511627776).bind fun x73 => (chatelaineref12_Reader_Number Fu x73.2 8 1099511627776).bind fun x84 => (chatelaineref12_Reader_Number Fu x84.2 8 1099511627776).bind fun x95 => (chatelaineref12_Reader_Bytes Fu x95.2 512).bind fun x106 => (chatelaineref12_Reader_Bytes Fu x106.2 512).bind fun x119 => some (x119.2, x51.1, x62.1, x73.1, x84.1, x95.1, x106.1, x119.1, x4.1, 0, [])) else ((chatelaineref12_Reader_Number Fu x4.2 8 1099511627776).bind fun x132 => (chatelaineref12_Reader_Bytes Fu x132.2 512).bind fun x143 => some (x143.2, 0, 0, 0, 0, 0, [], [], x4.1, x132.1, x143.1))).bind fun (x20, x25, x27, x29, x31, x33, x35, x39, x43, x45, x47) => (chatelaineref12_Reader_Done Fu x20).bind fun x156 => ((if x156 = 0 then (chatelaineref33_Right Fu ((x25, x27, x29, x31, x33, x35, x39), x43, x45, x47) a1).bind fun x167 => some (!x167) else some false).bind fun z165 => if z165 = true then (some 2) else (some x156)).bind fun x162 => if x162 ≠ 0 then (some (((0, 0, 0, 0, 0, [], []), 0, 0, []), x162)) else (some (((x25, x27, x29, x31, x33, x35, x39), x43, x45, x47), 0))
set_option maxRecDepth 100000 in
set_option maxHeartbeats 2000000 in
theorem chatelaineref33_Take_ok (Fu : Nat) {S0 : Snap} (Aa0 : Option Addr) (ca0 : Nat) (a0 : List UInt8) (hsa0 : slS ty8 S0 Aa0 ca0 a0) (a1 : Int) (hra1 : r64 a1) (r : ((Int × Int × Int × Int × Int × (List UInt8) × (List UInt8)) × Int × Int × (List UInt8)) × Int) (hf : chatelaineref33_Take Fu a0 a1 = some r) (w0 : World) (hm : Mem w0 (ownL ([] ++ [.sn S0])) ([] ++ [.sn S0]) w0) :
    Calls Try.prog 46 #[.slice Aa0 a0.length ca0, .int .i64 a1] w0 (Ret w0 S0 [] (fun v L1 S1 => ∃ (k172 : List Value), v = .tuple #[.agg k172.toArray, .int .i64 r.2] ∧ L1 = [] ∧ (tyP (tyP tyI (tyP tyI (tyP tyI (tyP tyI (tyP tyI (tyP (tyL ty8) (tyL ty8))))))) (tyP tyI (tyP tyI (tyL ty8)))).rep S1 k172 r.1 ∧ r64 r.2 ∧ True)) := by
  unfold chatelaineref33_Take at hf
  refine c_enterM Try.func46 rfl 67 rfl (by simp) _ hm _ rfl (fun a h => ?_)
  refine c_rs ?_ -- region 0
  refine s_alloc h rfl rfl rfl (by decide) zi_api_Event rfl (fun a w g1 h => ?_)
  refine s_assign h rfl _ rfl rfl (by decide) rfl (fun a h => ?_)
  refine l_end ?_
  refine c_rs ?_ -- region 1
  refine s_move h rfl _ rfl rfl (by decide) rfl (fun a h => ?_)
  refine s_x h rfl rfl (by decide) (x_build h.k rfl [(0, .slice Aa0 a0.length ca0)] rfl ([.slice Aa0 a0.length ca0, .int .i64 0]) (by kernel_rfl)) (fun a h => ?_)
  refine s_box h rfl rfl rfl (by decide) rfl (cs := [.slice Aa0 a0.length ca0, .int .i64 0]) (by rfl) (fun a w g2 h => ?_)
  refine s_assign h rfl _ rfl rfl (by decide) rfl (fun a h => ?_)
  refine l_end ?_
  refine c_rs ?_ -- region 2
  refine s_alloc h rfl rfl rfl (by decide) zi_api_Event rfl (fun a w g3 h => ?_)
  refine l_end ?_
  refine c_rs ?_ -- region 3
  refine s_move h rfl _ rfl rfl (by decide) rfl (fun a h => ?_)
  obtain ⟨x4, h5, hf⟩ := bsome hf
  have h := h.pick [1, 3, 0, 2] (by decide) rfl
  have hX := chatelaineref12_Reader_Number_ok Fu (S0 := S0) (a0, 0) g2 Aa0 ca0 hsa0 (show r64 0 from ⟨by decide, by decide⟩) 1 (show r64 1 from ⟨by decide, by decide⟩) 5 (show r64 5 from ⟨by decide, by decide⟩) _ h5 _ (h.sub (Ls := [.box g2 129 ([.slice Aa0 a0.length ca0, .int .i64 0])]))
  refine q_callY (Ls := [.box g2 129 ([.slice Aa0 a0.length ca0, .int .i64 0])]) hX h (Up.refl _ _ _) rfl rfl rfl (by decide) Try.func78 rfl rfl rfl (fun a w v L1 S7 hR le9 up8 h => ?_)
  obtain ⟨A11, c12, rfl, rfl, hr10, hs13, hr14, _⟩ := hR
  refine s_x h rfl rfl (by decide) (x_faddr h.k rfl Try.underlying77 rfl sz_int rfl) (fun a h => ?_)
  refine s_stb h rfl rfl rfl sz_int rfl rfl rfl 2 rfl (by first | decide | simp) (fun a w h => ?_)
  refine l_end ?_
  obtain ⟨o15, hc16, hf⟩ := bsome hf
  refine c_cut (fun a w => ∃ (S17 : Snap), ∃ (x20 : (List UInt8) × Int), ∃ (A21 : Option Addr), ∃ (c22 : Nat), ∃ (x25 : Int), ∃ (x27 : Int), ∃ (x29 : Int), ∃ (x31 : Int), ∃ (x33 : Int), ∃ (x35 : List UInt8), ∃ (A36 : Option Addr), ∃ (c37 : Nat), ∃ (x39 : List UInt8), ∃ (A40 : Option Addr), ∃ (c41 : Nat), ∃ (x43 : Int), ∃ (x45 : Int), ∃ (x47 : List UInt8), ∃ (A48 : Option Addr), ∃ (c49 : Nat), (x20, x25, x27, x29, x31, x33, x35, x39, x43, x45, x47) = o15 ∧ Snap.le S7 S17 ∧ Up (ownL ([] ++ [.sn S0])) w0 S0 S17 ∧ slS ty8 S17 A21 c22 x20.1 ∧ r64 x20.2 ∧ r64 x25 ∧ r64 x27 ∧ r64 x29 ∧ r64 x31 ∧ r64 x33 ∧ slS ty8 S17 A36 c37 x35 ∧ slS ty8 S17 A40 c41 x39 ∧ r64 x43 ∧ r64 x45 ∧ slS ty8 S17 A48 c49 x47 ∧ St 67 w0 (ownL ([] ++ [.sn S0])) [(1, .int .i64 a1), (4, .pointer (some ⟨g1, 0, none⟩)), (6, .pointer (some ⟨g2, 0, none⟩)), (7, .pointer (some ⟨g3, 0, none⟩))] [.box g1 77 ([.int .i64 0, .int .i64 0, .int .i64 0, .int .i64 0, .int .i64 0, .slice none 0 0, .slice none 0 0, .int .i64 0, .int .i64 0, .slice none 0 0]), .box g2 129 ([.slice A21 x20.1.length c22, .int .i64 x20.2]), .box g3 77 ([.int .i64 x25, .int .i64 x27, .int .i64 x29, .int .i64 x31, .int .i64 x33, .slice A36 x35.length c37, .slice A40 x39.length c41, .int .i64 x43, .int .i64 x45, .slice A48 x47.length c49]), .sn S17] a w) ?_ ?_
  · refine c_rs ?_ -- region 4
    refine s_x h rfl rfl (by decide) (x_faddr h.k rfl Try.underlying77 rfl sz_int rfl) (fun a h => ?_)
    refine s_x h rfl rfl (by decide) (x_ld h.k rfl Try.underlying3 rfl rfl ((h.m.cell (i := 2) rfl 7).trans rfl)) (fun a h => ?_)
    refine s_x h rfl rfl (by decide) (x_bin h.k rfl rfl rfl ib_eql) (fun a h => ?_)
    refine l_end ?_
    refine c_cond h rfl (fun hb => ?_) (fun hb => ?_)
    · rw [if_pos (of_decide_eq_true hb)] at hc16
      refine c_rs ?_ -- region 5
      refine s_move h rfl _ rfl rfl (by decide) rfl (fun a h => ?_)
      obtain ⟨x51, h52, hc16⟩ := bsome hc16
      have hX := chatelaineref12_Reader_Number_ok Fu (S0 := S7) x4.2 g2 A11 c12 hs13 hr14 8 (show r64 8 from ⟨by decide, by decide⟩) 1099511627776 (show r64 1099511627776 from ⟨by decide, by decide⟩) _ h52 _ (h.sub (Ls := [.box g2 129 ([.slice A11 x4.2.1.length c12, .int .i64 x4.2.2])]))
      refine q_callY (Ls := [.box g2 129 ([.slice A11 x4.2.1.length c12, .int .i64 x4.2.2])]) hX h up8 rfl rfl rfl (by decide) Try.func78 rfl rfl rfl (fun a w v L1 S54 hR le56 up55 h => ?_)
      obtain ⟨A58, c59, rfl, rfl, hr57, hs60, hr61, _⟩ := hR
      refine s_x h rfl rfl (by decide) (x_faddr h.k rfl Try.underlying77 rfl sz_api_Op rfl) (fun a h => ?_)
      refine s_x h rfl rfl (by decide) (x_faddr h.k rfl Try.underlying24 rfl sz_int rfl) (fun a h => ?_)
      refine s_stb h rfl rfl rfl sz_int rfl rfl rfl 2 rfl (by first | decide | simp) (fun a w h => ?_)
      refine l_end ?_
      refine c_rs ?_ -- region 6
      refine s_move h rfl _ rfl rfl (by decide) rfl (fun a h => ?_)
      obtain ⟨x62, h63, hc16⟩ := bsome hc16
      have hX := chatelaineref12_Reader_Number_ok Fu (S0 := S54) x51.2 g2 A58 c59 hs60 hr61 8 (show r64 8 from ⟨by decide, by decide⟩) 1099511627776 (show r64 1099511627776 from ⟨by decide, by decide⟩) _ h63 _ (h.sub (Ls := [.box g2 129 ([.slice A58 x51.2.1.length c59, .int .i64 x51.2.2])]))
      refine q_callY (Ls := [.box g2 129 ([.slice A58 x51.2.1.length c59, .int .i64 x51.2.2])]) hX h up55 rfl rfl rfl (by decide) Try.func78 rfl rfl rfl (fun a w v L1 S65 hR le67 up66 h => ?_)
      obtain ⟨A69, c70, rfl, rfl, hr68, hs71, hr72, _⟩ := hR
      refine s_x h rfl rfl (by decide) (x_faddr h.k rfl Try.underlying77 rfl sz_api_Op rfl) (fun a h => ?_)
      refine s_x h rfl rfl (by decide) (x_faddr h.k rfl Try.underlying24 rfl sz_int rfl) (fun a h => ?_)
      refine s_stb h rfl rfl rfl sz_int rfl rfl rfl 2 rfl (by first | decide | simp) (fun a w h => ?_)
      refine l_end ?_
      refine c_rs ?_ -- region 7
      refine s_move h rfl _ rfl rfl (by decide) rfl (fun a h => ?_)
      obtain ⟨x73, h74, hc16⟩ := bsome hc16
      have hX := chatelaineref12_Reader_Number_ok Fu (S0 := S65) x62.2 g2 A69 c70 hs71 hr72 8 (show r64 8 from ⟨by decide, by decide⟩) 1099511627776 (show r64 1099511627776 from ⟨by decide, by decide⟩) _ h74 _ (h.sub (Ls := [.box g2 129 ([.slice A69 x62.2.1.length c70, .int .i64 x62.2.2])]))
      refine q_callY (Ls := [.box g2 129 ([.slice A69 x62.2.1.length c70, .int .i64 x62.2.2])]) hX h up66 rfl rfl rfl (by decide) Try.func78 rfl rfl rfl (fun a w v L1 S76 hR le78 up77 h => ?_)
      obtain ⟨A80, c81, rfl, rfl, hr79, hs82, hr83, _⟩ := hR
      refine s_x h rfl rfl (by decide) (x_faddr h.k rfl Try.underlying77 rfl sz_api_Op rfl) (fun a h => ?_)
      refine s_x h rfl rfl (by decide) (x_faddr h.k rfl Try.underlying24 rfl sz_int rfl) (fun a h => ?_)
      refine s_stb h rfl rfl rfl sz_int rfl rfl rfl 2 rfl (by first | decide | simp) (fun a w h => ?_)
      refine l_end ?_
      refine c_rs ?_ -- region 8
      refine s_move h rfl _ rfl rfl (by decide) rfl (fun a h => ?_)
      obtain ⟨x84, h85, hc16⟩ := bsome hc16
      have hX := chatelaineref12_Reader_Number_ok Fu (S0 := S76) x73.2 g2 A80 c81 hs82 hr83 8 (show r64 8 from ⟨by decide, by decide⟩) 1099511627776 (show r64 1099511627776 from ⟨by decide, by decide⟩) _ h85 _ (h.sub (Ls := [.box g2 129 ([.slice A80 x73.2.1.length c81, .int .i64 x73.2.2])]))
      refine q_callY (Ls := [.box g2 129 ([.slice A80 x73.2.1.length c81, .int .i64 x73.2.2])]) hX h up77 rfl rfl rfl (by decide) Try.func78 rfl rfl rfl (fun a w v L1 S87 hR le89 up88 h => ?_)
      obtain ⟨A91, c92, rfl, rfl, hr90, hs93, hr94, _⟩ := hR
      refine s_x h rfl rfl (by decide) (x_faddr h.k rfl Try.underlying77 rfl sz_api_Op rfl) (fun a h => ?_)
      refine s_x h rfl rfl (by decide) (x_faddr h.k rfl Try.underlying24 rfl sz_int rfl) (fun a h => ?_)
      refine s_stb h rfl rfl rfl sz_int rfl rfl rfl 2 rfl (by first | decide | simp) (fun a w h => ?_)
      refine l_end ?_
      refine c_rs ?_ -- region 9
      refine s_move h rfl _ rfl rfl (by decide) rfl (fun a h => ?_)
      obtain ⟨x95, h96, hc16⟩ := bsome hc16
      have hX := chatelaineref12_Reader_Number_ok Fu (S0 := S87) x84.2 g2 A91 c92 hs93 hr94 8 (show r64 8 from ⟨by decide, by decide⟩) 1099511627776 (show r64 1099511627776 from ⟨by decide, by decide⟩) _ h96 _ (h.sub (Ls := [.box g2 129 ([.slice A91 x84.2.1.length c92, .int .i64 x84.2.2])]))
      refine q_callY (Ls := [.box g2 129 ([.slice A91 x84.2.1.length c92, .int .i64 x84.2.2])]) hX h up88 rfl rfl rfl (by decide) Try.func78 rfl rfl rfl (fun a w v L1 S98 hR le100 up99 h => ?_)
      obtain ⟨A102, c103, rfl, rfl, hr101, hs104, hr105, _⟩ := hR
      refine s_x h rfl rfl (by decide) (x_faddr h.k rfl Try.underlying77 rfl sz_api_Op rfl) (fun a h => ?_)
      refine s_x h rfl rfl (by decide) (x_faddr h.k rfl Try.underlying24 rfl sz_int rfl) (fun a h => ?_)
      refine s_stb h rfl rfl rfl sz_int rfl rfl rfl 2 rfl (by first | decide | simp) (fun a w h => ?_)
      refine l_end ?_
      refine c_rs ?_ -- region 10
      refine s_move h rfl _ rfl rfl (by decide) rfl (fun a h => ?_)
      obtain ⟨x106, h107, hc16⟩ := bsome hc16
      have hX := chatelaineref12_Reader_Bytes_ok Fu (S0 := S98) x95.2 g2 A102 c103 hs104 hr105 512 (show r64 512 from ⟨by decide, by decide⟩) _ h107 _ (h.sub (Ls := [.box g2 129 ([.slice A102 x95.2.1.length c103, .int .i64 x95.2.2])]))
      refine q_callY (Ls := [.box g2 129 ([.slice A102 x95.2.1.length c103, .int .i64 x95.2.2])]) hX h up99 rfl rfl rfl (by decide) Try.func79 rfl rfl rfl (fun a w v L1 S109 hR le111 up110 h => ?_)
      obtain ⟨A112, c113, A115, c116, rfl, rfl, hs114, hs117, hr118, _⟩ := hR
      refine s_x h rfl rfl (by decide) (x_faddr h.k rfl Try.underlying77 rfl sz_api_Op rfl) (fun a h => ?_)
      refine s_x h rfl rfl (by decide) (x_faddr h.k rfl Try.underlying24 rfl sz_Suint8 rfl) (fun a h => ?_)
      refine s_stb h rfl rfl rfl sz_Suint8 rfl rfl rfl 2 rfl (by first | decide | simp) (fun a w h => ?_)
      refine l_end ?_
      refine c_r ?_ -- region 11
      refine s_move h rfl _ rfl rfl (by decide) rfl (fun a h => ?_)
      obtain ⟨x119, h120, hc16⟩ := bsome hc16
      have hX := chatelaineref12_Reader_Bytes_ok Fu (S0 := S109) x106.2 g2 A115 c116 hs117 hr118 512 (show r64 512 from ⟨by decide, by decide⟩) _ h120 _ (h.sub (Ls := [.box g2 129 ([.slice A115 x106.2.1.length c116, .int .i64 x106.2.2])]))
      refine q_callY (Ls := [.box g2 129 ([.slice A115 x106.2.1.length c116, .int .i64 x106.2.2])]) hX h up110 rfl rfl rfl (by decide) Try.func79 rfl rfl rfl (fun a w v L1 S122 hR le124 up123 h => ?_)
      obtain ⟨A125, c126, A128, c129, rfl, rfl, hs127, hs130, hr131, _⟩ := hR
      refine s_x h rfl rfl (by decide) (x_faddr h.k rfl Try.underlying77 rfl sz_api_Op rfl) (fun a h => ?_)
      refine s_x h rfl rfl (by decide) (x_faddr h.k rfl Try.underlying24 rfl sz_Suint8 rfl) (fun a h => ?_)
      refine s_stb h rfl rfl rfl sz_Suint8 rfl rfl rfl 2 rfl (by first | decide | simp) (fun a w h => ?_)
      refine l_nil ?_
      refine e_thenN ?_
      have h := h.pick [3, 0, 2, 1] (by decide) rfl
      exact ⟨S122, x119.2, A128, c129, x51.1, x62.1, x73.1, x84.1, x95.1, x106.1, A112, c113, x119.1, A125, c126, x4.1, 0, [], none, 0, (Option.some.inj hc16), ((((((le56.trans le67).trans le78).trans le89).trans le100).trans le111).trans le124), up123, hs130, hr131, hr57, hr68, hr79, hr90, hr101, (hs114.mono le124), hs127, hr10, (show r64 0 from ⟨by decide, by decide⟩), (slS.nil ty8 _), h.has (by exact ⟨rfl, rfl, rfl, rfl, trivial⟩)⟩
    · rw [if_neg (of_decide_eq_false hb)] at hc16
      refine c_rs ?_ -- region 12
      refine s_move h rfl _ rfl rfl (by decide) rfl (fun a h => ?_)
      obtain ⟨x132, h133, hc16⟩ := bsome hc16
      have hX := chatelaineref12_Reader_Number_ok Fu (S0 := S7) x4.2 g2 A11 c12 hs13 hr14 8 (show r64 8 from ⟨by decide, by decide⟩) 1099511627776 (show r64 1099511627776 from ⟨by decide, by decide⟩) _ h133 _ (h.sub (Ls := [.box g2 129 ([.slice A11 x4.2.1.length c12, .int .i64 x4.2.2])]))
      refine q_callY (Ls := [.box g2 129 ([.slice A11 x4.2.1.length c12, .int .i64 x4.2.2])]) hX h up8 rfl rfl rfl (by decide) Try.func78 rfl rfl rfl (fun a w v L1 S135 hR le137 up136 h => ?_)
      obtain ⟨A139, c140, rfl, rfl, hr138, hs141, hr142, _⟩ := hR
      refine s_x h rfl rfl (by decide) (x_faddr h.k rfl Try.underlying77 rfl sz_int rfl) (fun a h => ?_)
      refine s_stb h rfl rfl rfl sz_int rfl rfl rfl 2 rfl (by first | decide | simp) (fun a w h => ?_)
      refine l_end ?_
      refine c_r ?_ -- region 13
      refine s_move h rfl _ rfl rfl (by decide) rfl (fun a h => ?_)
      obtain ⟨x143, h144, hc16⟩ := bsome hc16
      have hX := chatelaineref12_Reader_Bytes_ok Fu (S0 := S135) x132.2 g2 A139 c140 hs141 hr142 512 (show r64 512 from ⟨by decide, by decide⟩) _ h144 _ (h.sub (Ls := [.box g2 129 ([.slice A139 x132.2.1.length c140, .int .i64 x132.2.2])]))
      refine q_callY (Ls := [.box g2 129 ([.slice A139 x132.2.1.length c140, .int .i64 x132.2.2])]) hX h up136 rfl rfl rfl (by decide) Try.func79 rfl rfl rfl (fun a w v L1 S146 hR le148 up147 h => ?_)
      obtain ⟨A149, c150, A152, c153, rfl, rfl, hs151, hs154, hr155, _⟩ := hR
      refine s_x h rfl rfl (by decide) (x_faddr h.k rfl Try.underlying77 rfl sz_Suint8 rfl) (fun a h => ?_)
      refine s_stb h rfl rfl rfl sz_Suint8 rfl rfl rfl 2 rfl (by first | decide | simp) (fun a w h => ?_)
      refine l_nil ?_
      refine e_thenN ?_
      have h := h.pick [3, 0, 2, 1] (by decide) rfl
      exact ⟨S146, x143.2, A152, c153, 0, 0, 0, 0, 0, [], none, 0, [], none, 0, x4.1, x132.1, x143.1, A149, c150, (Option.some.inj hc16), (le137.trans le148), up147, hs154, hr155, (show r64 0 from ⟨by decide, by decide⟩), (show r64 0 from ⟨by decide, by decide⟩), (show r64 0 from ⟨by decide, by decide⟩), (show r64 0 from ⟨by decide, by decide⟩), (show r64 0 from ⟨by decide, by decide⟩), (slS.nil ty8 _), (slS.nil ty8 _), hr10, hr138, hs151, h.has (by exact ⟨rfl, rfl, rfl, rfl, trivial⟩)⟩
  · rintro a w ⟨S17, x20, A21, c22, x25, x27, x29, x31, x33, x35, A36, c37, x39, A40, c41, x43, x45, x47, A48, c49, rfl, le18, up19, hs23, hr24, hr26, hr28, hr30, hr32, hr34, hs38, hs42, hr44, hr46, hs50, h⟩
    try dsimp only at hf
    refine c_rs ?_ -- region 14
    refine s_move h rfl _ rfl rfl (by decide) rfl (fun a h => ?_)
    obtain ⟨x156, h157, hf⟩ := bsome hf
    have hX := chatelaineref12_Reader_Done_ok Fu (S0 := snapAll _) g2 x20 ⟨[.slice A21 x20.1.length c22, .int .i64 x20.2], h.m.boxAll (i := 1) rfl, ⟨[.slice A21 x20.1.length c22], [.int .i64 x20.2], rfl, ⟨_, _, rfl, (hs23).mono (h.m.leAll (i := 3) rfl)⟩, ⟨rfl, hr24⟩⟩⟩ _ h157 _ h.startAll
    refine q_callX hX h rfl rfl rfl (by decide) Try.func80 rfl rfl rfl (fun a w v L1 S1 hR hb1 h => ?_)
    obtain ⟨rfl, rfl, hr159, _⟩ := hR
    refine s_assign h rfl _ rfl rfl (by decide) rfl (fun a h => ?_)
    refine l_end ?_
    obtain ⟨o160, hc161, hf⟩ := bsome hf
    refine c_cut (fun a w => ∃ (x162 : Int), x162 = o160 ∧ r64 x162 ∧ St 67 w0 (ownL ([] ++ [.sn S0])) [(4, .pointer (some ⟨g1, 0, none⟩)), (7, .pointer (some ⟨g3, 0, none⟩)), (8, .int .i64 x162)] [.box g1 77 ([.int .i64 0, .int .i64 0, .int .i64 0, .int .i64 0, .int .i64 0, .slice none 0 0, .slice none 0 0, .int .i64 0, .int .i64 0, .slice none 0 0]), .box g3 77 ([.int .i64 x25, .int .i64 x27, .int .i64 x29, .int .i64 x31, .int .i64 x33, .slice A36 x35.length c37, .slice A40 x39.length c41, .int .i64 x43, .int .i64 x45, .slice A48 x47.length c49]), .sn S17] a w) ?_ ?_
    · refine c_rs ?_ -- region 15
      refine s_move h rfl _ rfl rfl (by decide) rfl (fun a h => ?_)
      refine s_x h rfl rfl (by decide) (x_bin h.k rfl rfl rfl ib_eql) (fun a h => ?_)
      refine s_move h rfl _ rfl rfl (by decide) rfl (fun a h => ?_)
      obtain ⟨z165, hz164, hc161⟩ := bsome hc161
      refine q_grp h 5 (t := 56) 61 z165 rfl (fun hB2 => ?_) (fun hB2 => ?_) (fun a w h => ?_)
      · rw [if_pos (of_decide_eq_true hB2)] at hz164
        refine g_yes h rfl rfl rfl rfl hB2 ?_
        refine s_x h rfl rfl (by decide) (x_ldR h.k rfl ag_api_Event rfl ([.int .i64 x25, .int .i64 x27, .int .i64 x29, .int .i64 x31, .int .i64 x33, .slice A36 x35.length c37, .slice A40 x39.length c41, .int .i64 x43, .int .i64 x45, .slice A48 x47.length c49]) rfl (h.m.range0 (i := 2) rfl)) (fun a h => ?_)
        refine g_yes h rfl rfl rfl rfl hB2 ?_
        refine s_move h rfl _ rfl rfl (by decide) rfl (fun a h => ?_)
        refine g_yes h rfl rfl rfl rfl hB2 ?_
        obtain ⟨x167, h168, hz164⟩ := bsome hz164
        have hX := chatelaineref33_Right_ok Fu (S0 := snapAll _) ([.int .i64 x25, .int .i64 x27, .int .i64 x29, .int .i64 x31, .int .i64 x33, .slice A36 x35.length c37, .slice A40 x39.length c41, .int .i64 x43, .int .i64 x45, .slice A48 x47.length c49]) ((x25, x27, x29, x31, x33, x35, x39), x43, x45, x47) ((tyP (tyP tyI (tyP tyI (tyP tyI (tyP tyI (tyP tyI (tyP (tyL ty8) (tyL ty8))))))) (tyP tyI (tyP tyI (tyL ty8)))).mono (h.m.leAll (i := 3) rfl) (show (tyP (tyP tyI (tyP tyI (tyP tyI (tyP tyI (tyP tyI (tyP (tyL ty8) (tyL ty8))))))) (tyP tyI (tyP tyI (tyL ty8)))).rep S17 ([.int .i64 x25, .int .i64 x27, .int .i64 x29, .int .i64 x31, .int .i64 x33, .slice A36 x35.length c37, .slice A40 x39.length c41, .int .i64 x43, .int .i64 x45, .slice A48 x47.length c49]) ((x25, x27, x29, x31, x33, x35, x39), x43, x45, x47) from ⟨[.int .i64 x25, .int .i64 x27, .int .i64 x29, .int .i64 x31, .int .i64 x33, .slice A36 x35.length c37, .slice A40 x39.length c41], [.int .i64 x43, .int .i64 x45, .slice A48 x47.length c49], rfl, ⟨[.int .i64 x25], [.int .i64 x27, .int .i64 x29, .int .i64 x31, .int .i64 x33, .slice A36 x35.length c37, .slice A40 x39.length c41], rfl, ⟨rfl, hr26⟩, ⟨[.int .i64 x27], [.int .i64 x29, .int .i64 x31, .int .i64 x33, .slice A36 x35.length c37, .slice A40 x39.length c41], rfl, ⟨rfl, hr28⟩, ⟨[.int .i64 x29], [.int .i64 x31, .int .i64 x33, .slice A36 x35.length c37, .slice A40 x39.length c41], rfl, ⟨rfl, hr30⟩, ⟨[.int .i64 x31], [.int .i64 x33, .slice A36 x35.length c37, .slice A40 x39.length c41], rfl, ⟨rfl, hr32⟩, ⟨[.int .i64 x33], [.slice A36 x35.length c37, .slice A40 x39.length c41], rfl, ⟨rfl, hr34⟩, ⟨[.slice A36 x35.length c37], [.slice A40 x39.length c41], rfl, ⟨_, _, rfl, hs38⟩, ⟨_, _, rfl, hs42⟩⟩⟩⟩⟩⟩⟩, ⟨[.int .i64 x43], [.int .i64 x45, .slice A48 x47.length c49], rfl, ⟨rfl, hr44⟩, ⟨[.int .i64 x45], [.slice A48 x47.length c49], rfl, ⟨rfl, hr46⟩, ⟨_, _, rfl, hs50⟩⟩⟩⟩)) a1 hra1 _ h168 _ h.startAll
        refine q_callX hX h rfl rfl rfl (by decide) Try.func102 rfl rfl rfl (fun a w v L1 S1 hR hb1 h => ?_)
        obtain ⟨rfl, rfl, _⟩ := hR
        refine g_yes h rfl rfl rfl rfl hB2 ?_
        refine s_x h rfl rfl (by decide) (x_not h.k rfl rfl) (fun a h => ?_)
        refine s_x h rfl rfl (by decide) (x_pick (u' := undef) h.k rfl rfl (fun _ => rfl) (fun hh => absurd (hB2.symm.trans hh) (by decide))) (fun a h => ?_)
        exact (h.mid 4 rfl).val (by rw [Option.some.inj hz164])
      · refine g_no h rfl rfl rfl rfl hB2 rfl (by decide) (fun a h => ?_)
        refine g_no h rfl rfl rfl rfl hB2 rfl (by decide) (fun a h => ?_)
        refine g_no h rfl rfl rfl rfl hB2 rfl (by decide) (fun a h => ?_)
        refine g_no h rfl rfl rfl rfl hB2 rfl (by decide) (fun a h => ?_)
        rw [if_neg (of_decide_eq_false hB2)] at hz164
        refine s_x h rfl rfl (by decide) (x_pick (u' := undef) h.k rfl rfl (fun hh => absurd (hB2.symm.trans hh) (by decide)) (fun _ => rfl)) (fun a h => ?_)
        exact (h.mid 4 rfl).val (by rw [Option.some.inj hz164])
      refine l_end ?_
      refine c_cond h rfl (fun hb => ?_) (fun hb => ?_)
      · rw [if_pos hb] at hc161
        refine c_r ?_ -- region 16
        refine s_assign h rfl _ rfl rfl (by decide) rfl (fun a h => ?_)
        refine l_nil ?_
        refine e_thenN ?_
        have h := h.pick [0, 2, 3] (by decide) rfl
        exact ⟨2, (Option.some.inj hc161), (show r64 2 from ⟨by decide, by decide⟩), h.has (by exact ⟨rfl, rfl, rfl, trivial⟩)⟩
      · rw [if_neg (by rw [hb]; decide)] at hc161
        refine wp_skip ?_
        refine e_thenN ?_
        have h := h.pick [0, 2, 3] (by decide) rfl
        exact ⟨x156, (Option.some.inj hc161), hr159, h.has (by exact ⟨rfl, rfl, rfl, trivial⟩)⟩
    · rintro a w ⟨x162, rfl, hr163, h⟩
      refine wp_seq ?_
      refine c_rs ?_ -- region 17
      refine s_move h rfl _ rfl rfl (by decide) rfl (fun a h => ?_)
      refine s_x h rfl rfl (by decide) (x_bin h.k rfl rfl rfl ib_neq) (fun a h => ?_)
      refine l_end ?_
      refine c_cond h rfl (fun hb => ?_) (fun hb => ?_)
      · rw [if_pos (of_decide_eq_true hb)] at hf
        refine c_rs ?_ -- region 18
        refine s_x h rfl rfl (by decide) (x_build h.k rfl [] rfl ([.int .i64 0, .int .i64 0, .int .i64 0, .int .i64 0, .int .i64 0, .slice none 0 0, .slice none 0 0, .int .i64 0, .int .i64 0, .slice none 0 0]) (by kernel_rfl)) (fun a h => ?_)
        refine s_move h rfl _ rfl rfl (by decide) rfl (fun a h => ?_)
        refine s_stW h rfl rfl rfl ag_api_Event rfl (es := [.int .i64 0, .int .i64 0, .int .i64 0, .int .i64 0, .int .i64 0, .slice none 0 0, .slice none 0 0, .int .i64 0, .int .i64 0, .slice none 0 0]) rfl rfl (by simp [Value.oneCell']) 0 rfl rfl (fun a w h => ?_)
        refine s_assign h rfl _ rfl rfl (by decide) rfl (fun a h => ?_)
        refine l_end ?_
        refine wp_ret ?_
        refine e_thenR ?_
        obtain rfl := Option.some.inj hf
        exact r_ret2 h rfl (rv_cellA h rfl 0 rfl ag_api_Event rfl) (rv_tmp h rfl) ⟨_, [], _, rfl, ⟨[.int .i64 0, .int .i64 0, .int .i64 0, .int .i64 0, .int .i64 0, .slice none 0 0, .slice none 0 0, .int .i64 0, .int .i64 0, .slice none 0 0], rfl, rfl, ⟨[.int .i64 0, .int .i64 0, .int .i64 0, .int .i64 0, .int .i64 0, .slice none 0 0, .slice none 0 0], [.int .i64 0, .int .i64 0, .slice none 0 0], rfl, ⟨[.int .i64 0], [.int .i64 0, .int .i64 0, .int .i64 0, .int .i64 0, .slice none 0 0, .slice none 0 0], rfl, ⟨rfl, (show r64 0 from ⟨by decide, by decide⟩)⟩, ⟨[.int .i64 0], [.int .i64 0, .int .i64 0, .int .i64 0, .slice none 0 0, .slice none 0 0], rfl, ⟨rfl, (show r64 0 from ⟨by decide, by decide⟩)⟩, ⟨[.int .i64 0], [.int .i64 0, .int .i64 0, .slice none 0 0, .slice none 0 0], rfl, ⟨rfl, (show r64 0 from ⟨by decide, by decide⟩)⟩, ⟨[.int .i64 0], [.int .i64 0, .slice none 0 0, .slice none 0 0], rfl, ⟨rfl, (show r64 0 from ⟨by decide, by decide⟩)⟩, ⟨[.int .i64 0], [.slice none 0 0, .slice none 0 0], rfl, ⟨rfl, (show r64 0 from ⟨by decide, by decide⟩)⟩, ⟨[.slice none 0 0], [.slice none 0 0], rfl, ⟨_, _, rfl, (slS.nil ty8 _)⟩, ⟨_, _, rfl, (slS.nil ty8 _)⟩⟩⟩⟩⟩⟩⟩, ⟨[.int .i64 0], [.int .i64 0, .slice none 0 0], rfl, ⟨rfl, (show r64 0 from ⟨by decide, by decide⟩)⟩, ⟨[.int .i64 0], [.slice none 0 0], rfl, ⟨rfl, (show r64 0 from ⟨by decide, by decide⟩)⟩, ⟨_, _, rfl, (slS.nil ty8 _)⟩⟩⟩⟩, hr163, trivial⟩, rfl, up19, (h.m.pick [2] _ (by decide) rfl)⟩
      · rw [if_neg (of_decide_eq_false hb)] at hf
        refine wp_skip ?_
        refine e_thenN ?_
        refine c_rs ?_ -- region 19
        refine s_x h rfl rfl (by decide) (x_ldR h.k rfl ag_api_Event rfl ([.int .i64 x25, .int .i64 x27, .int .i64 x29, .int .i64 x31, .int .i64 x33, .slice A36 x35.length c37, .slice A40 x39.length c41, .int .i64 x43, .int .i64 x45, .slice A48 x47.length c49]) rfl (h.m.range0 (i := 1) rfl)) (fun a h => ?_)
        refine s_stW h rfl rfl rfl ag_api_Event rfl (es := [.int .i64 x25, .int .i64 x27, .int .i64 x29, .int .i64 x31, .int .i64 x33, .slice A36 x35.length c37, .slice A40 x39.length c41, .int .i64 x43, .int .i64 x45, .slice A48 x47.length c49]) rfl rfl (by simp [Value.oneCell']) 0 rfl rfl (fun a w h => ?_)
        refine s_assign h rfl _ rfl rfl (by decide) rfl (fun a h => ?_)
        refine l_end ?_
        refine wp_ret ?_
        obtain rfl := Option.some.inj hf
        exact r_ret2 h rfl (rv_cellA h rfl 0 rfl ag_api_Event rfl) (rv_tmp h rfl) ⟨_, [], _, rfl, ⟨[.int .i64 x25, .int .i64 x27, .int .i64 x29, .int .i64 x31, .int .i64 x33, .slice A36 x35.length c37, .slice A40 x39.length c41, .int .i64 x43, .int .i64 x45, .slice A48 x47.length c49], rfl, rfl, ⟨[.int .i64 x25, .int .i64 x27, .int .i64 x29, .int .i64 x31, .int .i64 x33, .slice A36 x35.length c37, .slice A40 x39.length c41], [.int .i64 x43, .int .i64 x45, .slice A48 x47.length c49], rfl, ⟨[.int .i64 x25], [.int .i64 x27, .int .i64 x29, .int .i64 x31, .int .i64 x33, .slice A36 x35.length c37, .slice A40 x39.length c41], rfl, ⟨rfl, hr26⟩, ⟨[.int .i64 x27], [.int .i64 x29, .int .i64 x31, .int .i64 x33, .slice A36 x35.length c37, .slice A40 x39.length c41], rfl, ⟨rfl, hr28⟩, ⟨[.int .i64 x29], [.int .i64 x31, .int .i64 x33, .slice A36 x35.length c37, .slice A40 x39.length c41], rfl, ⟨rfl, hr30⟩, ⟨[.int .i64 x31], [.int .i64 x33, .slice A36 x35.length c37, .slice A40 x39.length c41], rfl, ⟨rfl, hr32⟩, ⟨[.int .i64 x33], [.slice A36 x35.length c37, .slice A40 x39.length c41], rfl, ⟨rfl, hr34⟩, ⟨[.slice A36 x35.length c37], [.slice A40 x39.length c41], rfl, ⟨_, _, rfl, hs38⟩, ⟨_, _, rfl, hs42⟩⟩⟩⟩⟩⟩⟩, ⟨[.int .i64 x43], [.int .i64 x45, .slice A48 x47.length c49], rfl, ⟨rfl, hr44⟩, ⟨[.int .i64 x45], [.slice A48 x47.length c49], rfl, ⟨rfl, hr46⟩, ⟨_, _, rfl, hs50⟩⟩⟩⟩, (show r64 0 from ⟨by decide, by decide⟩), trivial⟩, rfl, up19, (h.m.pick [2] _ (by decide) rfl)⟩
def chatelaineref33_Same (Fu : Nat) (a0 : (Int × Int × Int × Int × Int × (List UInt8) × (List UInt8)) × Int × Int × (List UInt8)) (a1 : (Int × Int × Int × Int × Int × (List UInt8) × (List UInt8)) × Int × Int × (List UInt8)) : Option Bool :=
  (chatelaineref29_Same Fu a0.1 a1.1).bind fun x71 => (if ((x71 && (decide (a0.2.1 = a1.2.1))) && (decide (a0.2.2.1 = a1.2.2.1))) = true then (chatelaineref01_Same Fu a0.2.2.2 a1.2.2.2).bind fun x81 => some x81 else some false).bind fun z79 => some z79
set_option maxRecDepth 100000 in
set_option maxHeartbeats 2000000 in
theorem chatelaineref33_Same_ok (Fu : Nat) {S0 : Snap} (csa0 : List Value) (a0 : (Int × Int × Int × Int × Int × (List UInt8) × (List UInt8)) × Int × Int × (List UInt8)) (hsa0 : (tyP (tyP tyI (tyP tyI (tyP tyI (tyP tyI (tyP tyI (tyP (tyL ty8) (tyL ty8))))))) (tyP tyI (tyP tyI (tyL ty8)))).rep S0 csa0 a0) (csa1 : List Value) (a1 : (Int × Int × Int × Int × Int × (List UInt8) × (List UInt8)) × Int × Int × (List UInt8)) (hsa1 : (tyP (tyP tyI (tyP tyI (tyP tyI (tyP tyI (tyP tyI (tyP (tyL ty8) (tyL ty8))))))) (tyP tyI (tyP tyI (tyL ty8)))).rep S0 csa1 a1) (r : Bool) (hf : chatelaineref33_Same Fu a0 a1 = some r) (w0 : World) (hm : Mem w0 (ownL ([] ++ [.sn S0])) ([] ++ [.sn S0]) w0) :
    Calls Try.prog 49 #[.agg csa0.toArray, .agg csa1.toArray] w0 (Ret w0 S0 [] (fun v L1 S1 => v = .bool r ∧ L1 = [] ∧ True)) := by
  unfold chatelaineref33_Same at hf
  obtain ⟨k1, k2, rfl, ⟨k3, k4, rfl, ⟨rfl, hr5⟩, ⟨k6, k7, rfl, ⟨rfl, hr8⟩, ⟨k9, k10, rfl, ⟨rfl, hr11⟩, ⟨k12, k13, rfl, ⟨rfl, hr14⟩, ⟨k15, k16, rfl, ⟨rfl, hr17⟩, ⟨k18, k19, rfl, ⟨A20, c21, rfl, hs22⟩, ⟨A23, c24, rfl, hs25⟩⟩⟩⟩⟩⟩⟩, ⟨k26, k27, rfl, ⟨rfl, hr28⟩, ⟨k29, k30, rfl, ⟨rfl, hr31⟩, ⟨A32, c33, rfl, hs34⟩⟩⟩⟩ := hsa0
  obtain ⟨k35, k36, rfl, ⟨k37, k38, rfl, ⟨rfl, hr39⟩, ⟨k40, k41, rfl, ⟨rfl, hr42⟩, ⟨k43, k44, rfl, ⟨rfl, hr45⟩, ⟨k46, k47, rfl, ⟨rfl, hr48⟩, ⟨k49, k50, rfl, ⟨rfl, hr51⟩, ⟨k52, k53, rfl, ⟨A54, c55, rfl, hs56⟩, ⟨A57, c58, rfl, hs59⟩⟩⟩⟩⟩⟩⟩, ⟨k60, k61, rfl, ⟨rfl, hr62⟩, ⟨k63, k64, rfl, ⟨rfl, hr65⟩, ⟨A66, c67, rfl, hs68⟩⟩⟩⟩ := hsa1
  refine c_enterM Try.func49 rfl 31 rfl (by simp) _ hm _ rfl (fun a h => ?_)
  refine c_rs ?_ -- region 0
  refine s_box h rfl rfl rfl (by decide) rfl (cs := [.int .i64 a0.1.1, .int .i64 a0.1.2.1, .int .i64 a0.1.2.2.1, .int .i64 a0.1.2.2.2.1, .int .i64 a0.1.2.2.2.2.1, .slice A20 a0.1.2.2.2.2.2.1.length c21, .slice A23 a0.1.2.2.2.2.2.2.length c24, .int .i64 a0.2.1, .int .i64 a0.2.2.1, .slice A32 a0.2.2.2.length c33]) (by rfl) (fun a w g69 h => ?_)
  refine s_box h rfl rfl rfl (by decide) rfl (cs := [.int .i64 a1.1.1, .int .i64 a1.1.2.1, .int .i64 a1.1.2.2.1, .int .i64 a1.1.2.2.2.1, .int .i64 a1.1.2.2.2.2.1, .slice A54 a1.1.2.2.2.2.2.1.length c55, .slice A57 a1.1.2.2.2.2.2.2.length c58, .int .i64 a1.2.1, .int .i64 a1.2.2.1, .slice A66 a1.2.2.2.length c67]) (by rfl) (fun a w g70 h => ?_)
  refine s_assign h rfl _ rfl rfl (by decide) rfl (fun a h => ?_)
  refine l_end ?_
  refine c_rs ?_ -- region 1
  refine s_x h rfl rfl (by decide) (x_faddr h.k rfl Try.underlying77 rfl sz_api_Op rfl) (fun a h => ?_)
  refine s_x h rfl rfl (by decide) (x_ldR h.k rfl ag_api_Op rfl ([.int .i64 a0.1.1, .int .i64 a0.1.2.1, .int .i64 a0.1.2.2.1, .int .i64 a0.1.2.2.2.1, .int .i64 a0.1.2.2.2.2.1, .slice A20 a0.1.2.2.2.2.2.1.length c21, .slice A23 a0.1.2.2.2.2.2.2.length c24]) rfl (h.m.range (i := 1) rfl 0 7)) (fun a h => ?_)
  refine s_x h rfl rfl (by decide) (x_faddr h.k rfl Try.underlying77 rfl sz_api_Op rfl) (fun a h => ?_)
  refine s_x h rfl rfl (by decide) (x_ldR h.k rfl ag_api_Op rfl ([.int .i64 a1.1.1, .int .i64 a1.1.2.1, .int .i64 a1.1.2.2.1, .int .i64 a1.1.2.2.2.1, .int .i64 a1.1.2.2.2.2.1, .slice A54 a1.1.2.2.2.2.2.1.length c55, .slice A57 a1.1.2.2.2.2.2.2.length c58]) rfl (h.m.range (i := 0) rfl 0 7)) (fun a h => ?_)
  obtain ⟨x71, h72, hf⟩ := bsome hf
  have hX := chatelaineref29_Same_ok Fu (S0 := snapAll _) ([.int .i64 a0.1.1, .int .i64 a0.1.2.1, .int .i64 a0.1.2.2.1, .int .i64 a0.1.2.2.2.1, .int .i64 a0.1.2.2.2.2.1, .slice A20 a0.1.2.2.2.2.2.1.length c21, .slice A23 a0.1.2.2.2.2.2.2.length c24]) a0.1 ((tyP tyI (tyP tyI (tyP tyI (tyP tyI (tyP tyI (tyP (tyL ty8) (tyL ty8))))))).mono (h.m.leAll (i := 2) rfl) (show (tyP tyI (tyP tyI (tyP tyI (tyP tyI (tyP tyI (tyP (tyL ty8) (tyL ty8))))))).rep S0 ([.int .i64 a0.1.1, .int .i64 a0.1.2.1, .int .i64 a0.1.2.2.1, .int .i64 a0.1.2.2.2.1, .int .i64 a0.1.2.2.2.2.1, .slice A20 a0.1.2.2.2.2.2.1.length c21, .slice A23 a0.1.2.2.2.2.2.2.length c24]) a0.1 from ⟨[.int .i64 a0.1.1], [.int .i64 a0.1.2.1, .int .i64 a0.1.2.2.1, .int .i64 a0.1.2.2.2.1, .int .i64 a0.1.2.2.2.2.1, .slice A20 a0.1.2.2.2.2.2.1.length c21, .slice A23 a0.1.2.2.2.2.2.2.length c24], rfl, ⟨rfl, hr5⟩, ⟨[.int .i64 a0.1.2.1], [.int .i64 a0.1.2.2.1, .int .i64 a0.1.2.2.2.1, .int .i64 a0.1.2.2.2.2.1, .slice A20 a0.1.2.2.2.2.2.1.length c21, .slice A23 a0.1.2.2.2.2.2.2.length c24], rfl, ⟨rfl, hr8⟩, ⟨[.int .i64 a0.1.2.2.1], [.int .i64 a0.1.2.2.2.1, .int .i64 a0.1.2.2.2.2.1, .slice A20 a0.1.2.2.2.2.2.1.length c21, .slice A23 a0.1.2.2.2.2.2.2.length c24], rfl, ⟨rfl, hr11⟩, ⟨[.int .i64 a0.1.2.2.2.1], [.int .i64 a0.1.2.2.2.2.1, .slice A20 a0.1.2.2.2.2.2.1.length c21, .slice A23 a0.1.2.2.2.2.2.2.length c24], rfl, ⟨rfl, hr14⟩, ⟨[.int .i64 a0.1.2.2.2.2.1], [.slice A20 a0.1.2.2.2.2.2.1.length c21, .slice A23 a0.1.2.2.2.2.2.2.length c24], rfl, ⟨rfl, hr17⟩, ⟨[.slice A20 a0.1.2.2.2.2.2.1.length c21], [.slice A23 a0.1.2.2.2.2.2.2.length c24], rfl, ⟨_, _, rfl, hs22⟩, ⟨_, _, rfl, hs25⟩⟩⟩⟩⟩⟩⟩)) ([.int .i64 a1.1.1, .int .i64 a1.1.2.1, .int .i64 a1.1.2.2.1, .int .i64 a1.1.2.2.2.1, .int .i64 a1.1.2.2.2.2.1, .slice A54 a1.1.2.2.2.2.2.1.length c55, .slice A57 a1.1.2.2.2.2.2.2.length c58]) a1.1 ((tyP tyI (tyP tyI (tyP tyI (tyP tyI (tyP tyI (tyP (tyL ty8) (tyL ty8))))))).mono (h.m.leAll (i := 2) rfl) (show (tyP tyI (tyP tyI (tyP tyI (tyP tyI (tyP tyI (tyP (tyL ty8) (tyL ty8))))))).rep S0 ([.int .i64 a1.1.1, .int .i64 a1.1.2.1, .int .i64 a1.1.2.2.1, .int .i64 a1.1.2.2.2.1, .int .i64 a1.1.2.2.2.2.1, .slice A54 a1.1.2.2.2.2.2.1.length c55, .slice A57 a1.1.2.2.2.2.2.2.length c58]) a1.1 from ⟨[.int .i64 a1.1.1], [.int .i64 a1.1.2.1, .int .i64 a1.1.2.2.1, .int .i64 a1.1.2.2.2.1, .int .i64 a1.1.2.2.2.2.1, .slice A54 a1.1.2.2.2.2.2.1.length c55, .slice A57 a1.1.2.2.2.2.2.2.length c58], rfl, ⟨rfl, hr39⟩, ⟨[.int .i64 a1.1.2.1], [.int .i64 a1.1.2.2.1, .int .i64 a1.1.2.2.2.1, .int .i64 a1.1.2.2.2.2.1, .slice A54 a1.1.2.2.2.2.2.1.length c55, .slice A57 a1.1.2.2.2.2.2.2.length c58], rfl, ⟨rfl, hr42⟩, ⟨[.int .i64 a1.1.2.2.1], [.int .i64 a1.1.2.2.2.1, .int .i64 a1.1.2.2.2.2.1, .slice A54 a1.1.2.2.2.2.2.1.length c55, .slice A57 a1.1.2.2.2.2.2.2.length c58], rfl, ⟨rfl, hr45⟩, ⟨[.int .i64 a1.1.2.2.2.1], [.int .i64 a1.1.2.2.2.2.1, .slice A54 a1.1.2.2.2.2.2.1.length c55, .slice A57 a1.1.2.2.2.2.2.2.length c58], rfl, ⟨rfl, hr48⟩, ⟨[.int .i64 a1.1.2.2.2.2.1], [.slice A54 a1.1.2.2.2.2.2.1.length c55, .slice A57 a1.1.2.2.2.2.2.2.length c58], rfl, ⟨rfl, hr51⟩, ⟨[.slice A54 a1.1.2.2.2.2.2.1.length c55], [.slice A57 a1.1.2.2.2.2.2.2.length c58], rfl, ⟨_, _, rfl, hs56⟩, ⟨_, _, rfl, hs59⟩⟩⟩⟩⟩⟩⟩)) _ h72 _ h.startAll
  refine q_callX hX h rfl rfl rfl (by decide) Try.func25 rfl rfl rfl (fun a w v L1 S1 hR hb1 h => ?_)
  obtain ⟨rfl, rfl, _⟩ := hR
  refine s_move h rfl _ rfl rfl (by decide) rfl (fun a h => ?_)
  refine q_grp h 6 (t := 10) 16 (x71 && (decide (a0.2.1 = a1.2.1))) rfl (fun hB5 => ?_) (fun hB5 => ?_) (fun a w h => ?_)
  · refine g_yes h rfl rfl rfl rfl hB5 ?_
    refine s_x h rfl rfl (by decide) (x_faddr h.k rfl Try.underlying77 rfl sz_int rfl) (fun a h => ?_)
    refine g_yes h rfl rfl rfl rfl hB5 ?_
    refine s_x h rfl rfl (by decide) (x_ld h.k rfl Try.underlying3 rfl rfl ((h.m.cell (i := 1) rfl 7).trans rfl)) (fun a h => ?_)
    refine g_yes h rfl rfl rfl rfl hB5 ?_
    refine s_x h rfl rfl (by decide) (x_faddr h.k rfl Try.underlying77 rfl sz_int rfl) (fun a h => ?_)
    refine g_yes h rfl rfl rfl rfl hB5 ?_
    refine s_x h rfl rfl (by decide) (x_ld h.k rfl Try.underlying3 rfl rfl ((h.m.cell (i := 0) rfl 7).trans rfl)) (fun a h => ?_)
    refine g_yes h rfl rfl rfl rfl hB5 ?_
    refine s_x h rfl rfl (by decide) (x_bin h.k rfl rfl rfl ib_eql) (fun a h => ?_)
    refine s_x h rfl rfl (by decide) (x_pick (u' := undef) h.k rfl rfl (fun _ => rfl) (fun hh => absurd (hB5.symm.trans hh) (by decide))) (fun a h => ?_)
    exact (h.mid 5 rfl).val (by first | rfl | (rw [hB5]; first | rfl | simp))
  · refine g_no h rfl rfl rfl rfl hB5 rfl (by decide) (fun a h => ?_)
    refine g_no h rfl rfl rfl rfl hB5 rfl (by decide) (fun a h => ?_)
    refine g_no h rfl rfl rfl rfl hB5 rfl (by decide) (fun a h => ?_)
    refine g_no h rfl rfl rfl rfl hB5 rfl (by decide) (fun a h => ?_)
    refine g_no h rfl rfl rfl rfl hB5 rfl (by decide) (fun a h => ?_)
    refine s_x h rfl rfl (by decide) (x_pick (u' := undef) h.k rfl rfl (fun hh => absurd (hB5.symm.trans hh) (by decide)) (fun _ => rfl)) (fun a h => ?_)
    exact (h.mid 5 rfl).val (by first | rfl | (rw [hB5]; first | rfl | simp))
  refine s_move h rfl _ rfl rfl (by decide) rfl (fun a h => ?_)
  refine q_grp h 6 (t := 17) 23 ((x71 && (decide (a0.2.1 = a1.2.1))) && (decide (a0.2.2.1 = a1.2.2.1))) rfl (fun hB12 => ?_) (fun hB12 => ?_) (fun a w h => ?_)
  · refine g_yes h rfl rfl rfl rfl hB12 ?_
    refine s_x h rfl rfl (by decide) (x_faddr h.k rfl Try.underlying77 rfl sz_int rfl) (fun a h => ?_)
    refine g_yes h rfl rfl rfl rfl hB12 ?_
    refine s_x h rfl rfl (by decide) (x_ld h.k rfl Try.underlying3 rfl rfl ((h.m.cell (i := 1) rfl 8).trans rfl)) (fun a h => ?_)
    refine g_yes h rfl rfl rfl rfl hB12 ?_
    refine s_x h rfl rfl (by decide) (x_faddr h.k rfl Try.underlying77 rfl sz_int rfl) (fun a h => ?_)
    refine g_yes h rfl rfl rfl rfl hB12 ?_
    refine s_x h rfl rfl (by decide) (x_ld h.k rfl Try.underlying3 rfl rfl ((h.m.cell (i := 0) rfl 8).trans rfl)) (fun a h => ?_)
    refine g_yes h rfl rfl rfl rfl hB12 ?_
    refine s_x h rfl rfl (by decide) (x_bin h.k rfl rfl rfl ib_eql) (fun a h => ?_)
    refine s_x h rfl rfl (by decide) (x_pick (u' := undef) h.k rfl rfl (fun _ => rfl) (fun hh => absurd (hB12.symm.trans hh) (by decide))) (fun a h => ?_)
    exact (h.mid 5 rfl).val (by first | rfl | (rw [hB12]; first | rfl | simp))
  · refine g_no h rfl rfl rfl rfl hB12 rfl (by decide) (fun a h => ?_)
    refine g_no h rfl rfl rfl rfl hB12 rfl (by decide) (fun a h => ?_)
    refine g_no h rfl rfl rfl rfl hB12 rfl (by decide) (fun a h => ?_)
    refine g_no h rfl rfl rfl rfl hB12 rfl (by decide) (fun a h => ?_)
    refine g_no h rfl rfl rfl rfl hB12 rfl (by decide) (fun a h => ?_)
    refine s_x h rfl rfl (by decide) (x_pick (u' := undef) h.k rfl rfl (fun hh => absurd (hB12.symm.trans hh) (by decide)) (fun _ => rfl)) (fun a h => ?_)
    exact (h.mid 5 rfl).val (by first | rfl | (rw [hB12]; first | rfl | simp))
  refine s_move h rfl _ rfl rfl (by decide) rfl (fun a h => ?_)
  obtain ⟨z79, hz78, hf⟩ := bsome hf
  refine q_grp h 6 (t := 24) 30 z79 rfl (fun hB19 => ?_) (fun hB19 => ?_) (fun a w h => ?_)
  · rw [if_pos hB19] at hz78
    refine g_yes h rfl rfl rfl rfl hB19 ?_
    refine s_x h rfl rfl (by decide) (x_faddr h.k rfl Try.underlying77 rfl sz_Suint8 rfl) (fun a h => ?_)
    refine g_yes h rfl rfl rfl rfl hB19 ?_
    refine s_x h rfl rfl (by decide) (x_ld h.k rfl Try.underlying22 rfl rfl ((h.m.cell (i := 1) rfl 9).trans rfl)) (fun a h => ?_)
    refine g_yes h rfl rfl rfl rfl hB19 ?_
    refine s_x h rfl rfl (by decide) (x_faddr h.k rfl Try.underlying77 rfl sz_Suint8 rfl) (fun a h => ?_)
    refine g_yes h rfl rfl rfl rfl hB19 ?_
    refine s_x h rfl rfl (by decide) (x_ld h.k rfl Try.underlying22 rfl rfl ((h.m.cell (i := 0) rfl 9).trans rfl)) (fun a h => ?_)
    refine g_yes h rfl rfl rfl rfl hB19 ?_
    obtain ⟨x81, h82, hz78⟩ := bsome hz78
    have hX := chatelaineref01_Same_ok Fu (S0 := snapAll _) A32 c33 a0.2.2.2 (hs34.mono (h.m.leAll (i := 2) rfl)) A66 c67 a1.2.2.2 (hs68.mono (h.m.leAll (i := 2) rfl)) _ h82 _ h.startAll
    refine q_callX hX h rfl rfl rfl (by decide) Try.func21 rfl rfl rfl (fun a w v L1 S1 hR hb1 h => ?_)
    obtain ⟨rfl, rfl, _⟩ := hR
    refine s_x h rfl rfl (by decide) (x_pick (u' := undef) h.k rfl rfl (fun _ => rfl) (fun hh => absurd (hB19.symm.trans hh) (by decide))) (fun a h => ?_)
    exact (h.mid 5 rfl).val (by rw [Option.some.inj hz78])
  · refine g_no h rfl rfl rfl rfl hB19 rfl (by decide) (fun a h => ?_)
    refine g_no h rfl rfl rfl rfl hB19 rfl (by decide) (fun a h => ?_)
    refine g_no h rfl rfl rfl rfl hB19 rfl (by decide) (fun a h => ?_)
    refine g_no h rfl rfl rfl rfl hB19 rfl (by decide) (fun a h => ?_)
    refine g_no h rfl rfl rfl rfl hB19 rfl (by decide) (fun a h => ?_)
    rw [if_neg (by rw [hB19]; decide)] at hz78
    refine s_x h rfl rfl (by decide) (x_pick (u' := undef) h.k rfl rfl (fun hh => absurd (hB19.symm.trans hh) (by decide)) (fun _ => rfl)) (fun a h => ?_)
    exact (h.mid 5 rfl).val (by rw [Option.some.inj hz78])
  refine s_assign h rfl _ rfl rfl (by decide) rfl (fun a h => ?_)
  refine l_end ?_
  refine wp_ret ?_
  rw [← Option.some.inj hf]
  exact r_ret1 h rfl (rv_tmp h rfl) ⟨_, [], _, rfl, ⟨rfl, rfl, trivial⟩, rfl, (Up.refl _ _ _), (h.m.pick [2] _ (by decide) rfl)⟩
def chatelaineref33_Unpack_l0 (Fu : Nat) (x2 : Int × ((List UInt8) × Int)) : Nat → (List (List UInt8)) → Int → ((List UInt8) × Int) → Option ((List (List UInt8)) × ((List UInt8) × Int))
  | 0, _, _, _ => none
  | k + 1, x33, x38, x40 => if x38 < x2.1 then ((chatelaineref12_Reader_Bytes Fu x40 65535).bind fun x61 => (app 24 x33 ([x61.1])).bind fun x76 => chatelaineref33_Unpack_l0 Fu x2 k x76 (w64 (x38 + 1)) x61.2) else (some (x33, x40))
def chatelaineref33_Unpack_l1 (Fu : Nat) (a1 : Int) (x2 : Int × ((List UInt8) × Int)) (x48 : List (List UInt8)) : Nat → (List ((Int × Int × Int × Int × Int × (List UInt8) × (List UInt8)) × Int × Int × (List UInt8))) → Int → Option (Sum ((List ((Int × Int × Int × Int × Int × (List UInt8) × (List UInt8)) × Int × Int × (List UInt8))) × Int) ((List ((Int × Int × Int × Int × Int × (List UInt8) × (List UInt8)) × Int × Int × (List UInt8)))))
  | 0, _, _ => none
  | k + 1, x102, x107 => if x107 < x2.1 then ((ix x48.length x107).bind fun m120 => (x48[m120]?).bind fun x126 => (chatelaineref33_Take Fu x126 a1).bind fun x135 => if x135.2 ≠ 0 then (some (.inl ([], x135.2))) else ((app 128 x102 ([x135.1])).bind fun x182 => chatelaineref33_Unpack_l1 Fu a1 x2 x48 k x182 (w64 (x107 + 1)))) else (some (.inr x102))
def chatelaineref33_Unpack (Fu : Nat) (a0 : List UInt8) (a1 : Int) : Option ((List ((Int × Int × Int × Int × Int × (List UInt8) × (List UInt8)) × Int × Int × (List UInt8))) × Int) :=
  (chatelaineref12_Reader_Number Fu (a0, 0) 4 4096).bind fun x2 => (chatelaineref33_Unpack_l0 Fu x2 Fu ([]) 0 x2.2).bind fun (x48, x53) => (chatelaineref12_Reader_Done Fu x53).bind fun x82 => if x82 ≠ 0 then (some ([], x82)) else ((chatelaineref33_Unpack_l1 Fu a1 x2 x48 Fu ([]) 0).bind fun o => match o with | .inl r188 => some r188 | .inr x112 => some (x112, 0))
set_option maxRecDepth 100000 in
set_option maxHeartbeats 2000000 in
theorem chatelaineref33_Unpack_ok (Fu : Nat) {S0 : Snap} (Aa0 : Option Addr) (ca0 : Nat) (a0 : List UInt8) (hsa0 : slS ty8 S0 Aa0 ca0 a0) (a1 : Int) (hra1 : r64 a1) (r : (List ((Int × Int × Int × Int × Int × (List UInt8) × (List UInt8)) × Int × Int × (List UInt8))) × Int) (hf : chatelaineref33_Unpack Fu a0 a1 = some r) (w0 : World) (hm : Mem w0 (ownL ([] ++ [.sn S0])) ([] ++ [.sn S0]) w0) :
    Calls Try.prog 48 #[.slice Aa0 a0.length ca0, .int .i64 a1] w0 (Ret w0 S0 [] (fun v L1 S1 => ∃ (A190 : Option Addr), ∃ (c191 : Nat), ∃ (cs192 : List Value), v = .tuple #[.slice A190 r.1.length c191, .int .i64 r.2] ∧ L1 = [.row (.slice A190 r.1.length c191) 77 10 r.1.length cs192] ∧ reps (tyP (tyP tyI (tyP tyI (tyP tyI (tyP tyI (tyP tyI (tyP (tyL ty8) (tyL ty8))))))) (tyP tyI (tyP tyI (tyL ty8)))) S1 cs192 r.1 ∧ r64 r.2 ∧ True)) := by
  unfold chatelaineref33_Unpack at hf
  refine c_enterM Try.func48 rfl 57 rfl (by simp) _ hm _ rfl (fun a h => ?_)
  refine c_rs ?_ -- region 0
  refine s_assign h rfl _ rfl rfl (by decide) rfl (fun a h => ?_)
  refine s_assign h rfl _ rfl rfl (by decide) rfl (fun a h => ?_)
  refine l_end ?_
  refine c_rs ?_ -- region 1
  refine s_move h rfl _ rfl rfl (by decide) rfl (fun a h => ?_)
  refine s_x h rfl rfl (by decide) (x_build h.k rfl [(0, .slice Aa0 a0.length ca0)] rfl ([.slice Aa0 a0.length ca0, .int .i64 0]) (by kernel_rfl)) (fun a h => ?_)
  refine s_box h rfl rfl rfl (by decide) rfl (cs := [.slice Aa0 a0.length ca0, .int .i64 0]) (by rfl) (fun a w g1 h => ?_)
  refine s_assign h rfl _ rfl rfl (by decide) rfl (fun a h => ?_)
  refine l_end ?_
  refine c_rs ?_ -- region 2
  refine s_move h rfl _ rfl rfl (by decide) rfl (fun a h => ?_)
  obtain ⟨x2, h3, hf⟩ := bsome hf
  have hX := chatelaineref12_Reader_Number_ok Fu (S0 := S0) (a0, 0) g1 Aa0 ca0 hsa0 (show r64 0 from ⟨by decide, by decide⟩) 4 (show r64 4 from ⟨by decide, by decide⟩) 4096 (show r64 4096 from ⟨by decide, by decide⟩) _ h3 _ (h.sub (Ls := [.box g1 129 ([.slice Aa0 a0.length ca0, .int .i64 0])]))
  refine q_callY (Ls := [.box g1 129 ([.slice Aa0 a0.length ca0, .int .i64 0])]) hX h (Up.refl _ _ _) rfl rfl rfl (by decide) Try.func78 rfl rfl rfl (fun a w v L1 S5 hR le7 up6 h => ?_)
  obtain ⟨A9, c10, rfl, rfl, hr8, hs11, hr12, _⟩ := hR
  refine s_assign h rfl _ rfl rfl (by decide) rfl (fun a h => ?_)
  refine l_end ?_
  refine c_rs ?_ -- region 3
  refine s_assign h rfl _ rfl rfl (by decide) rfl (fun a h => ?_)
  refine l_end ?_
  refine wp_seq ?_
  refine c_rs ?_ -- region 4
  refine s_assign h rfl _ rfl rfl (by decide) rfl (fun a h => ?_)
  refine l_end ?_
  obtain ⟨o13, hl14, hf⟩ := bsome hf
  refine c_fin (fun a w => ∃ (S45 : Snap), ∃ (x48 : List (List UInt8)), ∃ (A49 : Option Addr), ∃ (c50 : Nat), ∃ (cs51 : List Value), ∃ (x53 : (List UInt8) × Int), ∃ (A54 : Option Addr), ∃ (c55 : Nat), (x48, x53) = o13 ∧ Snap.le S5 S45 ∧ Up (ownL ([] ++ [.sn S0])) w0 S0 S45 ∧ reps (tyL ty8) S45 cs51 x48 ∧ slS ty8 S45 A54 c55 x53.1 ∧ r64 x53.2 ∧ St 57 w0 (ownL ([] ++ [.sn S0])) [(1, .int .i64 a1), (6, .pointer (some ⟨g1, 0, none⟩)), (7, .int .i64 x2.1), (8, .slice A49 x48.length c50)] [.box g1 129 ([.slice A54 x53.1.length c55, .int .i64 x53.2]), .row (.slice A49 x48.length c50) 22 1 x48.length cs51, .sn S45] a w) ?_ ?_
  · refine wp_block ?_
    have h := h.mem (h.m.nilrow 22 1)
    have h := h.pick [1, 0, 2] (by decide) rfl
    refine c_loop (fun m59 a w => ∃ (S30 : Snap), ∃ (x33 : List (List UInt8)), ∃ (A34 : Option Addr), ∃ (c35 : Nat), ∃ (cs36 : List Value), ∃ (x38 : Int), ∃ (x40 : (List UInt8) × Int), ∃ (A41 : Option Addr), ∃ (c42 : Nat), chatelaineref33_Unpack_l0 Fu x2 m59 x33 x38 x40 = some o13 ∧ Snap.le S5 S30 ∧ Up (ownL ([] ++ [.sn S0])) w0 S0 S30 ∧ reps (tyL ty8) S30 cs36 x33 ∧ r64 x38 ∧ slS ty8 S30 A41 c42 x40.1 ∧ r64 x40.2 ∧ St 57 w0 (ownL ([] ++ [.sn S0])) [(1, .int .i64 a1), (6, .pointer (some ⟨g1, 0, none⟩)), (7, .int .i64 x2.1), (8, .slice A34 x33.length c35), (9, .int .i64 x38)] [.box g1 129 ([.slice A41 x40.1.length c42, .int .i64 x40.2]), .row (.slice A34 x33.length c35) 22 1 x33.length cs36, .sn S30] a w) Fu ⟨S5, [], none, 0, [], 0, x2.2, A9, c10, hl14, (Snap.le.refl _), up6, (show reps (tyL ty8) S5 [] [] from rfl), (show r64 0 from ⟨by decide, by decide⟩), hs11, hr12, h.has (by exact ⟨rfl, rfl, rfl, rfl, rfl, trivial⟩)⟩ (fun m59 a w hI => ?_)
    obtain ⟨S30, x33, A34, c35, cs36, x38, x40, A41, c42, hl58, le31, up32, hq37, hr39, hs43, hr44, h⟩ := hI
    obtain _ | m59 := m59
    · rw [chatelaineref33_Unpack_l0] at hl58; cases hl58
    rw [chatelaineref33_Unpack_l0] at hl58
    refine wp_seq ?_
    refine c_rs ?_ -- region 5
    refine s_move h rfl _ rfl rfl (by decide) rfl (fun a h => ?_)
    refine s_move h rfl _ rfl rfl (by decide) rfl (fun a h => ?_)
    refine s_x h rfl rfl (by decide) (x_bin h.k rfl rfl rfl ib_lss) (fun a h => ?_)
    refine l_end ?_
    refine c_cond h rfl (fun hb => ?_) (fun hb => ?_)
    · rw [if_pos (of_decide_eq_true hb)] at hl58
      refine wp_skip ?_
      refine e_thenN ?_
      refine wp_seq ?_
      refine wp_block ?_
      refine c_r ?_ -- region 7
      refine s_move h rfl _ rfl rfl (by decide) rfl (fun a h => ?_)
      refine s_move h rfl _ rfl rfl (by decide) rfl (fun a h => ?_)
      obtain ⟨x61, h62, hl58⟩ := bsome hl58
      have h := h.pick [0, 2, 1] (by decide) rfl
      have hX := chatelaineref12_Reader_Bytes_ok Fu (S0 := S30) x40 g1 A41 c42 hs43 hr44 65535 (show r64 65535 from ⟨by decide, by decide⟩) _ h62 _ (h.sub (Ls := [.box g1 129 ([.slice A41 x40.1.length c42, .int .i64 x40.2])]))
      refine q_callY (Ls := [.box g1 129 ([.slice A41 x40.1.length c42, .int .i64 x40.2])]) hX h up32 rfl rfl rfl (by decide) Try.func79 rfl rfl rfl (fun a w v L1 S64 hR le66 up65 h => ?_)
      obtain ⟨A67, c68, A70, c71, rfl, rfl, hs69, hs72, hr73, _⟩ := hR
      refine q_bslice (T := tyL ty8) (S := S64) h rfl rfl rfl (by decide) Try.underlying148 zi_Suint8 (by decide) (by decide) (by decide) (by decide) [.slice A67 x61.1.length c68] rfl rfl (C := [[.slice A67 x61.1.length c68]]) rfl (xs := [x61.1]) ⟨[.slice A67 x61.1.length c68], _, rfl, ⟨_, _, rfl, hs69⟩, rfl⟩ (by intro c hc; simp only [List.mem_cons, List.not_mem_nil, or_false] at hc; subst hc; rfl) (fun a w A74 h => ?_)
      have hb75 : reps (tyL ty8) S64 ([[.slice A67 x61.1.length c68]]).flatten [x61.1] := ⟨[.slice A67 x61.1.length c68], _, rfl, ⟨_, _, rfl, hs69⟩, rfl⟩
      obtain ⟨x76, h77, hl58⟩ := bsome hl58
      refine q_append (T := tyL ty8) (S := S64) h rfl rfl rfl (by decide) Try.underlying148 zb_Suint8 rfl (by decide) rfl 3 rfl (hq37.mono le66) rfl hb75 (h.m.rdRowA (i := 0) rfl) h77 (fun a w A78 c79 cs80 hq81 h => ?_)
      refine s_assign h rfl _ rfl rfl (by decide) rfl (fun a h => ?_)
      refine l_nil ?_
      refine e_blkN ?_
      refine e_thenN ?_
      refine c_r ?_ -- region 6
      refine s_move h rfl _ rfl rfl (by decide) rfl (fun a h => ?_)
      refine s_x h rfl rfl (by decide) (x_bin h.k rfl rfl rfl (ib_add rfl)) (fun a h => ?_)
      refine s_assign h rfl _ rfl rfl (by decide) rfl (fun a h => ?_)
      refine l_nil ?_
      have h := h.pick [1, 3, 2] (by decide) rfl
      exact e_thenN ⟨m59, Nat.lt_succ_self _, S64, x76, A78, c79, cs80, w64 (x38 + 1), x61.2, A70, c71, hl58, (le31.trans le66), up65, hq81, (w64_r _), hs72, hr73, h.has (by exact ⟨rfl, rfl, rfl, rfl, rfl, trivial⟩)⟩
    · rw [if_neg (of_decide_eq_false hb)] at hl58
      refine wp_exit ?_
      refine e_thenX ?_
      refine e_thenX ?_
      refine e_blkX ?_
      refine e_thenN ?_
      exact ⟨S30, x33, A34, c35, cs36, x40, A41, c42, (Option.some.inj hl58), le31, up32, hq37, hs43, hr44, h.has (by exact ⟨rfl, rfl, rfl, rfl, trivial⟩)⟩
  · rintro a w ⟨S45, x48, A49, c50, cs51, x53, A54, c55, rfl, le46, up47, hq52, hs56, hr57, h⟩
    try dsimp only at hf
    refine e_thenN ?_
    refine c_rs ?_ -- region 8
    refine s_move h rfl _ rfl rfl (by decide) rfl (fun a h => ?_)
    obtain ⟨x82, h83, hf⟩ := bsome hf
    have hX := chatelaineref12_Reader_Done_ok Fu (S0 := snapAll _) g1 x53 ⟨[.slice A54 x53.1.length c55, .int .i64 x53.2], h.m.boxAll (i := 0) rfl, ⟨[.slice A54 x53.1.length c55], [.int .i64 x53.2], rfl, ⟨_, _, rfl, (hs56).mono (h.m.leAll (i := 2) rfl)⟩, ⟨rfl, hr57⟩⟩⟩ _ h83 _ h.startAll
    refine q_callX hX h rfl rfl rfl (by decide) Try.func80 rfl rfl rfl (fun a w v L1 S1 hR hb1 h => ?_)
    obtain ⟨rfl, rfl, hr85, _⟩ := hR
    refine s_assign h rfl _ rfl rfl (by decide) rfl (fun a h => ?_)
    refine l_end ?_
    refine wp_seq ?_
    refine c_rs ?_ -- region 9
    refine s_move h rfl _ rfl rfl (by decide) rfl (fun a h => ?_)
    refine s_x h rfl rfl (by decide) (x_bin h.k rfl rfl rfl ib_neq) (fun a h => ?_)
    refine l_end ?_
    refine c_cond h rfl (fun hb => ?_) (fun hb => ?_)
    · rw [if_pos (of_decide_eq_true hb)] at hf
      refine c_rs ?_ -- region 10
      refine s_move h rfl _ rfl rfl (by decide) rfl (fun a h => ?_)
      refine s_assign h rfl _ rfl rfl (by decide) rfl (fun a h => ?_)
      refine s_assign h rfl _ rfl rfl (by decide) rfl (fun a h => ?_)
      refine l_end ?_
      refine wp_ret ?_
      refine e_thenR ?_
      obtain rfl := Option.some.inj hf
      have h := h.mem (h.m.nilrow 77 10)
      exact r_ret2 h rfl (rv_tmp h rfl) (rv_tmp h rfl) ⟨_, [.row (.slice none ([]).length 0) 77 10 ([]).length []], _, rfl, ⟨none, 0, [], rfl, rfl, (show reps (tyP (tyP tyI (tyP tyI (tyP tyI (tyP tyI (tyP tyI (tyP (tyL ty8) (tyL ty8))))))) (tyP tyI (tyP tyI (tyL ty8)))) S45 [] [] from rfl), hr85, trivial⟩, rfl, up47, (h.m.pick [0, 3] _ (by decide) rfl)⟩
    · rw [if_neg (of_decide_eq_false hb)] at hf
      refine wp_skip ?_
      refine e_thenN ?_
      refine c_rs ?_ -- region 11
      refine s_assign h rfl _ rfl rfl (by decide) rfl (fun a h => ?_)
      refine l_end ?_
      refine wp_seq ?_
      refine c_rs ?_ -- region 12
      refine s_assign h rfl _ rfl rfl (by decide) rfl (fun a h => ?_)
      refine l_end ?_
      obtain ⟨o87, hl88, hf⟩ := bsome hf
      refine c_fin (fun a w => ∃ (S109 : Snap), ∃ (x112 : List ((Int × Int × Int × Int × Int × (List UInt8) × (List UInt8)) × Int × Int × (List UInt8))), ∃ (A113 : Option Addr), ∃ (c114 : Nat), ∃ (cs115 : List Value), (.inr x112) = o87 ∧ Snap.le S45 S109 ∧ Up (ownL ([] ++ [.sn S0])) w0 S0 S109 ∧ reps (tyP (tyP tyI (tyP tyI (tyP tyI (tyP tyI (tyP tyI (tyP (tyL ty8) (tyL ty8))))))) (tyP tyI (tyP tyI (tyL ty8)))) S109 cs115 x112 ∧ St 57 w0 (ownL ([] ++ [.sn S0])) [(11, .slice A113 x112.length c114)] [.row (.slice A113 x112.length c114) 77 10 x112.length cs115, .sn S109] a w) ?_ ?_
      · refine wp_block ?_
        have h := h.mem (h.m.nilrow 77 10)
        have h := h.pick [2, 0, 3] (by decide) rfl
        refine c_loop (fun m118 a w => ∃ (S99 : Snap), ∃ (x102 : List ((Int × Int × Int × Int × Int × (List UInt8) × (List UInt8)) × Int × Int × (List UInt8))), ∃ (A103 : Option Addr), ∃ (c104 : Nat), ∃ (cs105 : List Value), ∃ (x107 : Int), chatelaineref33_Unpack_l1 Fu a1 x2 x48 m118 x102 x107 = some o87 ∧ Snap.le S45 S99 ∧ Up (ownL ([] ++ [.sn S0])) w0 S0 S99 ∧ reps (tyP (tyP tyI (tyP tyI (tyP tyI (tyP tyI (tyP tyI (tyP (tyL ty8) (tyL ty8))))))) (tyP tyI (tyP tyI (tyL ty8)))) S99 cs105 x102 ∧ r64 x107 ∧ St 57 w0 (ownL ([] ++ [.sn S0])) [(1, .int .i64 a1), (7, .int .i64 x2.1), (8, .slice A49 x48.length c50), (11, .slice A103 x102.length c104), (12, .int .i64 x107)] [.row (.slice A49 x48.length c50) 22 1 x48.length cs51, .row (.slice A103 x102.length c104) 77 10 x102.length cs105, .sn S99] a w) Fu ⟨S45, [], none, 0, [], 0, hl88, (Snap.le.refl _), up47, (show reps (tyP (tyP tyI (tyP tyI (tyP tyI (tyP tyI (tyP tyI (tyP (tyL ty8) (tyL ty8))))))) (tyP tyI (tyP tyI (tyL ty8)))) S45 [] [] from rfl), (show r64 0 from ⟨by decide, by decide⟩), h.has (by exact ⟨rfl, rfl, rfl, rfl, rfl, trivial⟩)⟩ (fun m118 a w hI => ?_)
        obtain ⟨S99, x102, A103, c104, cs105, x107, hl117, le100, up101, hq106, hr108, h⟩ := hI
        obtain _ | m118 := m118
        · rw [chatelaineref33_Unpack_l1] at hl117; cases hl117
        rw [chatelaineref33_Unpack_l1] at hl117
        refine wp_seq ?_
        refine c_rs ?_ -- region 13
        refine s_move h rfl _ rfl rfl (by decide) rfl (fun a h => ?_)
        refine s_move h rfl _ rfl rfl (by decide) rfl (fun a h => ?_)
        refine s_x h rfl rfl (by decide) (x_bin h.k rfl rfl rfl ib_lss) (fun a h => ?_)
        refine l_end ?_
        refine c_cond h rfl (fun hb => ?_) (fun hb => ?_)
        · rw [if_pos (of_decide_eq_true hb)] at hl117
          refine wp_skip ?_
          refine e_thenN ?_
          refine wp_seq ?_
          refine wp_block ?_
          refine c_rs ?_ -- region 15
          refine s_move h rfl _ rfl rfl (by decide) rfl (fun a h => ?_)
          refine s_move h rfl _ rfl rfl (by decide) rfl (fun a h => ?_)
          obtain ⟨m120, h121, hl117⟩ := bsome hl117
          obtain ⟨hi122, hm123⟩ := ix_some h121
          obtain ⟨g125, hA124⟩ := h.m.rowHead (i := 0) rfl (Nat.lt_of_le_of_lt (Nat.zero_le _) hm123)
          refine s_x h rfl rfl (by decide) (x_iaddrE h.k rfl Try.underlying148 sz_Suint8 hA124 rfl rfl hi122 hm123) (fun a h => ?_)
          obtain ⟨x126, h127, hl117⟩ := bsome hl117
          obtain ⟨u128, hv129, hu130⟩ := ((hq52.mono le100)).cell rfl h127
          obtain ⟨A131, c132, e134, hs133⟩ := hu130
          cases e134
          refine s_x h rfl rfl (by decide) (x_ld h.k rfl Try.underlying22 rfl rfl (h.m.cellRowE (i := 0) rfl hA124 _ (by rw [Nat.mul_one]; exact hv129))) (fun a h => ?_)
          refine s_move h rfl _ rfl rfl (by decide) rfl (fun a h => ?_)
          obtain ⟨x135, h136, hl117⟩ := bsome hl117
          have h := h.pick [2, 0, 1] (by decide) rfl
          have hX := chatelaineref33_Take_ok Fu (S0 := S99) A131 c132 x126 hs133 a1 hra1 _ h136 _ (h.sub (Ls := []))
          refine q_callY (Ls := []) hX h up101 rfl rfl rfl (by decide) Try.func46 rfl rfl rfl (fun a w v L1 S138 hR le140 up139 h => ?_)
          obtain ⟨k141, rfl, rfl, hv142, hr177, _⟩ := hR
          obtain ⟨k143, k144, rfl, ⟨k145, k146, rfl, ⟨rfl, hr147⟩, ⟨k148, k149, rfl, ⟨rfl, hr150⟩, ⟨k151, k152, rfl, ⟨rfl, hr153⟩, ⟨k154, k155, rfl, ⟨rfl, hr156⟩, ⟨k157, k158, rfl, ⟨rfl, hr159⟩, ⟨k160, k161, rfl, ⟨A162, c163, rfl, hs164⟩, ⟨A165, c166, rfl, hs167⟩⟩⟩⟩⟩⟩⟩, ⟨k168, k169, rfl, ⟨rfl, hr170⟩, ⟨k171, k172, rfl, ⟨rfl, hr173⟩, ⟨A174, c175, rfl, hs176⟩⟩⟩⟩ := hv142
          refine s_move h rfl _ rfl rfl (by decide) rfl (fun a h => ?_)
          refine s_x h rfl rfl (by decide) (x_ext h.k rfl rfl rfl) (fun a h => ?_)
          refine s_x h rfl rfl (by decide) (x_ext h.k rfl rfl rfl) (fun a h => ?_)
          refine s_alloc h rfl rfl rfl (by decide) zi_api_Event rfl (fun a w g178 h => ?_)
          refine s_stW h rfl rfl rfl ag_api_Event rfl (es := [.int .i64 x135.1.1.1, .int .i64 x135.1.1.2.1, .int .i64 x135.1.1.2.2.1, .int .i64 x135.1.1.2.2.2.1, .int .i64 x135.1.1.2.2.2.2.1, .slice A162 x135.1.1.2.2.2.2.2.1.length c163, .slice A165 x135.1.1.2.2.2.2.2.2.length c166, .int .i64 x135.1.2.1, .int .i64 x135.1.2.2.1, .slice A174 x135.1.2.2.2.length c175]) rfl rfl (by simp [Value.oneCell']) 0 rfl rfl (fun a w h => ?_)
          refine s_assign h rfl _ rfl rfl (by decide) rfl (fun a h => ?_)
          refine l_end ?_
          refine wp_seq ?_
          refine c_rs ?_ -- region 16
          refine s_move h rfl _ rfl rfl (by decide) rfl (fun a h => ?_)
          refine s_x h rfl rfl (by decide) (x_bin h.k rfl rfl rfl ib_neq) (fun a h => ?_)
          refine l_end ?_
          refine c_cond h rfl (fun hb => ?_) (fun hb => ?_)
          · rw [if_pos (of_decide_eq_true hb)] at hl117
            refine c_rs ?_ -- region 17
            refine s_move h rfl _ rfl rfl (by decide) rfl (fun a h => ?_)
            refine s_assign h rfl _ rfl rfl (by decide) rfl (fun a h => ?_)
            refine s_assign h rfl _ rfl rfl (by decide) rfl (fun a h => ?_)
            refine l_end ?_
            refine wp_ret ?_
            refine e_thenR ?_
            refine e_blkR ?_
            refine e_thenR ?_
            refine e_thenR ?_
            refine e_blkR ?_
            refine e_thenR ?_
            cases hl117
            try dsimp only at hf
            refine e_thenR ?_
            obtain rfl := Option.some.inj hf
            have h := h.mem (h.m.nilrow 77 10)
            exact r_ret2 h rfl (rv_tmp h rfl) (rv_tmp h rfl) ⟨_, [.row (.slice none ([]).length 0) 77 10 ([]).length []], _, rfl, ⟨none, 0, [], rfl, rfl, (show reps (tyP (tyP tyI (tyP tyI (tyP tyI (tyP tyI (tyP tyI (tyP (tyL ty8) (tyL ty8))))))) (tyP tyI (tyP tyI (tyL ty8)))) S138 [] [] from rfl), hr177, trivial⟩, rfl, up139, (h.m.pick [0, 2] _ (by decide) rfl)⟩
          · rw [if_neg (of_decide_eq_false hb)] at hl117
            refine wp_skip ?_
            refine e_thenN ?_
            refine c_r ?_ -- region 18
            refine s_move h rfl _ rfl rfl (by decide) rfl (fun a h => ?_)
            refine s_x h rfl rfl (by decide) (x_ldR h.k rfl ag_api_Event rfl ([.int .i64 x135.1.1.1, .int .i64 x135.1.1.2.1, .int .i64 x135.1.1.2.2.1, .int .i64 x135.1.1.2.2.2.1, .int .i64 x135.1.1.2.2.2.2.1, .slice A162 x135.1.1.2.2.2.2.2.1.length c163, .slice A165 x135.1.1.2.2.2.2.2.2.length c166, .int .i64 x135.1.2.1, .int .i64 x135.1.2.2.1, .slice A174 x135.1.2.2.2.length c175]) rfl (h.m.range0 (i := 0) rfl)) (fun a h => ?_)
            refine q_bslice (T := tyP (tyP tyI (tyP tyI (tyP tyI (tyP tyI (tyP tyI (tyP (tyL ty8) (tyL ty8))))))) (tyP tyI (tyP tyI (tyL ty8)))) (S := S138) h rfl rfl rfl (by decide) Try.underlying82 zi_api_Event (by decide) (by decide) (by decide) (by decide) [.agg ([.int .i64 x135.1.1.1, .int .i64 x135.1.1.2.1, .int .i64 x135.1.1.2.2.1, .int .i64 x135.1.1.2.2.2.1, .int .i64 x135.1.1.2.2.2.2.1, .slice A162 x135.1.1.2.2.2.2.2.1.length c163, .slice A165 x135.1.1.2.2.2.2.2.2.length c166, .int .i64 x135.1.2.1, .int .i64 x135.1.2.2.1, .slice A174 x135.1.2.2.2.length c175]).toArray] rfl rfl (C := [[.int .i64 x135.1.1.1, .int .i64 x135.1.1.2.1, .int .i64 x135.1.1.2.2.1, .int .i64 x135.1.1.2.2.2.1, .int .i64 x135.1.1.2.2.2.2.1, .slice A162 x135.1.1.2.2.2.2.2.1.length c163, .slice A165 x135.1.1.2.2.2.2.2.2.length c166, .int .i64 x135.1.2.1, .int .i64 x135.1.2.2.1, .slice A174 x135.1.2.2.2.length c175]]) rfl (xs := [x135.1]) ⟨[.int .i64 x135.1.1.1, .int .i64 x135.1.1.2.1, .int .i64 x135.1.1.2.2.1, .int .i64 x135.1.1.2.2.2.1, .int .i64 x135.1.1.2.2.2.2.1, .slice A162 x135.1.1.2.2.2.2.2.1.length c163, .slice A165 x135.1.1.2.2.2.2.2.2.length c166, .int .i64 x135.1.2.1, .int .i64 x135.1.2.2.1, .slice A174 x135.1.2.2.2.length c175], _, rfl, ⟨[.int .i64 x135.1.1.1, .int .i64 x135.1.1.2.1, .int .i64 x135.1.1.2.2.1, .int .i64 x135.1.1.2.2.2.1, .int .i64 x135.1.1.2.2.2.2.1, .slice A162 x135.1.1.2.2.2.2.2.1.length c163, .slice A165 x135.1.1.2.2.2.2.2.2.length c166], [.int .i64 x135.1.2.1, .int .i64 x135.1.2.2.1, .slice A174 x135.1.2.2.2.length c175], rfl, ⟨[.int .i64 x135.1.1.1], [.int .i64 x135.1.1.2.1, .int .i64 x135.1.1.2.2.1, .int .i64 x135.1.1.2.2.2.1, .int .i64 x135.1.1.2.2.2.2.1, .slice A162 x135.1.1.2.2.2.2.2.1.length c163, .slice A165 x135.1.1.2.2.2.2.2.2.length c166], rfl, ⟨rfl, hr147⟩, ⟨[.int .i64 x135.1.1.2.1], [.int .i64 x135.1.1.2.2.1, .int .i64 x135.1.1.2.2.2.1, .int .i64 x135.1.1.2.2.2.2.1, .slice A162 x135.1.1.2.2.2.2.2.1.length c163, .slice A165 x135.1.1.2.2.2.2.2.2.length c166], rfl, ⟨rfl, hr150⟩, ⟨[.int .i64 x135.1.1.2.2.1], [.int .i64 x135.1.1.2.2.2.1, .int .i64 x135.1.1.2.2.2.2.1, .slice A162 x135.1.1.2.2.2.2.2.1.length c163, .slice A165 x135.1.1.2.2.2.2.2.2.length c166], rfl, ⟨rfl, hr153⟩, ⟨[.int .i64 x135.1.1.2.2.2.1], [.int .i64 x135.1.1.2.2.2.2.1, .slice A162 x135.1.1.2.2.2.2.2.1.length c163, .slice A165 x135.1.1.2.2.2.2.2.2.length c166], rfl, ⟨rfl, hr156⟩, ⟨[.int .i64 x135.1.1.2.2.2.2.1], [.slice A162 x135.1.1.2.2.2.2.2.1.length c163, .slice A165 x135.1.1.2.2.2.2.2.2.length c166], rfl, ⟨rfl, hr159⟩, ⟨[.slice A162 x135.1.1.2.2.2.2.2.1.length c163], [.slice A165 x135.1.1.2.2.2.2.2.2.length c166], rfl, ⟨_, _, rfl, hs164⟩, ⟨_, _, rfl, hs167⟩⟩⟩⟩⟩⟩⟩, ⟨[.int .i64 x135.1.2.1], [.int .i64 x135.1.2.2.1, .slice A174 x135.1.2.2.2.length c175], rfl, ⟨rfl, hr170⟩, ⟨[.int .i64 x135.1.2.2.1], [.slice A174 x135.1.2.2.2.length c175], rfl, ⟨rfl, hr173⟩, ⟨_, _, rfl, hs176⟩⟩⟩⟩, rfl⟩ (by intro c hc; simp only [List.mem_cons, List.not_mem_nil, or_false] at hc; subst hc; rfl) (fun a w A180 h => ?_)
            have hb181 : reps (tyP (tyP tyI (tyP tyI (tyP tyI (tyP tyI (tyP tyI (tyP (tyL ty8) (tyL ty8))))))) (tyP tyI (tyP tyI (tyL ty8)))) S138 ([[.int .i64 x135.1.1.1, .int .i64 x135.1.1.2.1, .int .i64 x135.1.1.2.2.1, .int .i64 x135.1.1.2.2.2.1, .int .i64 x135.1.1.2.2.2.2.1, .slice A162 x135.1.1.2.2.2.2.2.1.length c163, .slice A165 x135.1.1.2.2.2.2.2.2.length c166, .int .i64 x135.1.2.1, .int .i64 x135.1.2.2.1, .slice A174 x135.1.2.2.2.length c175]]).flatten [x135.1] := ⟨[.int .i64 x135.1.1.1, .int .i64 x135.1.1.2.1, .int .i64 x135.1.1.2.2.1, .int .i64 x135.1.1.2.2.2.1, .int .i64 x135.1.1.2.2.2.2.1, .slice A162 x135.1.1.2.2.2.2.2.1.length c163, .slice A165 x135.1.1.2.2.2.2.2.2.length c166, .int .i64 x135.1.2.1, .int .i64 x135.1.2.2.1, .slice A174 x135.1.2.2.2.length c175], _, rfl, ⟨[.int .i64 x135.1.1.1, .int .i64 x135.1.1.2.1, .int .i64 x135.1.1.2.2.1, .int .i64 x135.1.1.2.2.2.1, .int .i64 x135.1.1.2.2.2.2.1, .slice A162 x135.1.1.2.2.2.2.2.1.length c163, .slice A165 x135.1.1.2.2.2.2.2.2.length c166], [.int .i64 x135.1.2.1, .int .i64 x135.1.2.2.1, .slice A174 x135.1.2.2.2.length c175], rfl, ⟨[.int .i64 x135.1.1.1], [.int .i64 x135.1.1.2.1, .int .i64 x135.1.1.2.2.1, .int .i64 x135.1.1.2.2.2.1, .int .i64 x135.1.1.2.2.2.2.1, .slice A162 x135.1.1.2.2.2.2.2.1.length c163, .slice A165 x135.1.1.2.2.2.2.2.2.length c166], rfl, ⟨rfl, hr147⟩, ⟨[.int .i64 x135.1.1.2.1], [.int .i64 x135.1.1.2.2.1, .int .i64 x135.1.1.2.2.2.1, .int .i64 x135.1.1.2.2.2.2.1, .slice A162 x135.1.1.2.2.2.2.2.1.length c163, .slice A165 x135.1.1.2.2.2.2.2.2.length c166], rfl, ⟨rfl, hr150⟩, ⟨[.int .i64 x135.1.1.2.2.1], [.int .i64 x135.1.1.2.2.2.1, .int .i64 x135.1.1.2.2.2.2.1, .slice A162 x135.1.1.2.2.2.2.2.1.length c163, .slice A165 x135.1.1.2.2.2.2.2.2.length c166], rfl, ⟨rfl, hr153⟩, ⟨[.int .i64 x135.1.1.2.2.2.1], [.int .i64 x135.1.1.2.2.2.2.1, .slice A162 x135.1.1.2.2.2.2.2.1.length c163, .slice A165 x135.1.1.2.2.2.2.2.2.length c166], rfl, ⟨rfl, hr156⟩, ⟨[.int .i64 x135.1.1.2.2.2.2.1], [.slice A162 x135.1.1.2.2.2.2.2.1.length c163, .slice A165 x135.1.1.2.2.2.2.2.2.length c166], rfl, ⟨rfl, hr159⟩, ⟨[.slice A162 x135.1.1.2.2.2.2.2.1.length c163], [.slice A165 x135.1.1.2.2.2.2.2.2.length c166], rfl, ⟨_, _, rfl, hs164⟩, ⟨_, _, rfl, hs167⟩⟩⟩⟩⟩⟩⟩, ⟨[.int .i64 x135.1.2.1], [.int .i64 x135.1.2.2.1, .slice A174 x135.1.2.2.2.length c175], rfl, ⟨rfl, hr170⟩, ⟨[.int .i64 x135.1.2.2.1], [.slice A174 x135.1.2.2.2.length c175], rfl, ⟨rfl, hr173⟩, ⟨_, _, rfl, hs176⟩⟩⟩⟩, rfl⟩
            obtain ⟨x182, h183, hl117⟩ := bsome hl117
            refine q_append (T := tyP (tyP tyI (tyP tyI (tyP tyI (tyP tyI (tyP tyI (tyP (tyL ty8) (tyL ty8))))))) (tyP tyI (tyP tyI (tyL ty8)))) (S := S138) h rfl rfl rfl (by decide) Try.underlying82 zb_api_Event rfl (by decide) rfl 4 rfl (hq106.mono le140) rfl hb181 (h.m.rdRowA (i := 0) rfl) h183 (fun a w A184 c185 cs186 hq187 h => ?_)
            refine s_assign h rfl _ rfl rfl (by decide) rfl (fun a h => ?_)
            refine l_nil ?_
            refine e_blkN ?_
            refine e_thenN ?_
            refine c_r ?_ -- region 14
            refine s_move h rfl _ rfl rfl (by decide) rfl (fun a h => ?_)
            refine s_x h rfl rfl (by decide) (x_bin h.k rfl rfl rfl (ib_add rfl)) (fun a h => ?_)
            refine s_assign h rfl _ rfl rfl (by decide) rfl (fun a h => ?_)
            refine l_nil ?_
            have h := h.pick [3, 4, 2] (by decide) rfl
            exact e_thenN ⟨m118, Nat.lt_succ_self _, S138, x182, A184, c185, cs186, w64 (x107 + 1), hl117, (le100.trans le140), up139, hq187, (w64_r _), h.has (by exact ⟨rfl, rfl, rfl, rfl, rfl, trivial⟩)⟩
        · rw [if_neg (of_decide_eq_false hb)] at hl117
          refine wp_exit ?_
          refine e_thenX ?_
          refine e_thenX ?_
          refine e_blkX ?_
          refine e_thenN ?_
          have h := h.pick [1, 2] (by decide) rfl
          exact ⟨S99, x102, A103, c104, cs105, (Option.some.inj hl117), le100, up101, hq106, h.has (by exact ⟨rfl, trivial⟩)⟩
      · rintro a w ⟨S109, x112, A113, c114, cs115, rfl, le110, up111, hq116, h⟩
        try dsimp only at hf
        refine e_thenN ?_
        refine c_rs ?_ -- region 19
        refine s_move h rfl _ rfl rfl (by decide) rfl (fun a h => ?_)
        refine s_assign h rfl _ rfl rfl (by decide) rfl (fun a h => ?_)
        refine s_assign h rfl _ rfl rfl (by decide) rfl (fun a h => ?_)
        refine l_end ?_
        refine wp_ret ?_
        obtain rfl := Option.some.inj hf
        exact r_ret2 h rfl (rv_tmp h rfl) (rv_tmp h rfl) ⟨_, [.row (.slice A113 x112.length c114) 77 10 x112.length cs115], _, rfl, ⟨A113, c114, cs115, rfl, rfl, hq116, (show r64 0 from ⟨by decide, by decide⟩), trivial⟩, rfl, up111, h.m⟩
end Go.Proofs.Ythaakmdafnjkpaa
