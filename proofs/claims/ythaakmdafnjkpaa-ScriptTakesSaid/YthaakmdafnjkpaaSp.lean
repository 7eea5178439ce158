/- Sp: Go functions as plain functions, and that they are so (written by xt.py). -/
import Derived.Test.YthaakmdafnjkpaaOp
import Derived.Test.YthaakmdafnjkpaaPv
set_option linter.unusedVariables false
set_option linter.unusedSimpArgs false
namespace Go.Proofs.Ythaakmdafnjkpaa
open Go.RowKit
def script_within (Fu : Nat) (a0 : Int) (a1 : Int) (a2 : Int) : Option Bool :=
  some ((decide (a1 ≤ a0)) && (decide (a0 ≤ a2)))
set_option maxRecDepth 100000 in
set_option maxHeartbeats 2000000 in
theorem script_within_ok (Fu : Nat) {S0 : Snap} (a0 : Int) (hra0 : r64 a0) (a1 : Int) (hra1 : r64 a1) (a2 : Int) (hra2 : r64 a2) (r : Bool) (hf : script_within Fu a0 a1 a2 = some r) (w0 : World) (hm : Mem w0 (ownL ([] ++ [.sn S0])) ([] ++ [.sn S0]) w0) :
    Calls Try.prog 149 #[.int .i64 a0, .int .i64 a1, .int .i64 a2] w0 (Ret w0 S0 [] (fun v L1 S1 => v = .bool r ∧ L1 = [] ∧ True)) := by
  unfold script_within at hf
  refine c_enterM Try.func149 rfl 15 rfl (by simp) _ hm _ rfl (fun a h => ?_)
  refine c_rs ?_ -- region 0
  refine s_assign h rfl _ rfl rfl (by decide) rfl (fun a h => ?_)
  refine l_end ?_
  refine c_rs ?_ -- region 1
  refine s_move h rfl _ rfl rfl (by decide) rfl (fun a h => ?_)
  refine s_move h rfl _ rfl rfl (by decide) rfl (fun a h => ?_)
  refine s_x h rfl rfl (by decide) (x_bin h.k rfl rfl rfl ib_geq) (fun a h => ?_)
  refine s_move h rfl _ rfl rfl (by decide) rfl (fun a h => ?_)
  refine q_grp h 4 (t := 10) 14 ((decide (a1 ≤ a0)) && (decide (a0 ≤ a2))) rfl (fun hB3 => ?_) (fun hB3 => ?_) (fun a w h => ?_)
  · refine g_yes h rfl rfl rfl rfl hB3 ?_
    refine s_move h rfl _ rfl rfl (by decide) rfl (fun a h => ?_)
    refine g_yes h rfl rfl rfl rfl hB3 ?_
    refine s_move h rfl _ rfl rfl (by decide) rfl (fun a h => ?_)
    refine g_yes h rfl rfl rfl rfl hB3 ?_
    refine s_x h rfl rfl (by decide) (x_bin h.k rfl rfl rfl ib_leq) (fun a h => ?_)
    refine s_x h rfl rfl (by decide) (x_pick (u' := undef) h.k rfl rfl (fun _ => rfl) (fun hh => absurd (hB3.symm.trans hh) (by decide))) (fun a h => ?_)
    exact (h.mid 3 rfl).val (by first | rfl | (rw [hB3]; first | rfl | simp))
  · refine g_no h rfl rfl rfl rfl hB3 rfl (by decide) (fun a h => ?_)
    refine g_no h rfl rfl rfl rfl hB3 rfl (by decide) (fun a h => ?_)
    refine g_no h rfl rfl rfl rfl hB3 rfl (by decide) (fun a h => ?_)
    refine s_x h rfl rfl (by decide) (x_pick (u' := undef) h.k rfl rfl (fun hh => absurd (hB3.symm.trans hh) (by decide)) (fun _ => rfl)) (fun a h => ?_)
    exact (h.mid 3 rfl).val (by first | rfl | (rw [hB3]; first | rfl | simp))
  refine s_assign h rfl _ rfl rfl (by decide) rfl (fun a h => ?_)
  refine l_end ?_
  refine wp_ret ?_
  obtain rfl := Option.some.inj hf
  exact r_ret1 h rfl (rv_tmp h rfl) ⟨_, [], _, rfl, ⟨rfl, rfl, trivial⟩, rfl, (Up.refl _ _ _), h.m⟩
def script_plain_l0 (Fu : Nat) (a0 : Int × Int × Int × Int × Int × (List UInt8) × (List UInt8)) : Nat → Int → Option (Sum Bool Unit)
  | 0, _ => none
  | k + 1, x28 => if x28 < 5 then ((idx ([a0.1, a0.2.1, a0.2.2.1, a0.2.2.2.1, a0.2.2.2.2.1]) x28).bind fun x33 => (script_within Fu x33 0 1099511627776).bind fun x43 => if (!x43) = true then (some (.inl false)) else (script_plain_l0 Fu a0 k (w64 (x28 + 1)))) else (some (.inr ()))
def script_plain (Fu : Nat) (a0 : Int × Int × Int × Int × Int × (List UInt8) × (List UInt8)) : Option Bool :=
  (script_plain_l0 Fu a0 Fu 0).bind fun o => match o with | .inl r48 => some r48 | .inr _ => some ((decide ((a0.2.2.2.2.2.1.length : Int) ≤ 512)) && (decide ((a0.2.2.2.2.2.2.length : Int) ≤ 512)))
set_option maxRecDepth 100000 in
set_option maxHeartbeats 2000000 in
theorem script_plain_ok (Fu : Nat) {S0 : Snap} (csa0 : List Value) (a0 : Int × Int × Int × Int × Int × (List UInt8) × (List UInt8)) (hsa0 : (tyP tyI (tyP tyI (tyP tyI (tyP tyI (tyP tyI (tyP (tyL ty8) (tyL ty8))))))).rep S0 csa0 a0) (r : Bool) (hf : script_plain Fu a0 = some r) (w0 : World) (hm : Mem w0 (ownL ([] ++ [.sn S0])) ([] ++ [.sn S0]) w0) :
    Calls Try.prog 148 #[.agg csa0.toArray] w0 (Ret w0 S0 [] (fun v L1 S1 => v = .bool r ∧ L1 = [] ∧ True)) := by
  unfold script_plain at hf
  obtain ⟨k1, k2, rfl, ⟨rfl, hr3⟩, ⟨k4, k5, rfl, ⟨rfl, hr6⟩, ⟨k7, k8, rfl, ⟨rfl, hr9⟩, ⟨k10, k11, rfl, ⟨rfl, hr12⟩, ⟨k13, k14, rfl, ⟨rfl, hr15⟩, ⟨k16, k17, rfl, ⟨A18, c19, rfl, hs20⟩, ⟨A21, c22, rfl, hs23⟩⟩⟩⟩⟩⟩⟩ := hsa0
  refine c_enterM Try.func148 rfl 33 rfl (by simp) _ hm _ rfl (fun a h => ?_)
  refine c_rs ?_ -- region 0
  refine s_box h rfl rfl rfl (by decide) rfl (cs := [.int .i64 a0.1, .int .i64 a0.2.1, .int .i64 a0.2.2.1, .int .i64 a0.2.2.2.1, .int .i64 a0.2.2.2.2.1, .slice A18 a0.2.2.2.2.2.1.length c19, .slice A21 a0.2.2.2.2.2.2.length c22]) (by rfl) (fun a w g24 h => ?_)
  refine s_assign h rfl _ rfl rfl (by decide) rfl (fun a h => ?_)
  refine l_end ?_
  refine wp_seq ?_
  refine c_rs ?_ -- region 1
  refine s_x h rfl rfl (by decide) (x_faddr h.k rfl Try.underlying24 rfl sz_int rfl) (fun a h => ?_)
  refine s_x h rfl rfl (by decide) (x_ld h.k rfl Try.underlying3 rfl rfl ((h.m.cell (i := 0) rfl 0).trans rfl)) (fun a h => ?_)
  refine s_x h rfl rfl (by decide) (x_faddr h.k rfl Try.underlying24 rfl sz_int rfl) (fun a h => ?_)
  refine s_x h rfl rfl (by decide) (x_ld h.k rfl Try.underlying3 rfl rfl ((h.m.cell (i := 0) rfl 1).trans rfl)) (fun a h => ?_)
  refine s_x h rfl rfl (by decide) (x_faddr h.k rfl Try.underlying24 rfl sz_int rfl) (fun a h => ?_)
  refine s_x h rfl rfl (by decide) (x_ld h.k rfl Try.underlying3 rfl rfl ((h.m.cell (i := 0) rfl 2).trans rfl)) (fun a h => ?_)
  refine s_x h rfl rfl (by decide) (x_faddr h.k rfl Try.underlying24 rfl sz_int rfl) (fun a h => ?_)
  refine s_x h rfl rfl (by decide) (x_ld h.k rfl Try.underlying3 rfl rfl ((h.m.cell (i := 0) rfl 3).trans rfl)) (fun a h => ?_)
  refine s_x h rfl rfl (by decide) (x_faddr h.k rfl Try.underlying24 rfl sz_int rfl) (fun a h => ?_)
  refine s_x h rfl rfl (by decide) (x_ld h.k rfl Try.underlying3 rfl rfl ((h.m.cell (i := 0) rfl 4).trans rfl)) (fun a h => ?_)
  have hq25 : reps tyI S0 [.int .i64 a0.1, .int .i64 a0.2.1, .int .i64 a0.2.2.1, .int .i64 a0.2.2.2.1, .int .i64 a0.2.2.2.2.1] [a0.1, a0.2.1, a0.2.2.1, a0.2.2.2.1, a0.2.2.2.2.1] := ⟨[.int .i64 a0.1], _, rfl, ⟨rfl, hr3⟩, ⟨[.int .i64 a0.2.1], _, rfl, ⟨rfl, hr6⟩, ⟨[.int .i64 a0.2.2.1], _, rfl, ⟨rfl, hr9⟩, ⟨[.int .i64 a0.2.2.2.1], _, rfl, ⟨rfl, hr12⟩, ⟨[.int .i64 a0.2.2.2.2.1], _, rfl, ⟨rfl, hr15⟩, rfl⟩⟩⟩⟩⟩
  refine s_x h rfl rfl (by decide) (x_build h.k rfl [(0, .int .i64 a0.1), (1, .int .i64 a0.2.1), (2, .int .i64 a0.2.2.1), (3, .int .i64 a0.2.2.2.1), (4, .int .i64 a0.2.2.2.2.1)] rfl [.int .i64 a0.1, .int .i64 a0.2.1, .int .i64 a0.2.2.1, .int .i64 a0.2.2.2.1, .int .i64 a0.2.2.2.2.1] (by kernel_rfl)) (fun a h => ?_)
  refine s_move h rfl _ rfl rfl (by decide) rfl (fun a h => ?_)
  refine l_end ?_
  obtain ⟨o26, hl27, hf⟩ := bsome hf
  refine c_fin (fun a w => (.inr ()) = o26 ∧ St 33 w0 (ownL ([] ++ [.sn S0])) [(1, .pointer (some ⟨g24, 0, none⟩))] [.box g24 24 ([.int .i64 a0.1, .int .i64 a0.2.1, .int .i64 a0.2.2.1, .int .i64 a0.2.2.2.1, .int .i64 a0.2.2.2.2.1, .slice A18 a0.2.2.2.2.2.1.length c19, .slice A21 a0.2.2.2.2.2.2.length c22]), .sn S0] a w) ?_ ?_
  · refine wp_block ?_
    refine c_loop (fun m31 a w => ∃ (x28 : Int), script_plain_l0 Fu a0 m31 x28 = some o26 ∧ r64 x28 ∧ St 33 w0 (ownL ([] ++ [.sn S0])) [(1, .pointer (some ⟨g24, 0, none⟩)), (15, .agg ([.int .i64 a0.1, .int .i64 a0.2.1, .int .i64 a0.2.2.1, .int .i64 a0.2.2.2.1, .int .i64 a0.2.2.2.2.1]).toArray), (16, .int .i64 x28)] [.box g24 24 ([.int .i64 a0.1, .int .i64 a0.2.1, .int .i64 a0.2.2.1, .int .i64 a0.2.2.2.1, .int .i64 a0.2.2.2.2.1, .slice A18 a0.2.2.2.2.2.1.length c19, .slice A21 a0.2.2.2.2.2.2.length c22]), .sn S0] a w) Fu ⟨0, hl27, (show r64 0 from ⟨by decide, by decide⟩), h.has (by exact ⟨rfl, rfl, rfl, trivial⟩)⟩ (fun m31 a w hI => ?_)
    obtain ⟨x28, hl30, hr29, h⟩ := hI
    obtain _ | m31 := m31
    · rw [script_plain_l0] at hl30; cases hl30
    rw [script_plain_l0] at hl30
    refine c_rs ?_ -- region 2
    refine s_x h rfl rfl (by decide) (x_bin h.k rfl rfl rfl ib_lss) (fun a h => ?_)
    refine l_end ?_
    refine c_cs h rfl (fun hb => ?_) (fun hb => ?_)
    · rw [if_pos (of_decide_eq_true hb)] at hl30
      refine wp_skip ?_
      refine e_thenN ?_
      refine wp_seq ?_
      refine wp_block ?_
      refine c_rs ?_ -- region 3
      obtain ⟨x33, h34, hl30⟩ := bsome hl30
      obtain ⟨m32, hi35, hm36, hx37⟩ := idx_some h34
      obtain ⟨u38, hv39, hu40⟩ := (hq25).cell rfl hx37
      obtain ⟨e42, hr41⟩ := hu40
      cases e42
      refine s_x h rfl rfl (by decide) (x_index h.k rfl Try.underlying222 Try.underlying3 rfl sz_int rfl rfl hi35 (Nat.lt_of_lt_of_eq hm36 rfl) (by simpa using hv39)) (fun a h => ?_)
      refine s_assign h rfl _ rfl rfl (by decide) rfl (fun a h => ?_)
      refine l_end ?_
      refine c_rs ?_ -- region 4
      refine s_move h rfl _ rfl rfl (by decide) rfl (fun a h => ?_)
      obtain ⟨x43, h44, hl30⟩ := bsome hl30
      have hX := script_within_ok Fu (S0 := snapAll _) x33 hr41 0 (show r64 0 from ⟨by decide, by decide⟩) 1099511627776 (show r64 1099511627776 from ⟨by decide, by decide⟩) _ h44 _ h.startAll
      refine q_callX hX h rfl rfl rfl (by decide) Try.func149 rfl rfl rfl (fun a w v L1 S1 hR hb1 h => ?_)
      obtain ⟨rfl, rfl, _⟩ := hR
      refine s_x h rfl rfl (by decide) (x_not h.k rfl rfl) (fun a h => ?_)
      refine l_end ?_
      refine c_cond h rfl (fun hb => ?_) (fun hb => ?_)
      · rw [if_pos hb] at hl30
        refine c_rs ?_ -- region 5
        refine s_assign h rfl _ rfl rfl (by decide) rfl (fun a h => ?_)
        refine l_end ?_
        refine wp_ret ?_
        refine e_blkR ?_
        refine e_thenR ?_
        refine e_thenR ?_
        refine e_blkR ?_
        refine e_thenR ?_
        cases hl30
        try dsimp only at hf
        refine e_thenR ?_
        rw [← Option.some.inj hf]
        exact r_ret1 h rfl (rv_tmp h rfl) ⟨_, [], _, rfl, ⟨rfl, rfl, trivial⟩, rfl, (Up.refl _ _ _), (h.m.pick [1] _ (by decide) rfl)⟩
      · rw [if_neg (by rw [hb]; decide)] at hl30
        refine wp_skip ?_
        refine e_blkN ?_
        refine e_thenN ?_
        refine c_r ?_ -- region 6
        refine s_x h rfl rfl (by decide) (x_bin h.k rfl rfl rfl (ib_add rfl)) (fun a h => ?_)
        refine s_move h rfl _ rfl rfl (by decide) rfl (fun a h => ?_)
        refine l_nil ?_
        exact e_thenN ⟨m31, Nat.lt_succ_self _, w64 (x28 + 1), hl30, (w64_r _), h.has (by exact ⟨rfl, rfl, rfl, trivial⟩)⟩
    · rw [if_neg (of_decide_eq_false hb)] at hl30
      refine wp_exit ?_
      refine e_thenX ?_
      refine e_thenX ?_
      refine e_blkX ?_
      refine e_thenN ?_
      exact ⟨(Option.some.inj hl30), h.has (by exact ⟨rfl, trivial⟩)⟩
  · rintro a w ⟨rfl, h⟩
    try dsimp only at hf
    refine e_thenN ?_
    refine c_rs ?_ -- region 7
    refine s_x h rfl rfl (by decide) (x_faddr h.k rfl Try.underlying24 rfl sz_Suint8 rfl) (fun a h => ?_)
    refine s_x h rfl rfl (by decide) (x_ld h.k rfl Try.underlying22 rfl rfl ((h.m.cell (i := 0) rfl 5).trans rfl)) (fun a h => ?_)
    refine s_x h rfl rfl (by decide) (x_len h.k rfl Try.underlying22 rfl) (fun a h => ?_)
    refine s_x h rfl rfl (by decide) (x_bin h.k rfl rfl rfl ib_leq) (fun a h => ?_)
    refine s_move h rfl _ rfl rfl (by decide) rfl (fun a h => ?_)
    refine q_grp h 5 (t := 27) 32 ((decide ((a0.2.2.2.2.2.1.length : Int) ≤ 512)) && (decide ((a0.2.2.2.2.2.2.length : Int) ≤ 512))) rfl (fun hB4 => ?_) (fun hB4 => ?_) (fun a w h => ?_)
    · refine g_yes h rfl rfl rfl rfl hB4 ?_
      refine s_x h rfl rfl (by decide) (x_faddr h.k rfl Try.underlying24 rfl sz_Suint8 rfl) (fun a h => ?_)
      refine g_yes h rfl rfl rfl rfl hB4 ?_
      refine s_x h rfl rfl (by decide) (x_ld h.k rfl Try.underlying22 rfl rfl ((h.m.cell (i := 0) rfl 6).trans rfl)) (fun a h => ?_)
      refine g_yes h rfl rfl rfl rfl hB4 ?_
      refine s_x h rfl rfl (by decide) (x_len h.k rfl Try.underlying22 rfl) (fun a h => ?_)
      refine g_yes h rfl rfl rfl rfl hB4 ?_
      refine s_x h rfl rfl (by decide) (x_bin h.k rfl rfl rfl ib_leq) (fun a h => ?_)
      refine s_x h rfl rfl (by decide) (x_pick (u' := undef) h.k rfl rfl (fun _ => rfl) (fun hh => absurd (hB4.symm.trans hh) (by decide))) (fun a h => ?_)
      exact (h.mid 4 rfl).val (by first | rfl | (rw [hB4]; first | rfl | simp))
    · refine g_no h rfl rfl rfl rfl hB4 rfl (by decide) (fun a h => ?_)
      refine g_no h rfl rfl rfl rfl hB4 rfl (by decide) (fun a h => ?_)
      refine g_no h rfl rfl rfl rfl hB4 rfl (by decide) (fun a h => ?_)
      refine g_no h rfl rfl rfl rfl hB4 rfl (by decide) (fun a h => ?_)
      refine s_x h rfl rfl (by decide) (x_pick (u' := undef) h.k rfl rfl (fun hh => absurd (hB4.symm.trans hh) (by decide)) (fun _ => rfl)) (fun a h => ?_)
      exact (h.mid 4 rfl).val (by first | rfl | (rw [hB4]; first | rfl | simp))
    refine s_assign h rfl _ rfl rfl (by decide) rfl (fun a h => ?_)
    refine l_end ?_
    refine wp_ret ?_
    obtain rfl := Option.some.inj hf
    exact r_ret1 h rfl (rv_tmp h rfl) ⟨_, [], _, rfl, ⟨rfl, rfl, trivial⟩, rfl, (Up.refl _ _ _), (h.m.pick [1] _ (by decide) rfl)⟩
def script_Right (Fu : Nat) (a0 : (Int × Int × Int × Int × Int × (List UInt8) × (List UInt8)) × Int × Int × (List UInt8)) (a1 : Int) : Option Bool :=
  if a0.2.1 = 0 then ((if ((decide (a0.2.2.1 = 0)) && (decide ((a0.2.2.2.length : Int) = 0))) = true then (script_plain Fu a0.1).bind fun x41 => some x41 else some false).bind fun z39 => some z39) else ((if a0.2.1 = 1 then (some (.inr (1099511627776, 0, 64))) else (if a0.2.1 = 3 then (some (.inr (1048575, a1, mn a1 512))) else (if a0.2.1 = 4 then (some (.inr (7, 0, 0))) else (if a0.2.1 = 5 then (some (.inr (7, 0, 0))) else (if a0.2.1 = 2 then (some (.inr (0, 0, 0))) else (some (.inl false)))))) : Option (Sum Bool (Int × Int × Int))).bind fun o => match o with | .inl r67 => some r67 | .inr (x46, x48, x50) => (script_within Fu a0.2.2.1 0 x46).bind fun x52 => (if x52 = true then (script_within Fu (a0.2.2.2.length : Int) x48 x50).bind fun x58 => some x58 else some false).bind fun z56 => (if z56 = true then (op_Same Fu a0.1 (0, 0, 0, 0, 0, [], [])).bind fun x64 => some x64 else some false).bind fun z62 => some z62)
set_option maxRecDepth 100000 in
set_option maxHeartbeats 2000000 in
theorem script_Right_ok (Fu : Nat) {S0 : Snap} (csa0 : List Value) (a0 : (Int × Int × Int × Int × Int × (List UInt8) × (List UInt8)) × Int × Int × (List UInt8)) (hsa0 : (tyP (tyP tyI (tyP tyI (tyP tyI (tyP tyI (tyP tyI (tyP (tyL ty8) (tyL ty8))))))) (tyP tyI (tyP tyI (tyL ty8)))).rep S0 csa0 a0) (a1 : Int) (hra1 : r64 a1) (r : Bool) (hf : script_Right Fu a0 a1 = some r) (w0 : World) (hm : Mem w0 (ownL ([] ++ [.sn S0])) ([] ++ [.sn S0]) w0) :
    Calls Try.prog 101 #[.agg csa0.toArray, .int .i64 a1] w0 (Ret w0 S0 [] (fun v L1 S1 => v = .bool r ∧ L1 = [] ∧ True)) := by
  unfold script_Right at hf
  obtain ⟨k1, k2, rfl, ⟨k3, k4, rfl, ⟨rfl, hr5⟩, ⟨k6, k7, rfl, ⟨rfl, hr8⟩, ⟨k9, k10, rfl, ⟨rfl, hr11⟩, ⟨k12, k13, rfl, ⟨rfl, hr14⟩, ⟨k15, k16, rfl, ⟨rfl, hr17⟩, ⟨k18, k19, rfl, ⟨A20, c21, rfl, hs22⟩, ⟨A23, c24, rfl, hs25⟩⟩⟩⟩⟩⟩⟩, ⟨k26, k27, rfl, ⟨rfl, hr28⟩, ⟨k29, k30, rfl, ⟨rfl, hr31⟩, ⟨A32, c33, rfl, hs34⟩⟩⟩⟩ := hsa0
  refine c_enterM Try.func101 rfl 58 rfl (by simp) _ hm _ rfl (fun a h => ?_)
  refine c_rs ?_ -- region 0
  refine s_box h rfl rfl rfl (by decide) rfl (cs := [.int .i64 a0.1.1, .int .i64 a0.1.2.1, .int .i64 a0.1.2.2.1, .int .i64 a0.1.2.2.2.1, .int .i64 a0.1.2.2.2.2.1, .slice A20 a0.1.2.2.2.2.2.1.length c21, .slice A23 a0.1.2.2.2.2.2.2.length c24, .int .i64 a0.2.1, .int .i64 a0.2.2.1, .slice A32 a0.2.2.2.length c33]) (by rfl) (fun a w g35 h => ?_)
  refine s_assign h rfl _ rfl rfl (by decide) rfl (fun a h => ?_)
  refine l_end ?_
  refine wp_seq ?_
  refine c_rs ?_ -- region 1
  refine s_x h rfl rfl (by decide) (x_faddr h.k rfl Try.underlying77 rfl sz_int rfl) (fun a h => ?_)
  refine s_x h rfl rfl (by decide) (x_ld h.k rfl Try.underlying3 rfl rfl ((h.m.cell (i := 0) rfl 7).trans rfl)) (fun a h => ?_)
  refine s_x h rfl rfl (by decide) (x_bin h.k rfl rfl rfl ib_eql) (fun a h => ?_)
  refine l_end ?_
  refine c_cond h rfl (fun hb => ?_) (fun hb => ?_)
  · rw [if_pos (of_decide_eq_true hb)] at hf
    refine c_rs ?_ -- region 2
    refine s_x h rfl rfl (by decide) (x_faddr h.k rfl Try.underlying77 rfl sz_int rfl) (fun a h => ?_)
    refine s_x h rfl rfl (by decide) (x_ld h.k rfl Try.underlying3 rfl rfl ((h.m.cell (i := 0) rfl 8).trans rfl)) (fun a h => ?_)
    refine s_x h rfl rfl (by decide) (x_bin h.k rfl rfl rfl ib_eql) (fun a h => ?_)
    refine s_move h rfl _ rfl rfl (by decide) rfl (fun a h => ?_)
    refine q_grp h 5 (t := 14) 19 ((decide (a0.2.2.1 = 0)) && (decide ((a0.2.2.2.length : Int) = 0))) rfl (fun hB3 => ?_) (fun hB3 => ?_) (fun a w h => ?_)
    · refine g_yes h rfl rfl rfl rfl hB3 ?_
      refine s_x h rfl rfl (by decide) (x_faddr h.k rfl Try.underlying77 rfl sz_Suint8 rfl) (fun a h => ?_)
      refine g_yes h rfl rfl rfl rfl hB3 ?_
      refine s_x h rfl rfl (by decide) (x_ld h.k rfl Try.underlying22 rfl rfl ((h.m.cell (i := 0) rfl 9).trans rfl)) (fun a h => ?_)
      refine g_yes h rfl rfl rfl rfl hB3 ?_
      refine s_x h rfl rfl (by decide) (x_len h.k rfl Try.underlying22 rfl) (fun a h => ?_)
      refine g_yes h rfl rfl rfl rfl hB3 ?_
      refine s_x h rfl rfl (by decide) (x_bin h.k rfl rfl rfl ib_eql) (fun a h => ?_)
      refine s_x h rfl rfl (by decide) (x_pick (u' := undef) h.k rfl rfl (fun _ => rfl) (fun hh => absurd (hB3.symm.trans hh) (by decide))) (fun a h => ?_)
      exact (h.mid 4 rfl).val (by first | rfl | (rw [hB3]; first | rfl | simp))
    · refine g_no h rfl rfl rfl rfl hB3 rfl (by decide) (fun a h => ?_)
      refine g_no h rfl rfl rfl rfl hB3 rfl (by decide) (fun a h => ?_)
      refine g_no h rfl rfl rfl rfl hB3 rfl (by decide) (fun a h => ?_)
      refine g_no h rfl rfl rfl rfl hB3 rfl (by decide) (fun a h => ?_)
      refine s_x h rfl rfl (by decide) (x_pick (u' := undef) h.k rfl rfl (fun hh => absurd (hB3.symm.trans hh) (by decide)) (fun _ => rfl)) (fun a h => ?_)
      exact (h.mid 4 rfl).val (by first | rfl | (rw [hB3]; first | rfl | simp))
    refine s_move h rfl _ rfl rfl (by decide) rfl (fun a h => ?_)
    obtain ⟨z39, hz38, hf⟩ := bsome hf
    refine q_grp h 4 (t := 20) 24 z39 rfl (fun hB9 => ?_) (fun hB9 => ?_) (fun a w h => ?_)
    · rw [if_pos hB9] at hz38
      refine g_yes h rfl rfl rfl rfl hB9 ?_
      refine s_x h rfl rfl (by decide) (x_faddr h.k rfl Try.underlying77 rfl sz_api_Op rfl) (fun a h => ?_)
      refine g_yes h rfl rfl rfl rfl hB9 ?_
      refine s_x h rfl rfl (by decide) (x_ldR h.k rfl ag_api_Op rfl ([.int .i64 a0.1.1, .int .i64 a0.1.2.1, .int .i64 a0.1.2.2.1, .int .i64 a0.1.2.2.2.1, .int .i64 a0.1.2.2.2.2.1, .slice A20 a0.1.2.2.2.2.2.1.length c21, .slice A23 a0.1.2.2.2.2.2.2.length c24]) rfl (h.m.range (i := 0) rfl 0 7)) (fun a h => ?_)
      refine g_yes h rfl rfl rfl rfl hB9 ?_
      obtain ⟨x41, h42, hz38⟩ := bsome hz38
      have hX := script_plain_ok Fu (S0 := snapAll _) ([.int .i64 a0.1.1, .int .i64 a0.1.2.1, .int .i64 a0.1.2.2.1, .int .i64 a0.1.2.2.2.1, .int .i64 a0.1.2.2.2.2.1, .slice A20 a0.1.2.2.2.2.2.1.length c21, .slice A23 a0.1.2.2.2.2.2.2.length c24]) a0.1 ((tyP tyI (tyP tyI (tyP tyI (tyP tyI (tyP tyI (tyP (tyL ty8) (tyL ty8))))))).mono (h.m.leAll (i := 1) rfl) (show (tyP tyI (tyP tyI (tyP tyI (tyP tyI (tyP tyI (tyP (tyL ty8) (tyL ty8))))))).rep S0 ([.int .i64 a0.1.1, .int .i64 a0.1.2.1, .int .i64 a0.1.2.2.1, .int .i64 a0.1.2.2.2.1, .int .i64 a0.1.2.2.2.2.1, .slice A20 a0.1.2.2.2.2.2.1.length c21, .slice A23 a0.1.2.2.2.2.2.2.length c24]) a0.1 from ⟨[.int .i64 a0.1.1], [.int .i64 a0.1.2.1, .int .i64 a0.1.2.2.1, .int .i64 a0.1.2.2.2.1, .int .i64 a0.1.2.2.2.2.1, .slice A20 a0.1.2.2.2.2.2.1.length c21, .slice A23 a0.1.2.2.2.2.2.2.length c24], rfl, ⟨rfl, hr5⟩, ⟨[.int .i64 a0.1.2.1], [.int .i64 a0.1.2.2.1, .int .i64 a0.1.2.2.2.1, .int .i64 a0.1.2.2.2.2.1, .slice A20 a0.1.2.2.2.2.2.1.length c21, .slice A23 a0.1.2.2.2.2.2.2.length c24], rfl, ⟨rfl, hr8⟩, ⟨[.int .i64 a0.1.2.2.1], [.int .i64 a0.1.2.2.2.1, .int .i64 a0.1.2.2.2.2.1, .slice A20 a0.1.2.2.2.2.2.1.length c21, .slice A23 a0.1.2.2.2.2.2.2.length c24], rfl, ⟨rfl, hr11⟩, ⟨[.int .i64 a0.1.2.2.2.1], [.int .i64 a0.1.2.2.2.2.1, .slice A20 a0.1.2.2.2.2.2.1.length c21, .slice A23 a0.1.2.2.2.2.2.2.length c24], rfl, ⟨rfl, hr14⟩, ⟨[.int .i64 a0.1.2.2.2.2.1], [.slice A20 a0.1.2.2.2.2.2.1.length c21, .slice A23 a0.1.2.2.2.2.2.2.length c24], rfl, ⟨rfl, hr17⟩, ⟨[.slice A20 a0.1.2.2.2.2.2.1.length c21], [.slice A23 a0.1.2.2.2.2.2.2.length c24], rfl, ⟨_, _, rfl, hs22⟩, ⟨_, _, rfl, hs25⟩⟩⟩⟩⟩⟩⟩)) _ h42 _ h.startAll
      refine q_callX hX h rfl rfl rfl (by decide) Try.func148 rfl rfl rfl (fun a w v L1 S1 hR hb1 h => ?_)
      obtain ⟨rfl, rfl, _⟩ := hR
      refine s_x h rfl rfl (by decide) (x_pick (u' := undef) h.k rfl rfl (fun _ => rfl) (fun hh => absurd (hB9.symm.trans hh) (by decide))) (fun a h => ?_)
      exact (h.mid 3 rfl).val (by rw [Option.some.inj hz38])
    · refine g_no h rfl rfl rfl rfl hB9 rfl (by decide) (fun a h => ?_)
      refine g_no h rfl rfl rfl rfl hB9 rfl (by decide) (fun a h => ?_)
      refine g_no h rfl rfl rfl rfl hB9 rfl (by decide) (fun a h => ?_)
      rw [if_neg (by rw [hB9]; decide)] at hz38
      refine s_x h rfl rfl (by decide) (x_pick (u' := undef) h.k rfl rfl (fun hh => absurd (hB9.symm.trans hh) (by decide)) (fun _ => rfl)) (fun a h => ?_)
      exact (h.mid 3 rfl).val (by rw [Option.some.inj hz38])
    refine s_assign h rfl _ rfl rfl (by decide) rfl (fun a h => ?_)
    refine l_end ?_
    refine wp_ret ?_
    refine e_thenR ?_
    rw [← Option.some.inj hf]
    exact r_ret1 h rfl (rv_tmp h rfl) ⟨_, [], _, rfl, ⟨rfl, rfl, trivial⟩, rfl, (Up.refl _ _ _), (h.m.pick [1] _ (by decide) rfl)⟩
  · rw [if_neg (of_decide_eq_false hb)] at hf
    refine wp_skip ?_
    refine e_thenN ?_
    refine c_rs ?_ -- region 3
    refine s_assign h rfl _ rfl rfl (by decide) rfl (fun a h => ?_)
    refine s_assign h rfl _ rfl rfl (by decide) rfl (fun a h => ?_)
    refine s_assign h rfl _ rfl rfl (by decide) rfl (fun a h => ?_)
    refine l_end ?_
    obtain ⟨o44, hc45, hf⟩ := bsome hf
    refine c_cut (fun a w => ∃ (x46 : Int), ∃ (x48 : Int), ∃ (x50 : Int), (.inr (x46, x48, x50)) = o44 ∧ r64 x46 ∧ r64 x48 ∧ r64 x50 ∧ St 58 w0 (ownL ([] ++ [.sn S0])) [(2, .pointer (some ⟨g35, 0, none⟩)), (5, .int .i64 x46), (6, .int .i64 x48), (7, .int .i64 x50)] [.box g35 77 ([.int .i64 a0.1.1, .int .i64 a0.1.2.1, .int .i64 a0.1.2.2.1, .int .i64 a0.1.2.2.2.1, .int .i64 a0.1.2.2.2.2.1, .slice A20 a0.1.2.2.2.2.2.1.length c21, .slice A23 a0.1.2.2.2.2.2.2.length c24, .int .i64 a0.2.1, .int .i64 a0.2.2.1, .slice A32 a0.2.2.2.length c33]), .sn S0] a w) ?_ ?_
    · refine c_rs ?_ -- region 4
      refine s_x h rfl rfl (by decide) (x_faddr h.k rfl Try.underlying77 rfl sz_int rfl) (fun a h => ?_)
      refine s_x h rfl rfl (by decide) (x_ld h.k rfl Try.underlying3 rfl rfl ((h.m.cell (i := 0) rfl 7).trans rfl)) (fun a h => ?_)
      refine l_end ?_
      refine wp_block ?_
      refine wp_seq ?_
      refine wp_block ?_
      refine wp_seq ?_
      refine wp_block ?_
      refine wp_seq ?_
      refine wp_block ?_
      refine wp_block ?_
      refine wp_seq ?_
      refine wp_block ?_
      refine wp_seq ?_
      refine wp_block ?_
      refine wp_seq ?_
      refine wp_seq ?_
      refine c_rs ?_ -- region 5
      refine s_x h rfl rfl (by decide) (x_bin h.k rfl rfl rfl ib_eql) (fun a h => ?_)
      refine s_assign h rfl _ rfl rfl (by decide) rfl (fun a h => ?_)
      refine l_end ?_
      refine c_cond h rfl (fun hb => ?_) (fun hb => ?_)
      · rw [if_pos (of_decide_eq_true hb)] at hc45
        refine wp_exit ?_
        refine e_thenX ?_
        refine e_thenX ?_
        refine e_blkX ?_
        refine e_thenN ?_
        refine c_rs ?_ -- region 10
        refine s_assign h rfl _ rfl rfl (by decide) rfl (fun a h => ?_)
        refine s_assign h rfl _ rfl rfl (by decide) rfl (fun a h => ?_)
        refine l_end ?_
        refine wp_exit ?_
        refine e_blkY (by decide) ?_
        refine e_thenX ?_
        refine e_blkY (by decide) ?_
        refine e_blkY (by decide) ?_
        refine e_thenX ?_
        refine e_blkY (by decide) ?_
        refine e_thenX ?_
        refine e_blkY (by decide) ?_
        refine e_thenX ?_
        refine e_blkX ?_
        refine e_thenN ?_
        exact ⟨1099511627776, 0, 64, (Option.some.inj hc45), (show r64 1099511627776 from ⟨by decide, by decide⟩), (show r64 0 from ⟨by decide, by decide⟩), (show r64 64 from ⟨by decide, by decide⟩), h.has (by exact ⟨rfl, rfl, rfl, rfl, trivial⟩)⟩
      · rw [if_neg (of_decide_eq_false hb)] at hc45
        refine wp_skip ?_
        refine e_thenN ?_
        refine wp_seq ?_
        refine c_rs ?_ -- region 6
        refine s_x h rfl rfl (by decide) (x_bin h.k rfl rfl rfl ib_eql) (fun a h => ?_)
        refine s_assign h rfl _ rfl rfl (by decide) rfl (fun a h => ?_)
        refine l_end ?_
        refine c_cond h rfl (fun hb => ?_) (fun hb => ?_)
        · rw [if_pos (of_decide_eq_true hb)] at hc45
          refine wp_exit ?_
          refine e_thenX ?_
          refine e_thenX ?_
          refine e_blkY (by decide) ?_
          refine e_thenX ?_
          refine e_blkX ?_
          refine e_thenN ?_
          refine c_rs ?_ -- region 11
          refine s_move h rfl _ rfl rfl (by decide) rfl (fun a h => ?_)
          refine s_move h rfl _ rfl rfl (by decide) rfl (fun a h => ?_)
          refine s_x h rfl rfl (by decide) (x_mn h.k rfl rfl rfl) (fun a h => ?_)
          refine s_assign h rfl _ rfl rfl (by decide) rfl (fun a h => ?_)
          refine s_assign h rfl _ rfl rfl (by decide) rfl (fun a h => ?_)
          refine s_assign h rfl _ rfl rfl (by decide) rfl (fun a h => ?_)
          refine l_end ?_
          refine wp_exit ?_
          refine e_blkY (by decide) ?_
          refine e_blkY (by decide) ?_
          refine e_thenX ?_
          refine e_blkY (by decide) ?_
          refine e_thenX ?_
          refine e_blkY (by decide) ?_
          refine e_thenX ?_
          refine e_blkX ?_
          refine e_thenN ?_
          exact ⟨1048575, a1, mn a1 512, (Option.some.inj hc45), (show r64 1048575 from ⟨by decide, by decide⟩), hra1, (mn_r hra1 (show r64 512 from ⟨by decide, by decide⟩)), h.has (by exact ⟨rfl, rfl, rfl, rfl, trivial⟩)⟩
        · rw [if_neg (of_decide_eq_false hb)] at hc45
          refine wp_skip ?_
          refine e_thenN ?_
          refine wp_seq ?_
          refine c_rs ?_ -- region 7
          refine s_x h rfl rfl (by decide) (x_bin h.k rfl rfl rfl ib_eql) (fun a h => ?_)
          refine s_assign h rfl _ rfl rfl (by decide) rfl (fun a h => ?_)
          refine l_end ?_
          refine c_cond h rfl (fun hb => ?_) (fun hb => ?_)
          · rw [if_pos (of_decide_eq_true hb)] at hc45
            refine wp_exit ?_
            refine e_thenX ?_
            refine e_thenX ?_
            refine e_blkY (by decide) ?_
            refine e_thenX ?_
            refine e_blkY (by decide) ?_
            refine e_thenX ?_
            refine e_blkX ?_
            refine e_blkN ?_
            refine e_thenN ?_
            refine c_rs ?_ -- region 12
            refine s_assign h rfl _ rfl rfl (by decide) rfl (fun a h => ?_)
            refine l_end ?_
            refine wp_exit ?_
            refine e_blkY (by decide) ?_
            refine e_thenX ?_
            refine e_blkY (by decide) ?_
            refine e_thenX ?_
            refine e_blkX ?_
            refine e_thenN ?_
            exact ⟨7, 0, 0, (Option.some.inj hc45), (show r64 7 from ⟨by decide, by decide⟩), (show r64 0 from ⟨by decide, by decide⟩), (show r64 0 from ⟨by decide, by decide⟩), h.has (by exact ⟨rfl, rfl, rfl, rfl, trivial⟩)⟩
          · rw [if_neg (of_decide_eq_false hb)] at hc45
            refine wp_skip ?_
            refine e_thenN ?_
            refine wp_seq ?_
            refine c_rs ?_ -- region 8
            refine s_x h rfl rfl (by decide) (x_bin h.k rfl rfl rfl ib_eql) (fun a h => ?_)
            refine s_assign h rfl _ rfl rfl (by decide) rfl (fun a h => ?_)
            refine l_end ?_
            refine c_cond h rfl (fun hb => ?_) (fun hb => ?_)
            · rw [if_pos (of_decide_eq_true hb)] at hc45
              refine wp_exit ?_
              refine e_thenX ?_
              refine e_thenX ?_
              refine e_blkY (by decide) ?_
              refine e_thenX ?_
              refine e_blkY (by decide) ?_
              refine e_thenX ?_
              refine e_blkY (by decide) ?_
              refine e_blkX ?_
              refine e_thenN ?_
              refine c_rs ?_ -- region 12
              refine s_assign h rfl _ rfl rfl (by decide) rfl (fun a h => ?_)
              refine l_end ?_
              refine wp_exit ?_
              refine e_blkY (by decide) ?_
              refine e_thenX ?_
              refine e_blkY (by decide) ?_
              refine e_thenX ?_
              refine e_blkX ?_
              refine e_thenN ?_
              exact ⟨7, 0, 0, (Option.some.inj hc45), (show r64 7 from ⟨by decide, by decide⟩), (show r64 0 from ⟨by decide, by decide⟩), (show r64 0 from ⟨by decide, by decide⟩), h.has (by exact ⟨rfl, rfl, rfl, rfl, trivial⟩)⟩
            · rw [if_neg (of_decide_eq_false hb)] at hc45
              refine wp_skip ?_
              refine e_thenN ?_
              refine c_rs ?_ -- region 9
              refine s_x h rfl rfl (by decide) (x_bin h.k rfl rfl rfl ib_eql) (fun a h => ?_)
              refine s_assign h rfl _ rfl rfl (by decide) rfl (fun a h => ?_)
              refine l_end ?_
              refine c_cond h rfl (fun hb => ?_) (fun hb => ?_)
              · rw [if_pos (of_decide_eq_true hb)] at hc45
                refine wp_exit ?_
                refine e_thenX ?_
                refine e_blkY (by decide) ?_
                refine e_thenX ?_
                refine e_blkY (by decide) ?_
                refine e_thenX ?_
                refine e_blkY (by decide) ?_
                refine e_blkY (by decide) ?_
                refine e_thenX ?_
                refine e_blkX ?_
                refine e_thenN ?_
                refine wp_exit ?_
                refine e_blkY (by decide) ?_
                refine e_thenX ?_
                refine e_blkX ?_
                refine e_thenN ?_
                exact ⟨0, 0, 0, (Option.some.inj hc45), (show r64 0 from ⟨by decide, by decide⟩), (show r64 0 from ⟨by decide, by decide⟩), (show r64 0 from ⟨by decide, by decide⟩), h.has (by exact ⟨rfl, rfl, rfl, rfl, trivial⟩)⟩
              · rw [if_neg (of_decide_eq_false hb)] at hc45
                refine wp_skip ?_
                refine e_thenN ?_
                refine wp_exit ?_
                refine e_blkY (by decide) ?_
                refine e_thenX ?_
                refine e_blkY (by decide) ?_
                refine e_thenX ?_
                refine e_blkY (by decide) ?_
                refine e_blkY (by decide) ?_
                refine e_thenX ?_
                refine e_blkY (by decide) ?_
                refine e_thenX ?_
                refine e_blkX ?_
                refine e_thenN ?_
                refine wp_seq ?_
                refine c_rs ?_ -- region 13
                refine s_assign h rfl _ rfl rfl (by decide) rfl (fun a h => ?_)
                refine l_end ?_
                refine wp_ret ?_
                refine e_thenR ?_
                refine e_blkR ?_
                refine e_thenR ?_
                cases hc45
                try dsimp only at hf
                rw [← Option.some.inj hf]
                exact r_ret1 h rfl (rv_tmp h rfl) ⟨_, [], _, rfl, ⟨rfl, rfl, trivial⟩, rfl, (Up.refl _ _ _), (h.m.pick [1] _ (by decide) rfl)⟩
    · rintro a w ⟨x46, x48, x50, rfl, hr47, hr49, hr51, h⟩
      try dsimp only at hf
      refine c_rs ?_ -- region 14
      refine s_x h rfl rfl (by decide) (x_faddr h.k rfl Try.underlying77 rfl sz_int rfl) (fun a h => ?_)
      refine s_x h rfl rfl (by decide) (x_ld h.k rfl Try.underlying3 rfl rfl ((h.m.cell (i := 0) rfl 8).trans rfl)) (fun a h => ?_)
      refine s_move h rfl _ rfl rfl (by decide) rfl (fun a h => ?_)
      obtain ⟨x52, h53, hf⟩ := bsome hf
      have hX := script_within_ok Fu (S0 := snapAll _) a0.2.2.1 hr31 0 (show r64 0 from ⟨by decide, by decide⟩) x46 hr47 _ h53 _ h.startAll
      refine q_callX hX h rfl rfl rfl (by decide) Try.func149 rfl rfl rfl (fun a w v L1 S1 hR hb1 h => ?_)
      obtain ⟨rfl, rfl, _⟩ := hR
      refine s_move h rfl _ rfl rfl (by decide) rfl (fun a h => ?_)
      obtain ⟨z56, hz55, hf⟩ := bsome hf
      refine q_grp h 7 (t := 44) 51 z56 rfl (fun hB4 => ?_) (fun hB4 => ?_) (fun a w h => ?_)
      · rw [if_pos hB4] at hz55
        refine g_yes h rfl rfl rfl rfl hB4 ?_
        refine s_x h rfl rfl (by decide) (x_faddr h.k rfl Try.underlying77 rfl sz_Suint8 rfl) (fun a h => ?_)
        refine g_yes h rfl rfl rfl rfl hB4 ?_
        refine s_x h rfl rfl (by decide) (x_ld h.k rfl Try.underlying22 rfl rfl ((h.m.cell (i := 0) rfl 9).trans rfl)) (fun a h => ?_)
        refine g_yes h rfl rfl rfl rfl hB4 ?_
        refine s_x h rfl rfl (by decide) (x_len h.k rfl Try.underlying22 rfl) (fun a h => ?_)
        refine g_yes h rfl rfl rfl rfl hB4 ?_
        refine s_move h rfl _ rfl rfl (by decide) rfl (fun a h => ?_)
        refine g_yes h rfl rfl rfl rfl hB4 ?_
        refine s_move h rfl _ rfl rfl (by decide) rfl (fun a h => ?_)
        refine g_yes h rfl rfl rfl rfl hB4 ?_
        obtain ⟨x58, h59, hz55⟩ := bsome hz55
        have hX := script_within_ok Fu (S0 := snapAll _) (a0.2.2.2.length : Int) (len_r (hs34).len) x48 hr49 x50 hr51 _ h59 _ h.startAll
        refine q_callX hX h rfl rfl rfl (by decide) Try.func149 rfl rfl rfl (fun a w v L1 S1 hR hb1 h => ?_)
        obtain ⟨rfl, rfl, _⟩ := hR
        refine s_x h rfl rfl (by decide) (x_pick (u' := undef) h.k rfl rfl (fun _ => rfl) (fun hh => absurd (hB4.symm.trans hh) (by decide))) (fun a h => ?_)
        exact (h.mid 6 rfl).val (by rw [Option.some.inj hz55])
      · refine g_no h rfl rfl rfl rfl hB4 rfl (by decide) (fun a h => ?_)
        refine g_no h rfl rfl rfl rfl hB4 rfl (by decide) (fun a h => ?_)
        refine g_no h rfl rfl rfl rfl hB4 rfl (by decide) (fun a h => ?_)
        refine g_no h rfl rfl rfl rfl hB4 rfl (by decide) (fun a h => ?_)
        refine g_no h rfl rfl rfl rfl hB4 rfl (by decide) (fun a h => ?_)
        refine g_no h rfl rfl rfl rfl hB4 rfl (by decide) (fun a h => ?_)
        rw [if_neg (by rw [hB4]; decide)] at hz55
        refine s_x h rfl rfl (by decide) (x_pick (u' := undef) h.k rfl rfl (fun hh => absurd (hB4.symm.trans hh) (by decide)) (fun _ => rfl)) (fun a h => ?_)
        exact (h.mid 6 rfl).val (by rw [Option.some.inj hz55])
      refine s_move h rfl _ rfl rfl (by decide) rfl (fun a h => ?_)
      obtain ⟨z62, hz61, hf⟩ := bsome hf
      refine q_grp h 5 (t := 52) 57 z62 rfl (fun hB12 => ?_) (fun hB12 => ?_) (fun a w h => ?_)
      · rw [if_pos hB12] at hz61
        refine g_yes h rfl rfl rfl rfl hB12 ?_
        refine s_x h rfl rfl (by decide) (x_faddr h.k rfl Try.underlying77 rfl sz_api_Op rfl) (fun a h => ?_)
        refine g_yes h rfl rfl rfl rfl hB12 ?_
        refine s_x h rfl rfl (by decide) (x_ldR h.k rfl ag_api_Op rfl ([.int .i64 a0.1.1, .int .i64 a0.1.2.1, .int .i64 a0.1.2.2.1, .int .i64 a0.1.2.2.2.1, .int .i64 a0.1.2.2.2.2.1, .slice A20 a0.1.2.2.2.2.2.1.length c21, .slice A23 a0.1.2.2.2.2.2.2.length c24]) rfl (h.m.range (i := 0) rfl 0 7)) (fun a h => ?_)
        refine g_yes h rfl rfl rfl rfl hB12 ?_
        refine s_x h rfl rfl (by decide) (x_build h.k rfl [] rfl ([.int .i64 0, .int .i64 0, .int .i64 0, .int .i64 0, .int .i64 0, .slice none 0 0, .slice none 0 0]) (by kernel_rfl)) (fun a h => ?_)
        refine g_yes h rfl rfl rfl rfl hB12 ?_
        obtain ⟨x64, h65, hz61⟩ := bsome hz61
        have hX := op_Same_ok Fu (S0 := snapAll _) ([.int .i64 a0.1.1, .int .i64 a0.1.2.1, .int .i64 a0.1.2.2.1, .int .i64 a0.1.2.2.2.1, .int .i64 a0.1.2.2.2.2.1, .slice A20 a0.1.2.2.2.2.2.1.length c21, .slice A23 a0.1.2.2.2.2.2.2.length c24]) a0.1 ((tyP tyI (tyP tyI (tyP tyI (tyP tyI (tyP tyI (tyP (tyL ty8) (tyL ty8))))))).mono (h.m.leAll (i := 1) rfl) (show (tyP tyI (tyP tyI (tyP tyI (tyP tyI (tyP tyI (tyP (tyL ty8) (tyL ty8))))))).rep S0 ([.int .i64 a0.1.1, .int .i64 a0.1.2.1, .int .i64 a0.1.2.2.1, .int .i64 a0.1.2.2.2.1, .int .i64 a0.1.2.2.2.2.1, .slice A20 a0.1.2.2.2.2.2.1.length c21, .slice A23 a0.1.2.2.2.2.2.2.length c24]) a0.1 from ⟨[.int .i64 a0.1.1], [.int .i64 a0.1.2.1, .int .i64 a0.1.2.2.1, .int .i64 a0.1.2.2.2.1, .int .i64 a0.1.2.2.2.2.1, .slice A20 a0.1.2.2.2.2.2.1.length c21, .slice A23 a0.1.2.2.2.2.2.2.length c24], rfl, ⟨rfl, hr5⟩, ⟨[.int .i64 a0.1.2.1], [.int .i64 a0.1.2.2.1, .int .i64 a0.1.2.2.2.1, .int .i64 a0.1.2.2.2.2.1, .slice A20 a0.1.2.2.2.2.2.1.length c21, .slice A23 a0.1.2.2.2.2.2.2.length c24], rfl, ⟨rfl, hr8⟩, ⟨[.int .i64 a0.1.2.2.1], [.int .i64 a0.1.2.2.2.1, .int .i64 a0.1.2.2.2.2.1, .slice A20 a0.1.2.2.2.2.2.1.length c21, .slice A23 a0.1.2.2.2.2.2.2.length c24], rfl, ⟨rfl, hr11⟩, ⟨[.int .i64 a0.1.2.2.2.1], [.int .i64 a0.1.2.2.2.2.1, .slice A20 a0.1.2.2.2.2.2.1.length c21, .slice A23 a0.1.2.2.2.2.2.2.length c24], rfl, ⟨rfl, hr14⟩, ⟨[.int .i64 a0.1.2.2.2.2.1], [.slice A20 a0.1.2.2.2.2.2.1.length c21, .slice A23 a0.1.2.2.2.2.2.2.length c24], rfl, ⟨rfl, hr17⟩, ⟨[.slice A20 a0.1.2.2.2.2.2.1.length c21], [.slice A23 a0.1.2.2.2.2.2.2.length c24], rfl, ⟨_, _, rfl, hs22⟩, ⟨_, _, rfl, hs25⟩⟩⟩⟩⟩⟩⟩)) ([.int .i64 0, .int .i64 0, .int .i64 0, .int .i64 0, .int .i64 0, .slice none 0 0, .slice none 0 0]) (0, 0, 0, 0, 0, [], []) ((tyP tyI (tyP tyI (tyP tyI (tyP tyI (tyP tyI (tyP (tyL ty8) (tyL ty8))))))).mono (h.m.leAll (i := 1) rfl) (show (tyP tyI (tyP tyI (tyP tyI (tyP tyI (tyP tyI (tyP (tyL ty8) (tyL ty8))))))).rep S0 ([.int .i64 0, .int .i64 0, .int .i64 0, .int .i64 0, .int .i64 0, .slice none 0 0, .slice none 0 0]) (0, 0, 0, 0, 0, [], []) from ⟨[.int .i64 0], [.int .i64 0, .int .i64 0, .int .i64 0, .int .i64 0, .slice none 0 0, .slice none 0 0], rfl, ⟨rfl, (show r64 0 from ⟨by decide, by decide⟩)⟩, ⟨[.int .i64 0], [.int .i64 0, .int .i64 0, .int .i64 0, .slice none 0 0, .slice none 0 0], rfl, ⟨rfl, (show r64 0 from ⟨by decide, by decide⟩)⟩, ⟨[.int .i64 0], [.int .i64 0, .int .i64 0, .slice none 0 0, .slice none 0 0], rfl, ⟨rfl, (show r64 0 from ⟨by decide, by decide⟩)⟩, ⟨[.int .i64 0], [.int .i64 0, .slice none 0 0, .slice none 0 0], rfl, ⟨rfl, (show r64 0 from ⟨by decide, by decide⟩)⟩, ⟨[.int .i64 0], [.slice none 0 0, .slice none 0 0], rfl, ⟨rfl, (show r64 0 from ⟨by decide, by decide⟩)⟩, ⟨[.slice none 0 0], [.slice none 0 0], rfl, ⟨_, _, rfl, (slS.nil ty8 _)⟩, ⟨_, _, rfl, (slS.nil ty8 _)⟩⟩⟩⟩⟩⟩⟩)) _ h65 _ h.startAll
        refine q_callX hX h rfl rfl rfl (by decide) Try.func18 rfl rfl rfl (fun a w v L1 S1 hR hb1 h => ?_)
        obtain ⟨rfl, rfl, _⟩ := hR
        refine s_x h rfl rfl (by decide) (x_pick (u' := undef) h.k rfl rfl (fun _ => rfl) (fun hh => absurd (hB12.symm.trans hh) (by decide))) (fun a h => ?_)
        exact (h.mid 4 rfl).val (by rw [Option.some.inj hz61])
      · refine g_no h rfl rfl rfl rfl hB12 rfl (by decide) (fun a h => ?_)
        refine g_no h rfl rfl rfl rfl hB12 rfl (by decide) (fun a h => ?_)
        refine g_no h rfl rfl rfl rfl hB12 rfl (by decide) (fun a h => ?_)
        refine g_no h rfl rfl rfl rfl hB12 rfl (by decide) (fun a h => ?_)
        rw [if_neg (by rw [hB12]; decide)] at hz61
        refine s_x h rfl rfl (by decide) (x_pick (u' := undef) h.k rfl rfl (fun hh => absurd (hB12.symm.trans hh) (by decide)) (fun _ => rfl)) (fun a h => ?_)
        exact (h.mid 4 rfl).val (by rw [Option.some.inj hz61])
      refine s_assign h rfl _ rfl rfl (by decide) rfl (fun a h => ?_)
      refine l_end ?_
      refine wp_ret ?_
      rw [← Option.some.inj hf]
      exact r_ret1 h rfl (rv_tmp h rfl) ⟨_, [], _, rfl, ⟨rfl, rfl, trivial⟩, rfl, (Up.refl _ _ _), (h.m.pick [1] _ (by decide) rfl)⟩
def script_Put_l0 (Fu : Nat) (a0 : (Int × Int × Int × Int × Int × (List UInt8) × (List UInt8)) × Int × Int × (List UInt8)) : Nat → Int → (Int × (List UInt8)) → Option ((Int × (List UInt8)))
  | 0, _, _ => none
  | k + 1, x90, x92 => if x90 < 5 then ((idx ([a0.1.1, a0.1.2.1, a0.1.2.2.1, a0.1.2.2.2.1, a0.1.2.2.2.2.1]) x90).bind fun x110 => (field_Writer_Number Fu x92 x110 8).bind fun x120 => script_Put_l0 Fu a0 k (w64 (x90 + 1)) x120) else (some x92)
def script_Put (Fu : Nat) (a0 : (Int × Int × Int × Int × Int × (List UInt8) × (List UInt8)) × Int × Int × (List UInt8)) (a1 : Int) : Option ((List UInt8) × Int) :=
  (script_Right Fu a0 a1).bind fun x36 => if (!x36) = true then (some ([], 2)) else ((field_Writer_Number Fu (0, []) a0.2.1 1).bind fun x41 => if a0.2.1 ≠ 0 then ((field_Writer_Number Fu x41 a0.2.2.1 8).bind fun x53 => (field_Writer_Bytes Fu x53 a0.2.2.2).bind fun x64 => (field_Writer_Out Fu x64).bind fun x75 => some x75) else ((script_Put_l0 Fu a0 Fu 0 x41).bind fun x101 => (field_Writer_Bytes Fu x101 a0.1.2.2.2.2.2.1).bind fun x131 => (field_Writer_Bytes Fu x131 a0.1.2.2.2.2.2.2).bind fun x142 => (field_Writer_Out Fu x142).bind fun x153 => some x153))
set_option maxRecDepth 100000 in
set_option maxHeartbeats 2000000 in
theorem script_Put_ok (Fu : Nat) {S0 : Snap} (csa0 : List Value) (a0 : (Int × Int × Int × Int × Int × (List UInt8) × (List UInt8)) × Int × Int × (List UInt8)) (hsa0 : (tyP (tyP tyI (tyP tyI (tyP tyI (tyP tyI (tyP tyI (tyP (tyL ty8) (tyL ty8))))))) (tyP tyI (tyP tyI (tyL ty8)))).rep S0 csa0 a0) (a1 : Int) (hra1 : r64 a1) (r : (List UInt8) × Int) (hf : script_Put Fu a0 a1 = some r) (w0 : World) (hm : Mem w0 (ownL ([] ++ [.sn S0])) ([] ++ [.sn S0]) w0) :
    Calls Try.prog 147 #[.agg csa0.toArray, .int .i64 a1] w0 (Ret w0 S0 [] (fun v L1 S1 => ∃ (A163 : Option Addr), ∃ (c164 : Nat), ∃ (cs165 : List Value), v = .tuple #[.slice A163 r.1.length c164, .int .i64 r.2] ∧ L1 = [.row (.slice A163 r.1.length c164) 5 1 r.1.length cs165] ∧ reps ty8 S1 cs165 r.1 ∧ r64 r.2 ∧ True)) := by
  unfold script_Put at hf
  obtain ⟨k1, k2, rfl, ⟨k3, k4, rfl, ⟨rfl, hr5⟩, ⟨k6, k7, rfl, ⟨rfl, hr8⟩, ⟨k9, k10, rfl, ⟨rfl, hr11⟩, ⟨k12, k13, rfl, ⟨rfl, hr14⟩, ⟨k15, k16, rfl, ⟨rfl, hr17⟩, ⟨k18, k19, rfl, ⟨A20, c21, rfl, hs22⟩, ⟨A23, c24, rfl, hs25⟩⟩⟩⟩⟩⟩⟩, ⟨k26, k27, rfl, ⟨rfl, hr28⟩, ⟨k29, k30, rfl, ⟨rfl, hr31⟩, ⟨A32, c33, rfl, hs34⟩⟩⟩⟩ := hsa0
  refine c_enterM Try.func147 rfl 61 rfl (by simp) _ hm _ rfl (fun a h => ?_)
  refine c_rs ?_ -- region 0
  refine s_box h rfl rfl rfl (by decide) rfl (cs := [.int .i64 a0.1.1, .int .i64 a0.1.2.1, .int .i64 a0.1.2.2.1, .int .i64 a0.1.2.2.2.1, .int .i64 a0.1.2.2.2.2.1, .slice A20 a0.1.2.2.2.2.2.1.length c21, .slice A23 a0.1.2.2.2.2.2.2.length c24, .int .i64 a0.2.1, .int .i64 a0.2.2.1, .slice A32 a0.2.2.2.length c33]) (by rfl) (fun a w g35 h => ?_)
  refine s_assign h rfl _ rfl rfl (by decide) rfl (fun a h => ?_)
  refine s_assign h rfl _ rfl rfl (by decide) rfl (fun a h => ?_)
  refine l_end ?_
  refine wp_seq ?_
  refine c_rs ?_ -- region 1
  refine s_x h rfl rfl (by decide) (x_ldR h.k rfl ag_api_Event rfl ([.int .i64 a0.1.1, .int .i64 a0.1.2.1, .int .i64 a0.1.2.2.1, .int .i64 a0.1.2.2.2.1, .int .i64 a0.1.2.2.2.2.1, .slice A20 a0.1.2.2.2.2.2.1.length c21, .slice A23 a0.1.2.2.2.2.2.2.length c24, .int .i64 a0.2.1, .int .i64 a0.2.2.1, .slice A32 a0.2.2.2.length c33]) rfl (h.m.range0 (i := 0) rfl)) (fun a h => ?_)
  refine s_move h rfl _ rfl rfl (by decide) rfl (fun a h => ?_)
  obtain ⟨x36, h37, hf⟩ := bsome hf
  have hX := script_Right_ok Fu (S0 := snapAll _) ([.int .i64 a0.1.1, .int .i64 a0.1.2.1, .int .i64 a0.1.2.2.1, .int .i64 a0.1.2.2.2.1, .int .i64 a0.1.2.2.2.2.1, .slice A20 a0.1.2.2.2.2.2.1.length c21, .slice A23 a0.1.2.2.2.2.2.2.length c24, .int .i64 a0.2.1, .int .i64 a0.2.2.1, .slice A32 a0.2.2.2.length c33]) a0 ((tyP (tyP tyI (tyP tyI (tyP tyI (tyP tyI (tyP tyI (tyP (tyL ty8) (tyL ty8))))))) (tyP tyI (tyP tyI (tyL ty8)))).mono (h.m.leAll (i := 1) rfl) (show (tyP (tyP tyI (tyP tyI (tyP tyI (tyP tyI (tyP tyI (tyP (tyL ty8) (tyL ty8))))))) (tyP tyI (tyP tyI (tyL ty8)))).rep S0 ([.int .i64 a0.1.1, .int .i64 a0.1.2.1, .int .i64 a0.1.2.2.1, .int .i64 a0.1.2.2.2.1, .int .i64 a0.1.2.2.2.2.1, .slice A20 a0.1.2.2.2.2.2.1.length c21, .slice A23 a0.1.2.2.2.2.2.2.length c24, .int .i64 a0.2.1, .int .i64 a0.2.2.1, .slice A32 a0.2.2.2.length c33]) a0 from ⟨[.int .i64 a0.1.1, .int .i64 a0.1.2.1, .int .i64 a0.1.2.2.1, .int .i64 a0.1.2.2.2.1, .int .i64 a0.1.2.2.2.2.1, .slice A20 a0.1.2.2.2.2.2.1.length c21, .slice A23 a0.1.2.2.2.2.2.2.length c24], [.int .i64 a0.2.1, .int .i64 a0.2.2.1, .slice A32 a0.2.2.2.length c33], rfl, ⟨[.int .i64 a0.1.1], [.int .i64 a0.1.2.1, .int .i64 a0.1.2.2.1, .int .i64 a0.1.2.2.2.1, .int .i64 a0.1.2.2.2.2.1, .slice A20 a0.1.2.2.2.2.2.1.length c21, .slice A23 a0.1.2.2.2.2.2.2.length c24], rfl, ⟨rfl, hr5⟩, ⟨[.int .i64 a0.1.2.1], [.int .i64 a0.1.2.2.1, .int .i64 a0.1.2.2.2.1, .int .i64 a0.1.2.2.2.2.1, .slice A20 a0.1.2.2.2.2.2.1.length c21, .slice A23 a0.1.2.2.2.2.2.2.length c24], rfl, ⟨rfl, hr8⟩, ⟨[.int .i64 a0.1.2.2.1], [.int .i64 a0.1.2.2.2.1, .int .i64 a0.1.2.2.2.2.1, .slice A20 a0.1.2.2.2.2.2.1.length c21, .slice A23 a0.1.2.2.2.2.2.2.length c24], rfl, ⟨rfl, hr11⟩, ⟨[.int .i64 a0.1.2.2.2.1], [.int .i64 a0.1.2.2.2.2.1, .slice A20 a0.1.2.2.2.2.2.1.length c21, .slice A23 a0.1.2.2.2.2.2.2.length c24], rfl, ⟨rfl, hr14⟩, ⟨[.int .i64 a0.1.2.2.2.2.1], [.slice A20 a0.1.2.2.2.2.2.1.length c21, .slice A23 a0.1.2.2.2.2.2.2.length c24], rfl, ⟨rfl, hr17⟩, ⟨[.slice A20 a0.1.2.2.2.2.2.1.length c21], [.slice A23 a0.1.2.2.2.2.2.2.length c24], rfl, ⟨_, _, rfl, hs22⟩, ⟨_, _, rfl, hs25⟩⟩⟩⟩⟩⟩⟩, ⟨[.int .i64 a0.2.1], [.int .i64 a0.2.2.1, .slice A32 a0.2.2.2.length c33], rfl, ⟨rfl, hr28⟩, ⟨[.int .i64 a0.2.2.1], [.slice A32 a0.2.2.2.length c33], rfl, ⟨rfl, hr31⟩, ⟨_, _, rfl, hs34⟩⟩⟩⟩)) a1 hra1 _ h37 _ h.startAll
  refine q_callX hX h rfl rfl rfl (by decide) Try.func101 rfl rfl rfl (fun a w v L1 S1 hR hb1 h => ?_)
  obtain ⟨rfl, rfl, _⟩ := hR
  refine s_x h rfl rfl (by decide) (x_not h.k rfl rfl) (fun a h => ?_)
  refine l_end ?_
  refine c_cond h rfl (fun hb => ?_) (fun hb => ?_)
  · rw [if_pos hb] at hf
    refine c_rs ?_ -- region 2
    refine s_assign h rfl _ rfl rfl (by decide) rfl (fun a h => ?_)
    refine s_assign h rfl _ rfl rfl (by decide) rfl (fun a h => ?_)
    refine l_end ?_
    refine wp_ret ?_
    refine e_thenR ?_
    obtain rfl := Option.some.inj hf
    have h := h.mem (h.m.nilrow 5 1)
    exact r_ret2 h rfl (rv_tmp h rfl) (rv_tmp h rfl) ⟨_, [.row (.slice none ([]).length 0) 5 1 ([]).length []], _, rfl, ⟨none, 0, [], rfl, rfl, (show reps ty8 S0 [] [] from rfl), (show r64 2 from ⟨by decide, by decide⟩), trivial⟩, rfl, (Up.refl _ _ _), (h.m.pick [0, 2] _ (by decide) rfl)⟩
  · rw [if_neg (by rw [hb]; decide)] at hf
    refine wp_skip ?_
    refine e_thenN ?_
    refine c_rs ?_ -- region 3
    refine s_alloc h rfl rfl rfl (by decide) zi_field_Writer rfl (fun a w g40 h => ?_)
    refine l_end ?_
    refine c_rs ?_ -- region 4
    refine s_x h rfl rfl (by decide) (x_faddr h.k rfl Try.underlying77 rfl sz_int rfl) (fun a h => ?_)
    refine s_x h rfl rfl (by decide) (x_ld h.k rfl Try.underlying3 rfl rfl ((h.m.cell (i := 1) rfl 7).trans rfl)) (fun a h => ?_)
    obtain ⟨x41, h42, hf⟩ := bsome hf
    have h := h.mem (h.m.nilrow 5 1)
    have h := h.pick [1, 0, 3, 2] (by decide) rfl
    have hX := field_Writer_Number_ok Fu (S0 := S0) (0, []) g40 none 0 [] (show r64 0 from ⟨by decide, by decide⟩) (show reps ty8 S0 [] [] from rfl) a0.2.1 hr28 1 (show r64 1 from ⟨by decide, by decide⟩) _ h42 _ (h.sub (Ls := [.box g40 114 ([.int .i64 0, .slice none ([]).length 0]), .row (.slice none ([]).length 0) 5 1 ([]).length []]))
    refine q_callY (Ls := [.box g40 114 ([.int .i64 0, .slice none ([]).length 0]), .row (.slice none ([]).length 0) 5 1 ([]).length []]) hX h (Up.refl _ _ _) rfl rfl rfl (by decide) Try.func62 rfl rfl rfl (fun a w v L1 S45 hR le47 up46 h => ?_)
    obtain ⟨A49, c50, cs51, rfl, rfl, hr48, hq52, _⟩ := hR
    refine l_end ?_
    refine wp_seq ?_
    refine c_rs ?_ -- region 5
    refine s_x h rfl rfl (by decide) (x_faddr h.k rfl Try.underlying77 rfl sz_int rfl) (fun a h => ?_)
    refine s_x h rfl rfl (by decide) (x_ld h.k rfl Try.underlying3 rfl rfl ((h.m.cell (i := 3) rfl 7).trans rfl)) (fun a h => ?_)
    refine s_x h rfl rfl (by decide) (x_bin h.k rfl rfl rfl ib_neq) (fun a h => ?_)
    refine l_end ?_
    refine c_cond h rfl (fun hb => ?_) (fun hb => ?_)
    · rw [if_pos (of_decide_eq_true hb)] at hf
      refine c_rs ?_ -- region 6
      refine s_x h rfl rfl (by decide) (x_faddr h.k rfl Try.underlying77 rfl sz_int rfl) (fun a h => ?_)
      refine s_x h rfl rfl (by decide) (x_ld h.k rfl Try.underlying3 rfl rfl ((h.m.cell (i := 3) rfl 8).trans rfl)) (fun a h => ?_)
      obtain ⟨x53, h54, hf⟩ := bsome hf
      have hX := field_Writer_Number_ok Fu (S0 := S45) x41 g40 A49 c50 cs51 hr48 hq52 a0.2.2.1 hr31 8 (show r64 8 from ⟨by decide, by decide⟩) _ h54 _ (h.sub (Ls := [.box g40 114 ([.int .i64 x41.1, .slice A49 x41.2.length c50]), .row (.slice A49 x41.2.length c50) 5 1 x41.2.length cs51]))
      refine q_callY (Ls := [.box g40 114 ([.int .i64 x41.1, .slice A49 x41.2.length c50]), .row (.slice A49 x41.2.length c50) 5 1 x41.2.length cs51]) hX h up46 rfl rfl rfl (by decide) Try.func62 rfl rfl rfl (fun a w v L1 S56 hR le58 up57 h => ?_)
      obtain ⟨A60, c61, cs62, rfl, rfl, hr59, hq63, _⟩ := hR
      refine l_end ?_
      refine c_rs ?_ -- region 7
      refine s_x h rfl rfl (by decide) (x_faddr h.k rfl Try.underlying77 rfl sz_Suint8 rfl) (fun a h => ?_)
      refine s_x h rfl rfl (by decide) (x_ld h.k rfl Try.underlying22 rfl rfl ((h.m.cell (i := 3) rfl 9).trans rfl)) (fun a h => ?_)
      obtain ⟨x64, h65, hf⟩ := bsome hf
      have hX := field_Writer_Bytes_ok Fu (S0 := S56) x53 g40 A60 c61 cs62 hr59 hq63 A32 c33 a0.2.2.2 (hs34.mono (le47.trans le58)) _ h65 _ (h.sub (Ls := [.box g40 114 ([.int .i64 x53.1, .slice A60 x53.2.length c61]), .row (.slice A60 x53.2.length c61) 5 1 x53.2.length cs62]))
      refine q_callY (Ls := [.box g40 114 ([.int .i64 x53.1, .slice A60 x53.2.length c61]), .row (.slice A60 x53.2.length c61) 5 1 x53.2.length cs62]) hX h up57 rfl rfl rfl (by decide) Try.func63 rfl rfl rfl (fun a w v L1 S67 hR le69 up68 h => ?_)
      obtain ⟨A71, c72, cs73, rfl, rfl, hr70, hq74, _⟩ := hR
      refine l_end ?_
      refine c_rs ?_ -- region 8
      obtain ⟨x75, h76, hf⟩ := bsome hf
      have hX := field_Writer_Out_ok Fu (S0 := snapAll _) g40 x64 ⟨[.int .i64 x64.1, .slice A71 x64.2.length c72], h.m.boxAll (i := 0) rfl, ⟨[.int .i64 x64.1], [.slice A71 x64.2.length c72], rfl, ⟨rfl, hr70⟩, ⟨_, _, rfl, h.m.rowAll (i := 1) rfl (j := 2) rfl hq74⟩⟩⟩ _ h76 _ h.startAll
      refine q_callX hX h rfl rfl rfl (by decide) Try.func64 rfl rfl rfl (fun a w v L1 S1 hR hb1 h => ?_)
      obtain ⟨A78, c79, cs80, rfl, rfl, hq81, hr82, _⟩ := hR
      have hq83 := hq81.fl (S' := S67) fl_8
      refine s_x h rfl rfl (by decide) (x_ext h.k rfl rfl rfl) (fun a h => ?_)
      refine s_x h rfl rfl (by decide) (x_ext h.k rfl rfl rfl) (fun a h => ?_)
      refine s_assign h rfl _ rfl rfl (by decide) rfl (fun a h => ?_)
      refine s_assign h rfl _ rfl rfl (by decide) rfl (fun a h => ?_)
      refine l_end ?_
      refine wp_ret ?_
      refine e_thenR ?_
      rw [← Option.some.inj hf]
      exact r_ret2 h rfl (rv_tmp h rfl) (rv_tmp h rfl) ⟨_, [.row (.slice A78 x75.1.length c79) 5 1 x75.1.length cs80], _, rfl, ⟨A78, c79, cs80, rfl, rfl, hq83, hr82, trivial⟩, rfl, up68, (h.m.pick [0, 3] _ (by decide) rfl)⟩
    · rw [if_neg (of_decide_eq_false hb)] at hf
      refine wp_skip ?_
      refine e_thenN ?_
      refine wp_seq ?_
      refine c_rs ?_ -- region 9
      refine s_x h rfl rfl (by decide) (x_faddr h.k rfl Try.underlying77 rfl sz_api_Op rfl) (fun a h => ?_)
      refine s_x h rfl rfl (by decide) (x_faddr h.k rfl Try.underlying24 rfl sz_int rfl) (fun a h => ?_)
      refine s_x h rfl rfl (by decide) (x_ld h.k rfl Try.underlying3 rfl rfl ((h.m.cell (i := 3) rfl 0).trans rfl)) (fun a h => ?_)
      refine s_x h rfl rfl (by decide) (x_faddr h.k rfl Try.underlying77 rfl sz_api_Op rfl) (fun a h => ?_)
      refine s_x h rfl rfl (by decide) (x_faddr h.k rfl Try.underlying24 rfl sz_int rfl) (fun a h => ?_)
      refine s_x h rfl rfl (by decide) (x_ld h.k rfl Try.underlying3 rfl rfl ((h.m.cell (i := 3) rfl 1).trans rfl)) (fun a h => ?_)
      refine s_x h rfl rfl (by decide) (x_faddr h.k rfl Try.underlying77 rfl sz_api_Op rfl) (fun a h => ?_)
      refine s_x h rfl rfl (by decide) (x_faddr h.k rfl Try.underlying24 rfl sz_int rfl) (fun a h => ?_)
      refine s_x h rfl rfl (by decide) (x_ld h.k rfl Try.underlying3 rfl rfl ((h.m.cell (i := 3) rfl 2).trans rfl)) (fun a h => ?_)
      refine s_x h rfl rfl (by decide) (x_faddr h.k rfl Try.underlying77 rfl sz_api_Op rfl) (fun a h => ?_)
      refine s_x h rfl rfl (by decide) (x_faddr h.k rfl Try.underlying24 rfl sz_int rfl) (fun a h => ?_)
      refine s_x h rfl rfl (by decide) (x_ld h.k rfl Try.underlying3 rfl rfl ((h.m.cell (i := 3) rfl 3).trans rfl)) (fun a h => ?_)
      refine s_x h rfl rfl (by decide) (x_faddr h.k rfl Try.underlying77 rfl sz_api_Op rfl) (fun a h => ?_)
      refine s_x h rfl rfl (by decide) (x_faddr h.k rfl Try.underlying24 rfl sz_int rfl) (fun a h => ?_)
      refine s_x h rfl rfl (by decide) (x_ld h.k rfl Try.underlying3 rfl rfl ((h.m.cell (i := 3) rfl 4).trans rfl)) (fun a h => ?_)
      have hq84 : reps tyI S45 [.int .i64 a0.1.1, .int .i64 a0.1.2.1, .int .i64 a0.1.2.2.1, .int .i64 a0.1.2.2.2.1, .int .i64 a0.1.2.2.2.2.1] [a0.1.1, a0.1.2.1, a0.1.2.2.1, a0.1.2.2.2.1, a0.1.2.2.2.2.1] := ⟨[.int .i64 a0.1.1], _, rfl, ⟨rfl, hr5⟩, ⟨[.int .i64 a0.1.2.1], _, rfl, ⟨rfl, hr8⟩, ⟨[.int .i64 a0.1.2.2.1], _, rfl, ⟨rfl, hr11⟩, ⟨[.int .i64 a0.1.2.2.2.1], _, rfl, ⟨rfl, hr14⟩, ⟨[.int .i64 a0.1.2.2.2.2.1], _, rfl, ⟨rfl, hr17⟩, rfl⟩⟩⟩⟩⟩
      refine s_x h rfl rfl (by decide) (x_build h.k rfl [(0, .int .i64 a0.1.1), (1, .int .i64 a0.1.2.1), (2, .int .i64 a0.1.2.2.1), (3, .int .i64 a0.1.2.2.2.1), (4, .int .i64 a0.1.2.2.2.2.1)] rfl [.int .i64 a0.1.1, .int .i64 a0.1.2.1, .int .i64 a0.1.2.2.1, .int .i64 a0.1.2.2.2.1, .int .i64 a0.1.2.2.2.2.1] (by kernel_rfl)) (fun a h => ?_)
      refine s_move h rfl _ rfl rfl (by decide) rfl (fun a h => ?_)
      refine l_end ?_
      obtain ⟨o85, hl86, hf⟩ := bsome hf
      refine c_fin (fun a w => ∃ (S98 : Snap), ∃ (x101 : Int × (List UInt8)), ∃ (A103 : Option Addr), ∃ (c104 : Nat), ∃ (cs105 : List Value), x101 = o85 ∧ Snap.le S45 S98 ∧ Up (ownL ([] ++ [.sn S0])) w0 S0 S98 ∧ r64 x101.1 ∧ reps ty8 S98 cs105 x101.2 ∧ St 61 w0 (ownL ([] ++ [.sn S0])) [(2, .pointer (some ⟨g35, 0, none⟩)), (6, .pointer (some ⟨g40, 0, none⟩))] [.box g35 77 ([.int .i64 a0.1.1, .int .i64 a0.1.2.1, .int .i64 a0.1.2.2.1, .int .i64 a0.1.2.2.2.1, .int .i64 a0.1.2.2.2.2.1, .slice A20 a0.1.2.2.2.2.2.1.length c21, .slice A23 a0.1.2.2.2.2.2.2.length c24, .int .i64 a0.2.1, .int .i64 a0.2.2.1, .slice A32 a0.2.2.2.length c33]), .box g40 114 ([.int .i64 x101.1, .slice A103 x101.2.length c104]), .row (.slice A103 x101.2.length c104) 5 1 x101.2.length cs105, .sn S98] a w) ?_ ?_
      · refine wp_block ?_
        have h := h.pick [3, 0, 1, 2] (by decide) rfl
        refine c_loop (fun m108 a w => ∃ (S87 : Snap), ∃ (x90 : Int), ∃ (x92 : Int × (List UInt8)), ∃ (A94 : Option Addr), ∃ (c95 : Nat), ∃ (cs96 : List Value), script_Put_l0 Fu a0 m108 x90 x92 = some o85 ∧ Snap.le S45 S87 ∧ Up (ownL ([] ++ [.sn S0])) w0 S0 S87 ∧ r64 x90 ∧ r64 x92.1 ∧ reps ty8 S87 cs96 x92.2 ∧ St 61 w0 (ownL ([] ++ [.sn S0])) [(2, .pointer (some ⟨g35, 0, none⟩)), (6, .pointer (some ⟨g40, 0, none⟩)), (43, .agg ([.int .i64 a0.1.1, .int .i64 a0.1.2.1, .int .i64 a0.1.2.2.1, .int .i64 a0.1.2.2.2.1, .int .i64 a0.1.2.2.2.2.1]).toArray), (44, .int .i64 x90)] [.box g35 77 ([.int .i64 a0.1.1, .int .i64 a0.1.2.1, .int .i64 a0.1.2.2.1, .int .i64 a0.1.2.2.2.1, .int .i64 a0.1.2.2.2.2.1, .slice A20 a0.1.2.2.2.2.2.1.length c21, .slice A23 a0.1.2.2.2.2.2.2.length c24, .int .i64 a0.2.1, .int .i64 a0.2.2.1, .slice A32 a0.2.2.2.length c33]), .box g40 114 ([.int .i64 x92.1, .slice A94 x92.2.length c95]), .row (.slice A94 x92.2.length c95) 5 1 x92.2.length cs96, .sn S87] a w) Fu ⟨S45, 0, x41, A49, c50, cs51, hl86, (Snap.le.refl _), up46, (show r64 0 from ⟨by decide, by decide⟩), hr48, hq52, h.has (by exact ⟨rfl, rfl, rfl, rfl, trivial⟩)⟩ (fun m108 a w hI => ?_)
        obtain ⟨S87, x90, x92, A94, c95, cs96, hl107, le88, up89, hr91, hr93, hq97, h⟩ := hI
        obtain _ | m108 := m108
        · rw [script_Put_l0] at hl107; cases hl107
        rw [script_Put_l0] at hl107
        refine c_rs ?_ -- region 10
        refine s_x h rfl rfl (by decide) (x_bin h.k rfl rfl rfl ib_lss) (fun a h => ?_)
        refine l_end ?_
        refine c_cs h rfl (fun hb => ?_) (fun hb => ?_)
        · rw [if_pos (of_decide_eq_true hb)] at hl107
          refine wp_skip ?_
          refine e_thenN ?_
          refine wp_seq ?_
          refine wp_block ?_
          refine c_rs ?_ -- region 11
          obtain ⟨x110, h111, hl107⟩ := bsome hl107
          obtain ⟨m109, hi112, hm113, hx114⟩ := idx_some h111
          obtain ⟨u115, hv116, hu117⟩ := ((hq84.mono le88)).cell rfl hx114
          obtain ⟨e119, hr118⟩ := hu117
          cases e119
          refine s_x h rfl rfl (by decide) (x_index h.k rfl Try.underlying222 Try.underlying3 rfl sz_int rfl rfl hi112 (Nat.lt_of_lt_of_eq hm113 rfl) (by simpa using hv116)) (fun a h => ?_)
          refine s_assign h rfl _ rfl rfl (by decide) rfl (fun a h => ?_)
          refine l_end ?_
          refine c_r ?_ -- region 12
          refine s_move h rfl _ rfl rfl (by decide) rfl (fun a h => ?_)
          obtain ⟨x120, h121, hl107⟩ := bsome hl107
          have h := h.pick [1, 2, 3, 0] (by decide) rfl
          have hX := field_Writer_Number_ok Fu (S0 := S87) x92 g40 A94 c95 cs96 hr93 hq97 x110 hr118 8 (show r64 8 from ⟨by decide, by decide⟩) _ h121 _ (h.sub (Ls := [.box g40 114 ([.int .i64 x92.1, .slice A94 x92.2.length c95]), .row (.slice A94 x92.2.length c95) 5 1 x92.2.length cs96]))
          refine q_callY (Ls := [.box g40 114 ([.int .i64 x92.1, .slice A94 x92.2.length c95]), .row (.slice A94 x92.2.length c95) 5 1 x92.2.length cs96]) hX h up89 rfl rfl rfl (by decide) Try.func62 rfl rfl rfl (fun a w v L1 S123 hR le125 up124 h => ?_)
          obtain ⟨A127, c128, cs129, rfl, rfl, hr126, hq130, _⟩ := hR
          refine l_nil ?_
          refine e_blkN ?_
          refine e_thenN ?_
          refine c_r ?_ -- region 13
          refine s_x h rfl rfl (by decide) (x_bin h.k rfl rfl rfl (ib_add rfl)) (fun a h => ?_)
          refine s_move h rfl _ rfl rfl (by decide) rfl (fun a h => ?_)
          refine l_nil ?_
          have h := h.pick [3, 0, 1, 2] (by decide) rfl
          exact e_thenN ⟨m108, Nat.lt_succ_self _, S123, w64 (x90 + 1), x120, A127, c128, cs129, hl107, (le88.trans le125), up124, (w64_r _), hr126, hq130, h.has (by exact ⟨rfl, rfl, rfl, rfl, trivial⟩)⟩
        · rw [if_neg (of_decide_eq_false hb)] at hl107
          refine wp_exit ?_
          refine e_thenX ?_
          refine e_thenX ?_
          refine e_blkX ?_
          refine e_thenN ?_
          exact ⟨S87, x92, A94, c95, cs96, (Option.some.inj hl107), le88, up89, hr93, hq97, h.has (by exact ⟨rfl, rfl, trivial⟩)⟩
      · rintro a w ⟨S98, x101, A103, c104, cs105, rfl, le99, up100, hr102, hq106, h⟩
        refine e_thenN ?_
        refine c_rs ?_ -- region 14
        refine s_x h rfl rfl (by decide) (x_faddr h.k rfl Try.underlying77 rfl sz_api_Op rfl) (fun a h => ?_)
        refine s_x h rfl rfl (by decide) (x_faddr h.k rfl Try.underlying24 rfl sz_Suint8 rfl) (fun a h => ?_)
        refine s_x h rfl rfl (by decide) (x_ld h.k rfl Try.underlying22 rfl rfl ((h.m.cell (i := 0) rfl 5).trans rfl)) (fun a h => ?_)
        obtain ⟨x131, h132, hf⟩ := bsome hf
        have h := h.pick [1, 2, 3, 0] (by decide) rfl
        have hX := field_Writer_Bytes_ok Fu (S0 := S98) x101 g40 A103 c104 cs105 hr102 hq106 A20 c21 a0.1.2.2.2.2.2.1 (hs22.mono (le47.trans le99)) _ h132 _ (h.sub (Ls := [.box g40 114 ([.int .i64 x101.1, .slice A103 x101.2.length c104]), .row (.slice A103 x101.2.length c104) 5 1 x101.2.length cs105]))
        refine q_callY (Ls := [.box g40 114 ([.int .i64 x101.1, .slice A103 x101.2.length c104]), .row (.slice A103 x101.2.length c104) 5 1 x101.2.length cs105]) hX h up100 rfl rfl rfl (by decide) Try.func63 rfl rfl rfl (fun a w v L1 S134 hR le136 up135 h => ?_)
        obtain ⟨A138, c139, cs140, rfl, rfl, hr137, hq141, _⟩ := hR
        refine l_end ?_
        refine c_rs ?_ -- region 15
        refine s_x h rfl rfl (by decide) (x_faddr h.k rfl Try.underlying77 rfl sz_api_Op rfl) (fun a h => ?_)
        refine s_x h rfl rfl (by decide) (x_faddr h.k rfl Try.underlying24 rfl sz_Suint8 rfl) (fun a h => ?_)
        refine s_x h rfl rfl (by decide) (x_ld h.k rfl Try.underlying22 rfl rfl ((h.m.cell (i := 3) rfl 6).trans rfl)) (fun a h => ?_)
        obtain ⟨x142, h143, hf⟩ := bsome hf
        have hX := field_Writer_Bytes_ok Fu (S0 := S134) x131 g40 A138 c139 cs140 hr137 hq141 A23 c24 a0.1.2.2.2.2.2.2 (hs25.mono ((le47.trans le99).trans le136)) _ h143 _ (h.sub (Ls := [.box g40 114 ([.int .i64 x131.1, .slice A138 x131.2.length c139]), .row (.slice A138 x131.2.length c139) 5 1 x131.2.length cs140]))
        refine q_callY (Ls := [.box g40 114 ([.int .i64 x131.1, .slice A138 x131.2.length c139]), .row (.slice A138 x131.2.length c139) 5 1 x131.2.length cs140]) hX h up135 rfl rfl rfl (by decide) Try.func63 rfl rfl rfl (fun a w v L1 S145 hR le147 up146 h => ?_)
        obtain ⟨A149, c150, cs151, rfl, rfl, hr148, hq152, _⟩ := hR
        refine l_end ?_
        refine c_rs ?_ -- region 16
        obtain ⟨x153, h154, hf⟩ := bsome hf
        have hX := field_Writer_Out_ok Fu (S0 := snapAll _) g40 x142 ⟨[.int .i64 x142.1, .slice A149 x142.2.length c150], h.m.boxAll (i := 0) rfl, ⟨[.int .i64 x142.1], [.slice A149 x142.2.length c150], rfl, ⟨rfl, hr148⟩, ⟨_, _, rfl, h.m.rowAll (i := 1) rfl (j := 2) rfl hq152⟩⟩⟩ _ h154 _ h.startAll
        refine q_callX hX h rfl rfl rfl (by decide) Try.func64 rfl rfl rfl (fun a w v L1 S1 hR hb1 h => ?_)
        obtain ⟨A156, c157, cs158, rfl, rfl, hq159, hr160, _⟩ := hR
        have hq161 := hq159.fl (S' := S145) fl_8
        refine s_x h rfl rfl (by decide) (x_ext h.k rfl rfl rfl) (fun a h => ?_)
        refine s_x h rfl rfl (by decide) (x_ext h.k rfl rfl rfl) (fun a h => ?_)
        refine s_assign h rfl _ rfl rfl (by decide) rfl (fun a h => ?_)
        refine s_assign h rfl _ rfl rfl (by decide) rfl (fun a h => ?_)
        refine l_end ?_
        refine wp_ret ?_
        rw [← Option.some.inj hf]
        exact r_ret2 h rfl (rv_tmp h rfl) (rv_tmp h rfl) ⟨_, [.row (.slice A156 x153.1.length c157) 5 1 x153.1.length cs158], _, rfl, ⟨A156, c157, cs158, rfl, rfl, hq161, hr160, trivial⟩, rfl, up146, (h.m.pick [0, 3] _ (by decide) rfl)⟩
def script_Take (Fu : Nat) (a0 : List UInt8) (a1 : Int) : Option (((Int × Int × Int × Int × Int × (List UInt8) × (List UInt8)) × Int × Int × (List UInt8)) × Int) :=
  (field_Read Fu a0).bind fun x2 => (field_Reader_Number Fu x2 1 5).bind fun x13 => (if x13.1 ≠ 0 then ((field_Reader_Number Fu x13.2 8 1099511627776).bind fun x61 => (field_Reader_Bytes Fu x61.2 512).bind fun x72 => some (x72.2, 0, 0, 0, 0, 0, [], [], x13.1, x61.1, x72.1)) else ((field_Reader_Number Fu x13.2 8 1099511627776).bind fun x90 => (field_Reader_Number Fu x90.2 8 1099511627776).bind fun x101 => (field_Reader_Number Fu x101.2 8 1099511627776).bind fun x112 => (field_Reader_Number Fu x112.2 8 1099511627776).bind fun x123 => (field_Reader_Number Fu x123.2 8 1099511627776).bind fun x134 => (field_Reader_Bytes Fu x134.2 512).bind fun x145 => (field_Reader_Bytes Fu x145.2 512).bind fun x163 => some (x163.2, x90.1, x101.1, x112.1, x123.1, x134.1, x145.1, x163.1, x13.1, 0, []))).bind fun (x30, x35, x37, x39, x41, x43, x45, x49, x53, x55, x57) => (field_Reader_Done Fu x30).bind fun x181 => ((if x181 = 0 then (script_Right Fu ((x35, x37, x39, x41, x43, x45, x49), x53, x55, x57) a1).bind fun x192 => some (!x192) else some false).bind fun z190 => if z190 = true then (some 2) else (some x181)).bind fun x187 => if x187 ≠ 0 then (some (((0, 0, 0, 0, 0, [], []), 0, 0, []), x187)) else (some (((x35, x37, x39, x41, x43, x45, x49), x53, x55, x57), 0))
set_option maxRecDepth 100000 in
set_option maxHeartbeats 2000000 in
theorem script_Take_ok (Fu : Nat) {S0 : Snap} (Aa0 : Option Addr) (ca0 : Nat) (a0 : List UInt8) (hsa0 : slS ty8 S0 Aa0 ca0 a0) (a1 : Int) (hra1 : r64 a1) (r : ((Int × Int × Int × Int × Int × (List UInt8) × (List UInt8)) × Int × Int × (List UInt8)) × Int) (hf : script_Take Fu a0 a1 = some r) (w0 : World) (hm : Mem w0 (ownL ([] ++ [.sn S0])) ([] ++ [.sn S0]) w0) :
    Calls Try.prog 45 #[.slice Aa0 a0.length ca0, .int .i64 a1] w0 (Ret w0 S0 [] (fun v L1 S1 => ∃ (k197 : List Value), v = .tuple #[.agg k197.toArray, .int .i64 r.2] ∧ L1 = [] ∧ (tyP (tyP tyI (tyP tyI (tyP tyI (tyP tyI (tyP tyI (tyP (tyL ty8) (tyL ty8))))))) (tyP tyI (tyP tyI (tyL ty8)))).rep S1 k197 r.1 ∧ r64 r.2 ∧ True)) := by
  unfold script_Take at hf
  refine c_enterM Try.func45 rfl 67 rfl (by simp) _ hm _ rfl (fun a h => ?_)
  refine c_rs ?_ -- region 0
  refine s_alloc h rfl rfl rfl (by decide) zi_api_Event rfl (fun a w g1 h => ?_)
  refine s_assign h rfl _ rfl rfl (by decide) rfl (fun a h => ?_)
  refine l_end ?_
  refine c_rs ?_ -- region 1
  refine s_move h rfl _ rfl rfl (by decide) rfl (fun a h => ?_)
  obtain ⟨x2, h3, hf⟩ := bsome hf
  have h := h.pick [1, 0] (by decide) rfl
  have hX := field_Read_ok Fu (S0 := S0) Aa0 ca0 a0 hsa0 _ h3 _ (h.sub (Ls := []))
  refine q_callY (Ls := []) hX h (Up.refl _ _ _) rfl rfl rfl (by decide) Try.func74 rfl rfl rfl (fun a w v L1 S5 hR le7 up6 h => ?_)
  obtain ⟨g8, A10, c11, rfl, rfl, hr9, hs12, _⟩ := hR
  refine s_assign h rfl _ rfl rfl (by decide) rfl (fun a h => ?_)
  refine l_end ?_
  refine c_rs ?_ -- region 2
  refine s_move h rfl _ rfl rfl (by decide) rfl (fun a h => ?_)
  obtain ⟨x13, h14, hf⟩ := bsome hf
  have hX := field_Reader_Number_ok Fu (S0 := S5) x2 g8 A10 c11 hr9 hs12 1 (show r64 1 from ⟨by decide, by decide⟩) 5 (show r64 5 from ⟨by decide, by decide⟩) _ h14 _ (h.sub (Ls := [.box g8 179 ([.int .i64 x2.1, .slice A10 x2.2.1.length c11, .bool x2.2.2])]))
  refine q_callY (Ls := [.box g8 179 ([.int .i64 x2.1, .slice A10 x2.2.1.length c11, .bool x2.2.2])]) hX h up6 rfl rfl rfl (by decide) Try.func75 rfl rfl rfl (fun a w v L1 S16 hR le18 up17 h => ?_)
  obtain ⟨A21, c22, rfl, rfl, hr19, hr20, hs23, _⟩ := hR
  refine s_x h rfl rfl (by decide) (x_build h.k rfl [(1, .int .i64 x13.1)] rfl ([.int .i64 0, .int .i64 0, .int .i64 0, .int .i64 0, .int .i64 0, .slice none 0 0, .slice none 0 0, .int .i64 x13.1, .int .i64 0, .slice none 0 0]) (by kernel_rfl)) (fun a h => ?_)
  refine s_alloc h rfl rfl rfl (by decide) zi_api_Event rfl (fun a w g24 h => ?_)
  refine s_stW h rfl rfl rfl ag_api_Event rfl (es := [.int .i64 0, .int .i64 0, .int .i64 0, .int .i64 0, .int .i64 0, .slice none 0 0, .slice none 0 0, .int .i64 x13.1, .int .i64 0, .slice none 0 0]) rfl rfl (by simp [Value.oneCell']) 0 rfl rfl (fun a w h => ?_)
  refine l_end ?_
  obtain ⟨o25, hc26, hf⟩ := bsome hf
  refine c_cut (fun a w => ∃ (S27 : Snap), ∃ (x30 : Int × (List UInt8) × Bool), ∃ (A32 : Option Addr), ∃ (c33 : Nat), ∃ (x35 : Int), ∃ (x37 : Int), ∃ (x39 : Int), ∃ (x41 : Int), ∃ (x43 : Int), ∃ (x45 : List UInt8), ∃ (A46 : Option Addr), ∃ (c47 : Nat), ∃ (x49 : List UInt8), ∃ (A50 : Option Addr), ∃ (c51 : Nat), ∃ (x53 : Int), ∃ (x55 : Int), ∃ (x57 : List UInt8), ∃ (A58 : Option Addr), ∃ (c59 : Nat), (x30, x35, x37, x39, x41, x43, x45, x49, x53, x55, x57) = o25 ∧ Snap.le S16 S27 ∧ Up (ownL ([] ++ [.sn S0])) w0 S0 S27 ∧ r64 x30.1 ∧ slS ty8 S27 A32 c33 x30.2.1 ∧ r64 x35 ∧ r64 x37 ∧ r64 x39 ∧ r64 x41 ∧ r64 x43 ∧ slS ty8 S27 A46 c47 x45 ∧ slS ty8 S27 A50 c51 x49 ∧ r64 x53 ∧ r64 x55 ∧ slS ty8 S27 A58 c59 x57 ∧ St 67 w0 (ownL ([] ++ [.sn S0])) [(1, .int .i64 a1), (4, .pointer (some ⟨g1, 0, none⟩)), (6, .pointer (some ⟨g8, 0, none⟩)), (7, .pointer (some ⟨g24, 0, none⟩))] [.box g1 77 ([.int .i64 0, .int .i64 0, .int .i64 0, .int .i64 0, .int .i64 0, .slice none 0 0, .slice none 0 0, .int .i64 0, .int .i64 0, .slice none 0 0]), .box g8 179 ([.int .i64 x30.1, .slice A32 x30.2.1.length c33, .bool x30.2.2]), .box g24 77 ([.int .i64 x35, .int .i64 x37, .int .i64 x39, .int .i64 x41, .int .i64 x43, .slice A46 x45.length c47, .slice A50 x49.length c51, .int .i64 x53, .int .i64 x55, .slice A58 x57.length c59]), .sn S27] a w) ?_ ?_
  · refine c_rs ?_ -- region 3
    refine s_x h rfl rfl (by decide) (x_faddr h.k rfl Try.underlying77 rfl sz_int rfl) (fun a h => ?_)
    refine s_x h rfl rfl (by decide) (x_ld h.k rfl Try.underlying3 rfl rfl ((h.m.cell (i := 0) rfl 7).trans rfl)) (fun a h => ?_)
    refine s_x h rfl rfl (by decide) (x_bin h.k rfl rfl rfl ib_neq) (fun a h => ?_)
    refine l_end ?_
    refine c_cond h rfl (fun hb => ?_) (fun hb => ?_)
    · rw [if_pos (of_decide_eq_true hb)] at hc26
      refine c_rs ?_ -- region 4
      refine s_move h rfl _ rfl rfl (by decide) rfl (fun a h => ?_)
      obtain ⟨x61, h62, hc26⟩ := bsome hc26
      have h := h.pick [1, 2, 0, 3] (by decide) rfl
      have hX := field_Reader_Number_ok Fu (S0 := S16) x13.2 g8 A21 c22 hr20 hs23 8 (show r64 8 from ⟨by decide, by decide⟩) 1099511627776 (show r64 1099511627776 from ⟨by decide, by decide⟩) _ h62 _ (h.sub (Ls := [.box g8 179 ([.int .i64 x13.2.1, .slice A21 x13.2.2.1.length c22, .bool x13.2.2.2])]))
      refine q_callY (Ls := [.box g8 179 ([.int .i64 x13.2.1, .slice A21 x13.2.2.1.length c22, .bool x13.2.2.2])]) hX h up17 rfl rfl rfl (by decide) Try.func75 rfl rfl rfl (fun a w v L1 S64 hR le66 up65 h => ?_)
      obtain ⟨A69, c70, rfl, rfl, hr67, hr68, hs71, _⟩ := hR
      refine s_x h rfl rfl (by decide) (x_faddr h.k rfl Try.underlying77 rfl sz_int rfl) (fun a h => ?_)
      refine s_stb h rfl rfl rfl sz_int rfl rfl rfl 2 rfl (by first | decide | simp) (fun a w h => ?_)
      refine l_end ?_
      refine c_r ?_ -- region 5
      refine s_move h rfl _ rfl rfl (by decide) rfl (fun a h => ?_)
      obtain ⟨x72, h73, hc26⟩ := bsome hc26
      have hX := field_Reader_Bytes_ok Fu (S0 := S64) x61.2 g8 A69 c70 hr68 hs71 512 (show r64 512 from ⟨by decide, by decide⟩) _ h73 _ (h.sub (Ls := [.box g8 179 ([.int .i64 x61.2.1, .slice A69 x61.2.2.1.length c70, .bool x61.2.2.2])]))
      refine q_callY (Ls := [.box g8 179 ([.int .i64 x61.2.1, .slice A69 x61.2.2.1.length c70, .bool x61.2.2.2])]) hX h up65 rfl rfl rfl (by decide) Try.func76 rfl rfl rfl (fun a w v L1 S75 hR le77 up76 h => ?_)
      obtain ⟨A78, c79, cs80, A83, c84, rfl, rfl, hq81, hr82, hs85, _⟩ := hR
      refine s_x h rfl rfl (by decide) (x_faddr h.k rfl Try.underlying77 rfl sz_Suint8 rfl) (fun a h => ?_)
      have h := h.pick [0, 2, 1, 3, 4] (by decide) rfl
      obtain ⟨S86, le87, up88, hs89, h⟩ := q_freeze (T := ty8) h up76 hq81
      refine s_stb h rfl rfl rfl sz_Suint8 rfl rfl rfl 2 rfl (by first | decide | simp) (fun a w h => ?_)
      refine l_nil ?_
      refine e_thenN ?_
      have h := h.pick [3, 1, 2, 0] (by decide) rfl
      exact ⟨S86, x72.2, A83, c84, 0, 0, 0, 0, 0, [], none, 0, [], none, 0, x13.1, x61.1, x72.1, A78, c79, (Option.some.inj hc26), ((le66.trans le77).trans le87), up88, hr82, (hs85.mono le87), (show r64 0 from ⟨by decide, by decide⟩), (show r64 0 from ⟨by decide, by decide⟩), (show r64 0 from ⟨by decide, by decide⟩), (show r64 0 from ⟨by decide, by decide⟩), (show r64 0 from ⟨by decide, by decide⟩), (slS.nil ty8 _), (slS.nil ty8 _), hr19, hr67, hs89, h.has (by exact ⟨rfl, rfl, rfl, rfl, trivial⟩)⟩
    · rw [if_neg (of_decide_eq_false hb)] at hc26
      refine wp_seq ?_
      refine c_rs ?_ -- region 6
      refine s_x h rfl rfl (by decide) (x_faddr h.k rfl Try.underlying77 rfl sz_api_Op rfl) (fun a h => ?_)
      refine s_x h rfl rfl (by decide) (x_faddr h.k rfl Try.underlying24 rfl sz_int rfl) (fun a h => ?_)
      refine s_x h rfl rfl (by decide) (x_faddr h.k rfl Try.underlying77 rfl sz_api_Op rfl) (fun a h => ?_)
      refine s_x h rfl rfl (by decide) (x_faddr h.k rfl Try.underlying24 rfl sz_int rfl) (fun a h => ?_)
      refine s_x h rfl rfl (by decide) (x_faddr h.k rfl Try.underlying77 rfl sz_api_Op rfl) (fun a h => ?_)
      refine s_x h rfl rfl (by decide) (x_faddr h.k rfl Try.underlying24 rfl sz_int rfl) (fun a h => ?_)
      refine s_x h rfl rfl (by decide) (x_faddr h.k rfl Try.underlying77 rfl sz_api_Op rfl) (fun a h => ?_)
      refine s_x h rfl rfl (by decide) (x_faddr h.k rfl Try.underlying24 rfl sz_int rfl) (fun a h => ?_)
      refine s_x h rfl rfl (by decide) (x_faddr h.k rfl Try.underlying77 rfl sz_api_Op rfl) (fun a h => ?_)
      refine s_x h rfl rfl (by decide) (x_faddr h.k rfl Try.underlying24 rfl sz_int rfl) (fun a h => ?_)
      refine s_x h rfl rfl (by decide) (x_build h.k rfl [(0, .pointer (some ⟨g24, 0, none⟩)), (1, .pointer (some ⟨g24, 1, none⟩)), (2, .pointer (some ⟨g24, 2, none⟩)), (3, .pointer (some ⟨g24, 3, none⟩)), (4, .pointer (some ⟨g24, 4, none⟩))] rfl [.pointer (some ⟨g24, 0, none⟩), .pointer (some ⟨g24, 1, none⟩), .pointer (some ⟨g24, 2, none⟩), .pointer (some ⟨g24, 3, none⟩), .pointer (some ⟨g24, 4, none⟩)] (by kernel_rfl)) (fun a h => ?_)
      refine s_move h rfl _ rfl rfl (by decide) rfl (fun a h => ?_)
      refine l_end ?_
      refine wp_block ?_
      refine wp_loop_rounds 300 (c_rounds ?_)
      refine c_rs ?_ -- region 7
      refine s_x h rfl rfl (by decide) (x_bin (v := .bool true) h.k rfl rfl rfl ib_lss) (fun a h => ?_)
      refine l_end ?_
      refine c_cs h rfl (fun hb => ?_) (fun hb => ?_)
      · refine wp_skip ?_
        refine e_thenN ?_
        refine wp_seq ?_
        refine wp_block ?_
        refine c_rs ?_ -- region 8
        refine s_x h rfl rfl (by decide) (x_index (m := 0) h.k rfl Try.underlying154 Try.underlying153 rfl sz_Pint rfl rfl rfl (by decide) rfl) (fun a h => ?_)
        refine s_assign h rfl _ rfl rfl (by decide) rfl (fun a h => ?_)
        refine l_end ?_
        refine c_r ?_ -- region 9
        refine s_move h rfl _ rfl rfl (by decide) rfl (fun a h => ?_)
        refine s_move h rfl _ rfl rfl (by decide) rfl (fun a h => ?_)
        obtain ⟨x90, h91, hc26⟩ := bsome hc26
        have h := h.pick [1, 2, 0, 3] (by decide) rfl
        have hX := field_Reader_Number_ok Fu (S0 := S16) x13.2 g8 A21 c22 hr20 hs23 8 (show r64 8 from ⟨by decide, by decide⟩) 1099511627776 (show r64 1099511627776 from ⟨by decide, by decide⟩) _ h91 _ (h.sub (Ls := [.box g8 179 ([.int .i64 x13.2.1, .slice A21 x13.2.2.1.length c22, .bool x13.2.2.2])]))
        refine q_callY (Ls := [.box g8 179 ([.int .i64 x13.2.1, .slice A21 x13.2.2.1.length c22, .bool x13.2.2.2])]) hX h up17 rfl rfl rfl (by decide) Try.func75 rfl rfl rfl (fun a w v L1 S93 hR le95 up94 h => ?_)
        obtain ⟨A98, c99, rfl, rfl, hr96, hr97, hs100, _⟩ := hR
        refine s_x h rfl rfl (by decide) (x_nil h.k rfl rfl) (fun a h => ?_)
        refine s_stb h rfl rfl rfl sz_int rfl rfl rfl 2 rfl (by first | decide | simp) (fun a w h => ?_)
        refine l_nil ?_
        refine e_blkN ?_
        refine e_thenN ?_
        refine c_r ?_ -- region 10
        refine s_x h rfl rfl (by decide) (x_bin h.k rfl rfl rfl (ib_add (r := 1) (by decide))) (fun a h => ?_)
        refine s_move h rfl _ rfl rfl (by decide) rfl (fun a h => ?_)
        refine l_nil ?_
        refine e_thenN (c_rounds ?_)
        refine c_rs ?_ -- region 7
        refine s_x h rfl rfl (by decide) (x_bin (v := .bool true) h.k rfl rfl rfl ib_lss) (fun a h => ?_)
        refine l_end ?_
        refine c_cs h rfl (fun hb => ?_) (fun hb => ?_)
        · refine wp_skip ?_
          refine e_thenN ?_
          refine wp_seq ?_
          refine wp_block ?_
          refine c_rs ?_ -- region 8
          refine s_x h rfl rfl (by decide) (x_index (m := 1) h.k rfl Try.underlying154 Try.underlying153 rfl sz_Pint rfl rfl rfl (by decide) rfl) (fun a h => ?_)
          refine s_assign h rfl _ rfl rfl (by decide) rfl (fun a h => ?_)
          refine l_end ?_
          refine c_r ?_ -- region 9
          refine s_move h rfl _ rfl rfl (by decide) rfl (fun a h => ?_)
          refine s_move h rfl _ rfl rfl (by decide) rfl (fun a h => ?_)
          obtain ⟨x101, h102, hc26⟩ := bsome hc26
          have hX := field_Reader_Number_ok Fu (S0 := S93) x90.2 g8 A98 c99 hr97 hs100 8 (show r64 8 from ⟨by decide, by decide⟩) 1099511627776 (show r64 1099511627776 from ⟨by decide, by decide⟩) _ h102 _ (h.sub (Ls := [.box g8 179 ([.int .i64 x90.2.1, .slice A98 x90.2.2.1.length c99, .bool x90.2.2.2])]))
          refine q_callY (Ls := [.box g8 179 ([.int .i64 x90.2.1, .slice A98 x90.2.2.1.length c99, .bool x90.2.2.2])]) hX h up94 rfl rfl rfl (by decide) Try.func75 rfl rfl rfl (fun a w v L1 S104 hR le106 up105 h => ?_)
          obtain ⟨A109, c110, rfl, rfl, hr107, hr108, hs111, _⟩ := hR
          refine s_x h rfl rfl (by decide) (x_nil h.k rfl rfl) (fun a h => ?_)
          refine s_stb h rfl rfl rfl sz_int rfl rfl rfl 2 rfl (by first | decide | simp) (fun a w h => ?_)
          refine l_nil ?_
          refine e_blkN ?_
          refine e_thenN ?_
          refine c_r ?_ -- region 10
          refine s_x h rfl rfl (by decide) (x_bin h.k rfl rfl rfl (ib_add (r := 2) (by decide))) (fun a h => ?_)
          refine s_move h rfl _ rfl rfl (by decide) rfl (fun a h => ?_)
          refine l_nil ?_
          refine e_thenN (c_rounds ?_)
          refine c_rs ?_ -- region 7
          refine s_x h rfl rfl (by decide) (x_bin (v := .bool true) h.k rfl rfl rfl ib_lss) (fun a h => ?_)
          refine l_end ?_
          refine c_cs h rfl (fun hb => ?_) (fun hb => ?_)
          · refine wp_skip ?_
            refine e_thenN ?_
            refine wp_seq ?_
            refine wp_block ?_
            refine c_rs ?_ -- region 8
            refine s_x h rfl rfl (by decide) (x_index (m := 2) h.k rfl Try.underlying154 Try.underlying153 rfl sz_Pint rfl rfl rfl (by decide) rfl) (fun a h => ?_)
            refine s_assign h rfl _ rfl rfl (by decide) rfl (fun a h => ?_)
            refine l_end ?_
            refine c_r ?_ -- region 9
            refine s_move h rfl _ rfl rfl (by decide) rfl (fun a h => ?_)
            refine s_move h rfl _ rfl rfl (by decide) rfl (fun a h => ?_)
            obtain ⟨x112, h113, hc26⟩ := bsome hc26
            have hX := field_Reader_Number_ok Fu (S0 := S104) x101.2 g8 A109 c110 hr108 hs111 8 (show r64 8 from ⟨by decide, by decide⟩) 1099511627776 (show r64 1099511627776 from ⟨by decide, by decide⟩) _ h113 _ (h.sub (Ls := [.box g8 179 ([.int .i64 x101.2.1, .slice A109 x101.2.2.1.length c110, .bool x101.2.2.2])]))
            refine q_callY (Ls := [.box g8 179 ([.int .i64 x101.2.1, .slice A109 x101.2.2.1.length c110, .bool x101.2.2.2])]) hX h up105 rfl rfl rfl (by decide) Try.func75 rfl rfl rfl (fun a w v L1 S115 hR le117 up116 h => ?_)
            obtain ⟨A120, c121, rfl, rfl, hr118, hr119, hs122, _⟩ := hR
            refine s_x h rfl rfl (by decide) (x_nil h.k rfl rfl) (fun a h => ?_)
            refine s_stb h rfl rfl rfl sz_int rfl rfl rfl 2 rfl (by first | decide | simp) (fun a w h => ?_)
            refine l_nil ?_
            refine e_blkN ?_
            refine e_thenN ?_
            refine c_r ?_ -- region 10
            refine s_x h rfl rfl (by decide) (x_bin h.k rfl rfl rfl (ib_add (r := 3) (by decide))) (fun a h => ?_)
            refine s_move h rfl _ rfl rfl (by decide) rfl (fun a h => ?_)
            refine l_nil ?_
            refine e_thenN (c_rounds ?_)
            refine c_rs ?_ -- region 7
            refine s_x h rfl rfl (by decide) (x_bin (v := .bool true) h.k rfl rfl rfl ib_lss) (fun a h => ?_)
            refine l_end ?_
            refine c_cs h rfl (fun hb => ?_) (fun hb => ?_)
            · refine wp_skip ?_
              refine e_thenN ?_
              refine wp_seq ?_
              refine wp_block ?_
              refine c_rs ?_ -- region 8
              refine s_x h rfl rfl (by decide) (x_index (m := 3) h.k rfl Try.underlying154 Try.underlying153 rfl sz_Pint rfl rfl rfl (by decide) rfl) (fun a h => ?_)
              refine s_assign h rfl _ rfl rfl (by decide) rfl (fun a h => ?_)
              refine l_end ?_
              refine c_r ?_ -- region 9
              refine s_move h rfl _ rfl rfl (by decide) rfl (fun a h => ?_)
              refine s_move h rfl _ rfl rfl (by decide) rfl (fun a h => ?_)
              obtain ⟨x123, h124, hc26⟩ := bsome hc26
              have hX := field_Reader_Number_ok Fu (S0 := S115) x112.2 g8 A120 c121 hr119 hs122 8 (show r64 8 from ⟨by decide, by decide⟩) 1099511627776 (show r64 1099511627776 from ⟨by decide, by decide⟩) _ h124 _ (h.sub (Ls := [.box g8 179 ([.int .i64 x112.2.1, .slice A120 x112.2.2.1.length c121, .bool x112.2.2.2])]))
              refine q_callY (Ls := [.box g8 179 ([.int .i64 x112.2.1, .slice A120 x112.2.2.1.length c121, .bool x112.2.2.2])]) hX h up116 rfl rfl rfl (by decide) Try.func75 rfl rfl rfl (fun a w v L1 S126 hR le128 up127 h => ?_)
              obtain ⟨A131, c132, rfl, rfl, hr129, hr130, hs133, _⟩ := hR
              refine s_x h rfl rfl (by decide) (x_nil h.k rfl rfl) (fun a h => ?_)
              refine s_stb h rfl rfl rfl sz_int rfl rfl rfl 2 rfl (by first | decide | simp) (fun a w h => ?_)
              refine l_nil ?_
              refine e_blkN ?_
              refine e_thenN ?_
              refine c_r ?_ -- region 10
              refine s_x h rfl rfl (by decide) (x_bin h.k rfl rfl rfl (ib_add (r := 4) (by decide))) (fun a h => ?_)
              refine s_move h rfl _ rfl rfl (by decide) rfl (fun a h => ?_)
              refine l_nil ?_
              refine e_thenN (c_rounds ?_)
              refine c_rs ?_ -- region 7
              refine s_x h rfl rfl (by decide) (x_bin (v := .bool true) h.k rfl rfl rfl ib_lss) (fun a h => ?_)
              refine l_end ?_
              refine c_cs h rfl (fun hb => ?_) (fun hb => ?_)
              · refine wp_skip ?_
                refine e_thenN ?_
                refine wp_seq ?_
                refine wp_block ?_
                refine c_rs ?_ -- region 8
                refine s_x h rfl rfl (by decide) (x_index (m := 4) h.k rfl Try.underlying154 Try.underlying153 rfl sz_Pint rfl rfl rfl (by decide) rfl) (fun a h => ?_)
                refine s_assign h rfl _ rfl rfl (by decide) rfl (fun a h => ?_)
                refine l_end ?_
                refine c_r ?_ -- region 9
                refine s_move h rfl _ rfl rfl (by decide) rfl (fun a h => ?_)
                refine s_move h rfl _ rfl rfl (by decide) rfl (fun a h => ?_)
                obtain ⟨x134, h135, hc26⟩ := bsome hc26
                have hX := field_Reader_Number_ok Fu (S0 := S126) x123.2 g8 A131 c132 hr130 hs133 8 (show r64 8 from ⟨by decide, by decide⟩) 1099511627776 (show r64 1099511627776 from ⟨by decide, by decide⟩) _ h135 _ (h.sub (Ls := [.box g8 179 ([.int .i64 x123.2.1, .slice A131 x123.2.2.1.length c132, .bool x123.2.2.2])]))
                refine q_callY (Ls := [.box g8 179 ([.int .i64 x123.2.1, .slice A131 x123.2.2.1.length c132, .bool x123.2.2.2])]) hX h up127 rfl rfl rfl (by decide) Try.func75 rfl rfl rfl (fun a w v L1 S137 hR le139 up138 h => ?_)
                obtain ⟨A142, c143, rfl, rfl, hr140, hr141, hs144, _⟩ := hR
                refine s_x h rfl rfl (by decide) (x_nil h.k rfl rfl) (fun a h => ?_)
                refine s_stb h rfl rfl rfl sz_int rfl rfl rfl 2 rfl (by first | decide | simp) (fun a w h => ?_)
                refine l_nil ?_
                refine e_blkN ?_
                refine e_thenN ?_
                refine c_r ?_ -- region 10
                refine s_x h rfl rfl (by decide) (x_bin h.k rfl rfl rfl (ib_add (r := 5) (by decide))) (fun a h => ?_)
                refine s_move h rfl _ rfl rfl (by decide) rfl (fun a h => ?_)
                refine l_nil ?_
                refine e_thenN (c_rounds ?_)
                refine c_rs ?_ -- region 7
                refine s_x h rfl rfl (by decide) (x_bin (v := .bool false) h.k rfl rfl rfl ib_lss) (fun a h => ?_)
                refine l_end ?_
                refine c_cs h rfl (fun hb => ?_) (fun hb => ?_)
                · exact absurd hb (by decide)
                · refine wp_exit ?_
                  refine e_thenX ?_
                  refine e_thenX ?_
                  refine e_blkX ?_
                  refine e_thenN ?_
                  refine c_rs ?_ -- region 11
                  refine s_move h rfl _ rfl rfl (by decide) rfl (fun a h => ?_)
                  obtain ⟨x145, h146, hc26⟩ := bsome hc26
                  have hX := field_Reader_Bytes_ok Fu (S0 := S137) x134.2 g8 A142 c143 hr141 hs144 512 (show r64 512 from ⟨by decide, by decide⟩) _ h146 _ (h.sub (Ls := [.box g8 179 ([.int .i64 x134.2.1, .slice A142 x134.2.2.1.length c143, .bool x134.2.2.2])]))
                  refine q_callY (Ls := [.box g8 179 ([.int .i64 x134.2.1, .slice A142 x134.2.2.1.length c143, .bool x134.2.2.2])]) hX h up138 rfl rfl rfl (by decide) Try.func76 rfl rfl rfl (fun a w v L1 S148 hR le150 up149 h => ?_)
                  obtain ⟨A151, c152, cs153, A156, c157, rfl, rfl, hq154, hr155, hs158, _⟩ := hR
                  refine s_x h rfl rfl (by decide) (x_faddr h.k rfl Try.underlying77 rfl sz_api_Op rfl) (fun a h => ?_)
                  refine s_x h rfl rfl (by decide) (x_faddr h.k rfl Try.underlying24 rfl sz_Suint8 rfl) (fun a h => ?_)
                  have h := h.pick [0, 2, 1, 3, 4] (by decide) rfl
                  obtain ⟨S159, le160, up161, hs162, h⟩ := q_freeze (T := ty8) h up149 hq154
                  refine s_stb h rfl rfl rfl sz_Suint8 rfl rfl rfl 2 rfl (by first | decide | simp) (fun a w h => ?_)
                  refine l_end ?_
                  refine c_r ?_ -- region 12
                  refine s_move h rfl _ rfl rfl (by decide) rfl (fun a h => ?_)
                  obtain ⟨x163, h164, hc26⟩ := bsome hc26
                  have h := h.pick [1, 0, 2, 3] (by decide) rfl
                  have hX := field_Reader_Bytes_ok Fu (S0 := S159) x145.2 g8 A156 c157 hr155 (hs158.mono le160) 512 (show r64 512 from ⟨by decide, by decide⟩) _ h164 _ (h.sub (Ls := [.box g8 179 ([.int .i64 x145.2.1, .slice A156 x145.2.2.1.length c157, .bool x145.2.2.2])]))
                  refine q_callY (Ls := [.box g8 179 ([.int .i64 x145.2.1, .slice A156 x145.2.2.1.length c157, .bool x145.2.2.2])]) hX h up161 rfl rfl rfl (by decide) Try.func76 rfl rfl rfl (fun a w v L1 S166 hR le168 up167 h => ?_)
                  obtain ⟨A169, c170, cs171, A174, c175, rfl, rfl, hq172, hr173, hs176, _⟩ := hR
                  refine s_x h rfl rfl (by decide) (x_faddr h.k rfl Try.underlying77 rfl sz_api_Op rfl) (fun a h => ?_)
                  refine s_x h rfl rfl (by decide) (x_faddr h.k rfl Try.underlying24 rfl sz_Suint8 rfl) (fun a h => ?_)
                  have h := h.pick [0, 2, 1, 3, 4] (by decide) rfl
                  obtain ⟨S177, le178, up179, hs180, h⟩ := q_freeze (T := ty8) h up167 hq172
                  refine s_stb h rfl rfl rfl sz_Suint8 rfl rfl rfl 2 rfl (by first | decide | simp) (fun a w h => ?_)
                  refine l_nil ?_
                  refine e_thenN ?_
                  have h := h.pick [3, 1, 2, 0] (by decide) rfl
                  exact ⟨S177, x163.2, A174, c175, x90.1, x101.1, x112.1, x123.1, x134.1, x145.1, A151, c152, x163.1, A169, c170, x13.1, 0, [], none, 0, (Option.some.inj hc26), ((((((((le95.trans le106).trans le117).trans le128).trans le139).trans le150).trans le160).trans le168).trans le178), up179, hr173, (hs176.mono le178), hr96, hr107, hr118, hr129, hr140, (hs162.mono (le168.trans le178)), hs180, hr19, (show r64 0 from ⟨by decide, by decide⟩), (slS.nil ty8 _), h.has (by exact ⟨rfl, rfl, rfl, rfl, trivial⟩)⟩
              · exact absurd hb (by decide)
            · exact absurd hb (by decide)
          · exact absurd hb (by decide)
        · exact absurd hb (by decide)
      · exact absurd hb (by decide)
  · rintro a w ⟨S27, x30, A32, c33, x35, x37, x39, x41, x43, x45, A46, c47, x49, A50, c51, x53, x55, x57, A58, c59, rfl, le28, up29, hr31, hs34, hr36, hr38, hr40, hr42, hr44, hs48, hs52, hr54, hr56, hs60, h⟩
    try dsimp only at hf
    refine c_rs ?_ -- region 13
    refine s_move h rfl _ rfl rfl (by decide) rfl (fun a h => ?_)
    obtain ⟨x181, h182, hf⟩ := bsome hf
    have hX := field_Reader_Done_ok Fu (S0 := snapAll _) g8 x30 ⟨[.int .i64 x30.1, .slice A32 x30.2.1.length c33, .bool x30.2.2], h.m.boxAll (i := 1) rfl, ⟨[.int .i64 x30.1], [.slice A32 x30.2.1.length c33, .bool x30.2.2], rfl, ⟨rfl, hr31⟩, ⟨[.slice A32 x30.2.1.length c33], [.bool x30.2.2], rfl, ⟨_, _, rfl, (hs34).mono (h.m.leAll (i := 3) rfl)⟩, rfl⟩⟩⟩ _ h182 _ h.startAll
    refine q_callX hX h rfl rfl rfl (by decide) Try.func77 rfl rfl rfl (fun a w v L1 S1 hR hb1 h => ?_)
    obtain ⟨rfl, rfl, hr184, _⟩ := hR
    refine s_assign h rfl _ rfl rfl (by decide) rfl (fun a h => ?_)
    refine l_end ?_
    obtain ⟨o185, hc186, hf⟩ := bsome hf
    refine c_cut (fun a w => ∃ (x187 : Int), x187 = o185 ∧ r64 x187 ∧ St 67 w0 (ownL ([] ++ [.sn S0])) [(4, .pointer (some ⟨g1, 0, none⟩)), (7, .pointer (some ⟨g24, 0, none⟩)), (10, .int .i64 x187)] [.box g1 77 ([.int .i64 0, .int .i64 0, .int .i64 0, .int .i64 0, .int .i64 0, .slice none 0 0, .slice none 0 0, .int .i64 0, .int .i64 0, .slice none 0 0]), .box g24 77 ([.int .i64 x35, .int .i64 x37, .int .i64 x39, .int .i64 x41, .int .i64 x43, .slice A46 x45.length c47, .slice A50 x49.length c51, .int .i64 x53, .int .i64 x55, .slice A58 x57.length c59]), .sn S27] a w) ?_ ?_
    · refine c_rs ?_ -- region 14
      refine s_move h rfl _ rfl rfl (by decide) rfl (fun a h => ?_)
      refine s_x h rfl rfl (by decide) (x_bin h.k rfl rfl rfl ib_eql) (fun a h => ?_)
      refine s_move h rfl _ rfl rfl (by decide) rfl (fun a h => ?_)
      obtain ⟨z190, hz189, hc186⟩ := bsome hc186
      refine q_grp h 5 (t := 56) 61 z190 rfl (fun hB2 => ?_) (fun hB2 => ?_) (fun a w h => ?_)
      · rw [if_pos (of_decide_eq_true hB2)] at hz189
        refine g_yes h rfl rfl rfl rfl hB2 ?_
        refine s_x h rfl rfl (by decide) (x_ldR h.k rfl ag_api_Event rfl ([.int .i64 x35, .int .i64 x37, .int .i64 x39, .int .i64 x41, .int .i64 x43, .slice A46 x45.length c47, .slice A50 x49.length c51, .int .i64 x53, .int .i64 x55, .slice A58 x57.length c59]) rfl (h.m.range0 (i := 2) rfl)) (fun a h => ?_)
        refine g_yes h rfl rfl rfl rfl hB2 ?_
        refine s_move h rfl _ rfl rfl (by decide) rfl (fun a h => ?_)
        refine g_yes h rfl rfl rfl rfl hB2 ?_
        obtain ⟨x192, h193, hz189⟩ := bsome hz189
        have hX := script_Right_ok Fu (S0 := snapAll _) ([.int .i64 x35, .int .i64 x37, .int .i64 x39, .int .i64 x41, .int .i64 x43, .slice A46 x45.length c47, .slice A50 x49.length c51, .int .i64 x53, .int .i64 x55, .slice A58 x57.length c59]) ((x35, x37, x39, x41, x43, x45, x49), x53, x55, x57) ((tyP (tyP tyI (tyP tyI (tyP tyI (tyP tyI (tyP tyI (tyP (tyL ty8) (tyL ty8))))))) (tyP tyI (tyP tyI (tyL ty8)))).mono (h.m.leAll (i := 3) rfl) (show (tyP (tyP tyI (tyP tyI (tyP tyI (tyP tyI (tyP tyI (tyP (tyL ty8) (tyL ty8))))))) (tyP tyI (tyP tyI (tyL ty8)))).rep S27 ([.int .i64 x35, .int .i64 x37, .int .i64 x39, .int .i64 x41, .int .i64 x43, .slice A46 x45.length c47, .slice A50 x49.length c51, .int .i64 x53, .int .i64 x55, .slice A58 x57.length c59]) ((x35, x37, x39, x41, x43, x45, x49), x53, x55, x57) from ⟨[.int .i64 x35, .int .i64 x37, .int .i64 x39, .int .i64 x41, .int .i64 x43, .slice A46 x45.length c47, .slice A50 x49.length c51], [.int .i64 x53, .int .i64 x55, .slice A58 x57.length c59], rfl, ⟨[.int .i64 x35], [.int .i64 x37, .int .i64 x39, .int .i64 x41, .int .i64 x43, .slice A46 x45.length c47, .slice A50 x49.length c51], rfl, ⟨rfl, hr36⟩, ⟨[.int .i64 x37], [.int .i64 x39, .int .i64 x41, .int .i64 x43, .slice A46 x45.length c47, .slice A50 x49.length c51], rfl, ⟨rfl, hr38⟩, ⟨[.int .i64 x39], [.int .i64 x41, .int .i64 x43, .slice A46 x45.length c47, .slice A50 x49.length c51], rfl, ⟨rfl, hr40⟩, ⟨[.int .i64 x41], [.int .i64 x43, .slice A46 x45.length c47, .slice A50 x49.length c51], rfl, ⟨rfl, hr42⟩, ⟨[.int .i64 x43], [.slice A46 x45.length c47, .slice A50 x49.length c51], rfl, ⟨rfl, hr44⟩, ⟨[.slice A46 x45.length c47], [.slice A50 x49.length c51], rfl, ⟨_, _, rfl, hs48⟩, ⟨_, _, rfl, hs52⟩⟩⟩⟩⟩⟩⟩, ⟨[.int .i64 x53], [.int .i64 x55, .slice A58 x57.length c59], rfl, ⟨rfl, hr54⟩, ⟨[.int .i64 x55], [.slice A58 x57.length c59], rfl, ⟨rfl, hr56⟩, ⟨_, _, rfl, hs60⟩⟩⟩⟩)) a1 hra1 _ h193 _ h.startAll
        refine q_callX hX h rfl rfl rfl (by decide) Try.func101 rfl rfl rfl (fun a w v L1 S1 hR hb1 h => ?_)
        obtain ⟨rfl, rfl, _⟩ := hR
        refine g_yes h rfl rfl rfl rfl hB2 ?_
        refine s_x h rfl rfl (by decide) (x_not h.k rfl rfl) (fun a h => ?_)
        refine s_x h rfl rfl (by decide) (x_pick (u' := undef) h.k rfl rfl (fun _ => rfl) (fun hh => absurd (hB2.symm.trans hh) (by decide))) (fun a h => ?_)
        exact (h.mid 4 rfl).val (by rw [Option.some.inj hz189])
      · refine g_no h rfl rfl rfl rfl hB2 rfl (by decide) (fun a h => ?_)
        refine g_no h rfl rfl rfl rfl hB2 rfl (by decide) (fun a h => ?_)
        refine g_no h rfl rfl rfl rfl hB2 rfl (by decide) (fun a h => ?_)
        refine g_no h rfl rfl rfl rfl hB2 rfl (by decide) (fun a h => ?_)
        rw [if_neg (of_decide_eq_false hB2)] at hz189
        refine s_x h rfl rfl (by decide) (x_pick (u' := undef) h.k rfl rfl (fun hh => absurd (hB2.symm.trans hh) (by decide)) (fun _ => rfl)) (fun a h => ?_)
        exact (h.mid 4 rfl).val (by rw [Option.some.inj hz189])
      refine l_end ?_
      refine c_cond h rfl (fun hb => ?_) (fun hb => ?_)
      · rw [if_pos hb] at hc186
        refine c_r ?_ -- region 15
        refine s_assign h rfl _ rfl rfl (by decide) rfl (fun a h => ?_)
        refine l_nil ?_
        refine e_thenN ?_
        have h := h.pick [0, 2, 3] (by decide) rfl
        exact ⟨2, (Option.some.inj hc186), (show r64 2 from ⟨by decide, by decide⟩), h.has (by exact ⟨rfl, rfl, rfl, trivial⟩)⟩
      · rw [if_neg (by rw [hb]; decide)] at hc186
        refine wp_skip ?_
        refine e_thenN ?_
        have h := h.pick [0, 2, 3] (by decide) rfl
        exact ⟨x181, (Option.some.inj hc186), hr184, h.has (by exact ⟨rfl, rfl, rfl, trivial⟩)⟩
    · rintro a w ⟨x187, rfl, hr188, h⟩
      refine wp_seq ?_
      refine c_rs ?_ -- region 16
      refine s_move h rfl _ rfl rfl (by decide) rfl (fun a h => ?_)
      refine s_x h rfl rfl (by decide) (x_bin h.k rfl rfl rfl ib_neq) (fun a h => ?_)
      refine l_end ?_
      refine c_cond h rfl (fun hb => ?_) (fun hb => ?_)
      · rw [if_pos (of_decide_eq_true hb)] at hf
        refine c_rs ?_ -- region 17
        refine s_x h rfl rfl (by decide) (x_build h.k rfl [] rfl ([.int .i64 0, .int .i64 0, .int .i64 0, .int .i64 0, .int .i64 0, .slice none 0 0, .slice none 0 0, .int .i64 0, .int .i64 0, .slice none 0 0]) (by kernel_rfl)) (fun a h => ?_)
        refine s_move h rfl _ rfl rfl (by decide) rfl (fun a h => ?_)
        refine s_stW h rfl rfl rfl ag_api_Event rfl (es := [.int .i64 0, .int .i64 0, .int .i64 0, .int .i64 0, .int .i64 0, .slice none 0 0, .slice none 0 0, .int .i64 0, .int .i64 0, .slice none 0 0]) rfl rfl (by simp [Value.oneCell']) 0 rfl rfl (fun a w h => ?_)
        refine s_assign h rfl _ rfl rfl (by decide) rfl (fun a h => ?_)
        refine l_end ?_
        refine wp_ret ?_
        refine e_thenR ?_
        obtain rfl := Option.some.inj hf
        exact r_ret2 h rfl (rv_cellA h rfl 0 rfl ag_api_Event rfl) (rv_tmp h rfl) ⟨_, [], _, rfl, ⟨[.int .i64 0, .int .i64 0, .int .i64 0, .int .i64 0, .int .i64 0, .slice none 0 0, .slice none 0 0, .int .i64 0, .int .i64 0, .slice none 0 0], rfl, rfl, ⟨[.int .i64 0, .int .i64 0, .int .i64 0, .int .i64 0, .int .i64 0, .slice none 0 0, .slice none 0 0], [.int .i64 0, .int .i64 0, .slice none 0 0], rfl, ⟨[.int .i64 0], [.int .i64 0, .int .i64 0, .int .i64 0, .int .i64 0, .slice none 0 0, .slice none 0 0], rfl, ⟨rfl, (show r64 0 from ⟨by decide, by decide⟩)⟩, ⟨[.int .i64 0], [.int .i64 0, .int .i64 0, .int .i64 0, .slice none 0 0, .slice none 0 0], rfl, ⟨rfl, (show r64 0 from ⟨by decide, by decide⟩)⟩, ⟨[.int .i64 0], [.int .i64 0, .int .i64 0, .slice none 0 0, .slice none 0 0], rfl, ⟨rfl, (show r64 0 from ⟨by decide, by decide⟩)⟩, ⟨[.int .i64 0], [.int .i64 0, .slice none 0 0, .slice none 0 0], rfl, ⟨rfl, (show r64 0 from ⟨by decide, by decide⟩)⟩, ⟨[.int .i64 0], [.slice none 0 0, .slice none 0 0], rfl, ⟨rfl, (show r64 0 from ⟨by decide, by decide⟩)⟩, ⟨[.slice none 0 0], [.slice none 0 0], rfl, ⟨_, _, rfl, (slS.nil ty8 _)⟩, ⟨_, _, rfl, (slS.nil ty8 _)⟩⟩⟩⟩⟩⟩⟩, ⟨[.int .i64 0], [.int .i64 0, .slice none 0 0], rfl, ⟨rfl, (show r64 0 from ⟨by decide, by decide⟩)⟩, ⟨[.int .i64 0], [.slice none 0 0], rfl, ⟨rfl, (show r64 0 from ⟨by decide, by decide⟩)⟩, ⟨_, _, rfl, (slS.nil ty8 _)⟩⟩⟩⟩, hr188, trivial⟩, rfl, up29, (h.m.pick [2] _ (by decide) rfl)⟩
      · rw [if_neg (of_decide_eq_false hb)] at hf
        refine wp_skip ?_
        refine e_thenN ?_
        refine c_rs ?_ -- region 18
        refine s_x h rfl rfl (by decide) (x_ldR h.k rfl ag_api_Event rfl ([.int .i64 x35, .int .i64 x37, .int .i64 x39, .int .i64 x41, .int .i64 x43, .slice A46 x45.length c47, .slice A50 x49.length c51, .int .i64 x53, .int .i64 x55, .slice A58 x57.length c59]) rfl (h.m.range0 (i := 1) rfl)) (fun a h => ?_)
        refine s_stW h rfl rfl rfl ag_api_Event rfl (es := [.int .i64 x35, .int .i64 x37, .int .i64 x39, .int .i64 x41, .int .i64 x43, .slice A46 x45.length c47, .slice A50 x49.length c51, .int .i64 x53, .int .i64 x55, .slice A58 x57.length c59]) rfl rfl (by simp [Value.oneCell']) 0 rfl rfl (fun a w h => ?_)
        refine s_assign h rfl _ rfl rfl (by decide) rfl (fun a h => ?_)
        refine l_end ?_
        refine wp_ret ?_
        obtain rfl := Option.some.inj hf
        exact r_ret2 h rfl (rv_cellA h rfl 0 rfl ag_api_Event rfl) (rv_tmp h rfl) ⟨_, [], _, rfl, ⟨[.int .i64 x35, .int .i64 x37, .int .i64 x39, .int .i64 x41, .int .i64 x43, .slice A46 x45.length c47, .slice A50 x49.length c51, .int .i64 x53, .int .i64 x55, .slice A58 x57.length c59], rfl, rfl, ⟨[.int .i64 x35, .int .i64 x37, .int .i64 x39, .int .i64 x41, .int .i64 x43, .slice A46 x45.length c47, .slice A50 x49.length c51], [.int .i64 x53, .int .i64 x55, .slice A58 x57.length c59], rfl, ⟨[.int .i64 x35], [.int .i64 x37, .int .i64 x39, .int .i64 x41, .int .i64 x43, .slice A46 x45.length c47, .slice A50 x49.length c51], rfl, ⟨rfl, hr36⟩, ⟨[.int .i64 x37], [.int .i64 x39, .int .i64 x41, .int .i64 x43, .slice A46 x45.length c47, .slice A50 x49.length c51], rfl, ⟨rfl, hr38⟩, ⟨[.int .i64 x39], [.int .i64 x41, .int .i64 x43, .slice A46 x45.length c47, .slice A50 x49.length c51], rfl, ⟨rfl, hr40⟩, ⟨[.int .i64 x41], [.int .i64 x43, .slice A46 x45.length c47, .slice A50 x49.length c51], rfl, ⟨rfl, hr42⟩, ⟨[.int .i64 x43], [.slice A46 x45.length c47, .slice A50 x49.length c51], rfl, ⟨rfl, hr44⟩, ⟨[.slice A46 x45.length c47], [.slice A50 x49.length c51], rfl, ⟨_, _, rfl, hs48⟩, ⟨_, _, rfl, hs52⟩⟩⟩⟩⟩⟩⟩, ⟨[.int .i64 x53], [.int .i64 x55, .slice A58 x57.length c59], rfl, ⟨rfl, hr54⟩, ⟨[.int .i64 x55], [.slice A58 x57.length c59], rfl, ⟨rfl, hr56⟩, ⟨_, _, rfl, hs60⟩⟩⟩⟩, (show r64 0 from ⟨by decide, by decide⟩), trivial⟩, rfl, up29, (h.m.pick [2] _ (by decide) rfl)⟩
def script_Pack_l0 (Fu : Nat) (a0 : List ((Int × Int × Int × Int × Int × (List UInt8) × (List UInt8)) × Int × Int × (List UInt8))) (a1 : Int) : Nat → Int → (Int × (List UInt8)) → Option (Sum ((List UInt8) × Int) ((Int × (List UInt8))))
  | 0, _, _ => none
  | k + 1, x20, x22 => if x20 < (a0.length : Int) then ((idx a0 x20).bind fun x39 => (script_Put Fu x39 a1).bind fun x86 => if x86.2 ≠ 0 then (some (.inl ([], x86.2))) else ((field_Writer_Bytes Fu x22 x86.1).bind fun x100 => script_Pack_l0 Fu a0 a1 k (w64 (x20 + 1)) x100)) else (some (.inr x22))
def script_Pack (Fu : Nat) (a0 : List ((Int × Int × Int × Int × Int × (List UInt8) × (List UInt8)) × Int × Int × (List UInt8))) (a1 : Int) : Option ((List UInt8) × Int) :=
  if 4096 < (a0.length : Int) then (some ([], 3)) else ((field_Writer_Number Fu (0, []) (a0.length : Int) 4).bind fun x3 => (script_Pack_l0 Fu a0 a1 Fu 0 x3).bind fun o => match o with | .inl r120 => some r120 | .inr x31 => (field_Writer_Out Fu x31).bind fun x111 => some x111)
set_option maxRecDepth 100000 in
set_option maxHeartbeats 2000000 in
theorem script_Pack_ok (Fu : Nat) {S0 : Snap} (Aa0 : Option Addr) (ca0 : Nat) (a0 : List ((Int × Int × Int × Int × Int × (List UInt8) × (List UInt8)) × Int × Int × (List UInt8))) (hsa0 : slS (tyP (tyP tyI (tyP tyI (tyP tyI (tyP tyI (tyP tyI (tyP (tyL ty8) (tyL ty8))))))) (tyP tyI (tyP tyI (tyL ty8)))) S0 Aa0 ca0 a0) (a1 : Int) (hra1 : r64 a1) (r : (List UInt8) × Int) (hf : script_Pack Fu a0 a1 = some r) (w0 : World) (hm : Mem w0 (ownL ([] ++ [.sn S0])) ([] ++ [.sn S0]) w0) :
    Calls Try.prog 100 #[.slice Aa0 a0.length ca0, .int .i64 a1] w0 (Ret w0 S0 [] (fun v L1 S1 => ∃ (A121 : Option Addr), ∃ (c122 : Nat), ∃ (cs123 : List Value), v = .tuple #[.slice A121 r.1.length c122, .int .i64 r.2] ∧ L1 = [.row (.slice A121 r.1.length c122) 5 1 r.1.length cs123] ∧ reps ty8 S1 cs123 r.1 ∧ r64 r.2 ∧ True)) := by
  unfold script_Pack at hf
  refine c_enterM Try.func100 rfl 38 rfl (by simp) _ hm _ rfl (fun a h => ?_)
  refine c_rs ?_ -- region 0
  refine s_assign h rfl _ rfl rfl (by decide) rfl (fun a h => ?_)
  refine s_assign h rfl _ rfl rfl (by decide) rfl (fun a h => ?_)
  refine l_end ?_
  refine wp_seq ?_
  refine c_rs ?_ -- region 1
  refine s_move h rfl _ rfl rfl (by decide) rfl (fun a h => ?_)
  refine s_x h rfl rfl (by decide) (x_len h.k rfl Try.underlying82 rfl) (fun a h => ?_)
  refine s_x h rfl rfl (by decide) (x_bin h.k rfl rfl rfl ib_gtr) (fun a h => ?_)
  refine l_end ?_
  refine c_cond h rfl (fun hb => ?_) (fun hb => ?_)
  · rw [if_pos (of_decide_eq_true hb)] at hf
    refine c_rs ?_ -- region 2
    refine s_assign h rfl _ rfl rfl (by decide) rfl (fun a h => ?_)
    refine s_assign h rfl _ rfl rfl (by decide) rfl (fun a h => ?_)
    refine l_end ?_
    refine wp_ret ?_
    refine e_thenR ?_
    obtain rfl := Option.some.inj hf
    have h := h.mem (h.m.nilrow 5 1)
    exact r_ret2 h rfl (rv_tmp h rfl) (rv_tmp h rfl) ⟨_, [.row (.slice none ([]).length 0) 5 1 ([]).length []], _, rfl, ⟨none, 0, [], rfl, rfl, (show reps ty8 S0 [] [] from rfl), (show r64 3 from ⟨by decide, by decide⟩), trivial⟩, rfl, (Up.refl _ _ _), h.m⟩
  · rw [if_neg (of_decide_eq_false hb)] at hf
    refine wp_skip ?_
    refine e_thenN ?_
    refine c_rs ?_ -- region 3
    refine s_alloc h rfl rfl rfl (by decide) zi_field_Writer rfl (fun a w g2 h => ?_)
    refine l_end ?_
    refine c_rs ?_ -- region 4
    refine s_move h rfl _ rfl rfl (by decide) rfl (fun a h => ?_)
    refine s_x h rfl rfl (by decide) (x_len h.k rfl Try.underlying82 rfl) (fun a h => ?_)
    obtain ⟨x3, h4, hf⟩ := bsome hf
    have h := h.mem (h.m.nilrow 5 1)
    have h := h.pick [1, 0, 2] (by decide) rfl
    have hX := field_Writer_Number_ok Fu (S0 := S0) (0, []) g2 none 0 [] (show r64 0 from ⟨by decide, by decide⟩) (show reps ty8 S0 [] [] from rfl) (a0.length : Int) (len_r (hsa0).len) 4 (show r64 4 from ⟨by decide, by decide⟩) _ h4 _ (h.sub (Ls := [.box g2 114 ([.int .i64 0, .slice none ([]).length 0]), .row (.slice none ([]).length 0) 5 1 ([]).length []]))
    refine q_callY (Ls := [.box g2 114 ([.int .i64 0, .slice none ([]).length 0]), .row (.slice none ([]).length 0) 5 1 ([]).length []]) hX h (Up.refl _ _ _) rfl rfl rfl (by decide) Try.func62 rfl rfl rfl (fun a w v L1 S7 hR le9 up8 h => ?_)
    obtain ⟨A11, c12, cs13, rfl, rfl, hr10, hq14, _⟩ := hR
    refine l_end ?_
    refine wp_seq ?_
    refine c_rs ?_ -- region 5
    refine s_move h rfl _ rfl rfl (by decide) rfl (fun a h => ?_)
    refine s_x h rfl rfl (by decide) (x_len h.k rfl Try.underlying82 rfl) (fun a h => ?_)
    refine s_move h rfl _ rfl rfl (by decide) rfl (fun a h => ?_)
    refine l_end ?_
    obtain ⟨o15, hl16, hf⟩ := bsome hf
    refine c_fin (fun a w => ∃ (S28 : Snap), ∃ (x31 : Int × (List UInt8)), ∃ (A33 : Option Addr), ∃ (c34 : Nat), ∃ (cs35 : List Value), (.inr x31) = o15 ∧ Snap.le S7 S28 ∧ Up (ownL ([] ++ [.sn S0])) w0 S0 S28 ∧ r64 x31.1 ∧ reps ty8 S28 cs35 x31.2 ∧ St 38 w0 (ownL ([] ++ [.sn S0])) [(6, .pointer (some ⟨g2, 0, none⟩))] [.box g2 114 ([.int .i64 x31.1, .slice A33 x31.2.length c34]), .row (.slice A33 x31.2.length c34) 5 1 x31.2.length cs35, .sn S28] a w) ?_ ?_
    · refine wp_block ?_
      refine c_loop (fun m38 a w => ∃ (S17 : Snap), ∃ (x20 : Int), ∃ (x22 : Int × (List UInt8)), ∃ (A24 : Option Addr), ∃ (c25 : Nat), ∃ (cs26 : List Value), script_Pack_l0 Fu a0 a1 m38 x20 x22 = some o15 ∧ Snap.le S7 S17 ∧ Up (ownL ([] ++ [.sn S0])) w0 S0 S17 ∧ r64 x20 ∧ r64 x22.1 ∧ reps ty8 S17 cs26 x22.2 ∧ St 38 w0 (ownL ([] ++ [.sn S0])) [(1, .int .i64 a1), (6, .pointer (some ⟨g2, 0, none⟩)), (17, .slice Aa0 a0.length ca0), (18, .int .i64 (a0.length : Int)), (19, .int .i64 x20)] [.box g2 114 ([.int .i64 x22.1, .slice A24 x22.2.length c25]), .row (.slice A24 x22.2.length c25) 5 1 x22.2.length cs26, .sn S17] a w) Fu ⟨S7, 0, x3, A11, c12, cs13, hl16, (Snap.le.refl _), up8, (show r64 0 from ⟨by decide, by decide⟩), hr10, hq14, h.has (by exact ⟨rfl, rfl, rfl, rfl, rfl, trivial⟩)⟩ (fun m38 a w hI => ?_)
      obtain ⟨S17, x20, x22, A24, c25, cs26, hl37, le18, up19, hr21, hr23, hq27, h⟩ := hI
      obtain _ | m38 := m38
      · rw [script_Pack_l0] at hl37; cases hl37
      rw [script_Pack_l0] at hl37
      refine c_rs ?_ -- region 6
      refine s_x h rfl rfl (by decide) (x_bin h.k rfl rfl rfl ib_lss) (fun a h => ?_)
      refine l_end ?_
      refine c_cs h rfl (fun hb => ?_) (fun hb => ?_)
      · rw [if_pos (of_decide_eq_true hb)] at hl37
        refine wp_skip ?_
        refine e_thenN ?_
        refine wp_seq ?_
        refine wp_block ?_
        refine c_rs ?_ -- region 7
        obtain ⟨x39, h43, hl37⟩ := bsome hl37
        obtain ⟨m40, hi44, hm45, hx46⟩ := idx_some h43
        obtain ⟨b41, off42, k47, hA48, hu49, hc50⟩ := ((hsa0.mono (le9.trans le18))).at (by decide) hx46 (h.m.snOK (i := 2) rfl)
        obtain ⟨k51, k52, rfl, ⟨k53, k54, rfl, ⟨rfl, hr55⟩, ⟨k56, k57, rfl, ⟨rfl, hr58⟩, ⟨k59, k60, rfl, ⟨rfl, hr61⟩, ⟨k62, k63, rfl, ⟨rfl, hr64⟩, ⟨k65, k66, rfl, ⟨rfl, hr67⟩, ⟨k68, k69, rfl, ⟨A70, c71, rfl, hs72⟩, ⟨A73, c74, rfl, hs75⟩⟩⟩⟩⟩⟩⟩, ⟨k76, k77, rfl, ⟨rfl, hr78⟩, ⟨k79, k80, rfl, ⟨rfl, hr81⟩, ⟨A82, c83, rfl, hs84⟩⟩⟩⟩ := hu49
        refine s_x h rfl rfl (by decide) (x_iaddrE h.k rfl Try.underlying82 sz_api_Event hA48 rfl rfl hi44 hm45) (fun a h => ?_)
        refine s_x h rfl rfl (by decide) (x_ldR h.k rfl ag_api_Event rfl ([.int .i64 x39.1.1, .int .i64 x39.1.2.1, .int .i64 x39.1.2.2.1, .int .i64 x39.1.2.2.2.1, .int .i64 x39.1.2.2.2.2.1, .slice A70 x39.1.2.2.2.2.2.1.length c71, .slice A73 x39.1.2.2.2.2.2.2.length c74, .int .i64 x39.2.1, .int .i64 x39.2.2.1, .slice A82 x39.2.2.2.length c83]) rfl (hc50 _ (h.m.snOK (i := 2) rfl))) (fun a h => ?_)
        refine s_alloc h rfl rfl rfl (by decide) zi_api_Event rfl (fun a w g85 h => ?_)
        refine s_stW h rfl rfl rfl ag_api_Event rfl (es := [.int .i64 x39.1.1, .int .i64 x39.1.2.1, .int .i64 x39.1.2.2.1, .int .i64 x39.1.2.2.2.1, .int .i64 x39.1.2.2.2.2.1, .slice A70 x39.1.2.2.2.2.2.1.length c71, .slice A73 x39.1.2.2.2.2.2.2.length c74, .int .i64 x39.2.1, .int .i64 x39.2.2.1, .slice A82 x39.2.2.2.length c83]) rfl rfl (by simp [Value.oneCell']) 0 rfl rfl (fun a w h => ?_)
        refine l_end ?_
        refine c_rs ?_ -- region 8
        refine s_x h rfl rfl (by decide) (x_ldR h.k rfl ag_api_Event rfl ([.int .i64 x39.1.1, .int .i64 x39.1.2.1, .int .i64 x39.1.2.2.1, .int .i64 x39.1.2.2.2.1, .int .i64 x39.1.2.2.2.2.1, .slice A70 x39.1.2.2.2.2.2.1.length c71, .slice A73 x39.1.2.2.2.2.2.2.length c74, .int .i64 x39.2.1, .int .i64 x39.2.2.1, .slice A82 x39.2.2.2.length c83]) rfl (h.m.range0 (i := 0) rfl)) (fun a h => ?_)
        refine s_move h rfl _ rfl rfl (by decide) rfl (fun a h => ?_)
        obtain ⟨x86, h87, hl37⟩ := bsome hl37
        have hX := script_Put_ok Fu (S0 := snapAll _) ([.int .i64 x39.1.1, .int .i64 x39.1.2.1, .int .i64 x39.1.2.2.1, .int .i64 x39.1.2.2.2.1, .int .i64 x39.1.2.2.2.2.1, .slice A70 x39.1.2.2.2.2.2.1.length c71, .slice A73 x39.1.2.2.2.2.2.2.length c74, .int .i64 x39.2.1, .int .i64 x39.2.2.1, .slice A82 x39.2.2.2.length c83]) x39 ((tyP (tyP tyI (tyP tyI (tyP tyI (tyP tyI (tyP tyI (tyP (tyL ty8) (tyL ty8))))))) (tyP tyI (tyP tyI (tyL ty8)))).mono (h.m.leAll (i := 3) rfl) (show (tyP (tyP tyI (tyP tyI (tyP tyI (tyP tyI (tyP tyI (tyP (tyL ty8) (tyL ty8))))))) (tyP tyI (tyP tyI (tyL ty8)))).rep S17 ([.int .i64 x39.1.1, .int .i64 x39.1.2.1, .int .i64 x39.1.2.2.1, .int .i64 x39.1.2.2.2.1, .int .i64 x39.1.2.2.2.2.1, .slice A70 x39.1.2.2.2.2.2.1.length c71, .slice A73 x39.1.2.2.2.2.2.2.length c74, .int .i64 x39.2.1, .int .i64 x39.2.2.1, .slice A82 x39.2.2.2.length c83]) x39 from ⟨[.int .i64 x39.1.1, .int .i64 x39.1.2.1, .int .i64 x39.1.2.2.1, .int .i64 x39.1.2.2.2.1, .int .i64 x39.1.2.2.2.2.1, .slice A70 x39.1.2.2.2.2.2.1.length c71, .slice A73 x39.1.2.2.2.2.2.2.length c74], [.int .i64 x39.2.1, .int .i64 x39.2.2.1, .slice A82 x39.2.2.2.length c83], rfl, ⟨[.int .i64 x39.1.1], [.int .i64 x39.1.2.1, .int .i64 x39.1.2.2.1, .int .i64 x39.1.2.2.2.1, .int .i64 x39.1.2.2.2.2.1, .slice A70 x39.1.2.2.2.2.2.1.length c71, .slice A73 x39.1.2.2.2.2.2.2.length c74], rfl, ⟨rfl, hr55⟩, ⟨[.int .i64 x39.1.2.1], [.int .i64 x39.1.2.2.1, .int .i64 x39.1.2.2.2.1, .int .i64 x39.1.2.2.2.2.1, .slice A70 x39.1.2.2.2.2.2.1.length c71, .slice A73 x39.1.2.2.2.2.2.2.length c74], rfl, ⟨rfl, hr58⟩, ⟨[.int .i64 x39.1.2.2.1], [.int .i64 x39.1.2.2.2.1, .int .i64 x39.1.2.2.2.2.1, .slice A70 x39.1.2.2.2.2.2.1.length c71, .slice A73 x39.1.2.2.2.2.2.2.length c74], rfl, ⟨rfl, hr61⟩, ⟨[.int .i64 x39.1.2.2.2.1], [.int .i64 x39.1.2.2.2.2.1, .slice A70 x39.1.2.2.2.2.2.1.length c71, .slice A73 x39.1.2.2.2.2.2.2.length c74], rfl, ⟨rfl, hr64⟩, ⟨[.int .i64 x39.1.2.2.2.2.1], [.slice A70 x39.1.2.2.2.2.2.1.length c71, .slice A73 x39.1.2.2.2.2.2.2.length c74], rfl, ⟨rfl, hr67⟩, ⟨[.slice A70 x39.1.2.2.2.2.2.1.length c71], [.slice A73 x39.1.2.2.2.2.2.2.length c74], rfl, ⟨_, _, rfl, hs72⟩, ⟨_, _, rfl, hs75⟩⟩⟩⟩⟩⟩⟩, ⟨[.int .i64 x39.2.1], [.int .i64 x39.2.2.1, .slice A82 x39.2.2.2.length c83], rfl, ⟨rfl, hr78⟩, ⟨[.int .i64 x39.2.2.1], [.slice A82 x39.2.2.2.length c83], rfl, ⟨rfl, hr81⟩, ⟨_, _, rfl, hs84⟩⟩⟩⟩)) a1 hra1 _ h87 _ h.startAll
        refine q_callX hX h rfl rfl rfl (by decide) Try.func147 rfl rfl rfl (fun a w v L1 S1 hR hb1 h => ?_)
        obtain ⟨A89, c90, cs91, rfl, rfl, hq92, hr93, _⟩ := hR
        have hq94 := hq92.fl (S' := S17) fl_8
        refine s_move h rfl _ rfl rfl (by decide) rfl (fun a h => ?_)
        refine s_x h rfl rfl (by decide) (x_ext h.k rfl rfl rfl) (fun a h => ?_)
        refine s_x h rfl rfl (by decide) (x_ext h.k rfl rfl rfl) (fun a h => ?_)
        refine s_assign h rfl _ rfl rfl (by decide) rfl (fun a h => ?_)
        refine s_assign h rfl _ rfl rfl (by decide) rfl (fun a h => ?_)
        refine l_end ?_
        refine wp_seq ?_
        refine c_rs ?_ -- region 9
        refine s_move h rfl _ rfl rfl (by decide) rfl (fun a h => ?_)
        refine s_x h rfl rfl (by decide) (x_bin h.k rfl rfl rfl ib_neq) (fun a h => ?_)
        refine l_end ?_
        refine c_cond h rfl (fun hb => ?_) (fun hb => ?_)
        · rw [if_pos (of_decide_eq_true hb)] at hl37
          refine c_rs ?_ -- region 10
          refine s_move h rfl _ rfl rfl (by decide) rfl (fun a h => ?_)
          refine s_assign h rfl _ rfl rfl (by decide) rfl (fun a h => ?_)
          refine s_assign h rfl _ rfl rfl (by decide) rfl (fun a h => ?_)
          refine l_end ?_
          refine wp_ret ?_
          refine e_thenR ?_
          refine e_blkR ?_
          refine e_thenR ?_
          refine e_thenR ?_
          refine e_blkR ?_
          refine e_thenR ?_
          cases hl37
          try dsimp only at hf
          refine e_thenR ?_
          obtain rfl := Option.some.inj hf
          have h := h.mem (h.m.nilrow 5 1)
          exact r_ret2 h rfl (rv_tmp h rfl) (rv_tmp h rfl) ⟨_, [.row (.slice none ([]).length 0) 5 1 ([]).length []], _, rfl, ⟨none, 0, [], rfl, rfl, (show reps ty8 S17 [] [] from rfl), hr93, trivial⟩, rfl, up19, (h.m.pick [0, 5] _ (by decide) rfl)⟩
        · rw [if_neg (of_decide_eq_false hb)] at hl37
          refine wp_skip ?_
          refine e_thenN ?_
          refine c_r ?_ -- region 11
          refine s_move h rfl _ rfl rfl (by decide) rfl (fun a h => ?_)
          have h := h.pick [0, 4, 1, 2, 3] (by decide) rfl
          obtain ⟨S96, le97, up98, hs99, h⟩ := q_freeze (T := ty8) h up19 hq94
          obtain ⟨x100, h101, hl37⟩ := bsome hl37
          have h := h.pick [2, 3, 0, 1] (by decide) rfl
          have hX := field_Writer_Bytes_ok Fu (S0 := S96) x22 g2 A24 c25 cs26 hr23 (hq27.mono le97) A89 c90 x86.1 hs99 _ h101 _ (h.sub (Ls := [.box g2 114 ([.int .i64 x22.1, .slice A24 x22.2.length c25]), .row (.slice A24 x22.2.length c25) 5 1 x22.2.length cs26]))
          refine q_callY (Ls := [.box g2 114 ([.int .i64 x22.1, .slice A24 x22.2.length c25]), .row (.slice A24 x22.2.length c25) 5 1 x22.2.length cs26]) hX h up98 rfl rfl rfl (by decide) Try.func63 rfl rfl rfl (fun a w v L1 S103 hR le105 up104 h => ?_)
          obtain ⟨A107, c108, cs109, rfl, rfl, hr106, hq110, _⟩ := hR
          refine l_nil ?_
          refine e_blkN ?_
          refine e_thenN ?_
          refine c_r ?_ -- region 12
          refine s_x h rfl rfl (by decide) (x_bin h.k rfl rfl rfl (ib_add rfl)) (fun a h => ?_)
          refine s_move h rfl _ rfl rfl (by decide) rfl (fun a h => ?_)
          refine l_nil ?_
          have h := h.pick [0, 1, 2] (by decide) rfl
          exact e_thenN ⟨m38, Nat.lt_succ_self _, S103, w64 (x20 + 1), x100, A107, c108, cs109, hl37, ((le18.trans le97).trans le105), up104, (w64_r _), hr106, hq110, h.has (by exact ⟨rfl, rfl, rfl, rfl, rfl, trivial⟩)⟩
      · rw [if_neg (of_decide_eq_false hb)] at hl37
        refine wp_exit ?_
        refine e_thenX ?_
        refine e_thenX ?_
        refine e_blkX ?_
        refine e_thenN ?_
        exact ⟨S17, x22, A24, c25, cs26, (Option.some.inj hl37), le18, up19, hr23, hq27, h.has (by exact ⟨rfl, trivial⟩)⟩
    · rintro a w ⟨S28, x31, A33, c34, cs35, rfl, le29, up30, hr32, hq36, h⟩
      try dsimp only at hf
      refine e_thenN ?_
      refine c_rs ?_ -- region 13
      obtain ⟨x111, h112, hf⟩ := bsome hf
      have hX := field_Writer_Out_ok Fu (S0 := snapAll _) g2 x31 ⟨[.int .i64 x31.1, .slice A33 x31.2.length c34], h.m.boxAll (i := 0) rfl, ⟨[.int .i64 x31.1], [.slice A33 x31.2.length c34], rfl, ⟨rfl, hr32⟩, ⟨_, _, rfl, h.m.rowAll (i := 1) rfl (j := 2) rfl hq36⟩⟩⟩ _ h112 _ h.startAll
      refine q_callX hX h rfl rfl rfl (by decide) Try.func64 rfl rfl rfl (fun a w v L1 S1 hR hb1 h => ?_)
      obtain ⟨A114, c115, cs116, rfl, rfl, hq117, hr118, _⟩ := hR
      have hq119 := hq117.fl (S' := S28) fl_8
      refine s_x h rfl rfl (by decide) (x_ext h.k rfl rfl rfl) (fun a h => ?_)
      refine s_x h rfl rfl (by decide) (x_ext h.k rfl rfl rfl) (fun a h => ?_)
      refine s_assign h rfl _ rfl rfl (by decide) rfl (fun a h => ?_)
      refine s_assign h rfl _ rfl rfl (by decide) rfl (fun a h => ?_)
      refine l_end ?_
      refine wp_ret ?_
      rw [← Option.some.inj hf]
      exact r_ret2 h rfl (rv_tmp h rfl) (rv_tmp h rfl) ⟨_, [.row (.slice A114 x111.1.length c115) 5 1 x111.1.length cs116], _, rfl, ⟨A114, c115, cs116, rfl, rfl, hq119, hr118, trivial⟩, rfl, up30, (h.m.pick [0, 3] _ (by decide) rfl)⟩
def script_Unpack_l0 (Fu : Nat) (x12 : Int × (Int × (List UInt8) × Bool)) : Nat → (List (List UInt8)) → Int → (Int × (List UInt8) × Bool) → Option ((List (List UInt8)) × (Int × (List UInt8) × Bool))
  | 0, _, _, _ => none
  | k + 1, x43, x48, x50 => if x48 < x12.1 then ((field_Reader_Bytes Fu x50 65536).bind fun x71 => (app 24 x43 ([x71.1])).bind fun x91 => script_Unpack_l0 Fu x12 k x91 (w64 (x48 + 1)) x71.2) else (some (x43, x50))
def script_Unpack_l1 (Fu : Nat) (a1 : Int) (x58 : List (List UInt8)) : Nat → (List ((Int × Int × Int × Int × Int × (List UInt8) × (List UInt8)) × Int × Int × (List UInt8))) → Int → Option (Sum ((List ((Int × Int × Int × Int × Int × (List UInt8) × (List UInt8)) × Int × Int × (List UInt8))) × Int) ((List ((Int × Int × Int × Int × Int × (List UInt8) × (List UInt8)) × Int × Int × (List UInt8)))))
  | 0, _, _ => none
  | k + 1, x118, x123 => if x123 < (x58.length : Int) then ((ix x58.length x123).bind fun m136 => (x58[m136]?).bind fun x142 => (script_Take Fu x142 a1).bind fun x151 => if x151.2 ≠ 0 then (some (.inl ([], x151.2))) else ((app 128 x118 ([x151.1])).bind fun x198 => script_Unpack_l1 Fu a1 x58 k x198 (w64 (x123 + 1)))) else (some (.inr x118))
def script_Unpack (Fu : Nat) (a0 : List UInt8) (a1 : Int) : Option ((List ((Int × Int × Int × Int × Int × (List UInt8) × (List UInt8)) × Int × Int × (List UInt8))) × Int) :=
  (field_Read Fu a0).bind fun x1 => (field_Reader_Number Fu x1 4 4096).bind fun x12 => (script_Unpack_l0 Fu x12 Fu ([]) 0 x12.2).bind fun (x58, x63) => (field_Reader_Done Fu x63).bind fun x97 => if x97 ≠ 0 then (some ([], x97)) else ((script_Unpack_l1 Fu a1 x58 Fu ([]) 0).bind fun o => match o with | .inl r204 => some r204 | .inr x128 => some (x128, 0))
set_option maxRecDepth 100000 in
set_option maxHeartbeats 2000000 in
theorem script_Unpack_ok (Fu : Nat) {S0 : Snap} (Aa0 : Option Addr) (ca0 : Nat) (a0 : List UInt8) (hsa0 : slS ty8 S0 Aa0 ca0 a0) (a1 : Int) (hra1 : r64 a1) (r : (List ((Int × Int × Int × Int × Int × (List UInt8) × (List UInt8)) × Int × Int × (List UInt8))) × Int) (hf : script_Unpack Fu a0 a1 = some r) (w0 : World) (hm : Mem w0 (ownL ([] ++ [.sn S0])) ([] ++ [.sn S0]) w0) :
    Calls Try.prog 47 #[.slice Aa0 a0.length ca0, .int .i64 a1] w0 (Ret w0 S0 [] (fun v L1 S1 => ∃ (A206 : Option Addr), ∃ (c207 : Nat), ∃ (cs208 : List Value), v = .tuple #[.slice A206 r.1.length c207, .int .i64 r.2] ∧ L1 = [.row (.slice A206 r.1.length c207) 77 10 r.1.length cs208] ∧ reps (tyP (tyP tyI (tyP tyI (tyP tyI (tyP tyI (tyP tyI (tyP (tyL ty8) (tyL ty8))))))) (tyP tyI (tyP tyI (tyL ty8)))) S1 cs208 r.1 ∧ r64 r.2 ∧ True)) := by
  unfold script_Unpack at hf
  refine c_enterM Try.func47 rfl 52 rfl (by simp) _ hm _ rfl (fun a h => ?_)
  refine c_rs ?_ -- region 0
  refine s_assign h rfl _ rfl rfl (by decide) rfl (fun a h => ?_)
  refine s_assign h rfl _ rfl rfl (by decide) rfl (fun a h => ?_)
  refine l_end ?_
  refine c_rs ?_ -- region 1
  refine s_move h rfl _ rfl rfl (by decide) rfl (fun a h => ?_)
  obtain ⟨x1, h2, hf⟩ := bsome hf
  have hX := field_Read_ok Fu (S0 := S0) Aa0 ca0 a0 hsa0 _ h2 _ (h.sub (Ls := []))
  refine q_callY (Ls := []) hX h (Up.refl _ _ _) rfl rfl rfl (by decide) Try.func74 rfl rfl rfl (fun a w v L1 S4 hR le6 up5 h => ?_)
  obtain ⟨g7, A9, c10, rfl, rfl, hr8, hs11, _⟩ := hR
  refine s_assign h rfl _ rfl rfl (by decide) rfl (fun a h => ?_)
  refine l_end ?_
  refine c_rs ?_ -- region 2
  refine s_assign h rfl _ rfl rfl (by decide) rfl (fun a h => ?_)
  refine l_end ?_
  refine wp_seq ?_
  refine c_rs ?_ -- region 3
  refine s_move h rfl _ rfl rfl (by decide) rfl (fun a h => ?_)
  obtain ⟨x12, h13, hf⟩ := bsome hf
  have hX := field_Reader_Number_ok Fu (S0 := S4) x1 g7 A9 c10 hr8 hs11 4 (show r64 4 from ⟨by decide, by decide⟩) 4096 (show r64 4096 from ⟨by decide, by decide⟩) _ h13 _ (h.sub (Ls := [.box g7 179 ([.int .i64 x1.1, .slice A9 x1.2.1.length c10, .bool x1.2.2])]))
  refine q_callY (Ls := [.box g7 179 ([.int .i64 x1.1, .slice A9 x1.2.1.length c10, .bool x1.2.2])]) hX h up5 rfl rfl rfl (by decide) Try.func75 rfl rfl rfl (fun a w v L1 S15 hR le17 up16 h => ?_)
  obtain ⟨A20, c21, rfl, rfl, hr18, hr19, hs22, _⟩ := hR
  refine s_move h rfl _ rfl rfl (by decide) rfl (fun a h => ?_)
  refine l_end ?_
  obtain ⟨o23, hl24, hf⟩ := bsome hf
  refine c_fin (fun a w => ∃ (S55 : Snap), ∃ (x58 : List (List UInt8)), ∃ (A59 : Option Addr), ∃ (c60 : Nat), ∃ (cs61 : List Value), ∃ (x63 : Int × (List UInt8) × Bool), ∃ (A65 : Option Addr), ∃ (c66 : Nat), (x58, x63) = o23 ∧ Snap.le S15 S55 ∧ Up (ownL ([] ++ [.sn S0])) w0 S0 S55 ∧ reps (tyL ty8) S55 cs61 x58 ∧ r64 x63.1 ∧ slS ty8 S55 A65 c66 x63.2.1 ∧ St 52 w0 (ownL ([] ++ [.sn S0])) [(1, .int .i64 a1), (6, .pointer (some ⟨g7, 0, none⟩)), (7, .slice A59 x58.length c60)] [.box g7 179 ([.int .i64 x63.1, .slice A65 x63.2.1.length c66, .bool x63.2.2]), .row (.slice A59 x58.length c60) 22 1 x58.length cs61, .sn S55] a w) ?_ ?_
  · refine wp_block ?_
    have h := h.mem (h.m.nilrow 22 1)
    have h := h.pick [1, 0, 2] (by decide) rfl
    refine c_loop (fun m69 a w => ∃ (S40 : Snap), ∃ (x43 : List (List UInt8)), ∃ (A44 : Option Addr), ∃ (c45 : Nat), ∃ (cs46 : List Value), ∃ (x48 : Int), ∃ (x50 : Int × (List UInt8) × Bool), ∃ (A52 : Option Addr), ∃ (c53 : Nat), script_Unpack_l0 Fu x12 m69 x43 x48 x50 = some o23 ∧ Snap.le S15 S40 ∧ Up (ownL ([] ++ [.sn S0])) w0 S0 S40 ∧ reps (tyL ty8) S40 cs46 x43 ∧ r64 x48 ∧ r64 x50.1 ∧ slS ty8 S40 A52 c53 x50.2.1 ∧ St 52 w0 (ownL ([] ++ [.sn S0])) [(1, .int .i64 a1), (6, .pointer (some ⟨g7, 0, none⟩)), (7, .slice A44 x43.length c45), (17, .int .i64 x12.1), (18, .int .i64 x48)] [.box g7 179 ([.int .i64 x50.1, .slice A52 x50.2.1.length c53, .bool x50.2.2]), .row (.slice A44 x43.length c45) 22 1 x43.length cs46, .sn S40] a w) Fu ⟨S15, [], none, 0, [], 0, x12.2, A20, c21, hl24, (Snap.le.refl _), up16, (show reps (tyL ty8) S15 [] [] from rfl), (show r64 0 from ⟨by decide, by decide⟩), hr19, hs22, h.has (by exact ⟨rfl, rfl, rfl, rfl, rfl, trivial⟩)⟩ (fun m69 a w hI => ?_)
    obtain ⟨S40, x43, A44, c45, cs46, x48, x50, A52, c53, hl68, le41, up42, hq47, hr49, hr51, hs54, h⟩ := hI
    obtain _ | m69 := m69
    · rw [script_Unpack_l0] at hl68; cases hl68
    rw [script_Unpack_l0] at hl68
    refine c_rs ?_ -- region 4
    refine s_x h rfl rfl (by decide) (x_bin h.k rfl rfl rfl ib_lss) (fun a h => ?_)
    refine l_end ?_
    refine c_cs h rfl (fun hb => ?_) (fun hb => ?_)
    · rw [if_pos (of_decide_eq_true hb)] at hl68
      refine wp_skip ?_
      refine e_thenN ?_
      refine wp_seq ?_
      refine wp_block ?_
      refine c_r ?_ -- region 5
      refine s_move h rfl _ rfl rfl (by decide) rfl (fun a h => ?_)
      refine s_move h rfl _ rfl rfl (by decide) rfl (fun a h => ?_)
      obtain ⟨x71, h72, hl68⟩ := bsome hl68
      have h := h.pick [0, 2, 1] (by decide) rfl
      have hX := field_Reader_Bytes_ok Fu (S0 := S40) x50 g7 A52 c53 hr51 hs54 65536 (show r64 65536 from ⟨by decide, by decide⟩) _ h72 _ (h.sub (Ls := [.box g7 179 ([.int .i64 x50.1, .slice A52 x50.2.1.length c53, .bool x50.2.2])]))
      refine q_callY (Ls := [.box g7 179 ([.int .i64 x50.1, .slice A52 x50.2.1.length c53, .bool x50.2.2])]) hX h up42 rfl rfl rfl (by decide) Try.func76 rfl rfl rfl (fun a w v L1 S74 hR le76 up75 h => ?_)
      obtain ⟨A77, c78, cs79, A82, c83, rfl, rfl, hq80, hr81, hs84, _⟩ := hR
      have h := h.pick [0, 2, 1, 3] (by decide) rfl
      obtain ⟨S85, le86, up87, hs88, h⟩ := q_freeze (T := ty8) h up75 hq80
      refine q_bslice (T := tyL ty8) (S := S85) h rfl rfl rfl (by decide) Try.underlying148 zi_Suint8 (by decide) (by decide) (by decide) (by decide) [.slice A77 x71.1.length c78] rfl rfl (C := [[.slice A77 x71.1.length c78]]) rfl (xs := [x71.1]) ⟨[.slice A77 x71.1.length c78], _, rfl, ⟨_, _, rfl, hs88⟩, rfl⟩ (by intro c hc; simp only [List.mem_cons, List.not_mem_nil, or_false] at hc; subst hc; rfl) (fun a w A89 h => ?_)
      have hb90 : reps (tyL ty8) S85 ([[.slice A77 x71.1.length c78]]).flatten [x71.1] := ⟨[.slice A77 x71.1.length c78], _, rfl, ⟨_, _, rfl, hs88⟩, rfl⟩
      obtain ⟨x91, h92, hl68⟩ := bsome hl68
      refine q_append (T := tyL ty8) (S := S85) h rfl rfl rfl (by decide) Try.underlying148 zb_Suint8 rfl (by decide) rfl 3 rfl (hq47.mono (le76.trans le86)) rfl hb90 (h.m.rdRowA (i := 0) rfl) h92 (fun a w A93 c94 cs95 hq96 h => ?_)
      refine s_assign h rfl _ rfl rfl (by decide) rfl (fun a h => ?_)
      refine l_nil ?_
      refine e_blkN ?_
      refine e_thenN ?_
      refine c_r ?_ -- region 6
      refine s_x h rfl rfl (by decide) (x_bin h.k rfl rfl rfl (ib_add rfl)) (fun a h => ?_)
      refine s_move h rfl _ rfl rfl (by decide) rfl (fun a h => ?_)
      refine l_nil ?_
      have h := h.pick [2, 3, 1] (by decide) rfl
      exact e_thenN ⟨m69, Nat.lt_succ_self _, S85, x91, A93, c94, cs95, w64 (x48 + 1), x71.2, A82, c83, hl68, ((le41.trans le76).trans le86), up87, hq96, (w64_r _), hr81, (hs84.mono le86), h.has (by exact ⟨rfl, rfl, rfl, rfl, rfl, trivial⟩)⟩
    · rw [if_neg (of_decide_eq_false hb)] at hl68
      refine wp_exit ?_
      refine e_thenX ?_
      refine e_thenX ?_
      refine e_blkX ?_
      refine e_thenN ?_
      exact ⟨S40, x43, A44, c45, cs46, x50, A52, c53, (Option.some.inj hl68), le41, up42, hq47, hr51, hs54, h.has (by exact ⟨rfl, rfl, rfl, trivial⟩)⟩
  · rintro a w ⟨S55, x58, A59, c60, cs61, x63, A65, c66, rfl, le56, up57, hq62, hr64, hs67, h⟩
    try dsimp only at hf
    refine e_thenN ?_
    refine wp_seq ?_
    refine c_rs ?_ -- region 7
    refine s_move h rfl _ rfl rfl (by decide) rfl (fun a h => ?_)
    obtain ⟨x97, h98, hf⟩ := bsome hf
    have hX := field_Reader_Done_ok Fu (S0 := snapAll _) g7 x63 ⟨[.int .i64 x63.1, .slice A65 x63.2.1.length c66, .bool x63.2.2], h.m.boxAll (i := 0) rfl, ⟨[.int .i64 x63.1], [.slice A65 x63.2.1.length c66, .bool x63.2.2], rfl, ⟨rfl, hr64⟩, ⟨[.slice A65 x63.2.1.length c66], [.bool x63.2.2], rfl, ⟨_, _, rfl, (hs67).mono (h.m.leAll (i := 2) rfl)⟩, rfl⟩⟩⟩ _ h98 _ h.startAll
    refine q_callX hX h rfl rfl rfl (by decide) Try.func77 rfl rfl rfl (fun a w v L1 S1 hR hb1 h => ?_)
    obtain ⟨rfl, rfl, hr100, _⟩ := hR
    refine s_assign h rfl _ rfl rfl (by decide) rfl (fun a h => ?_)
    refine l_end ?_
    refine c_rs ?_ -- region 8
    refine s_move h rfl _ rfl rfl (by decide) rfl (fun a h => ?_)
    refine s_x h rfl rfl (by decide) (x_bin h.k rfl rfl rfl ib_neq) (fun a h => ?_)
    refine l_end ?_
    refine c_cond h rfl (fun hb => ?_) (fun hb => ?_)
    · rw [if_pos (of_decide_eq_true hb)] at hf
      refine c_rs ?_ -- region 9
      refine s_move h rfl _ rfl rfl (by decide) rfl (fun a h => ?_)
      refine s_assign h rfl _ rfl rfl (by decide) rfl (fun a h => ?_)
      refine s_assign h rfl _ rfl rfl (by decide) rfl (fun a h => ?_)
      refine l_end ?_
      refine wp_ret ?_
      refine e_thenR ?_
      obtain rfl := Option.some.inj hf
      have h := h.mem (h.m.nilrow 77 10)
      exact r_ret2 h rfl (rv_tmp h rfl) (rv_tmp h rfl) ⟨_, [.row (.slice none ([]).length 0) 77 10 ([]).length []], _, rfl, ⟨none, 0, [], rfl, rfl, (show reps (tyP (tyP tyI (tyP tyI (tyP tyI (tyP tyI (tyP tyI (tyP (tyL ty8) (tyL ty8))))))) (tyP tyI (tyP tyI (tyL ty8)))) S55 [] [] from rfl), hr100, trivial⟩, rfl, up57, (h.m.pick [0, 3] _ (by decide) rfl)⟩
    · rw [if_neg (of_decide_eq_false hb)] at hf
      refine wp_skip ?_
      refine e_thenN ?_
      refine c_rs ?_ -- region 10
      refine s_assign h rfl _ rfl rfl (by decide) rfl (fun a h => ?_)
      refine l_end ?_
      refine wp_seq ?_
      refine c_rs ?_ -- region 11
      refine s_move h rfl _ rfl rfl (by decide) rfl (fun a h => ?_)
      have hr102 : r64 (x58.length : Int) := len_r (h.m.rowLen (i := 1) rfl)
      refine s_x h rfl rfl (by decide) (x_len h.k rfl Try.underlying148 rfl) (fun a h => ?_)
      refine s_move h rfl _ rfl rfl (by decide) rfl (fun a h => ?_)
      refine l_end ?_
      obtain ⟨o103, hl104, hf⟩ := bsome hf
      refine c_fin (fun a w => ∃ (S125 : Snap), ∃ (x128 : List ((Int × Int × Int × Int × Int × (List UInt8) × (List UInt8)) × Int × Int × (List UInt8))), ∃ (A129 : Option Addr), ∃ (c130 : Nat), ∃ (cs131 : List Value), (.inr x128) = o103 ∧ Snap.le S55 S125 ∧ Up (ownL ([] ++ [.sn S0])) w0 S0 S125 ∧ reps (tyP (tyP tyI (tyP tyI (tyP tyI (tyP tyI (tyP tyI (tyP (tyL ty8) (tyL ty8))))))) (tyP tyI (tyP tyI (tyL ty8)))) S125 cs131 x128 ∧ St 52 w0 (ownL ([] ++ [.sn S0])) [(9, .slice A129 x128.length c130)] [.row (.slice A129 x128.length c130) 77 10 x128.length cs131, .sn S125] a w) ?_ ?_
      · refine wp_block ?_
        have h := h.mem (h.m.nilrow 77 10)
        have h := h.pick [0, 2, 3] (by decide) rfl
        refine c_loop (fun m134 a w => ∃ (S115 : Snap), ∃ (x118 : List ((Int × Int × Int × Int × Int × (List UInt8) × (List UInt8)) × Int × Int × (List UInt8))), ∃ (A119 : Option Addr), ∃ (c120 : Nat), ∃ (cs121 : List Value), ∃ (x123 : Int), script_Unpack_l1 Fu a1 x58 m134 x118 x123 = some o103 ∧ Snap.le S55 S115 ∧ Up (ownL ([] ++ [.sn S0])) w0 S0 S115 ∧ reps (tyP (tyP tyI (tyP tyI (tyP tyI (tyP tyI (tyP tyI (tyP (tyL ty8) (tyL ty8))))))) (tyP tyI (tyP tyI (tyL ty8)))) S115 cs121 x118 ∧ r64 x123 ∧ St 52 w0 (ownL ([] ++ [.sn S0])) [(1, .int .i64 a1), (9, .slice A119 x118.length c120), (31, .slice A59 x58.length c60), (32, .int .i64 (x58.length : Int)), (33, .int .i64 x123)] [.row (.slice A119 x118.length c120) 77 10 x118.length cs121, .row (.slice A59 x58.length c60) 22 1 x58.length cs61, .sn S115] a w) Fu ⟨S55, [], none, 0, [], 0, hl104, (Snap.le.refl _), up57, (show reps (tyP (tyP tyI (tyP tyI (tyP tyI (tyP tyI (tyP tyI (tyP (tyL ty8) (tyL ty8))))))) (tyP tyI (tyP tyI (tyL ty8)))) S55 [] [] from rfl), (show r64 0 from ⟨by decide, by decide⟩), h.has (by exact ⟨rfl, rfl, rfl, rfl, rfl, trivial⟩)⟩ (fun m134 a w hI => ?_)
        obtain ⟨S115, x118, A119, c120, cs121, x123, hl133, le116, up117, hq122, hr124, h⟩ := hI
        obtain _ | m134 := m134
        · rw [script_Unpack_l1] at hl133; cases hl133
        rw [script_Unpack_l1] at hl133
        refine c_rs ?_ -- region 12
        refine s_x h rfl rfl (by decide) (x_bin h.k rfl rfl rfl ib_lss) (fun a h => ?_)
        refine l_end ?_
        refine c_cs h rfl (fun hb => ?_) (fun hb => ?_)
        · rw [if_pos (of_decide_eq_true hb)] at hl133
          refine wp_skip ?_
          refine e_thenN ?_
          refine wp_seq ?_
          refine wp_block ?_
          refine c_rs ?_ -- region 13
          obtain ⟨m136, h137, hl133⟩ := bsome hl133
          obtain ⟨hi138, hm139⟩ := ix_some h137
          obtain ⟨g141, hA140⟩ := h.m.rowHead (i := 1) rfl (Nat.lt_of_le_of_lt (Nat.zero_le _) hm139)
          refine s_x h rfl rfl (by decide) (x_iaddrE h.k rfl Try.underlying148 sz_Suint8 hA140 rfl rfl hi138 hm139) (fun a h => ?_)
          obtain ⟨x142, h143, hl133⟩ := bsome hl133
          obtain ⟨u144, hv145, hu146⟩ := ((hq62.mono le116)).cell rfl h143
          obtain ⟨A147, c148, e150, hs149⟩ := hu146
          cases e150
          refine s_x h rfl rfl (by decide) (x_ld h.k rfl Try.underlying22 rfl rfl (h.m.cellRowE (i := 1) rfl hA140 _ (by rw [Nat.mul_one]; exact hv145))) (fun a h => ?_)
          refine s_assign h rfl _ rfl rfl (by decide) rfl (fun a h => ?_)
          refine l_end ?_
          refine c_rs ?_ -- region 14
          refine s_move h rfl _ rfl rfl (by decide) rfl (fun a h => ?_)
          refine s_move h rfl _ rfl rfl (by decide) rfl (fun a h => ?_)
          obtain ⟨x151, h152, hl133⟩ := bsome hl133
          have h := h.pick [2, 0, 1] (by decide) rfl
          have hX := script_Take_ok Fu (S0 := S115) A147 c148 x142 hs149 a1 hra1 _ h152 _ (h.sub (Ls := []))
          refine q_callY (Ls := []) hX h up117 rfl rfl rfl (by decide) Try.func45 rfl rfl rfl (fun a w v L1 S154 hR le156 up155 h => ?_)
          obtain ⟨k157, rfl, rfl, hv158, hr193, _⟩ := hR
          obtain ⟨k159, k160, rfl, ⟨k161, k162, rfl, ⟨rfl, hr163⟩, ⟨k164, k165, rfl, ⟨rfl, hr166⟩, ⟨k167, k168, rfl, ⟨rfl, hr169⟩, ⟨k170, k171, rfl, ⟨rfl, hr172⟩, ⟨k173, k174, rfl, ⟨rfl, hr175⟩, ⟨k176, k177, rfl, ⟨A178, c179, rfl, hs180⟩, ⟨A181, c182, rfl, hs183⟩⟩⟩⟩⟩⟩⟩, ⟨k184, k185, rfl, ⟨rfl, hr186⟩, ⟨k187, k188, rfl, ⟨rfl, hr189⟩, ⟨A190, c191, rfl, hs192⟩⟩⟩⟩ := hv158
          refine s_move h rfl _ rfl rfl (by decide) rfl (fun a h => ?_)
          refine s_x h rfl rfl (by decide) (x_ext h.k rfl rfl rfl) (fun a h => ?_)
          refine s_x h rfl rfl (by decide) (x_ext h.k rfl rfl rfl) (fun a h => ?_)
          refine s_alloc h rfl rfl rfl (by decide) zi_api_Event rfl (fun a w g194 h => ?_)
          refine s_stW h rfl rfl rfl ag_api_Event rfl (es := [.int .i64 x151.1.1.1, .int .i64 x151.1.1.2.1, .int .i64 x151.1.1.2.2.1, .int .i64 x151.1.1.2.2.2.1, .int .i64 x151.1.1.2.2.2.2.1, .slice A178 x151.1.1.2.2.2.2.2.1.length c179, .slice A181 x151.1.1.2.2.2.2.2.2.length c182, .int .i64 x151.1.2.1, .int .i64 x151.1.2.2.1, .slice A190 x151.1.2.2.2.length c191]) rfl rfl (by simp [Value.oneCell']) 0 rfl rfl (fun a w h => ?_)
          refine s_assign h rfl _ rfl rfl (by decide) rfl (fun a h => ?_)
          refine l_end ?_
          refine wp_seq ?_
          refine c_rs ?_ -- region 15
          refine s_move h rfl _ rfl rfl (by decide) rfl (fun a h => ?_)
          refine s_x h rfl rfl (by decide) (x_bin h.k rfl rfl rfl ib_neq) (fun a h => ?_)
          refine l_end ?_
          refine c_cond h rfl (fun hb => ?_) (fun hb => ?_)
          · rw [if_pos (of_decide_eq_true hb)] at hl133
            refine c_rs ?_ -- region 16
            refine s_move h rfl _ rfl rfl (by decide) rfl (fun a h => ?_)
            refine s_assign h rfl _ rfl rfl (by decide) rfl (fun a h => ?_)
            refine s_assign h rfl _ rfl rfl (by decide) rfl (fun a h => ?_)
            refine l_end ?_
            refine wp_ret ?_
            refine e_thenR ?_
            refine e_blkR ?_
            refine e_thenR ?_
            refine e_thenR ?_
            refine e_blkR ?_
            refine e_thenR ?_
            cases hl133
            try dsimp only at hf
            refine e_thenR ?_
            obtain rfl := Option.some.inj hf
            have h := h.mem (h.m.nilrow 77 10)
            exact r_ret2 h rfl (rv_tmp h rfl) (rv_tmp h rfl) ⟨_, [.row (.slice none ([]).length 0) 77 10 ([]).length []], _, rfl, ⟨none, 0, [], rfl, rfl, (show reps (tyP (tyP tyI (tyP tyI (tyP tyI (tyP tyI (tyP tyI (tyP (tyL ty8) (tyL ty8))))))) (tyP tyI (tyP tyI (tyL ty8)))) S154 [] [] from rfl), hr193, trivial⟩, rfl, up155, (h.m.pick [0, 2] _ (by decide) rfl)⟩
          · rw [if_neg (of_decide_eq_false hb)] at hl133
            refine wp_skip ?_
            refine e_thenN ?_
            refine c_r ?_ -- region 17
            refine s_move h rfl _ rfl rfl (by decide) rfl (fun a h => ?_)
            refine s_x h rfl rfl (by decide) (x_ldR h.k rfl ag_api_Event rfl ([.int .i64 x151.1.1.1, .int .i64 x151.1.1.2.1, .int .i64 x151.1.1.2.2.1, .int .i64 x151.1.1.2.2.2.1, .int .i64 x151.1.1.2.2.2.2.1, .slice A178 x151.1.1.2.2.2.2.2.1.length c179, .slice A181 x151.1.1.2.2.2.2.2.2.length c182, .int .i64 x151.1.2.1, .int .i64 x151.1.2.2.1, .slice A190 x151.1.2.2.2.length c191]) rfl (h.m.range0 (i := 0) rfl)) (fun a h => ?_)
            refine q_bslice (T := tyP (tyP tyI (tyP tyI (tyP tyI (tyP tyI (tyP tyI (tyP (tyL ty8) (tyL ty8))))))) (tyP tyI (tyP tyI (tyL ty8)))) (S := S154) h rfl rfl rfl (by decide) Try.underlying82 zi_api_Event (by decide) (by decide) (by decide) (by decide) [.agg ([.int .i64 x151.1.1.1, .int .i64 x151.1.1.2.1, .int .i64 x151.1.1.2.2.1, .int .i64 x151.1.1.2.2.2.1, .int .i64 x151.1.1.2.2.2.2.1, .slice A178 x151.1.1.2.2.2.2.2.1.length c179, .slice A181 x151.1.1.2.2.2.2.2.2.length c182, .int .i64 x151.1.2.1, .int .i64 x151.1.2.2.1, .slice A190 x151.1.2.2.2.length c191]).toArray] rfl rfl (C := [[.int .i64 x151.1.1.1, .int .i64 x151.1.1.2.1, .int .i64 x151.1.1.2.2.1, .int .i64 x151.1.1.2.2.2.1, .int .i64 x151.1.1.2.2.2.2.1, .slice A178 x151.1.1.2.2.2.2.2.1.length c179, .slice A181 x151.1.1.2.2.2.2.2.2.length c182, .int .i64 x151.1.2.1, .int .i64 x151.1.2.2.1, .slice A190 x151.1.2.2.2.length c191]]) rfl (xs := [x151.1]) ⟨[.int .i64 x151.1.1.1, .int .i64 x151.1.1.2.1, .int .i64 x151.1.1.2.2.1, .int .i64 x151.1.1.2.2.2.1, .int .i64 x151.1.1.2.2.2.2.1, .slice A178 x151.1.1.2.2.2.2.2.1.length c179, .slice A181 x151.1.1.2.2.2.2.2.2.length c182, .int .i64 x151.1.2.1, .int .i64 x151.1.2.2.1, .slice A190 x151.1.2.2.2.length c191], _, rfl, ⟨[.int .i64 x151.1.1.1, .int .i64 x151.1.1.2.1, .int .i64 x151.1.1.2.2.1, .int .i64 x151.1.1.2.2.2.1, .int .i64 x151.1.1.2.2.2.2.1, .slice A178 x151.1.1.2.2.2.2.2.1.length c179, .slice A181 x151.1.1.2.2.2.2.2.2.length c182], [.int .i64 x151.1.2.1, .int .i64 x151.1.2.2.1, .slice A190 x151.1.2.2.2.length c191], rfl, ⟨[.int .i64 x151.1.1.1], [.int .i64 x151.1.1.2.1, .int .i64 x151.1.1.2.2.1, .int .i64 x151.1.1.2.2.2.1, .int .i64 x151.1.1.2.2.2.2.1, .slice A178 x151.1.1.2.2.2.2.2.1.length c179, .slice A181 x151.1.1.2.2.2.2.2.2.length c182], rfl, ⟨rfl, hr163⟩, ⟨[.int .i64 x151.1.1.2.1], [.int .i64 x151.1.1.2.2.1, .int .i64 x151.1.1.2.2.2.1, .int .i64 x151.1.1.2.2.2.2.1, .slice A178 x151.1.1.2.2.2.2.2.1.length c179, .slice A181 x151.1.1.2.2.2.2.2.2.length c182], rfl, ⟨rfl, hr166⟩, ⟨[.int .i64 x151.1.1.2.2.1], [.int .i64 x151.1.1.2.2.2.1, .int .i64 x151.1.1.2.2.2.2.1, .slice A178 x151.1.1.2.2.2.2.2.1.length c179, .slice A181 x151.1.1.2.2.2.2.2.2.length c182], rfl, ⟨rfl, hr169⟩, ⟨[.int .i64 x151.1.1.2.2.2.1], [.int .i64 x151.1.1.2.2.2.2.1, .slice A178 x151.1.1.2.2.2.2.2.1.length c179, .slice A181 x151.1.1.2.2.2.2.2.2.length c182], rfl, ⟨rfl, hr172⟩, ⟨[.int .i64 x151.1.1.2.2.2.2.1], [.slice A178 x151.1.1.2.2.2.2.2.1.length c179, .slice A181 x151.1.1.2.2.2.2.2.2.length c182], rfl, ⟨rfl, hr175⟩, ⟨[.slice A178 x151.1.1.2.2.2.2.2.1.length c179], [.slice A181 x151.1.1.2.2.2.2.2.2.length c182], rfl, ⟨_, _, rfl, hs180⟩, ⟨_, _, rfl, hs183⟩⟩⟩⟩⟩⟩⟩, ⟨[.int .i64 x151.1.2.1], [.int .i64 x151.1.2.2.1, .slice A190 x151.1.2.2.2.length c191], rfl, ⟨rfl, hr186⟩, ⟨[.int .i64 x151.1.2.2.1], [.slice A190 x151.1.2.2.2.length c191], rfl, ⟨rfl, hr189⟩, ⟨_, _, rfl, hs192⟩⟩⟩⟩, rfl⟩ (by intro c hc; simp only [List.mem_cons, List.not_mem_nil, or_false] at hc; subst hc; rfl) (fun a w A196 h => ?_)
            have hb197 : reps (tyP (tyP tyI (tyP tyI (tyP tyI (tyP tyI (tyP tyI (tyP (tyL ty8) (tyL ty8))))))) (tyP tyI (tyP tyI (tyL ty8)))) S154 ([[.int .i64 x151.1.1.1, .int .i64 x151.1.1.2.1, .int .i64 x151.1.1.2.2.1, .int .i64 x151.1.1.2.2.2.1, .int .i64 x151.1.1.2.2.2.2.1, .slice A178 x151.1.1.2.2.2.2.2.1.length c179, .slice A181 x151.1.1.2.2.2.2.2.2.length c182, .int .i64 x151.1.2.1, .int .i64 x151.1.2.2.1, .slice A190 x151.1.2.2.2.length c191]]).flatten [x151.1] := ⟨[.int .i64 x151.1.1.1, .int .i64 x151.1.1.2.1, .int .i64 x151.1.1.2.2.1, .int .i64 x151.1.1.2.2.2.1, .int .i64 x151.1.1.2.2.2.2.1, .slice A178 x151.1.1.2.2.2.2.2.1.length c179, .slice A181 x151.1.1.2.2.2.2.2.2.length c182, .int .i64 x151.1.2.1, .int .i64 x151.1.2.2.1, .slice A190 x151.1.2.2.2.length c191], _, rfl, ⟨[.int .i64 x151.1.1.1, .int .i64 x151.1.1.2.1, .int .i64 x151.1.1.2.2.1, .int .i64 x151.1.1.2.2.2.1, .int .i64 x151.1.1.2.2.2.2.1, .slice A178 x151.1.1.2.2.2.2.2.1.length c179, .slice A181 x151.1.1.2.2.2.2.2.2.length c182], [.int .i64 x151.1.2.1, .int .i64 x151.1.2.2.1, .slice A190 x151.1.2.2.2.length c191], rfl, ⟨[.int .i64 x151.1.1.1], [.int .i64 x151.1.1.2.1, .int .i64 x151.1.1.2.2.1, .int .i64 x151.1.1.2.2.2.1, .int .i64 x151.1.1.2.2.2.2.1, .slice A178 x151.1.1.2.2.2.2.2.1.length c179, .slice A181 x151.1.1.2.2.2.2.2.2.length c182], rfl, ⟨rfl, hr163⟩, ⟨[.int .i64 x151.1.1.2.1], [.int .i64 x151.1.1.2.2.1, .int .i64 x151.1.1.2.2.2.1, .int .i64 x151.1.1.2.2.2.2.1, .slice A178 x151.1.1.2.2.2.2.2.1.length c179, .slice A181 x151.1.1.2.2.2.2.2.2.length c182], rfl, ⟨rfl, hr166⟩, ⟨[.int .i64 x151.1.1.2.2.1], [.int .i64 x151.1.1.2.2.2.1, .int .i64 x151.1.1.2.2.2.2.1, .slice A178 x151.1.1.2.2.2.2.2.1.length c179, .slice A181 x151.1.1.2.2.2.2.2.2.length c182], rfl, ⟨rfl, hr169⟩, ⟨[.int .i64 x151.1.1.2.2.2.1], [.int .i64 x151.1.1.2.2.2.2.1, .slice A178 x151.1.1.2.2.2.2.2.1.length c179, .slice A181 x151.1.1.2.2.2.2.2.2.length c182], rfl, ⟨rfl, hr172⟩, ⟨[.int .i64 x151.1.1.2.2.2.2.1], [.slice A178 x151.1.1.2.2.2.2.2.1.length c179, .slice A181 x151.1.1.2.2.2.2.2.2.length c182], rfl, ⟨rfl, hr175⟩, ⟨[.slice A178 x151.1.1.2.2.2.2.2.1.length c179], [.slice A181 x151.1.1.2.2.2.2.2.2.length c182], rfl, ⟨_, _, rfl, hs180⟩, ⟨_, _, rfl, hs183⟩⟩⟩⟩⟩⟩⟩, ⟨[.int .i64 x151.1.2.1], [.int .i64 x151.1.2.2.1, .slice A190 x151.1.2.2.2.length c191], rfl, ⟨rfl, hr186⟩, ⟨[.int .i64 x151.1.2.2.1], [.slice A190 x151.1.2.2.2.length c191], rfl, ⟨rfl, hr189⟩, ⟨_, _, rfl, hs192⟩⟩⟩⟩, rfl⟩
            obtain ⟨x198, h199, hl133⟩ := bsome hl133
            refine q_append (T := tyP (tyP tyI (tyP tyI (tyP tyI (tyP tyI (tyP tyI (tyP (tyL ty8) (tyL ty8))))))) (tyP tyI (tyP tyI (tyL ty8)))) (S := S154) h rfl rfl rfl (by decide) Try.underlying82 zb_api_Event rfl (by decide) rfl 3 rfl (hq122.mono le156) rfl hb197 (h.m.rdRowA (i := 0) rfl) h199 (fun a w A200 c201 cs202 hq203 h => ?_)
            refine s_assign h rfl _ rfl rfl (by decide) rfl (fun a h => ?_)
            refine l_nil ?_
            refine e_blkN ?_
            refine e_thenN ?_
            refine c_r ?_ -- region 18
            refine s_x h rfl rfl (by decide) (x_bin h.k rfl rfl rfl (ib_add rfl)) (fun a h => ?_)
            refine s_move h rfl _ rfl rfl (by decide) rfl (fun a h => ?_)
            refine l_nil ?_
            have h := h.pick [3, 4, 2] (by decide) rfl
            exact e_thenN ⟨m134, Nat.lt_succ_self _, S154, x198, A200, c201, cs202, w64 (x123 + 1), hl133, (le116.trans le156), up155, hq203, (w64_r _), h.has (by exact ⟨rfl, rfl, rfl, rfl, rfl, trivial⟩)⟩
        · rw [if_neg (of_decide_eq_false hb)] at hl133
          refine wp_exit ?_
          refine e_thenX ?_
          refine e_thenX ?_
          refine e_blkX ?_
          refine e_thenN ?_
          have h := h.pick [0, 2] (by decide) rfl
          exact ⟨S115, x118, A119, c120, cs121, (Option.some.inj hl133), le116, up117, hq122, h.has (by exact ⟨rfl, trivial⟩)⟩
      · rintro a w ⟨S125, x128, A129, c130, cs131, rfl, le126, up127, hq132, h⟩
        try dsimp only at hf
        refine e_thenN ?_
        refine c_rs ?_ -- region 19
        refine s_move h rfl _ rfl rfl (by decide) rfl (fun a h => ?_)
        refine s_assign h rfl _ rfl rfl (by decide) rfl (fun a h => ?_)
        refine s_assign h rfl _ rfl rfl (by decide) rfl (fun a h => ?_)
        refine l_end ?_
        refine wp_ret ?_
        obtain rfl := Option.some.inj hf
        exact r_ret2 h rfl (rv_tmp h rfl) (rv_tmp h rfl) ⟨_, [.row (.slice A129 x128.length c130) 77 10 x128.length cs131], _, rfl, ⟨A129, c130, cs131, rfl, rfl, hq132, (show r64 0 from ⟨by decide, by decide⟩), trivial⟩, rfl, up127, h.m⟩
end Go.Proofs.Ythaakmdafnjkpaa
