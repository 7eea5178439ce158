/- Cc: Go functions as plain functions, and that they are so (written by xt.py). -/
import Derived.Test.YtcjleeclpmgbjaaDoorCb
import Derived.Test.YtcjleeclpmgbjaaDoorCl
import Derived.Test.YtcjleeclpmgbjaaDoorCm
import Derived.Test.YtcjleeclpmgbjaaDoorJn
import Derived.Test.YtcjleeclpmgbjaaDoorPs
set_option linter.unusedVariables false
set_option linter.unusedSimpArgs false
namespace Go.Proofs.YtcjleeclpmgbjaaDoor
open Go.RowKit
def code_check (Fu : Nat) (a0 : List UInt8) : Option UInt8 :=
  (sha_Sum Fu ([a0])).bind fun x3 => (ix 32 0).bind fun m12 => (x3[m12]?).bind fun x16 => some x16
set_option maxRecDepth 100000 in
set_option maxHeartbeats 2000000 in
theorem code_check_ok (Fu : Nat) {S0 : Snap} (Aa0 : Option Addr) (ca0 : Nat) (a0 : List UInt8) (hsa0 : slS ty8 S0 Aa0 ca0 a0) (r : UInt8) (hf : code_check Fu a0 = some r) (w0 : World) (hm : Mem w0 (ownL ([] ++ [.sn S0])) ([] ++ [.sn S0]) w0) :
    Calls Tryd.prog 32 #[.slice Aa0 a0.length ca0] w0 (Ret w0 S0 [] (fun v L1 S1 => v = .int .u8 (r.toNat : Int) ∧ L1 = [] ∧ True)) := by
  unfold code_check at hf
  refine c_enterM Tryd.func32 rfl 9 rfl (by simp) _ hm _ rfl (fun a h => ?_)
  refine c_rs ?_ -- region 0
  refine s_assign h rfl _ rfl rfl (by decide) rfl (fun a h => ?_)
  refine l_end ?_
  refine c_rs ?_ -- region 1
  refine s_move h rfl _ rfl rfl (by decide) rfl (fun a h => ?_)
  refine q_bslice (T := tyL ty8) (S := S0) h rfl rfl rfl (by decide) Tryd.underlying109 zi_Suint8 (by decide) (by decide) (by decide) (by decide) [.slice Aa0 a0.length ca0] rfl rfl (C := [[.slice Aa0 a0.length ca0]]) rfl (xs := [a0]) ⟨[.slice Aa0 a0.length ca0], _, rfl, ⟨_, _, rfl, hsa0⟩, rfl⟩ (by intro c hc; simp only [List.mem_cons, List.not_mem_nil, or_false] at hc; subst hc; rfl) (fun a w A1 h => ?_)
  have hb2 : reps (tyL ty8) S0 ([[.slice Aa0 a0.length ca0]] : List (List Value)).flatten [a0] := ⟨[.slice Aa0 a0.length ca0], _, rfl, ⟨_, _, rfl, hsa0⟩, rfl⟩
  obtain ⟨x3, h4, hf⟩ := bsome hf
  have hX := sha_Sum_ok Fu (S0 := snapAll _) A1 1 ([a0]) (h.m.rowAll (i := 0) rfl (j := 1) rfl hb2) _ h4 _ h.startAll
  refine q_callX hX h rfl rfl rfl (by decide) Tryd.func55 rfl rfl rfl (fun a w v L1 S1 hR hb1 h => ?_)
  obtain ⟨k6, rfl, rfl, hv7, _⟩ := hR
  obtain ⟨hs8, hl9⟩ := hv7
  have hq10 := hs8.fl (S' := S0) fl_8
  refine s_alloc h rfl rfl rfl (by decide) zi_A32_uint8 rfl (fun a w g11 h => ?_)
  refine s_stW h rfl rfl rfl ag_A32_uint8 rfl (es := k6) rfl ((hq10).len.trans (by rw [hl9]; rfl)) (hq10).one 0 rfl (by first | rfl | simp_all) (fun a w h => ?_)
  refine l_end ?_
  refine c_rs ?_ -- region 2
  obtain ⟨m12, h13, hf⟩ := bsome hf
  obtain ⟨hi14, hm15⟩ := ix_some h13
  refine s_x h rfl rfl (by decide) (x_iaddrA h.k rfl Tryd.underlying68 sz_uint8 rfl rfl hi14 hm15 rfl) (fun a h => ?_)
  obtain ⟨x16, h17, hf⟩ := bsome hf
  obtain ⟨u18, hv19, hu20⟩ := (hq10).cell rfl h17
  cases hu20
  refine s_x h rfl rfl (by decide) (x_ld h.k rfl Tryd.underlying5 rfl rfl ((h.m.cell (i := 0) rfl _).trans (by rw [Nat.zero_add, Nat.mul_one]; exact hv19))) (fun a h => ?_)
  refine s_assign h rfl _ rfl rfl (by decide) rfl (fun a h => ?_)
  refine l_end ?_
  refine wp_ret ?_
  rw [← Option.some.inj hf]
  exact r_ret1 h rfl (rv_tmp h rfl) ⟨_, [], _, rfl, ⟨rfl, rfl, trivial⟩, rfl, (Up.refl _ _ _), (h.m.pick [2] _ (by decide) rfl)⟩
def code_Put (Fu : Nat) (a0 : List UInt8) : Option ((List UInt8) × Int) :=
  if ((decide ((a0.length : Int) < 1)) || (decide (64 < (a0.length : Int)))) = true then (some (([] : List UInt8), 2)) else ((app 1 ([]) a0).bind fun x4 => (code_check Fu a0).bind fun x13 => (app 1 x4 ([x13])).bind fun x18 => (code_Letters Fu x18).bind fun x24 => (code_Groups Fu x24 5).bind fun x28 => (strings_Join Fu x28 ([45] : List UInt8)).bind fun x36 => some (x36, 0))
set_option maxRecDepth 100000 in
set_option maxHeartbeats 2000000 in
theorem code_Put_ok (Fu : Nat) {S0 : Snap} (Aa0 : Option Addr) (ca0 : Nat) (a0 : List UInt8) (hsa0 : slS ty8 S0 Aa0 ca0 a0) (r : (List UInt8) × Int) (hf : code_Put Fu a0 = some r) (w0 : World) (hm : Mem w0 (ownL ([] ++ [.sn S0])) ([] ++ [.sn S0]) w0) :
    Calls Tryd.prog 14 #[.slice Aa0 a0.length ca0] w0 (Ret w0 S0 [] (fun v L1 S1 => v = .tuple #[.string (sb r.1), .int .i64 r.2] ∧ L1 = [] ∧ r.1.length ≤ maxLen ∧ r64 r.2 ∧ True)) := by
  unfold code_Put at hf
  refine c_enterM Tryd.func14 rfl 24 rfl (by simp) _ hm _ rfl (fun a h => ?_)
  refine c_rs ?_ -- region 0
  refine s_assign h rfl _ rfl rfl (by decide) rfl (fun a h => ?_)
  refine s_assign h rfl _ rfl rfl (by decide) rfl (fun a h => ?_)
  refine l_end ?_
  refine wp_seq ?_
  refine c_rs ?_ -- region 1
  refine s_move h rfl _ rfl rfl (by decide) rfl (fun a h => ?_)
  refine s_x h rfl rfl (by decide) (x_len h.k rfl Tryd.underlying23 rfl) (fun a h => ?_)
  refine s_x h rfl rfl (by decide) (x_bin h.k rfl rfl rfl ib_lss) (fun a h => ?_)
  refine s_move h rfl _ rfl rfl (by decide) rfl (fun a h => ?_)
  refine q_grp h 4 (t := 8) 12 ((decide ((a0.length : Int) < 1)) || (decide (64 < (a0.length : Int)))) rfl (fun hB3 => ?_) (fun hB3 => ?_) (fun a w h => ?_)
  · refine g_no h rfl rfl rfl rfl hB3 rfl (by decide) (fun a h => ?_)
    refine g_no h rfl rfl rfl rfl hB3 rfl (by decide) (fun a h => ?_)
    refine g_no h rfl rfl rfl rfl hB3 rfl (by decide) (fun a h => ?_)
    refine s_x h rfl rfl (by decide) (x_pick (u' := undef) h.k rfl rfl (fun _ => rfl) (fun hh => absurd (hB3.symm.trans hh) (by decide))) (fun a h => ?_)
    exact (h.mid 3 rfl).val (by first | rfl | (rw [hB3]; first | rfl | simp))
  · refine g_yes h rfl rfl rfl rfl hB3 ?_
    refine s_move h rfl _ rfl rfl (by decide) rfl (fun a h => ?_)
    refine g_yes h rfl rfl rfl rfl hB3 ?_
    refine s_x h rfl rfl (by decide) (x_len h.k rfl Tryd.underlying23 rfl) (fun a h => ?_)
    refine g_yes h rfl rfl rfl rfl hB3 ?_
    refine s_x h rfl rfl (by decide) (x_bin h.k rfl rfl rfl ib_gtr) (fun a h => ?_)
    refine s_x h rfl rfl (by decide) (x_pick (u' := undef) h.k rfl rfl (fun hh => absurd (hB3.symm.trans hh) (by decide)) (fun _ => rfl)) (fun a h => ?_)
    exact (h.mid 3 rfl).val (by first | rfl | (rw [hB3]; first | rfl | simp))
  refine l_end ?_
  refine c_cond h rfl (fun hb => ?_) (fun hb => ?_)
  · rw [if_pos hb] at hf
    refine c_rs ?_ -- region 2
    refine s_assign h rfl _ rfl rfl (by decide) rfl (fun a h => ?_)
    refine s_assign h rfl _ rfl rfl (by decide) rfl (fun a h => ?_)
    refine l_end ?_
    refine wp_ret ?_
    refine e_thenR ?_
    obtain rfl := Option.some.inj hf
    exact r_ret2 h rfl (rv_tmp h rfl) (rv_tmp h rfl) ⟨_, [], _, rfl, ⟨rfl, rfl, (by decide), (show r64 2 from ⟨by decide, by decide⟩), trivial⟩, rfl, (Up.refl _ _ _), h.m⟩
  · rw [if_neg (by rw [hb]; decide)] at hf
    refine wp_skip ?_
    refine e_thenN ?_
    refine c_rs ?_ -- region 3
    refine q_bslice0 h rfl rfl rfl (by decide) Tryd.underlying23 sz_uint8 (fun a w A3 h => ?_)
    refine s_move h rfl _ rfl rfl (by decide) rfl (fun a h => ?_)
    obtain ⟨x4, h5, hf⟩ := bsome hf
    obtain ⟨_, _, vs6, hrd7, hrp8⟩ := id hsa0
    refine q_append (T := ty8) (S := S0) h rfl rfl rfl (by decide) Tryd.underlying23 zb_uint8 rfl (by decide) rfl 0 rfl (show reps ty8 S0 [] [] from rfl) rfl hrp8 (hrd7 _ (h.m.snOK (i := 1) rfl)) h5 (fun a w A9 c10 cs11 hq12 h => ?_)
    refine s_move h rfl _ rfl rfl (by decide) rfl (fun a h => ?_)
    obtain ⟨x13, h14, hf⟩ := bsome hf
    have hX := code_check_ok Fu (S0 := snapAll _) Aa0 ca0 a0 (hsa0.mono (h.m.leAll (i := 1) rfl)) _ h14 _ h.startAll
    refine q_callX hX h rfl rfl rfl (by decide) Tryd.func32 rfl rfl rfl (fun a w v L1 S1 hR hb1 h => ?_)
    obtain ⟨rfl, rfl, _⟩ := hR
    refine q_bslice (T := ty8) (S := S0) h rfl rfl rfl (by decide) Tryd.underlying23 zi_uint8 (by decide) (by decide) (by decide) (by decide) [.int .u8 (x13.toNat : Int)] rfl rfl (C := [[.int .u8 (x13.toNat : Int)]]) rfl (xs := [x13]) ⟨[.int .u8 (x13.toNat : Int)], _, rfl, rfl, rfl⟩ (by intro c hc; simp only [List.mem_cons, List.not_mem_nil, or_false] at hc; subst hc; rfl) (fun a w A16 h => ?_)
    have hb17 : reps ty8 S0 ([[.int .u8 (x13.toNat : Int)]] : List (List Value)).flatten [x13] := ⟨[.int .u8 (x13.toNat : Int)], _, rfl, rfl, rfl⟩
    obtain ⟨x18, h19, hf⟩ := bsome hf
    refine q_append (T := ty8) (S := S0) h rfl rfl rfl (by decide) Tryd.underlying23 zb_uint8 rfl (by decide) rfl 1 rfl hq12 rfl hb17 (h.m.rdRowA (i := 0) rfl) h19 (fun a w A20 c21 cs22 hq23 h => ?_)
    refine s_assign h rfl _ rfl rfl (by decide) rfl (fun a h => ?_)
    refine l_end ?_
    refine c_rs ?_ -- region 4
    refine s_move h rfl _ rfl rfl (by decide) rfl (fun a h => ?_)
    obtain ⟨x24, h25, hf⟩ := bsome hf
    have hX := code_Letters_ok Fu (S0 := snapAll _) A20 c21 x18 (h.m.rowAll (i := 1) rfl (j := 2) rfl hq23) _ h25 _ h.startAll
    refine q_callX hX h rfl rfl rfl (by decide) Tryd.func31 rfl rfl rfl (fun a w v L1 S1 hR hb1 h => ?_)
    obtain ⟨rfl, rfl, hr27, _⟩ := hR
    obtain ⟨x28, h29, hf⟩ := bsome hf
    have hX := code_Groups_ok Fu (S0 := snapAll _) x24 hr27 5 (show r64 5 from ⟨by decide, by decide⟩) _ h29 _ h.startAll
    refine q_callX hX h rfl rfl rfl (by decide) Tryd.func34 rfl rfl rfl (fun a w v L1 S1 hR hb1 h => ?_)
    obtain ⟨A31, c32, cs33, rfl, rfl, hq34, _⟩ := hR
    have hq35 := hq34.fl (S' := S0) fl_S
    obtain ⟨x36, h37, hf⟩ := bsome hf
    have hX := strings_Join_ok Fu (S0 := snapAll _) A31 c32 x28 (h.m.rowAll (i := 0) rfl (j := 3) rfl hq35) ([45] : List UInt8) (by decide) _ h37 _ h.startAll
    refine q_callX hX h rfl rfl rfl (by decide) Tryd.func33 rfl rfl rfl (fun a w v L1 S1 hR hb1 h => ?_)
    obtain ⟨rfl, rfl, hr39, _⟩ := hR
    refine s_assign h rfl _ rfl rfl (by decide) rfl (fun a h => ?_)
    refine s_assign h rfl _ rfl rfl (by decide) rfl (fun a h => ?_)
    refine l_end ?_
    refine wp_ret ?_
    obtain rfl := Option.some.inj hf
    exact r_ret2 h rfl (rv_tmp h rfl) (rv_tmp h rfl) ⟨_, [], _, rfl, ⟨rfl, rfl, hr39, (show r64 0 from ⟨by decide, by decide⟩), trivial⟩, rfl, (Up.refl _ _ _), (h.m.pick [3] _ (by decide) rfl)⟩
def chatelainelaw46_awake (Fu : Nat) : Option Bool :=
  (code_Put Fu ([(1 : UInt8), (2 : UInt8), (3 : UInt8)])).bind fun x3 => (code_Letters Fu ([(0 : UInt8)])).bind fun x10 => some (((decide (x10 = ([97, 97] : List UInt8))) && (decide (x3.2 = 0))) && (decide ((x3.1.length : Int) = 8)))
set_option maxRecDepth 100000 in
set_option maxHeartbeats 2000000 in
theorem chatelainelaw46_awake_ok (Fu : Nat) {S0 : Snap}  (r : Bool) (hf : chatelainelaw46_awake Fu = some r) (w0 : World) (hm : Mem w0 (ownL ([] ++ [.sn S0])) ([] ++ [.sn S0]) w0) :
    Calls Tryd.prog 13 #[] w0 (Ret w0 S0 [] (fun v L1 S1 => v = .bool r ∧ L1 = [] ∧ True)) := by
  unfold chatelainelaw46_awake at hf
  refine c_enterM Tryd.func13 rfl 20 rfl (by simp) _ hm _ rfl (fun a h => ?_)
  refine c_rs ?_ -- region 0
  refine s_assign h rfl _ rfl rfl (by decide) rfl (fun a h => ?_)
  refine l_end ?_
  refine c_rs ?_ -- region 1
  refine q_bslice (T := ty8) (S := S0) h rfl rfl rfl (by decide) Tryd.underlying23 zi_uint8 (by decide) (by decide) (by decide) (by decide) [.int .u8 1, .int .u8 2, .int .u8 3] rfl rfl (C := [[.int .u8 1], [.int .u8 2], [.int .u8 3]]) rfl (xs := [(1 : UInt8), (2 : UInt8), (3 : UInt8)]) ⟨[.int .u8 1], _, rfl, rfl, ⟨[.int .u8 2], _, rfl, rfl, ⟨[.int .u8 3], _, rfl, rfl, rfl⟩⟩⟩ (by simp only [List.mem_cons, List.not_mem_nil, or_false]; rintro c (rfl | rfl | rfl) <;> rfl) (fun a w A1 h => ?_)
  have hb2 : reps ty8 S0 ([[.int .u8 1], [.int .u8 2], [.int .u8 3]] : List (List Value)).flatten [(1 : UInt8), (2 : UInt8), (3 : UInt8)] := ⟨[.int .u8 1], _, rfl, rfl, ⟨[.int .u8 2], _, rfl, rfl, ⟨[.int .u8 3], _, rfl, rfl, rfl⟩⟩⟩
  obtain ⟨x3, h4, hf⟩ := bsome hf
  have hX := code_Put_ok Fu (S0 := snapAll _) A1 3 ([(1 : UInt8), (2 : UInt8), (3 : UInt8)]) (h.m.rowAll (i := 0) rfl (j := 1) rfl hb2) _ h4 _ h.startAll
  refine q_callX hX h rfl rfl rfl (by decide) Tryd.func14 rfl rfl rfl (fun a w v L1 S1 hR hb1 h => ?_)
  obtain ⟨rfl, rfl, hr6, hr7, _⟩ := hR
  refine s_move h rfl _ rfl rfl (by decide) rfl (fun a h => ?_)
  refine s_x h rfl rfl (by decide) (x_ext h.k rfl rfl rfl) (fun a h => ?_)
  refine s_x h rfl rfl (by decide) (x_ext h.k rfl rfl rfl) (fun a h => ?_)
  refine s_assign h rfl _ rfl rfl (by decide) rfl (fun a h => ?_)
  refine s_assign h rfl _ rfl rfl (by decide) rfl (fun a h => ?_)
  refine l_end ?_
  refine c_rs ?_ -- region 2
  refine q_bslice (T := ty8) (S := S0) h rfl rfl rfl (by decide) Tryd.underlying23 zi_uint8 (by decide) (by decide) (by decide) (by decide) [.int .u8 0] rfl rfl (C := [[.int .u8 0]]) rfl (xs := [(0 : UInt8)]) ⟨[.int .u8 0], _, rfl, rfl, rfl⟩ (by intro c hc; simp only [List.mem_cons, List.not_mem_nil, or_false] at hc; subst hc; rfl) (fun a w A8 h => ?_)
  have hb9 : reps ty8 S0 ([[.int .u8 0]] : List (List Value)).flatten [(0 : UInt8)] := ⟨[.int .u8 0], _, rfl, rfl, rfl⟩
  obtain ⟨x10, h11, hf⟩ := bsome hf
  have hX := code_Letters_ok Fu (S0 := snapAll _) A8 1 ([(0 : UInt8)]) (h.m.rowAll (i := 0) rfl (j := 2) rfl hb9) _ h11 _ h.startAll
  refine q_callX hX h rfl rfl rfl (by decide) Tryd.func31 rfl rfl rfl (fun a w v L1 S1 hR hb1 h => ?_)
  obtain ⟨rfl, rfl, hr13, _⟩ := hR
  refine s_x h rfl rfl (by decide) (x_eqlStr h.k rfl rfl rfl) (fun a h => ?_)
  refine s_move h rfl _ rfl rfl (by decide) rfl (fun a h => ?_)
  refine q_grp h 3 (t := 11) 14 ((decide (x10 = ([97, 97] : List UInt8))) && (decide (x3.2 = 0))) rfl (fun hB3 => ?_) (fun hB3 => ?_) (fun a w h => ?_)
  · refine g_yes h rfl rfl rfl rfl hB3 ?_
    refine s_move h rfl _ rfl rfl (by decide) rfl (fun a h => ?_)
    refine g_yes h rfl rfl rfl rfl hB3 ?_
    refine s_x h rfl rfl (by decide) (x_bin h.k rfl rfl rfl ib_eql) (fun a h => ?_)
    refine s_x h rfl rfl (by decide) (x_pick (u' := undef) h.k rfl rfl (fun _ => rfl) (fun hh => absurd (hB3.symm.trans hh) (by decide))) (fun a h => ?_)
    exact (h.mid 2 rfl).val (by first | rfl | (rw [hB3]; first | rfl | simp))
  · refine g_no h rfl rfl rfl rfl hB3 rfl (by decide) (fun a h => ?_)
    refine g_no h rfl rfl rfl rfl hB3 rfl (by decide) (fun a h => ?_)
    refine s_x h rfl rfl (by decide) (x_pick (u' := undef) h.k rfl rfl (fun hh => absurd (hB3.symm.trans hh) (by decide)) (fun _ => rfl)) (fun a h => ?_)
    exact (h.mid 2 rfl).val (by first | rfl | (rw [hB3]; first | rfl | simp))
  refine s_move h rfl _ rfl rfl (by decide) rfl (fun a h => ?_)
  refine q_grp h 4 (t := 15) 19 (((decide (x10 = ([97, 97] : List UInt8))) && (decide (x3.2 = 0))) && (decide ((x3.1.length : Int) = 8))) rfl (fun hB7 => ?_) (fun hB7 => ?_) (fun a w h => ?_)
  · refine g_yes h rfl rfl rfl rfl hB7 ?_
    refine s_move h rfl _ rfl rfl (by decide) rfl (fun a h => ?_)
    refine g_yes h rfl rfl rfl rfl hB7 ?_
    refine s_x h rfl rfl (by decide) (x_lenStr h.k rfl Tryd.underlying9 rfl) (fun a h => ?_)
    refine g_yes h rfl rfl rfl rfl hB7 ?_
    refine s_x h rfl rfl (by decide) (x_bin h.k rfl rfl rfl ib_eql) (fun a h => ?_)
    refine s_x h rfl rfl (by decide) (x_pick (u' := undef) h.k rfl rfl (fun _ => rfl) (fun hh => absurd (hB7.symm.trans hh) (by decide))) (fun a h => ?_)
    exact (h.mid 3 rfl).val (by first | rfl | (rw [hB7]; first | rfl | simp))
  · refine g_no h rfl rfl rfl rfl hB7 rfl (by decide) (fun a h => ?_)
    refine g_no h rfl rfl rfl rfl hB7 rfl (by decide) (fun a h => ?_)
    refine g_no h rfl rfl rfl rfl hB7 rfl (by decide) (fun a h => ?_)
    refine s_x h rfl rfl (by decide) (x_pick (u' := undef) h.k rfl rfl (fun hh => absurd (hB7.symm.trans hh) (by decide)) (fun _ => rfl)) (fun a h => ?_)
    exact (h.mid 3 rfl).val (by first | rfl | (rw [hB7]; first | rfl | simp))
  refine s_assign h rfl _ rfl rfl (by decide) rfl (fun a h => ?_)
  refine l_end ?_
  refine wp_ret ?_
  obtain rfl := Option.some.inj hf
  exact r_ret1 h rfl (rv_tmp h rfl) ⟨_, [], _, rfl, ⟨rfl, rfl, trivial⟩, rfl, (Up.refl _ _ _), (h.m.pick [2] _ (by decide) rfl)⟩
end Go.Proofs.YtcjleeclpmgbjaaDoor
