/- Rq: Go functions as plain functions, and that they are so (written by xt.py). -/
import Derived.Test.YtcjleeclpmgbjaaDoorOp
set_option linter.unusedVariables false
set_option linter.unusedSimpArgs false
namespace Go.Proofs.YtcjleeclpmgbjaaDoor
open Go.RowKit
def reply_known (Fu : Nat) : Option ((List Int)) :=
  some ([0, 1, 2, 3, 10, 11, 13, 20, 21, 22, 30, 31, 32, 33, 34, 35, 36, 37, 40, 41])
set_option maxRecDepth 100000 in
set_option maxHeartbeats 2000000 in
theorem reply_known_ok (Fu : Nat) {S0 : Snap}  (r : (List Int)) (hf : reply_known Fu = some r) (w0 : World) (hm : Mem w0 (ownL ([] ++ [.sn S0])) ([] ++ [.sn S0]) w0) :
    Calls Tryd.prog 28 #[] w0 (Ret w0 S0 [] (fun v L1 S1 => ∃ (k5 : List Value), v = .agg k5.toArray ∧ L1 = [] ∧ (tyA 20 tyI).rep S1 k5 r ∧ True)) := by
  unfold reply_known at hf
  refine c_enterM Tryd.func28 rfl 2 rfl (by simp) _ hm _ rfl (fun a h => ?_)
  refine c_rs ?_ -- region 0
  refine s_alloc h rfl rfl rfl (by decide) zi_A20_api_Errno rfl (fun a w g1 h => ?_)
  refine l_end ?_
  refine c_rs ?_ -- region 1
  obtain ⟨k3, hk4⟩ : ∃ k : List Value, k = [.int .i64 0, .int .i64 1, .int .i64 2, .int .i64 3, .int .i64 10, .int .i64 11, .int .i64 13, .int .i64 20, .int .i64 21, .int .i64 22, .int .i64 30, .int .i64 31, .int .i64 32, .int .i64 33, .int .i64 34, .int .i64 35, .int .i64 36, .int .i64 37, .int .i64 40, .int .i64 41] := ⟨_, rfl⟩
  have hq2 : reps tyI S0 k3 [0, 1, 2, 3, 10, 11, 13, 20, 21, 22, 30, 31, 32, 33, 34, 35, 36, 37, 40, 41] := by rw [hk4]; exact ⟨[.int .i64 0], _, rfl, ⟨rfl, (show r64 0 from ⟨by decide, by decide⟩)⟩, ⟨[.int .i64 1], _, rfl, ⟨rfl, (show r64 1 from ⟨by decide, by decide⟩)⟩, ⟨[.int .i64 2], _, rfl, ⟨rfl, (show r64 2 from ⟨by decide, by decide⟩)⟩, ⟨[.int .i64 3], _, rfl, ⟨rfl, (show r64 3 from ⟨by decide, by decide⟩)⟩, ⟨[.int .i64 10], _, rfl, ⟨rfl, (show r64 10 from ⟨by decide, by decide⟩)⟩, ⟨[.int .i64 11], _, rfl, ⟨rfl, (show r64 11 from ⟨by decide, by decide⟩)⟩, ⟨[.int .i64 13], _, rfl, ⟨rfl, (show r64 13 from ⟨by decide, by decide⟩)⟩, ⟨[.int .i64 20], _, rfl, ⟨rfl, (show r64 20 from ⟨by decide, by decide⟩)⟩, ⟨[.int .i64 21], _, rfl, ⟨rfl, (show r64 21 from ⟨by decide, by decide⟩)⟩, ⟨[.int .i64 22], _, rfl, ⟨rfl, (show r64 22 from ⟨by decide, by decide⟩)⟩, ⟨[.int .i64 30], _, rfl, ⟨rfl, (show r64 30 from ⟨by decide, by decide⟩)⟩, ⟨[.int .i64 31], _, rfl, ⟨rfl, (show r64 31 from ⟨by decide, by decide⟩)⟩, ⟨[.int .i64 32], _, rfl, ⟨rfl, (show r64 32 from ⟨by decide, by decide⟩)⟩, ⟨[.int .i64 33], _, rfl, ⟨rfl, (show r64 33 from ⟨by decide, by decide⟩)⟩, ⟨[.int .i64 34], _, rfl, ⟨rfl, (show r64 34 from ⟨by decide, by decide⟩)⟩, ⟨[.int .i64 35], _, rfl, ⟨rfl, (show r64 35 from ⟨by decide, by decide⟩)⟩, ⟨[.int .i64 36], _, rfl, ⟨rfl, (show r64 36 from ⟨by decide, by decide⟩)⟩, ⟨[.int .i64 37], _, rfl, ⟨rfl, (show r64 37 from ⟨by decide, by decide⟩)⟩, ⟨[.int .i64 40], _, rfl, ⟨rfl, (show r64 40 from ⟨by decide, by decide⟩)⟩, ⟨[.int .i64 41], _, rfl, ⟨rfl, (show r64 41 from ⟨by decide, by decide⟩)⟩, rfl⟩⟩⟩⟩⟩⟩⟩⟩⟩⟩⟩⟩⟩⟩⟩⟩⟩⟩⟩⟩
  refine s_x h rfl rfl (by decide) (x_build h.k rfl [(0, .int .i64 0), (1, .int .i64 1), (2, .int .i64 2), (3, .int .i64 3), (4, .int .i64 10), (5, .int .i64 11), (6, .int .i64 13), (7, .int .i64 20), (8, .int .i64 21), (9, .int .i64 22), (10, .int .i64 30), (11, .int .i64 31), (12, .int .i64 32), (13, .int .i64 33), (14, .int .i64 34), (15, .int .i64 35), (16, .int .i64 36), (17, .int .i64 37), (18, .int .i64 40), (19, .int .i64 41)] rfl k3 (by rw [hk4]; kernel_rfl)) (fun a h => ?_)
  refine s_stW h rfl rfl rfl ag_A20_api_Errno rfl (es := k3) rfl ((hq2).len.trans (by rw [(show ([0, 1, 2, 3, 10, 11, 13, 20, 21, 22, 30, 31, 32, 33, 34, 35, 36, 37, 40, 41] : List Int).length = 20 from rfl)]; rfl)) (hq2).one 0 rfl (by first | rfl | simp_all) (fun a w h => ?_)
  refine l_end ?_
  refine wp_ret ?_
  obtain rfl := Option.some.inj hf
  exact r_ret1 h rfl (rv_cellA h rfl 0 rfl ag_A20_api_Errno ((hq2).len.trans (by rw [(show ([0, 1, 2, 3, 10, 11, 13, 20, 21, 22, 30, 31, 32, 33, 34, 35, 36, 37, 40, 41] : List Int).length = 20 from rfl)]; rfl))) ⟨_, [], _, rfl, ⟨k3, rfl, rfl, ⟨hq2, (show ([0, 1, 2, 3, 10, 11, 13, 20, 21, 22, 30, 31, 32, 33, 34, 35, 36, 37, 40, 41] : List Int).length = 20 from rfl)⟩, trivial⟩, rfl, (Up.refl _ _ _), (h.m.pick [1] _ (by decide) rfl)⟩
def reply_words (Fu : Nat) : Option ((List (List UInt8))) :=
  some ([([111, 107] : List UInt8), ([110, 105, 108] : List UInt8), ([97, 114, 103] : List UInt8), ([108, 105, 109, 105, 116] : List UInt8), ([101, 110, 100] : List UInt8), ([102, 111, 114, 109] : List UInt8), ([101, 120, 116, 114, 97] : List UInt8), ([107, 101, 121] : List UInt8), ([115, 117, 109] : List UInt8), ([100, 114, 121] : List UInt8), ([99, 114, 101, 100] : List UInt8), ([110, 111, 110, 101] : List UInt8), ([114, 97, 110, 103, 101] : List UInt8), ([113, 117, 111, 116, 97] : List UInt8), ([102, 117, 108, 108] : List UInt8), ([99, 111, 117, 110, 116] : List UInt8), ([116, 119, 105, 99, 101] : List UInt8), ([111, 102, 102] : List UInt8), ([112, 111, 119, 101, 114] : List UInt8), ([100, 105, 115, 107] : List UInt8)])
set_option maxRecDepth 100000 in
set_option maxHeartbeats 2000000 in
theorem reply_words_ok (Fu : Nat) {S0 : Snap}  (r : (List (List UInt8))) (hf : reply_words Fu = some r) (w0 : World) (hm : Mem w0 (ownL ([] ++ [.sn S0])) ([] ++ [.sn S0]) w0) :
    Calls Tryd.prog 29 #[] w0 (Ret w0 S0 [] (fun v L1 S1 => ∃ (k5 : List Value), v = .agg k5.toArray ∧ L1 = [] ∧ (tyA 20 tyS).rep S1 k5 r ∧ True)) := by
  unfold reply_words at hf
  refine c_enterM Tryd.func29 rfl 2 rfl (by simp) _ hm _ rfl (fun a h => ?_)
  refine c_rs ?_ -- region 0
  refine s_alloc h rfl rfl rfl (by decide) zi_A20_string rfl (fun a w g1 h => ?_)
  refine l_end ?_
  refine c_rs ?_ -- region 1
  obtain ⟨k3, hk4⟩ : ∃ k : List Value, k = [.string (sb ([111, 107] : List UInt8)), .string (sb ([110, 105, 108] : List UInt8)), .string (sb ([97, 114, 103] : List UInt8)), .string (sb ([108, 105, 109, 105, 116] : List UInt8)), .string (sb ([101, 110, 100] : List UInt8)), .string (sb ([102, 111, 114, 109] : List UInt8)), .string (sb ([101, 120, 116, 114, 97] : List UInt8)), .string (sb ([107, 101, 121] : List UInt8)), .string (sb ([115, 117, 109] : List UInt8)), .string (sb ([100, 114, 121] : List UInt8)), .string (sb ([99, 114, 101, 100] : List UInt8)), .string (sb ([110, 111, 110, 101] : List UInt8)), .string (sb ([114, 97, 110, 103, 101] : List UInt8)), .string (sb ([113, 117, 111, 116, 97] : List UInt8)), .string (sb ([102, 117, 108, 108] : List UInt8)), .string (sb ([99, 111, 117, 110, 116] : List UInt8)), .string (sb ([116, 119, 105, 99, 101] : List UInt8)), .string (sb ([111, 102, 102] : List UInt8)), .string (sb ([112, 111, 119, 101, 114] : List UInt8)), .string (sb ([100, 105, 115, 107] : List UInt8))] := ⟨_, rfl⟩
  have hq2 : reps tyS S0 k3 [([111, 107] : List UInt8), ([110, 105, 108] : List UInt8), ([97, 114, 103] : List UInt8), ([108, 105, 109, 105, 116] : List UInt8), ([101, 110, 100] : List UInt8), ([102, 111, 114, 109] : List UInt8), ([101, 120, 116, 114, 97] : List UInt8), ([107, 101, 121] : List UInt8), ([115, 117, 109] : List UInt8), ([100, 114, 121] : List UInt8), ([99, 114, 101, 100] : List UInt8), ([110, 111, 110, 101] : List UInt8), ([114, 97, 110, 103, 101] : List UInt8), ([113, 117, 111, 116, 97] : List UInt8), ([102, 117, 108, 108] : List UInt8), ([99, 111, 117, 110, 116] : List UInt8), ([116, 119, 105, 99, 101] : List UInt8), ([111, 102, 102] : List UInt8), ([112, 111, 119, 101, 114] : List UInt8), ([100, 105, 115, 107] : List UInt8)] := by rw [hk4]; exact ⟨[.string (sb ([111, 107] : List UInt8))], _, rfl, ⟨rfl, (by decide)⟩, ⟨[.string (sb ([110, 105, 108] : List UInt8))], _, rfl, ⟨rfl, (by decide)⟩, ⟨[.string (sb ([97, 114, 103] : List UInt8))], _, rfl, ⟨rfl, (by decide)⟩, ⟨[.string (sb ([108, 105, 109, 105, 116] : List UInt8))], _, rfl, ⟨rfl, (by decide)⟩, ⟨[.string (sb ([101, 110, 100] : List UInt8))], _, rfl, ⟨rfl, (by decide)⟩, ⟨[.string (sb ([102, 111, 114, 109] : List UInt8))], _, rfl, ⟨rfl, (by decide)⟩, ⟨[.string (sb ([101, 120, 116, 114, 97] : List UInt8))], _, rfl, ⟨rfl, (by decide)⟩, ⟨[.string (sb ([107, 101, 121] : List UInt8))], _, rfl, ⟨rfl, (by decide)⟩, ⟨[.string (sb ([115, 117, 109] : List UInt8))], _, rfl, ⟨rfl, (by decide)⟩, ⟨[.string (sb ([100, 114, 121] : List UInt8))], _, rfl, ⟨rfl, (by decide)⟩, ⟨[.string (sb ([99, 114, 101, 100] : List UInt8))], _, rfl, ⟨rfl, (by decide)⟩, ⟨[.string (sb ([110, 111, 110, 101] : List UInt8))], _, rfl, ⟨rfl, (by decide)⟩, ⟨[.string (sb ([114, 97, 110, 103, 101] : List UInt8))], _, rfl, ⟨rfl, (by decide)⟩, ⟨[.string (sb ([113, 117, 111, 116, 97] : List UInt8))], _, rfl, ⟨rfl, (by decide)⟩, ⟨[.string (sb ([102, 117, 108, 108] : List UInt8))], _, rfl, ⟨rfl, (by decide)⟩, ⟨[.string (sb ([99, 111, 117, 110, 116] : List UInt8))], _, rfl, ⟨rfl, (by decide)⟩, ⟨[.string (sb ([116, 119, 105, 99, 101] : List UInt8))], _, rfl, ⟨rfl, (by decide)⟩, ⟨[.string (sb ([111, 102, 102] : List UInt8))], _, rfl, ⟨rfl, (by decide)⟩, ⟨[.string (sb ([112, 111, 119, 101, 114] : List UInt8))], _, rfl, ⟨rfl, (by decide)⟩, ⟨[.string (sb ([100, 105, 115, 107] : List UInt8))], _, rfl, ⟨rfl, (by decide)⟩, rfl⟩⟩⟩⟩⟩⟩⟩⟩⟩⟩⟩⟩⟩⟩⟩⟩⟩⟩⟩⟩
  refine s_x h rfl rfl (by decide) (x_build h.k rfl [(0, .string (sb ([111, 107] : List UInt8))), (1, .string (sb ([110, 105, 108] : List UInt8))), (2, .string (sb ([97, 114, 103] : List UInt8))), (3, .string (sb ([108, 105, 109, 105, 116] : List UInt8))), (4, .string (sb ([101, 110, 100] : List UInt8))), (5, .string (sb ([102, 111, 114, 109] : List UInt8))), (6, .string (sb ([101, 120, 116, 114, 97] : List UInt8))), (7, .string (sb ([107, 101, 121] : List UInt8))), (8, .string (sb ([115, 117, 109] : List UInt8))), (9, .string (sb ([100, 114, 121] : List UInt8))), (10, .string (sb ([99, 114, 101, 100] : List UInt8))), (11, .string (sb ([110, 111, 110, 101] : List UInt8))), (12, .string (sb ([114, 97, 110, 103, 101] : List UInt8))), (13, .string (sb ([113, 117, 111, 116, 97] : List UInt8))), (14, .string (sb ([102, 117, 108, 108] : List UInt8))), (15, .string (sb ([99, 111, 117, 110, 116] : List UInt8))), (16, .string (sb ([116, 119, 105, 99, 101] : List UInt8))), (17, .string (sb ([111, 102, 102] : List UInt8))), (18, .string (sb ([112, 111, 119, 101, 114] : List UInt8))), (19, .string (sb ([100, 105, 115, 107] : List UInt8)))] rfl k3 (by rw [hk4]; kernel_rfl)) (fun a h => ?_)
  refine s_stW h rfl rfl rfl ag_A20_string rfl (es := k3) rfl ((hq2).len.trans (by rw [(show ([([111, 107] : List UInt8), ([110, 105, 108] : List UInt8), ([97, 114, 103] : List UInt8), ([108, 105, 109, 105, 116] : List UInt8), ([101, 110, 100] : List UInt8), ([102, 111, 114, 109] : List UInt8), ([101, 120, 116, 114, 97] : List UInt8), ([107, 101, 121] : List UInt8), ([115, 117, 109] : List UInt8), ([100, 114, 121] : List UInt8), ([99, 114, 101, 100] : List UInt8), ([110, 111, 110, 101] : List UInt8), ([114, 97, 110, 103, 101] : List UInt8), ([113, 117, 111, 116, 97] : List UInt8), ([102, 117, 108, 108] : List UInt8), ([99, 111, 117, 110, 116] : List UInt8), ([116, 119, 105, 99, 101] : List UInt8), ([111, 102, 102] : List UInt8), ([112, 111, 119, 101, 114] : List UInt8), ([100, 105, 115, 107] : List UInt8)] : List (List UInt8)).length = 20 from rfl)]; rfl)) (hq2).one 0 rfl (by first | rfl | simp_all) (fun a w h => ?_)
  refine l_end ?_
  refine wp_ret ?_
  obtain rfl := Option.some.inj hf
  exact r_ret1 h rfl (rv_cellA h rfl 0 rfl ag_A20_string ((hq2).len.trans (by rw [(show ([([111, 107] : List UInt8), ([110, 105, 108] : List UInt8), ([97, 114, 103] : List UInt8), ([108, 105, 109, 105, 116] : List UInt8), ([101, 110, 100] : List UInt8), ([102, 111, 114, 109] : List UInt8), ([101, 120, 116, 114, 97] : List UInt8), ([107, 101, 121] : List UInt8), ([115, 117, 109] : List UInt8), ([100, 114, 121] : List UInt8), ([99, 114, 101, 100] : List UInt8), ([110, 111, 110, 101] : List UInt8), ([114, 97, 110, 103, 101] : List UInt8), ([113, 117, 111, 116, 97] : List UInt8), ([102, 117, 108, 108] : List UInt8), ([99, 111, 117, 110, 116] : List UInt8), ([116, 119, 105, 99, 101] : List UInt8), ([111, 102, 102] : List UInt8), ([112, 111, 119, 101, 114] : List UInt8), ([100, 105, 115, 107] : List UInt8)] : List (List UInt8)).length = 20 from rfl)]; rfl))) ⟨_, [], _, rfl, ⟨k3, rfl, rfl, ⟨hq2, (show ([([111, 107] : List UInt8), ([110, 105, 108] : List UInt8), ([97, 114, 103] : List UInt8), ([108, 105, 109, 105, 116] : List UInt8), ([101, 110, 100] : List UInt8), ([102, 111, 114, 109] : List UInt8), ([101, 120, 116, 114, 97] : List UInt8), ([107, 101, 121] : List UInt8), ([115, 117, 109] : List UInt8), ([100, 114, 121] : List UInt8), ([99, 114, 101, 100] : List UInt8), ([110, 111, 110, 101] : List UInt8), ([114, 97, 110, 103, 101] : List UInt8), ([113, 117, 111, 116, 97] : List UInt8), ([102, 117, 108, 108] : List UInt8), ([99, 111, 117, 110, 116] : List UInt8), ([116, 119, 105, 99, 101] : List UInt8), ([111, 102, 102] : List UInt8), ([112, 111, 119, 101, 114] : List UInt8), ([100, 105, 115, 107] : List UInt8)] : List (List UInt8)).length = 20 from rfl)⟩, trivial⟩, rfl, (Up.refl _ _ _), (h.m.pick [1] _ (by decide) rfl)⟩
def reply_Of_l0 (Fu : Nat) (a0 : List UInt8) (x1 : (List Int)) (x10 : (List (List UInt8))) : Nat → Int → Option (Sum (Int × Bool) Unit)
  | 0, _ => none
  | k + 1, x20 => if x20 < 20 then ((idx x10 x20).bind fun x25 => if x25 = a0 then ((ix 20 x20).bind fun m35 => (x1[m35]?).bind fun x39 => some (.inl (x39, true))) else (reply_Of_l0 Fu a0 x1 x10 k (w64 (x20 + 1)))) else (some (.inr ()))
def reply_Of (Fu : Nat) (a0 : List UInt8) : Option (Int × Bool) :=
  (reply_known Fu).bind fun x1 => (reply_words Fu).bind fun x10 => (reply_Of_l0 Fu a0 x1 x10 Fu 0).bind fun o => match o with | .inl r46 => some r46 | .inr _ => some (0, false)
set_option maxRecDepth 100000 in
set_option maxHeartbeats 2000000 in
theorem reply_Of_ok (Fu : Nat) {S0 : Snap} (a0 : List UInt8) (hra0 : a0.length ≤ maxLen) (r : Int × Bool) (hf : reply_Of Fu a0 = some r) (w0 : World) (hm : Mem w0 (ownL ([] ++ [.sn S0])) ([] ++ [.sn S0]) w0) :
    Calls Tryd.prog 11 #[.string (sb a0)] w0 (Ret w0 S0 [] (fun v L1 S1 => v = .tuple #[.int .i64 r.1, .bool r.2] ∧ L1 = [] ∧ r64 r.1 ∧ True)) := by
  unfold reply_Of at hf
  refine c_enterM Tryd.func11 rfl 20 rfl (by simp) _ hm _ rfl (fun a h => ?_)
  refine c_rs ?_ -- region 0
  refine s_assign h rfl _ rfl rfl (by decide) rfl (fun a h => ?_)
  refine s_assign h rfl _ rfl rfl (by decide) rfl (fun a h => ?_)
  refine l_end ?_
  refine c_rs ?_ -- region 1
  obtain ⟨x1, h2, hf⟩ := bsome hf
  have hX := reply_known_ok Fu (S0 := snapAll _)  _ h2 _ h.startAll
  refine q_callX hX h rfl rfl rfl (by decide) Tryd.func28 rfl rfl rfl (fun a w v L1 S1 hR hb1 h => ?_)
  obtain ⟨k4, rfl, rfl, hv5, _⟩ := hR
  obtain ⟨hs6, hl7⟩ := hv5
  have hq8 := hs6.fl (S' := S0) fl_I
  refine s_alloc h rfl rfl rfl (by decide) zi_A20_api_Errno rfl (fun a w g9 h => ?_)
  refine s_stW h rfl rfl rfl ag_A20_api_Errno rfl (es := k4) rfl ((hq8).len.trans (by rw [hl7]; rfl)) (hq8).one 0 rfl (by first | rfl | simp_all) (fun a w h => ?_)
  refine l_end ?_
  refine wp_seq ?_
  refine c_rs ?_ -- region 2
  obtain ⟨x10, h11, hf⟩ := bsome hf
  have hX := reply_words_ok Fu (S0 := snapAll _)  _ h11 _ h.startAll
  refine q_callX hX h rfl rfl rfl (by decide) Tryd.func29 rfl rfl rfl (fun a w v L1 S1 hR hb1 h => ?_)
  obtain ⟨k13, rfl, rfl, hv14, _⟩ := hR
  obtain ⟨hs15, hl16⟩ := hv14
  have hq17 := hs15.fl (S' := S0) fl_S
  refine s_move h rfl _ rfl rfl (by decide) rfl (fun a h => ?_)
  refine l_end ?_
  obtain ⟨o18, hl19, hf⟩ := bsome hf
  refine c_fin (fun a w => (.inr ()) = o18 ∧ St 20 w0 (ownL ([] ++ [.sn S0])) [] [.sn S0] a w) ?_ ?_
  · refine wp_block ?_
    refine c_loop (fun m23 a w => ∃ (x20 : Int), reply_Of_l0 Fu a0 x1 x10 m23 x20 = some o18 ∧ r64 x20 ∧ St 20 w0 (ownL ([] ++ [.sn S0])) [(0, .string (sb a0)), (4, .pointer (some ⟨g9, 0, none⟩)), (8, .agg k13.toArray), (9, .int .i64 x20)] [.box g9 59 k4, .sn S0] a w) Fu ⟨0, hl19, (show r64 0 from ⟨by decide, by decide⟩), h.has (by exact ⟨rfl, rfl, rfl, rfl, trivial⟩)⟩ (fun m23 a w hI => ?_)
    obtain ⟨x20, hl22, hr21, h⟩ := hI
    obtain _ | m23 := m23
    · rw [reply_Of_l0] at hl22; cases hl22
    rw [reply_Of_l0] at hl22
    refine c_rs ?_ -- region 3
    refine s_x h rfl rfl (by decide) (x_bin h.k rfl rfl rfl ib_lss) (fun a h => ?_)
    refine l_end ?_
    refine c_cs h rfl (fun hb => ?_) (fun hb => ?_)
    · rw [if_pos (of_decide_eq_true hb)] at hl22
      refine wp_skip ?_
      refine e_thenN ?_
      refine wp_seq ?_
      refine wp_block ?_
      refine c_rs ?_ -- region 4
      refine s_move h rfl _ rfl rfl (by decide) rfl (fun a h => ?_)
      obtain ⟨x25, h26, hl22⟩ := bsome hl22
      obtain ⟨m24, hi27, hm28, hx29⟩ := idx_some h26
      obtain ⟨u30, hv31, hu32⟩ := (hq17).cell rfl hx29
      obtain ⟨e34, hr33⟩ := hu32
      cases e34
      refine s_x h rfl rfl (by decide) (x_index h.k rfl Tryd.underlying61 Tryd.underlying9 rfl sz_string rfl rfl hi27 (Nat.lt_of_lt_of_eq hm28 hl16) (by simpa using hv31)) (fun a h => ?_)
      refine s_assign h rfl _ rfl rfl (by decide) rfl (fun a h => ?_)
      refine s_assign h rfl _ rfl rfl (by decide) rfl (fun a h => ?_)
      refine l_end ?_
      refine c_rs ?_ -- region 5
      refine s_move h rfl _ rfl rfl (by decide) rfl (fun a h => ?_)
      refine s_move h rfl _ rfl rfl (by decide) rfl (fun a h => ?_)
      refine s_x h rfl rfl (by decide) (x_eqlStr h.k rfl rfl rfl) (fun a h => ?_)
      refine l_end ?_
      refine c_cond h rfl (fun hb => ?_) (fun hb => ?_)
      · rw [if_pos (of_decide_eq_true hb)] at hl22
        refine c_rs ?_ -- region 6
        refine s_move h rfl _ rfl rfl (by decide) rfl (fun a h => ?_)
        obtain ⟨m35, h36, hl22⟩ := bsome hl22
        obtain ⟨hi37, hm38⟩ := ix_some h36
        refine s_x h rfl rfl (by decide) (x_iaddrA h.k rfl Tryd.underlying59 sz_api_Errno rfl rfl hi37 hm38 rfl) (fun a h => ?_)
        obtain ⟨x39, h40, hl22⟩ := bsome hl22
        obtain ⟨u41, hv42, hu43⟩ := (hq8).cell rfl h40
        obtain ⟨e45, hr44⟩ := hu43
        cases e45
        refine s_x h rfl rfl (by decide) (x_ld h.k rfl Tryd.underlying22 rfl rfl ((h.m.cell (i := 0) rfl _).trans (by rw [Nat.zero_add, Nat.mul_one]; exact hv42))) (fun a h => ?_)
        refine s_assign h rfl _ rfl rfl (by decide) rfl (fun a h => ?_)
        refine s_assign h rfl _ rfl rfl (by decide) rfl (fun a h => ?_)
        refine l_end ?_
        refine wp_ret ?_
        refine e_blkR ?_
        refine e_thenR ?_
        refine e_thenR ?_
        refine e_blkR ?_
        refine e_thenR ?_
        cases hl22
        try dsimp only at hf
        refine e_thenR ?_
        obtain rfl := Option.some.inj hf
        exact r_ret2 h rfl (rv_tmp h rfl) (rv_tmp h rfl) ⟨_, [], _, rfl, ⟨rfl, rfl, hr44, trivial⟩, rfl, (Up.refl _ _ _), (h.m.pick [1] _ (by decide) rfl)⟩
      · rw [if_neg (of_decide_eq_false hb)] at hl22
        refine wp_skip ?_
        refine e_blkN ?_
        refine e_thenN ?_
        refine c_r ?_ -- region 7
        refine s_x h rfl rfl (by decide) (x_bin h.k rfl rfl rfl (ib_add rfl)) (fun a h => ?_)
        refine s_move h rfl _ rfl rfl (by decide) rfl (fun a h => ?_)
        refine l_nil ?_
        exact e_thenN ⟨m23, Nat.lt_succ_self _, w64 (x20 + 1), hl22, (w64_r _), h.has (by exact ⟨rfl, rfl, rfl, rfl, trivial⟩)⟩
    · rw [if_neg (of_decide_eq_false hb)] at hl22
      refine wp_exit ?_
      refine e_thenX ?_
      refine e_thenX ?_
      refine e_blkX ?_
      refine e_thenN ?_
      have h := h.pick [1] (by decide) rfl
      exact ⟨(Option.some.inj hl22), h.has trivial⟩
  · rintro a w ⟨rfl, h⟩
    try dsimp only at hf
    refine e_thenN ?_
    refine c_rs ?_ -- region 8
    refine s_assign h rfl _ rfl rfl (by decide) rfl (fun a h => ?_)
    refine s_assign h rfl _ rfl rfl (by decide) rfl (fun a h => ?_)
    refine l_end ?_
    refine wp_ret ?_
    obtain rfl := Option.some.inj hf
    exact r_ret2 h rfl (rv_tmp h rfl) (rv_tmp h rfl) ⟨_, [], _, rfl, ⟨rfl, rfl, (show r64 0 from ⟨by decide, by decide⟩), trivial⟩, rfl, (Up.refl _ _ _), h.m⟩
def reply_Put (Fu : Nat) (a0 : Int × (List UInt8)) : Option ((List UInt8) × Int) :=
  if (((decide (a0.1 < 0)) || (decide (255 < a0.1))) || (decide (65535 < (a0.2.length : Int)))) = true then (some ([], 2)) else ((field_Writer_Number Fu (0, []) a0.1 1).bind fun x14 => (field_Writer_Bytes Fu x14 a0.2).bind fun x26 => (field_Writer_Out Fu x26).bind fun x37 => some x37)
set_option maxRecDepth 100000 in
set_option maxHeartbeats 2000000 in
theorem reply_Put_ok (Fu : Nat) {S0 : Snap} (csa0 : List Value) (a0 : Int × (List UInt8)) (hsa0 : (tyP tyI (tyL ty8)).rep S0 csa0 a0) (r : (List UInt8) × Int) (hf : reply_Put Fu a0 = some r) (w0 : World) (hm : Mem w0 (ownL ([] ++ [.sn S0])) ([] ++ [.sn S0]) w0) :
    Calls Tryd.prog 7 #[.agg csa0.toArray] w0 (Ret w0 S0 [] (fun v L1 S1 => ∃ (A46 : Option Addr), ∃ (c47 : Nat), ∃ (cs48 : List Value), v = .tuple #[.slice A46 r.1.length c47, .int .i64 r.2] ∧ L1 = [.row (.slice A46 r.1.length c47) 5 1 r.1.length cs48] ∧ reps ty8 S1 cs48 r.1 ∧ r64 r.2 ∧ True)) := by
  unfold reply_Put at hf
  obtain ⟨k1, k2, rfl, ⟨rfl, hr3⟩, ⟨A4, c5, rfl, hs6⟩⟩ := hsa0
  refine c_enterM Tryd.func7 rfl 28 rfl (by simp) _ hm _ rfl (fun a h => ?_)
  refine c_rs ?_ -- region 0
  refine s_box h rfl rfl rfl (by decide) rfl (cs := [.int .i64 a0.1, .slice A4 a0.2.length c5]) (by rfl) (fun a w g7 h => ?_)
  refine s_assign h rfl _ rfl rfl (by decide) rfl (fun a h => ?_)
  refine s_assign h rfl _ rfl rfl (by decide) rfl (fun a h => ?_)
  refine l_end ?_
  refine wp_seq ?_
  refine c_rs ?_ -- region 1
  refine s_x h rfl rfl (by decide) (x_faddr h.k rfl Tryd.underlying25 rfl sz_api_Errno rfl) (fun a h => ?_)
  refine s_x h rfl rfl (by decide) (x_ld h.k rfl Tryd.underlying22 rfl rfl ((h.m.cell (i := 0) rfl 0).trans rfl)) (fun a h => ?_)
  refine s_x h rfl rfl (by decide) (x_bin h.k rfl rfl rfl ib_lss) (fun a h => ?_)
  refine s_move h rfl _ rfl rfl (by decide) rfl (fun a h => ?_)
  refine q_grp h 4 (t := 8) 12 ((decide (a0.1 < 0)) || (decide (255 < a0.1))) rfl (fun hB3 => ?_) (fun hB3 => ?_) (fun a w h => ?_)
  · refine g_no h rfl rfl rfl rfl hB3 rfl (by decide) (fun a h => ?_)
    refine g_no h rfl rfl rfl rfl hB3 rfl (by decide) (fun a h => ?_)
    refine g_no h rfl rfl rfl rfl hB3 rfl (by decide) (fun a h => ?_)
    refine s_x h rfl rfl (by decide) (x_pick (u' := undef) h.k rfl rfl (fun _ => rfl) (fun hh => absurd (hB3.symm.trans hh) (by decide))) (fun a h => ?_)
    exact (h.mid 3 rfl).val (by first | rfl | (rw [hB3]; first | rfl | simp))
  · refine g_yes h rfl rfl rfl rfl hB3 ?_
    refine s_x h rfl rfl (by decide) (x_faddr h.k rfl Tryd.underlying25 rfl sz_api_Errno rfl) (fun a h => ?_)
    refine g_yes h rfl rfl rfl rfl hB3 ?_
    refine s_x h rfl rfl (by decide) (x_ld h.k rfl Tryd.underlying22 rfl rfl ((h.m.cell (i := 0) rfl 0).trans rfl)) (fun a h => ?_)
    refine g_yes h rfl rfl rfl rfl hB3 ?_
    refine s_x h rfl rfl (by decide) (x_bin h.k rfl rfl rfl ib_gtr) (fun a h => ?_)
    refine s_x h rfl rfl (by decide) (x_pick (u' := undef) h.k rfl rfl (fun hh => absurd (hB3.symm.trans hh) (by decide)) (fun _ => rfl)) (fun a h => ?_)
    exact (h.mid 3 rfl).val (by first | rfl | (rw [hB3]; first | rfl | simp))
  refine s_move h rfl _ rfl rfl (by decide) rfl (fun a h => ?_)
  refine q_grp h 5 (t := 13) 18 (((decide (a0.1 < 0)) || (decide (255 < a0.1))) || (decide (65535 < (a0.2.length : Int)))) rfl (fun hB8 => ?_) (fun hB8 => ?_) (fun a w h => ?_)
  · refine g_no h rfl rfl rfl rfl hB8 rfl (by decide) (fun a h => ?_)
    refine g_no h rfl rfl rfl rfl hB8 rfl (by decide) (fun a h => ?_)
    refine g_no h rfl rfl rfl rfl hB8 rfl (by decide) (fun a h => ?_)
    refine g_no h rfl rfl rfl rfl hB8 rfl (by decide) (fun a h => ?_)
    refine s_x h rfl rfl (by decide) (x_pick (u' := undef) h.k rfl rfl (fun _ => rfl) (fun hh => absurd (hB8.symm.trans hh) (by decide))) (fun a h => ?_)
    exact (h.mid 4 rfl).val (by first | rfl | (rw [hB8]; first | rfl | simp))
  · refine g_yes h rfl rfl rfl rfl hB8 ?_
    refine s_x h rfl rfl (by decide) (x_faddr h.k rfl Tryd.underlying25 rfl sz_Suint8 rfl) (fun a h => ?_)
    refine g_yes h rfl rfl rfl rfl hB8 ?_
    refine s_x h rfl rfl (by decide) (x_ld h.k rfl Tryd.underlying23 rfl rfl ((h.m.cell (i := 0) rfl 1).trans rfl)) (fun a h => ?_)
    refine g_yes h rfl rfl rfl rfl hB8 ?_
    refine s_x h rfl rfl (by decide) (x_len h.k rfl Tryd.underlying23 rfl) (fun a h => ?_)
    refine g_yes h rfl rfl rfl rfl hB8 ?_
    refine s_x h rfl rfl (by decide) (x_bin h.k rfl rfl rfl ib_gtr) (fun a h => ?_)
    refine s_x h rfl rfl (by decide) (x_pick (u' := undef) h.k rfl rfl (fun hh => absurd (hB8.symm.trans hh) (by decide)) (fun _ => rfl)) (fun a h => ?_)
    exact (h.mid 4 rfl).val (by first | rfl | (rw [hB8]; first | rfl | simp))
  refine l_end ?_
  refine c_cond h rfl (fun hb => ?_) (fun hb => ?_)
  · rw [if_pos hb] at hf
    refine c_rs ?_ -- region 2
    refine s_assign h rfl _ rfl rfl (by decide) rfl (fun a h => ?_)
    refine s_assign h rfl _ rfl rfl (by decide) rfl (fun a h => ?_)
    refine l_end ?_
    refine wp_ret ?_
    refine e_thenR ?_
    obtain rfl := Option.some.inj hf
    have h := h.mem (h.m.nilrow 5 1)
    exact r_ret2 h rfl (rv_tmp h rfl) (rv_tmp h rfl) ⟨_, [.row (.slice none ([]).length 0) 5 1 ([]).length []], _, rfl, ⟨none, 0, [], rfl, rfl, (show reps ty8 S0 [] [] from rfl), (show r64 2 from ⟨by decide, by decide⟩), trivial⟩, rfl, (Up.refl _ _ _), (h.m.pick [0, 2] _ (by decide) rfl)⟩
  · rw [if_neg (by rw [hb]; decide)] at hf
    refine wp_skip ?_
    refine e_thenN ?_
    refine c_rs ?_ -- region 3
    refine s_alloc h rfl rfl rfl (by decide) zi_field_Writer rfl (fun a w g13 h => ?_)
    refine l_end ?_
    refine c_rs ?_ -- region 4
    refine s_x h rfl rfl (by decide) (x_faddr h.k rfl Tryd.underlying25 rfl sz_api_Errno rfl) (fun a h => ?_)
    refine s_x h rfl rfl (by decide) (x_ld h.k rfl Tryd.underlying22 rfl rfl ((h.m.cell (i := 1) rfl 0).trans rfl)) (fun a h => ?_)
    obtain ⟨x14, h15, hf⟩ := bsome hf
    have h := h.mem (h.m.nilrow 5 1)
    have h := h.pick [1, 0, 3, 2] (by decide) rfl
    have hX := field_Writer_Number_ok Fu (S0 := S0) (0, []) g13 none 0 [] (show r64 0 from ⟨by decide, by decide⟩) (show reps ty8 S0 [] [] from rfl) a0.1 hr3 1 (show r64 1 from ⟨by decide, by decide⟩) _ h15 _ (h.sub (Ls := [.box g13 50 ([.int .i64 0, .slice none ([]).length 0]), .row (.slice none ([]).length 0) 5 1 ([]).length []]))
    refine q_callY (Ls := [.box g13 50 ([.int .i64 0, .slice none ([]).length 0]), .row (.slice none ([]).length 0) 5 1 ([]).length []]) hX h (Up.refl _ _ _) rfl rfl rfl (by decide) Tryd.func20 rfl rfl rfl (fun a w v L1 S18 hR le20 up19 h => ?_)
    obtain ⟨A22, c23, cs24, rfl, rfl, hr21, hq25, _⟩ := hR
    refine l_end ?_
    refine c_rs ?_ -- region 5
    refine s_x h rfl rfl (by decide) (x_faddr h.k rfl Tryd.underlying25 rfl sz_Suint8 rfl) (fun a h => ?_)
    refine s_x h rfl rfl (by decide) (x_ld h.k rfl Tryd.underlying23 rfl rfl ((h.m.cell (i := 3) rfl 1).trans rfl)) (fun a h => ?_)
    obtain ⟨x26, h27, hf⟩ := bsome hf
    have hX := field_Writer_Bytes_ok Fu (S0 := S18) x14 g13 A22 c23 cs24 hr21 hq25 A4 c5 a0.2 (hs6.mono le20) _ h27 _ (h.sub (Ls := [.box g13 50 ([.int .i64 x14.1, .slice A22 x14.2.length c23]), .row (.slice A22 x14.2.length c23) 5 1 x14.2.length cs24]))
    refine q_callY (Ls := [.box g13 50 ([.int .i64 x14.1, .slice A22 x14.2.length c23]), .row (.slice A22 x14.2.length c23) 5 1 x14.2.length cs24]) hX h up19 rfl rfl rfl (by decide) Tryd.func21 rfl rfl rfl (fun a w v L1 S29 hR le31 up30 h => ?_)
    obtain ⟨A33, c34, cs35, rfl, rfl, hr32, hq36, _⟩ := hR
    refine l_end ?_
    refine c_rs ?_ -- region 6
    obtain ⟨x37, h38, hf⟩ := bsome hf
    have hX := field_Writer_Out_ok Fu (S0 := snapAll _) g13 x26 ⟨[.int .i64 x26.1, .slice A33 x26.2.length c34], h.m.boxAll (i := 0) rfl, ⟨[.int .i64 x26.1], [.slice A33 x26.2.length c34], rfl, ⟨rfl, hr32⟩, ⟨_, _, rfl, h.m.rowAll (i := 1) rfl (j := 2) rfl hq36⟩⟩⟩ _ h38 _ h.startAll
    refine q_callX hX h rfl rfl rfl (by decide) Tryd.func22 rfl rfl rfl (fun a w v L1 S1 hR hb1 h => ?_)
    obtain ⟨A40, c41, cs42, rfl, rfl, hq43, hr44, _⟩ := hR
    have hq45 := hq43.fl (S' := S29) fl_8
    refine s_x h rfl rfl (by decide) (x_ext h.k rfl rfl rfl) (fun a h => ?_)
    refine s_x h rfl rfl (by decide) (x_ext h.k rfl rfl rfl) (fun a h => ?_)
    refine s_assign h rfl _ rfl rfl (by decide) rfl (fun a h => ?_)
    refine s_assign h rfl _ rfl rfl (by decide) rfl (fun a h => ?_)
    refine l_end ?_
    refine wp_ret ?_
    rw [← Option.some.inj hf]
    exact r_ret2 h rfl (rv_tmp h rfl) (rv_tmp h rfl) ⟨_, [.row (.slice A40 x37.1.length c41) 5 1 x37.1.length cs42], _, rfl, ⟨A40, c41, cs42, rfl, rfl, hq45, hr44, trivial⟩, rfl, up30, (h.m.pick [0, 3] _ (by decide) rfl)⟩
def reply_Take (Fu : Nat) (a0 : List UInt8) : Option ((Int × (List UInt8)) × Int) :=
  (field_Read Fu a0).bind fun x2 => (field_Reader_Number Fu x2 1 255).bind fun x13 => (field_Reader_Bytes Fu x13.2 65535).bind fun x25 => (field_Reader_Done Fu x25.2).bind fun x43 => if x43 ≠ 0 then (some ((0, []), x43)) else (some ((x13.1, x25.1), 0))
set_option maxRecDepth 100000 in
set_option maxHeartbeats 2000000 in
theorem reply_Take_ok (Fu : Nat) {S0 : Snap} (Aa0 : Option Addr) (ca0 : Nat) (a0 : List UInt8) (hsa0 : slS ty8 S0 Aa0 ca0 a0) (r : (Int × (List UInt8)) × Int) (hf : reply_Take Fu a0 = some r) (w0 : World) (hm : Mem w0 (ownL ([] ++ [.sn S0])) ([] ++ [.sn S0]) w0) :
    Calls Tryd.prog 8 #[.slice Aa0 a0.length ca0] w0 (Ret w0 S0 [] (fun v L1 S1 => ∃ (k47 : List Value), v = .tuple #[.agg k47.toArray, .int .i64 r.2] ∧ L1 = [] ∧ (tyP tyI (tyL ty8)).rep S1 k47 r.1 ∧ r64 r.2 ∧ True)) := by
  unfold reply_Take at hf
  refine c_enterM Tryd.func8 rfl 22 rfl (by simp) _ hm _ rfl (fun a h => ?_)
  refine c_rs ?_ -- region 0
  refine s_alloc h rfl rfl rfl (by decide) zi_api_Reply rfl (fun a w g1 h => ?_)
  refine s_assign h rfl _ rfl rfl (by decide) rfl (fun a h => ?_)
  refine l_end ?_
  refine c_rs ?_ -- region 1
  refine s_move h rfl _ rfl rfl (by decide) rfl (fun a h => ?_)
  obtain ⟨x2, h3, hf⟩ := bsome hf
  have h := h.pick [1, 0] (by decide) rfl
  have hX := field_Read_ok Fu (S0 := S0) Aa0 ca0 a0 hsa0 _ h3 _ (h.sub (Ls := []))
  refine q_callY (Ls := []) hX h (Up.refl _ _ _) rfl rfl rfl (by decide) Tryd.func23 rfl rfl rfl (fun a w v L1 S5 hR le7 up6 h => ?_)
  obtain ⟨g8, A10, c11, rfl, rfl, hr9, hs12, _⟩ := hR
  refine s_assign h rfl _ rfl rfl (by decide) rfl (fun a h => ?_)
  refine l_end ?_
  refine c_rs ?_ -- region 2
  refine s_move h rfl _ rfl rfl (by decide) rfl (fun a h => ?_)
  obtain ⟨x13, h14, hf⟩ := bsome hf
  have hX := field_Reader_Number_ok Fu (S0 := S5) x2 g8 A10 c11 hr9 hs12 1 (show r64 1 from ⟨by decide, by decide⟩) 255 (show r64 255 from ⟨by decide, by decide⟩) _ h14 _ (h.sub (Ls := [.box g8 90 ([.int .i64 x2.1, .slice A10 x2.2.1.length c11, .bool x2.2.2])]))
  refine q_callY (Ls := [.box g8 90 ([.int .i64 x2.1, .slice A10 x2.2.1.length c11, .bool x2.2.2])]) hX h up6 rfl rfl rfl (by decide) Tryd.func24 rfl rfl rfl (fun a w v L1 S16 hR le18 up17 h => ?_)
  obtain ⟨A21, c22, rfl, rfl, hr19, hr20, hs23, _⟩ := hR
  refine s_x h rfl rfl (by decide) (x_build h.k rfl [(0, .int .i64 x13.1)] rfl ([.int .i64 x13.1, .slice none 0 0]) (by kernel_rfl)) (fun a h => ?_)
  refine s_alloc h rfl rfl rfl (by decide) zi_api_Reply rfl (fun a w g24 h => ?_)
  refine s_stW h rfl rfl rfl ag_api_Reply rfl (es := [.int .i64 x13.1, .slice none 0 0]) rfl rfl (by simp [Value.oneCell']) 0 rfl rfl (fun a w h => ?_)
  refine l_end ?_
  refine c_rs ?_ -- region 3
  refine s_move h rfl _ rfl rfl (by decide) rfl (fun a h => ?_)
  obtain ⟨x25, h26, hf⟩ := bsome hf
  have h := h.pick [1, 2, 0, 3] (by decide) rfl
  have hX := field_Reader_Bytes_ok Fu (S0 := S16) x13.2 g8 A21 c22 hr20 hs23 65535 (show r64 65535 from ⟨by decide, by decide⟩) _ h26 _ (h.sub (Ls := [.box g8 90 ([.int .i64 x13.2.1, .slice A21 x13.2.2.1.length c22, .bool x13.2.2.2])]))
  refine q_callY (Ls := [.box g8 90 ([.int .i64 x13.2.1, .slice A21 x13.2.2.1.length c22, .bool x13.2.2.2])]) hX h up17 rfl rfl rfl (by decide) Tryd.func25 rfl rfl rfl (fun a w v L1 S28 hR le30 up29 h => ?_)
  obtain ⟨A31, c32, cs33, A36, c37, rfl, rfl, hq34, hr35, hs38, _⟩ := hR
  refine s_x h rfl rfl (by decide) (x_faddr h.k rfl Tryd.underlying25 rfl sz_Suint8 rfl) (fun a h => ?_)
  have h := h.pick [0, 2, 1, 3, 4] (by decide) rfl
  obtain ⟨S39, le40, up41, hs42, h⟩ := q_freeze (T := ty8) h up29 hq34
  refine s_stb h rfl rfl rfl sz_Suint8 rfl rfl rfl 2 rfl (by first | decide | simp) (fun a w h => ?_)
  refine l_end ?_
  refine wp_seq ?_
  refine c_rs ?_ -- region 4
  refine s_move h rfl _ rfl rfl (by decide) rfl (fun a h => ?_)
  obtain ⟨x43, h44, hf⟩ := bsome hf
  have hX := field_Reader_Done_ok Fu (S0 := snapAll _) g8 x25.2 ⟨[.int .i64 x25.2.1, .slice A36 x25.2.2.1.length c37, .bool x25.2.2.2], h.m.boxAll (i := 1) rfl, ⟨[.int .i64 x25.2.1], [.slice A36 x25.2.2.1.length c37, .bool x25.2.2.2], rfl, ⟨rfl, hr35⟩, ⟨[.slice A36 x25.2.2.1.length c37], [.bool x25.2.2.2], rfl, ⟨_, _, rfl, ((hs38.mono le40)).mono (h.m.leAll (i := 0) rfl)⟩, rfl⟩⟩⟩ _ h44 _ h.startAll
  refine q_callX hX h rfl rfl rfl (by decide) Tryd.func26 rfl rfl rfl (fun a w v L1 S1 hR hb1 h => ?_)
  obtain ⟨rfl, rfl, hr46, _⟩ := hR
  refine s_assign h rfl _ rfl rfl (by decide) rfl (fun a h => ?_)
  refine l_end ?_
  refine c_rs ?_ -- region 5
  refine s_move h rfl _ rfl rfl (by decide) rfl (fun a h => ?_)
  refine s_x h rfl rfl (by decide) (x_bin h.k rfl rfl rfl ib_neq) (fun a h => ?_)
  refine l_end ?_
  refine c_cond h rfl (fun hb => ?_) (fun hb => ?_)
  · rw [if_pos (of_decide_eq_true hb)] at hf
    refine c_rs ?_ -- region 6
    refine s_x h rfl rfl (by decide) (x_build h.k rfl [] rfl ([.int .i64 0, .slice none 0 0]) (by kernel_rfl)) (fun a h => ?_)
    refine s_move h rfl _ rfl rfl (by decide) rfl (fun a h => ?_)
    refine s_stW h rfl rfl rfl ag_api_Reply rfl (es := [.int .i64 0, .slice none 0 0]) rfl rfl (by simp [Value.oneCell']) 3 rfl rfl (fun a w h => ?_)
    refine s_assign h rfl _ rfl rfl (by decide) rfl (fun a h => ?_)
    refine l_end ?_
    refine wp_ret ?_
    refine e_thenR ?_
    obtain rfl := Option.some.inj hf
    exact r_ret2 h rfl (rv_cellA h rfl 3 rfl ag_api_Reply rfl) (rv_tmp h rfl) ⟨_, [], _, rfl, ⟨[.int .i64 0, .slice none 0 0], rfl, rfl, ⟨[.int .i64 0], [.slice none 0 0], rfl, ⟨rfl, (show r64 0 from ⟨by decide, by decide⟩)⟩, ⟨_, _, rfl, (slS.nil ty8 _)⟩⟩, hr46, trivial⟩, rfl, up41, (h.m.pick [0] _ (by decide) rfl)⟩
  · rw [if_neg (of_decide_eq_false hb)] at hf
    refine wp_skip ?_
    refine e_thenN ?_
    refine c_rs ?_ -- region 7
    refine s_x h rfl rfl (by decide) (x_ldR h.k rfl ag_api_Reply rfl ([.int .i64 x13.1, .slice A31 x25.1.length c32]) rfl (h.m.range0 (i := 2) rfl)) (fun a h => ?_)
    refine s_stW h rfl rfl rfl ag_api_Reply rfl (es := [.int .i64 x13.1, .slice A31 x25.1.length c32]) rfl rfl (by simp [Value.oneCell']) 3 rfl rfl (fun a w h => ?_)
    refine s_assign h rfl _ rfl rfl (by decide) rfl (fun a h => ?_)
    refine l_end ?_
    refine wp_ret ?_
    obtain rfl := Option.some.inj hf
    exact r_ret2 h rfl (rv_cellA h rfl 3 rfl ag_api_Reply rfl) (rv_tmp h rfl) ⟨_, [], _, rfl, ⟨[.int .i64 x13.1, .slice A31 x25.1.length c32], rfl, rfl, ⟨[.int .i64 x13.1], [.slice A31 x25.1.length c32], rfl, ⟨rfl, hr19⟩, ⟨_, _, rfl, hs42⟩⟩, (show r64 0 from ⟨by decide, by decide⟩), trivial⟩, rfl, up41, (h.m.pick [0] _ (by decide) rfl)⟩
def reply_Same (Fu : Nat) (a0 : Int × (List UInt8)) (a1 : Int × (List UInt8)) : Option Bool :=
  (if a0.1 = a1.1 then (bytes_Equal Fu a0.2 a1.2).bind fun x18 => some x18 else some false).bind fun z16 => some z16
set_option maxRecDepth 100000 in
set_option maxHeartbeats 2000000 in
theorem reply_Same_ok (Fu : Nat) {S0 : Snap} (csa0 : List Value) (a0 : Int × (List UInt8)) (hsa0 : (tyP tyI (tyL ty8)).rep S0 csa0 a0) (csa1 : List Value) (a1 : Int × (List UInt8)) (hsa1 : (tyP tyI (tyL ty8)).rep S0 csa1 a1) (r : Bool) (hf : reply_Same Fu a0 a1 = some r) (w0 : World) (hm : Mem w0 (ownL ([] ++ [.sn S0])) ([] ++ [.sn S0]) w0) :
    Calls Tryd.prog 9 #[.agg csa0.toArray, .agg csa1.toArray] w0 (Ret w0 S0 [] (fun v L1 S1 => v = .bool r ∧ L1 = [] ∧ True)) := by
  unfold reply_Same at hf
  obtain ⟨k1, k2, rfl, ⟨rfl, hr3⟩, ⟨A4, c5, rfl, hs6⟩⟩ := hsa0
  obtain ⟨k7, k8, rfl, ⟨rfl, hr9⟩, ⟨A10, c11, rfl, hs12⟩⟩ := hsa1
  refine c_enterM Tryd.func9 rfl 17 rfl (by simp) _ hm _ rfl (fun a h => ?_)
  refine c_rs ?_ -- region 0
  refine s_box h rfl rfl rfl (by decide) rfl (cs := [.int .i64 a0.1, .slice A4 a0.2.length c5]) (by rfl) (fun a w g13 h => ?_)
  refine s_box h rfl rfl rfl (by decide) rfl (cs := [.int .i64 a1.1, .slice A10 a1.2.length c11]) (by rfl) (fun a w g14 h => ?_)
  refine s_assign h rfl _ rfl rfl (by decide) rfl (fun a h => ?_)
  refine l_end ?_
  refine c_rs ?_ -- region 1
  refine s_x h rfl rfl (by decide) (x_faddr h.k rfl Tryd.underlying25 rfl sz_api_Errno rfl) (fun a h => ?_)
  refine s_x h rfl rfl (by decide) (x_ld h.k rfl Tryd.underlying22 rfl rfl ((h.m.cell (i := 1) rfl 0).trans rfl)) (fun a h => ?_)
  refine s_x h rfl rfl (by decide) (x_faddr h.k rfl Tryd.underlying25 rfl sz_api_Errno rfl) (fun a h => ?_)
  refine s_x h rfl rfl (by decide) (x_ld h.k rfl Tryd.underlying22 rfl rfl ((h.m.cell (i := 0) rfl 0).trans rfl)) (fun a h => ?_)
  refine s_x h rfl rfl (by decide) (x_bin h.k rfl rfl rfl ib_eql) (fun a h => ?_)
  refine s_move h rfl _ rfl rfl (by decide) rfl (fun a h => ?_)
  obtain ⟨z16, hz15, hf⟩ := bsome hf
  refine q_grp h 6 (t := 10) 16 z16 rfl (fun hB5 => ?_) (fun hB5 => ?_) (fun a w h => ?_)
  · rw [if_pos (of_decide_eq_true hB5)] at hz15
    refine g_yes h rfl rfl rfl rfl hB5 ?_
    refine s_x h rfl rfl (by decide) (x_faddr h.k rfl Tryd.underlying25 rfl sz_Suint8 rfl) (fun a h => ?_)
    refine g_yes h rfl rfl rfl rfl hB5 ?_
    refine s_x h rfl rfl (by decide) (x_ld h.k rfl Tryd.underlying23 rfl rfl ((h.m.cell (i := 1) rfl 1).trans rfl)) (fun a h => ?_)
    refine g_yes h rfl rfl rfl rfl hB5 ?_
    refine s_x h rfl rfl (by decide) (x_faddr h.k rfl Tryd.underlying25 rfl sz_Suint8 rfl) (fun a h => ?_)
    refine g_yes h rfl rfl rfl rfl hB5 ?_
    refine s_x h rfl rfl (by decide) (x_ld h.k rfl Tryd.underlying23 rfl rfl ((h.m.cell (i := 0) rfl 1).trans rfl)) (fun a h => ?_)
    refine g_yes h rfl rfl rfl rfl hB5 ?_
    obtain ⟨x18, h19, hz15⟩ := bsome hz15
    have hX := bytes_Equal_ok Fu (S0 := snapAll _) A4 c5 a0.2 (hs6.mono (h.m.leAll (i := 2) rfl)) A10 c11 a1.2 (hs12.mono (h.m.leAll (i := 2) rfl)) _ h19 _ h.startAll
    refine q_callX hX h rfl rfl rfl (by decide) Tryd.func27 rfl rfl rfl (fun a w v L1 S1 hR hb1 h => ?_)
    obtain ⟨rfl, rfl, _⟩ := hR
    refine s_x h rfl rfl (by decide) (x_pick (u' := undef) h.k rfl rfl (fun _ => rfl) (fun hh => absurd (hB5.symm.trans hh) (by decide))) (fun a h => ?_)
    exact (h.mid 5 rfl).val (by rw [Option.some.inj hz15])
  · refine g_no h rfl rfl rfl rfl hB5 rfl (by decide) (fun a h => ?_)
    refine g_no h rfl rfl rfl rfl hB5 rfl (by decide) (fun a h => ?_)
    refine g_no h rfl rfl rfl rfl hB5 rfl (by decide) (fun a h => ?_)
    refine g_no h rfl rfl rfl rfl hB5 rfl (by decide) (fun a h => ?_)
    refine g_no h rfl rfl rfl rfl hB5 rfl (by decide) (fun a h => ?_)
    rw [if_neg (of_decide_eq_false hB5)] at hz15
    refine s_x h rfl rfl (by decide) (x_pick (u' := undef) h.k rfl rfl (fun hh => absurd (hB5.symm.trans hh) (by decide)) (fun _ => rfl)) (fun a h => ?_)
    exact (h.mid 5 rfl).val (by rw [Option.some.inj hz15])
  refine s_assign h rfl _ rfl rfl (by decide) rfl (fun a h => ?_)
  refine l_end ?_
  refine wp_ret ?_
  rw [← Option.some.inj hf]
  exact r_ret1 h rfl (rv_tmp h rfl) ⟨_, [], _, rfl, ⟨rfl, rfl, trivial⟩, rfl, (Up.refl _ _ _), (h.m.pick [2] _ (by decide) rfl)⟩
end Go.Proofs.YtcjleeclpmgbjaaDoor
