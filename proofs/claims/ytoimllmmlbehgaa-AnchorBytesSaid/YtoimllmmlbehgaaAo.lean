/- Ao: Go functions as plain functions, and that they are so (written by xt.py). -/
import Derived.Test.YtoimllmmlbehgaaAn
set_option linter.unusedVariables false
set_option linter.unusedSimpArgs false
namespace Go.Proofs.Ytoimllmmlbehgaa
open Go.RowKit
theorem gdb_api_Root : Try.prog.eqGuardType Try.prog.depth 69 = false := by kernel_rfl
theorem eqa_api_Root (w : World) {S S' : Snap} (X Y : List Value) (x y : Int × (List UInt8) × (List UInt8)) (hx : (tyP tyI (tyP (tyA 32 ty8) (tyA 32 ty8))).rep S X x) (hy : (tyP tyI (tyP (tyA 32 ty8) (tyA 32 ty8))).rep S' Y y) : (Op.equalIn 10000 69 (.agg X.toArray) (.agg Y.toArray)).run Try.prog w = .ok (decide (x = y)) w := by
  have hq : Try.prog.stoodInHeld 69 = false := by kernel_rfl
  obtain ⟨x0, x1, x2⟩ := x
  obtain ⟨kx0, mx0, rfl, ⟨rfl, hrx0⟩, ⟨kx1, mx1, rfl, ⟨hax1, hlx1⟩, ⟨hax2, hlx2⟩⟩⟩ := hx
  obtain rfl := reps8 hax1
  obtain rfl := reps8 hax2
  obtain ⟨y0, y1, y2⟩ := y
  obtain ⟨ky0, my0, rfl, ⟨rfl, hry0⟩, ⟨ky1, my1, rfl, ⟨hay1, hly1⟩, ⟨hay2, hly2⟩⟩⟩ := hy
  obtain rfl := reps8 hay1
  obtain rfl := reps8 hay2
  rw [run_equalIn_struct w 9999 _ _ _ (by simp only [Program.fieldsOf, Try.underlying69]) hq]
  simp only [Program.fieldsOf, Try.underlying69]
  refine Eq.trans (b := .ok ((x0 == y0) && ((x1 == y1) && ((x2 == y2) && true))) w) ?_ ?_
  · refine eqf_cons' (by decide) (part_mid1 w Try.underlying3 rfl (X := []) (Z := by8 x1 ++ (by8 x2)) (by simp only [List.append_assoc, List.cons_append, List.nil_append, List.append_nil]) (show ([] : List Value).length = 0 from by simp only [List.length_append, List.length_cons, List.length_nil, by8_length, List.length_nil])) (part_mid1 w Try.underlying3 rfl (X := []) (Z := by8 y1 ++ (by8 y2)) (by simp only [List.append_assoc, List.cons_append, List.nil_append, List.append_nil]) (show ([] : List Value).length = 0 from by simp only [List.length_append, List.length_cons, List.length_nil, by8_length, List.length_nil])) (run_equalIn_int w 9998 _ .i64 .i64 _ _ Try.underlying3) ?_
    refine eqf_cons' (by decide) (part_midA w ag_A32_uint8 (X := ([.int .i64 x0] : List Value)) (Y := by8 x1) (Z := by8 x2) (by simp only [List.append_assoc, List.cons_append, List.nil_append, List.append_nil]) (show (([.int .i64 x0] : List Value) : List Value).length = 1 from by simp only [List.length_append, List.length_cons, List.length_nil, by8_length, List.length_nil]) (by rw [by8_length, hlx1])) (part_midA w ag_A32_uint8 (X := ([.int .i64 y0] : List Value)) (Y := by8 y1) (Z := by8 y2) (by simp only [List.append_assoc, List.cons_append, List.nil_append, List.append_nil]) (show (([.int .i64 y0] : List Value) : List Value).length = 1 from by simp only [List.length_append, List.length_cons, List.length_nil, by8_length, List.length_nil]) (by rw [by8_length, hly1])) (by have := eq_arr_bytes w 9997 32 Try.underlying67 Try.underlying5 sz_uint8 x1 y1 hlx1 hly1; exact this) ?_
    refine eqf_cons' (by decide) (part_midA w ag_A32_uint8 (X := ([.int .i64 x0] : List Value) ++ (by8 x1)) (Y := by8 x2) (Z := []) (by simp only [List.append_assoc, List.cons_append, List.nil_append, List.append_nil]) (show (([.int .i64 x0] : List Value) ++ (by8 x1) : List Value).length = 33 from by simp only [List.length_append, List.length_cons, List.length_nil, by8_length, hlx1]) (by rw [by8_length, hlx2])) (part_midA w ag_A32_uint8 (X := ([.int .i64 y0] : List Value) ++ (by8 y1)) (Y := by8 y2) (Z := []) (by simp only [List.append_assoc, List.cons_append, List.nil_append, List.append_nil]) (show (([.int .i64 y0] : List Value) ++ (by8 y1) : List Value).length = 33 from by simp only [List.length_append, List.length_cons, List.length_nil, by8_length, hly1]) (by rw [by8_length, hly2])) (by have := eq_arr_bytes w 9997 32 Try.underlying67 Try.underlying5 sz_uint8 x2 y2 hlx2 hly2; exact this) ?_
    exact eqf_nil'
  · refine congrArg (fun b => Result.ok b w) ?_
    rw [Bool.eq_iff_iff]
    simp
def chatelainelaw16_awake (Fu : Nat) : Option Bool :=
  (anchor_New Fu ([(1 : UInt8), (0 : UInt8), (0 : UInt8), (0 : UInt8), (0 : UInt8), (0 : UInt8), (0 : UInt8), (0 : UInt8), (0 : UInt8), (0 : UInt8), (0 : UInt8), (0 : UInt8), (0 : UInt8), (0 : UInt8), (0 : UInt8), (0 : UInt8), (0 : UInt8), (0 : UInt8), (0 : UInt8), (0 : UInt8), (0 : UInt8), (0 : UInt8), (0 : UInt8), (0 : UInt8), (0 : UInt8), (0 : UInt8), (0 : UInt8), (0 : UInt8), (0 : UInt8), (0 : UInt8), (0 : UInt8), (0 : UInt8)]) 1).bind fun x4 => (match x4 with | .inl x10 => ((anchor_Slot_Set_nil0 Fu ([(2 : UInt8), (0 : UInt8), (0 : UInt8), (0 : UInt8), (0 : UInt8), (0 : UInt8), (0 : UInt8), (0 : UInt8), (0 : UInt8), (0 : UInt8), (0 : UInt8), (0 : UInt8), (0 : UInt8), (0 : UInt8), (0 : UInt8), (0 : UInt8), (0 : UInt8), (0 : UInt8), (0 : UInt8), (0 : UInt8), (0 : UInt8), (0 : UInt8), (0 : UInt8), (0 : UInt8), (0 : UInt8), (0 : UInt8), (0 : UInt8), (0 : UInt8), (0 : UInt8), (0 : UInt8), (0 : UInt8), (0 : UInt8)]) ([(3 : UInt8), (0 : UInt8), (0 : UInt8), (0 : UInt8), (0 : UInt8), (0 : UInt8), (0 : UInt8), (0 : UInt8), (0 : UInt8), (0 : UInt8), (0 : UInt8), (0 : UInt8), (0 : UInt8), (0 : UInt8), (0 : UInt8), (0 : UInt8), (0 : UInt8), (0 : UInt8), (0 : UInt8), (0 : UInt8), (0 : UInt8), (0 : UInt8), (0 : UInt8), (0 : UInt8), (0 : UInt8), (0 : UInt8), (0 : UInt8), (0 : UInt8), (0 : UInt8), (0 : UInt8), (0 : UInt8), (0 : UInt8)])).bind fun x18 => (anchor_Slot_Set_nil0 Fu ([(4 : UInt8), (0 : UInt8), (0 : UInt8), (0 : UInt8), (0 : UInt8), (0 : UInt8), (0 : UInt8), (0 : UInt8), (0 : UInt8), (0 : UInt8), (0 : UInt8), (0 : UInt8), (0 : UInt8), (0 : UInt8), (0 : UInt8), (0 : UInt8), (0 : UInt8), (0 : UInt8), (0 : UInt8), (0 : UInt8), (0 : UInt8), (0 : UInt8), (0 : UInt8), (0 : UInt8), (0 : UInt8), (0 : UInt8), (0 : UInt8), (0 : UInt8), (0 : UInt8), (0 : UInt8), (0 : UInt8), (0 : UInt8)]) ([(5 : UInt8), (0 : UInt8), (0 : UInt8), (0 : UInt8), (0 : UInt8), (0 : UInt8), (0 : UInt8), (0 : UInt8), (0 : UInt8), (0 : UInt8), (0 : UInt8), (0 : UInt8), (0 : UInt8), (0 : UInt8), (0 : UInt8), (0 : UInt8), (0 : UInt8), (0 : UInt8), (0 : UInt8), (0 : UInt8), (0 : UInt8), (0 : UInt8), (0 : UInt8), (0 : UInt8), (0 : UInt8), (0 : UInt8), (0 : UInt8), (0 : UInt8), (0 : UInt8), (0 : UInt8), (0 : UInt8), (0 : UInt8)])).bind fun x28 => (if (((decide (x10 = 0)) && (decide (x18 = 0))) && (decide (x28 = 35))) = true then (anchor_Slot_Get_nil0 Fu).bind fun x39 => some (decide (x39 = (1, [(2 : UInt8), (0 : UInt8), (0 : UInt8), (0 : UInt8), (0 : UInt8), (0 : UInt8), (0 : UInt8), (0 : UInt8), (0 : UInt8), (0 : UInt8), (0 : UInt8), (0 : UInt8), (0 : UInt8), (0 : UInt8), (0 : UInt8), (0 : UInt8), (0 : UInt8), (0 : UInt8), (0 : UInt8), (0 : UInt8), (0 : UInt8), (0 : UInt8), (0 : UInt8), (0 : UInt8), (0 : UInt8), (0 : UInt8), (0 : UInt8), (0 : UInt8), (0 : UInt8), (0 : UInt8), (0 : UInt8), (0 : UInt8)], [(3 : UInt8), (0 : UInt8), (0 : UInt8), (0 : UInt8), (0 : UInt8), (0 : UInt8), (0 : UInt8), (0 : UInt8), (0 : UInt8), (0 : UInt8), (0 : UInt8), (0 : UInt8), (0 : UInt8), (0 : UInt8), (0 : UInt8), (0 : UInt8), (0 : UInt8), (0 : UInt8), (0 : UInt8), (0 : UInt8), (0 : UInt8), (0 : UInt8), (0 : UInt8), (0 : UInt8), (0 : UInt8), (0 : UInt8), (0 : UInt8), (0 : UInt8), (0 : UInt8), (0 : UInt8), (0 : UInt8), (0 : UInt8)]))) else some false).bind fun z37 => some z37) | .inr x61 => ((anchor_Slot_Set Fu x61.1 ([(2 : UInt8), (0 : UInt8), (0 : UInt8), (0 : UInt8), (0 : UInt8), (0 : UInt8), (0 : UInt8), (0 : UInt8), (0 : UInt8), (0 : UInt8), (0 : UInt8), (0 : UInt8), (0 : UInt8), (0 : UInt8), (0 : UInt8), (0 : UInt8), (0 : UInt8), (0 : UInt8), (0 : UInt8), (0 : UInt8), (0 : UInt8), (0 : UInt8), (0 : UInt8), (0 : UInt8), (0 : UInt8), (0 : UInt8), (0 : UInt8), (0 : UInt8), (0 : UInt8), (0 : UInt8), (0 : UInt8), (0 : UInt8)]) ([(3 : UInt8), (0 : UInt8), (0 : UInt8), (0 : UInt8), (0 : UInt8), (0 : UInt8), (0 : UInt8), (0 : UInt8), (0 : UInt8), (0 : UInt8), (0 : UInt8), (0 : UInt8), (0 : UInt8), (0 : UInt8), (0 : UInt8), (0 : UInt8), (0 : UInt8), (0 : UInt8), (0 : UInt8), (0 : UInt8), (0 : UInt8), (0 : UInt8), (0 : UInt8), (0 : UInt8), (0 : UInt8), (0 : UInt8), (0 : UInt8), (0 : UInt8), (0 : UInt8), (0 : UInt8), (0 : UInt8), (0 : UInt8)])).bind fun x78 => (anchor_Slot_Set Fu x78.2 ([(4 : UInt8), (0 : UInt8), (0 : UInt8), (0 : UInt8), (0 : UInt8), (0 : UInt8), (0 : UInt8), (0 : UInt8), (0 : UInt8), (0 : UInt8), (0 : UInt8), (0 : UInt8), (0 : UInt8), (0 : UInt8), (0 : UInt8), (0 : UInt8), (0 : UInt8), (0 : UInt8), (0 : UInt8), (0 : UInt8), (0 : UInt8), (0 : UInt8), (0 : UInt8), (0 : UInt8), (0 : UInt8), (0 : UInt8), (0 : UInt8), (0 : UInt8), (0 : UInt8), (0 : UInt8), (0 : UInt8), (0 : UInt8)]) ([(5 : UInt8), (0 : UInt8), (0 : UInt8), (0 : UInt8), (0 : UInt8), (0 : UInt8), (0 : UInt8), (0 : UInt8), (0 : UInt8), (0 : UInt8), (0 : UInt8), (0 : UInt8), (0 : UInt8), (0 : UInt8), (0 : UInt8), (0 : UInt8), (0 : UInt8), (0 : UInt8), (0 : UInt8), (0 : UInt8), (0 : UInt8), (0 : UInt8), (0 : UInt8), (0 : UInt8), (0 : UInt8), (0 : UInt8), (0 : UInt8), (0 : UInt8), (0 : UInt8), (0 : UInt8), (0 : UInt8), (0 : UInt8)])).bind fun x99 => (if (((decide (x61.2 = 0)) && (decide (x78.1 = 0))) && (decide (x99.1 = 35))) = true then (anchor_Slot_Get Fu x99.2).bind fun x121 => some (decide (x121 = (1, [(2 : UInt8), (0 : UInt8), (0 : UInt8), (0 : UInt8), (0 : UInt8), (0 : UInt8), (0 : UInt8), (0 : UInt8), (0 : UInt8), (0 : UInt8), (0 : UInt8), (0 : UInt8), (0 : UInt8), (0 : UInt8), (0 : UInt8), (0 : UInt8), (0 : UInt8), (0 : UInt8), (0 : UInt8), (0 : UInt8), (0 : UInt8), (0 : UInt8), (0 : UInt8), (0 : UInt8), (0 : UInt8), (0 : UInt8), (0 : UInt8), (0 : UInt8), (0 : UInt8), (0 : UInt8), (0 : UInt8), (0 : UInt8)], [(3 : UInt8), (0 : UInt8), (0 : UInt8), (0 : UInt8), (0 : UInt8), (0 : UInt8), (0 : UInt8), (0 : UInt8), (0 : UInt8), (0 : UInt8), (0 : UInt8), (0 : UInt8), (0 : UInt8), (0 : UInt8), (0 : UInt8), (0 : UInt8), (0 : UInt8), (0 : UInt8), (0 : UInt8), (0 : UInt8), (0 : UInt8), (0 : UInt8), (0 : UInt8), (0 : UInt8), (0 : UInt8), (0 : UInt8), (0 : UInt8), (0 : UInt8), (0 : UInt8), (0 : UInt8), (0 : UInt8), (0 : UInt8)]))) else some false).bind fun z119 => some z119))
set_option maxRecDepth 100000 in
set_option maxHeartbeats 2000000 in
theorem chatelainelaw16_awake_ok (Fu : Nat) {S0 : Snap}  (r : Bool) (hf : chatelainelaw16_awake Fu = some r) (w0 : World) (hm : Mem w0 (ownL ([] ++ [.sn S0])) ([] ++ [.sn S0]) w0) :
    Calls Try.prog 37 #[] w0 (Ret w0 S0 [] (fun v L1 S1 => v = .bool r ∧ L1 = [] ∧ True)) := by
  unfold chatelainelaw16_awake at hf
  refine c_enterM Try.func37 rfl 36 rfl (by simp) _ hm _ rfl (fun a h => ?_)
  refine c_rs ?_ -- region 0
  refine s_assign h rfl _ rfl rfl (by decide) rfl (fun a h => ?_)
  refine l_end ?_
  refine c_rs ?_ -- region 1
  obtain ⟨k2, hk3⟩ : ∃ k : List Value, k = [.int .u8 1, .int .u8 0, .int .u8 0, .int .u8 0, .int .u8 0, .int .u8 0, .int .u8 0, .int .u8 0, .int .u8 0, .int .u8 0, .int .u8 0, .int .u8 0, .int .u8 0, .int .u8 0, .int .u8 0, .int .u8 0, .int .u8 0, .int .u8 0, .int .u8 0, .int .u8 0, .int .u8 0, .int .u8 0, .int .u8 0, .int .u8 0, .int .u8 0, .int .u8 0, .int .u8 0, .int .u8 0, .int .u8 0, .int .u8 0, .int .u8 0, .int .u8 0] := ⟨_, rfl⟩
  have hq1 : reps ty8 S0 k2 [(1 : UInt8), (0 : UInt8), (0 : UInt8), (0 : UInt8), (0 : UInt8), (0 : UInt8), (0 : UInt8), (0 : UInt8), (0 : UInt8), (0 : UInt8), (0 : UInt8), (0 : UInt8), (0 : UInt8), (0 : UInt8), (0 : UInt8), (0 : UInt8), (0 : UInt8), (0 : UInt8), (0 : UInt8), (0 : UInt8), (0 : UInt8), (0 : UInt8), (0 : UInt8), (0 : UInt8), (0 : UInt8), (0 : UInt8), (0 : UInt8), (0 : UInt8), (0 : UInt8), (0 : UInt8), (0 : UInt8), (0 : UInt8)] := by rw [hk3]; exact ⟨[.int .u8 1], _, rfl, rfl, ⟨[.int .u8 0], _, rfl, rfl, ⟨[.int .u8 0], _, rfl, rfl, ⟨[.int .u8 0], _, rfl, rfl, ⟨[.int .u8 0], _, rfl, rfl, ⟨[.int .u8 0], _, rfl, rfl, ⟨[.int .u8 0], _, rfl, rfl, ⟨[.int .u8 0], _, rfl, rfl, ⟨[.int .u8 0], _, rfl, rfl, ⟨[.int .u8 0], _, rfl, rfl, ⟨[.int .u8 0], _, rfl, rfl, ⟨[.int .u8 0], _, rfl, rfl, ⟨[.int .u8 0], _, rfl, rfl, ⟨[.int .u8 0], _, rfl, rfl, ⟨[.int .u8 0], _, rfl, rfl, ⟨[.int .u8 0], _, rfl, rfl, ⟨[.int .u8 0], _, rfl, rfl, ⟨[.int .u8 0], _, rfl, rfl, ⟨[.int .u8 0], _, rfl, rfl, ⟨[.int .u8 0], _, rfl, rfl, ⟨[.int .u8 0], _, rfl, rfl, ⟨[.int .u8 0], _, rfl, rfl, ⟨[.int .u8 0], _, rfl, rfl, ⟨[.int .u8 0], _, rfl, rfl, ⟨[.int .u8 0], _, rfl, rfl, ⟨[.int .u8 0], _, rfl, rfl, ⟨[.int .u8 0], _, rfl, rfl, ⟨[.int .u8 0], _, rfl, rfl, ⟨[.int .u8 0], _, rfl, rfl, ⟨[.int .u8 0], _, rfl, rfl, ⟨[.int .u8 0], _, rfl, rfl, ⟨[.int .u8 0], _, rfl, rfl, rfl⟩⟩⟩⟩⟩⟩⟩⟩⟩⟩⟩⟩⟩⟩⟩⟩⟩⟩⟩⟩⟩⟩⟩⟩⟩⟩⟩⟩⟩⟩⟩⟩
  refine s_x h rfl rfl (by decide) (x_build h.k rfl [(0, .int .u8 1)] rfl k2 (by rw [hk3]; kernel_rfl)) (fun a h => ?_)
  obtain ⟨x4, h5, hf⟩ := bsome hf
  have hX := anchor_New_ok Fu (S0 := S0) k2 ([(1 : UInt8), (0 : UInt8), (0 : UInt8), (0 : UInt8), (0 : UInt8), (0 : UInt8), (0 : UInt8), (0 : UInt8), (0 : UInt8), (0 : UInt8), (0 : UInt8), (0 : UInt8), (0 : UInt8), (0 : UInt8), (0 : UInt8), (0 : UInt8), (0 : UInt8), (0 : UInt8), (0 : UInt8), (0 : UInt8), (0 : UInt8), (0 : UInt8), (0 : UInt8), (0 : UInt8), (0 : UInt8), (0 : UInt8), (0 : UInt8), (0 : UInt8), (0 : UInt8), (0 : UInt8), (0 : UInt8), (0 : UInt8)]) (⟨hq1, (show [(1 : UInt8), (0 : UInt8), (0 : UInt8), (0 : UInt8), (0 : UInt8), (0 : UInt8), (0 : UInt8), (0 : UInt8), (0 : UInt8), (0 : UInt8), (0 : UInt8), (0 : UInt8), (0 : UInt8), (0 : UInt8), (0 : UInt8), (0 : UInt8), (0 : UInt8), (0 : UInt8), (0 : UInt8), (0 : UInt8), (0 : UInt8), (0 : UInt8), (0 : UInt8), (0 : UInt8), (0 : UInt8), (0 : UInt8), (0 : UInt8), (0 : UInt8), (0 : UInt8), (0 : UInt8), (0 : UInt8), (0 : UInt8)].length = 32 from rfl)⟩) 1 (show r64 1 from ⟨by decide, by decide⟩) _ h5 _ (h.sub (Ls := []))
  refine q_callY (Ls := []) hX h (Up.refl _ _ _) rfl rfl rfl (by decide) Try.func69 rfl rfl rfl (fun a w v L1 S7 hR le9 up8 h => ?_)
  rcases hR with hR | hR
  · obtain ⟨x10, rfl, hR⟩ := hR
    dsimp only at hf
    obtain ⟨rfl, rfl, hr11, _⟩ := hR
    refine s_move h rfl _ rfl rfl (by decide) rfl (fun a h => ?_)
    refine s_x h rfl rfl (by decide) (x_ext h.k rfl rfl rfl) (fun a h => ?_)
    refine s_x h rfl rfl (by decide) (x_ext h.k rfl rfl rfl) (fun a h => ?_)
    refine s_assign h rfl _ rfl rfl (by decide) rfl (fun a h => ?_)
    refine s_assign h rfl _ rfl rfl (by decide) rfl (fun a h => ?_)
    refine l_end ?_
    refine c_rs ?_ -- region 2
    refine s_move h rfl _ rfl rfl (by decide) rfl (fun a h => ?_)
    obtain ⟨k13, hk14⟩ : ∃ k : List Value, k = [.int .u8 2, .int .u8 0, .int .u8 0, .int .u8 0, .int .u8 0, .int .u8 0, .int .u8 0, .int .u8 0, .int .u8 0, .int .u8 0, .int .u8 0, .int .u8 0, .int .u8 0, .int .u8 0, .int .u8 0, .int .u8 0, .int .u8 0, .int .u8 0, .int .u8 0, .int .u8 0, .int .u8 0, .int .u8 0, .int .u8 0, .int .u8 0, .int .u8 0, .int .u8 0, .int .u8 0, .int .u8 0, .int .u8 0, .int .u8 0, .int .u8 0, .int .u8 0] := ⟨_, rfl⟩
    have hq12 : reps ty8 S7 k13 [(2 : UInt8), (0 : UInt8), (0 : UInt8), (0 : UInt8), (0 : UInt8), (0 : UInt8), (0 : UInt8), (0 : UInt8), (0 : UInt8), (0 : UInt8), (0 : UInt8), (0 : UInt8), (0 : UInt8), (0 : UInt8), (0 : UInt8), (0 : UInt8), (0 : UInt8), (0 : UInt8), (0 : UInt8), (0 : UInt8), (0 : UInt8), (0 : UInt8), (0 : UInt8), (0 : UInt8), (0 : UInt8), (0 : UInt8), (0 : UInt8), (0 : UInt8), (0 : UInt8), (0 : UInt8), (0 : UInt8), (0 : UInt8)] := by rw [hk14]; exact ⟨[.int .u8 2], _, rfl, rfl, ⟨[.int .u8 0], _, rfl, rfl, ⟨[.int .u8 0], _, rfl, rfl, ⟨[.int .u8 0], _, rfl, rfl, ⟨[.int .u8 0], _, rfl, rfl, ⟨[.int .u8 0], _, rfl, rfl, ⟨[.int .u8 0], _, rfl, rfl, ⟨[.int .u8 0], _, rfl, rfl, ⟨[.int .u8 0], _, rfl, rfl, ⟨[.int .u8 0], _, rfl, rfl, ⟨[.int .u8 0], _, rfl, rfl, ⟨[.int .u8 0], _, rfl, rfl, ⟨[.int .u8 0], _, rfl, rfl, ⟨[.int .u8 0], _, rfl, rfl, ⟨[.int .u8 0], _, rfl, rfl, ⟨[.int .u8 0], _, rfl, rfl, ⟨[.int .u8 0], _, rfl, rfl, ⟨[.int .u8 0], _, rfl, rfl, ⟨[.int .u8 0], _, rfl, rfl, ⟨[.int .u8 0], _, rfl, rfl, ⟨[.int .u8 0], _, rfl, rfl, ⟨[.int .u8 0], _, rfl, rfl, ⟨[.int .u8 0], _, rfl, rfl, ⟨[.int .u8 0], _, rfl, rfl, ⟨[.int .u8 0], _, rfl, rfl, ⟨[.int .u8 0], _, rfl, rfl, ⟨[.int .u8 0], _, rfl, rfl, ⟨[.int .u8 0], _, rfl, rfl, ⟨[.int .u8 0], _, rfl, rfl, ⟨[.int .u8 0], _, rfl, rfl, ⟨[.int .u8 0], _, rfl, rfl, ⟨[.int .u8 0], _, rfl, rfl, rfl⟩⟩⟩⟩⟩⟩⟩⟩⟩⟩⟩⟩⟩⟩⟩⟩⟩⟩⟩⟩⟩⟩⟩⟩⟩⟩⟩⟩⟩⟩⟩⟩
    refine s_x h rfl rfl (by decide) (x_build h.k rfl [(0, .int .u8 2)] rfl k13 (by rw [hk14]; kernel_rfl)) (fun a h => ?_)
    obtain ⟨k16, hk17⟩ : ∃ k : List Value, k = [.int .u8 3, .int .u8 0, .int .u8 0, .int .u8 0, .int .u8 0, .int .u8 0, .int .u8 0, .int .u8 0, .int .u8 0, .int .u8 0, .int .u8 0, .int .u8 0, .int .u8 0, .int .u8 0, .int .u8 0, .int .u8 0, .int .u8 0, .int .u8 0, .int .u8 0, .int .u8 0, .int .u8 0, .int .u8 0, .int .u8 0, .int .u8 0, .int .u8 0, .int .u8 0, .int .u8 0, .int .u8 0, .int .u8 0, .int .u8 0, .int .u8 0, .int .u8 0] := ⟨_, rfl⟩
    have hq15 : reps ty8 S7 k16 [(3 : UInt8), (0 : UInt8), (0 : UInt8), (0 : UInt8), (0 : UInt8), (0 : UInt8), (0 : UInt8), (0 : UInt8), (0 : UInt8), (0 : UInt8), (0 : UInt8), (0 : UInt8), (0 : UInt8), (0 : UInt8), (0 : UInt8), (0 : UInt8), (0 : UInt8), (0 : UInt8), (0 : UInt8), (0 : UInt8), (0 : UInt8), (0 : UInt8), (0 : UInt8), (0 : UInt8), (0 : UInt8), (0 : UInt8), (0 : UInt8), (0 : UInt8), (0 : UInt8), (0 : UInt8), (0 : UInt8), (0 : UInt8)] := by rw [hk17]; exact ⟨[.int .u8 3], _, rfl, rfl, ⟨[.int .u8 0], _, rfl, rfl, ⟨[.int .u8 0], _, rfl, rfl, ⟨[.int .u8 0], _, rfl, rfl, ⟨[.int .u8 0], _, rfl, rfl, ⟨[.int .u8 0], _, rfl, rfl, ⟨[.int .u8 0], _, rfl, rfl, ⟨[.int .u8 0], _, rfl, rfl, ⟨[.int .u8 0], _, rfl, rfl, ⟨[.int .u8 0], _, rfl, rfl, ⟨[.int .u8 0], _, rfl, rfl, ⟨[.int .u8 0], _, rfl, rfl, ⟨[.int .u8 0], _, rfl, rfl, ⟨[.int .u8 0], _, rfl, rfl, ⟨[.int .u8 0], _, rfl, rfl, ⟨[.int .u8 0], _, rfl, rfl, ⟨[.int .u8 0], _, rfl, rfl, ⟨[.int .u8 0], _, rfl, rfl, ⟨[.int .u8 0], _, rfl, rfl, ⟨[.int .u8 0], _, rfl, rfl, ⟨[.int .u8 0], _, rfl, rfl, ⟨[.int .u8 0], _, rfl, rfl, ⟨[.int .u8 0], _, rfl, rfl, ⟨[.int .u8 0], _, rfl, rfl, ⟨[.int .u8 0], _, rfl, rfl, ⟨[.int .u8 0], _, rfl, rfl, ⟨[.int .u8 0], _, rfl, rfl, ⟨[.int .u8 0], _, rfl, rfl, ⟨[.int .u8 0], _, rfl, rfl, ⟨[.int .u8 0], _, rfl, rfl, ⟨[.int .u8 0], _, rfl, rfl, ⟨[.int .u8 0], _, rfl, rfl, rfl⟩⟩⟩⟩⟩⟩⟩⟩⟩⟩⟩⟩⟩⟩⟩⟩⟩⟩⟩⟩⟩⟩⟩⟩⟩⟩⟩⟩⟩⟩⟩⟩
    refine s_x h rfl rfl (by decide) (x_build h.k rfl [(0, .int .u8 3)] rfl k16 (by rw [hk17]; kernel_rfl)) (fun a h => ?_)
    obtain ⟨x18, h19, hf⟩ := bsome hf
    have hX := anchor_Slot_Set_nil0_ok Fu (S0 := snapAll _) k13 ([(2 : UInt8), (0 : UInt8), (0 : UInt8), (0 : UInt8), (0 : UInt8), (0 : UInt8), (0 : UInt8), (0 : UInt8), (0 : UInt8), (0 : UInt8), (0 : UInt8), (0 : UInt8), (0 : UInt8), (0 : UInt8), (0 : UInt8), (0 : UInt8), (0 : UInt8), (0 : UInt8), (0 : UInt8), (0 : UInt8), (0 : UInt8), (0 : UInt8), (0 : UInt8), (0 : UInt8), (0 : UInt8), (0 : UInt8), (0 : UInt8), (0 : UInt8), (0 : UInt8), (0 : UInt8), (0 : UInt8), (0 : UInt8)]) ((tyA 32 ty8).mono (h.m.leAll (i := 0) rfl) (show (tyA 32 ty8).rep S7 k13 ([(2 : UInt8), (0 : UInt8), (0 : UInt8), (0 : UInt8), (0 : UInt8), (0 : UInt8), (0 : UInt8), (0 : UInt8), (0 : UInt8), (0 : UInt8), (0 : UInt8), (0 : UInt8), (0 : UInt8), (0 : UInt8), (0 : UInt8), (0 : UInt8), (0 : UInt8), (0 : UInt8), (0 : UInt8), (0 : UInt8), (0 : UInt8), (0 : UInt8), (0 : UInt8), (0 : UInt8), (0 : UInt8), (0 : UInt8), (0 : UInt8), (0 : UInt8), (0 : UInt8), (0 : UInt8), (0 : UInt8), (0 : UInt8)]) from ⟨hq12, (show [(2 : UInt8), (0 : UInt8), (0 : UInt8), (0 : UInt8), (0 : UInt8), (0 : UInt8), (0 : UInt8), (0 : UInt8), (0 : UInt8), (0 : UInt8), (0 : UInt8), (0 : UInt8), (0 : UInt8), (0 : UInt8), (0 : UInt8), (0 : UInt8), (0 : UInt8), (0 : UInt8), (0 : UInt8), (0 : UInt8), (0 : UInt8), (0 : UInt8), (0 : UInt8), (0 : UInt8), (0 : UInt8), (0 : UInt8), (0 : UInt8), (0 : UInt8), (0 : UInt8), (0 : UInt8), (0 : UInt8), (0 : UInt8)].length = 32 from rfl)⟩)) k16 ([(3 : UInt8), (0 : UInt8), (0 : UInt8), (0 : UInt8), (0 : UInt8), (0 : UInt8), (0 : UInt8), (0 : UInt8), (0 : UInt8), (0 : UInt8), (0 : UInt8), (0 : UInt8), (0 : UInt8), (0 : UInt8), (0 : UInt8), (0 : UInt8), (0 : UInt8), (0 : UInt8), (0 : UInt8), (0 : UInt8), (0 : UInt8), (0 : UInt8), (0 : UInt8), (0 : UInt8), (0 : UInt8), (0 : UInt8), (0 : UInt8), (0 : UInt8), (0 : UInt8), (0 : UInt8), (0 : UInt8), (0 : UInt8)]) ((tyA 32 ty8).mono (h.m.leAll (i := 0) rfl) (show (tyA 32 ty8).rep S7 k16 ([(3 : UInt8), (0 : UInt8), (0 : UInt8), (0 : UInt8), (0 : UInt8), (0 : UInt8), (0 : UInt8), (0 : UInt8), (0 : UInt8), (0 : UInt8), (0 : UInt8), (0 : UInt8), (0 : UInt8), (0 : UInt8), (0 : UInt8), (0 : UInt8), (0 : UInt8), (0 : UInt8), (0 : UInt8), (0 : UInt8), (0 : UInt8), (0 : UInt8), (0 : UInt8), (0 : UInt8), (0 : UInt8), (0 : UInt8), (0 : UInt8), (0 : UInt8), (0 : UInt8), (0 : UInt8), (0 : UInt8), (0 : UInt8)]) from ⟨hq15, (show [(3 : UInt8), (0 : UInt8), (0 : UInt8), (0 : UInt8), (0 : UInt8), (0 : UInt8), (0 : UInt8), (0 : UInt8), (0 : UInt8), (0 : UInt8), (0 : UInt8), (0 : UInt8), (0 : UInt8), (0 : UInt8), (0 : UInt8), (0 : UInt8), (0 : UInt8), (0 : UInt8), (0 : UInt8), (0 : UInt8), (0 : UInt8), (0 : UInt8), (0 : UInt8), (0 : UInt8), (0 : UInt8), (0 : UInt8), (0 : UInt8), (0 : UInt8), (0 : UInt8), (0 : UInt8), (0 : UInt8), (0 : UInt8)].length = 32 from rfl)⟩)) _ h19 _ h.startAll
    refine q_callX hX h rfl rfl rfl (by decide) Try.func42 rfl rfl rfl (fun a w v L1 S1 hR hb1 h => ?_)
    obtain ⟨rfl, rfl, hr21, _⟩ := hR
    refine s_assign h rfl _ rfl rfl (by decide) rfl (fun a h => ?_)
    refine l_end ?_
    refine c_rs ?_ -- region 3
    refine s_move h rfl _ rfl rfl (by decide) rfl (fun a h => ?_)
    obtain ⟨k23, hk24⟩ : ∃ k : List Value, k = [.int .u8 4, .int .u8 0, .int .u8 0, .int .u8 0, .int .u8 0, .int .u8 0, .int .u8 0, .int .u8 0, .int .u8 0, .int .u8 0, .int .u8 0, .int .u8 0, .int .u8 0, .int .u8 0, .int .u8 0, .int .u8 0, .int .u8 0, .int .u8 0, .int .u8 0, .int .u8 0, .int .u8 0, .int .u8 0, .int .u8 0, .int .u8 0, .int .u8 0, .int .u8 0, .int .u8 0, .int .u8 0, .int .u8 0, .int .u8 0, .int .u8 0, .int .u8 0] := ⟨_, rfl⟩
    have hq22 : reps ty8 S7 k23 [(4 : UInt8), (0 : UInt8), (0 : UInt8), (0 : UInt8), (0 : UInt8), (0 : UInt8), (0 : UInt8), (0 : UInt8), (0 : UInt8), (0 : UInt8), (0 : UInt8), (0 : UInt8), (0 : UInt8), (0 : UInt8), (0 : UInt8), (0 : UInt8), (0 : UInt8), (0 : UInt8), (0 : UInt8), (0 : UInt8), (0 : UInt8), (0 : UInt8), (0 : UInt8), (0 : UInt8), (0 : UInt8), (0 : UInt8), (0 : UInt8), (0 : UInt8), (0 : UInt8), (0 : UInt8), (0 : UInt8), (0 : UInt8)] := by rw [hk24]; exact ⟨[.int .u8 4], _, rfl, rfl, ⟨[.int .u8 0], _, rfl, rfl, ⟨[.int .u8 0], _, rfl, rfl, ⟨[.int .u8 0], _, rfl, rfl, ⟨[.int .u8 0], _, rfl, rfl, ⟨[.int .u8 0], _, rfl, rfl, ⟨[.int .u8 0], _, rfl, rfl, ⟨[.int .u8 0], _, rfl, rfl, ⟨[.int .u8 0], _, rfl, rfl, ⟨[.int .u8 0], _, rfl, rfl, ⟨[.int .u8 0], _, rfl, rfl, ⟨[.int .u8 0], _, rfl, rfl, ⟨[.int .u8 0], _, rfl, rfl, ⟨[.int .u8 0], _, rfl, rfl, ⟨[.int .u8 0], _, rfl, rfl, ⟨[.int .u8 0], _, rfl, rfl, ⟨[.int .u8 0], _, rfl, rfl, ⟨[.int .u8 0], _, rfl, rfl, ⟨[.int .u8 0], _, rfl, rfl, ⟨[.int .u8 0], _, rfl, rfl, ⟨[.int .u8 0], _, rfl, rfl, ⟨[.int .u8 0], _, rfl, rfl, ⟨[.int .u8 0], _, rfl, rfl, ⟨[.int .u8 0], _, rfl, rfl, ⟨[.int .u8 0], _, rfl, rfl, ⟨[.int .u8 0], _, rfl, rfl, ⟨[.int .u8 0], _, rfl, rfl, ⟨[.int .u8 0], _, rfl, rfl, ⟨[.int .u8 0], _, rfl, rfl, ⟨[.int .u8 0], _, rfl, rfl, ⟨[.int .u8 0], _, rfl, rfl, ⟨[.int .u8 0], _, rfl, rfl, rfl⟩⟩⟩⟩⟩⟩⟩⟩⟩⟩⟩⟩⟩⟩⟩⟩⟩⟩⟩⟩⟩⟩⟩⟩⟩⟩⟩⟩⟩⟩⟩⟩
    refine s_x h rfl rfl (by decide) (x_build h.k rfl [(0, .int .u8 4)] rfl k23 (by rw [hk24]; kernel_rfl)) (fun a h => ?_)
    obtain ⟨k26, hk27⟩ : ∃ k : List Value, k = [.int .u8 5, .int .u8 0, .int .u8 0, .int .u8 0, .int .u8 0, .int .u8 0, .int .u8 0, .int .u8 0, .int .u8 0, .int .u8 0, .int .u8 0, .int .u8 0, .int .u8 0, .int .u8 0, .int .u8 0, .int .u8 0, .int .u8 0, .int .u8 0, .int .u8 0, .int .u8 0, .int .u8 0, .int .u8 0, .int .u8 0, .int .u8 0, .int .u8 0, .int .u8 0, .int .u8 0, .int .u8 0, .int .u8 0, .int .u8 0, .int .u8 0, .int .u8 0] := ⟨_, rfl⟩
    have hq25 : reps ty8 S7 k26 [(5 : UInt8), (0 : UInt8), (0 : UInt8), (0 : UInt8), (0 : UInt8), (0 : UInt8), (0 : UInt8), (0 : UInt8), (0 : UInt8), (0 : UInt8), (0 : UInt8), (0 : UInt8), (0 : UInt8), (0 : UInt8), (0 : UInt8), (0 : UInt8), (0 : UInt8), (0 : UInt8), (0 : UInt8), (0 : UInt8), (0 : UInt8), (0 : UInt8), (0 : UInt8), (0 : UInt8), (0 : UInt8), (0 : UInt8), (0 : UInt8), (0 : UInt8), (0 : UInt8), (0 : UInt8), (0 : UInt8), (0 : UInt8)] := by rw [hk27]; exact ⟨[.int .u8 5], _, rfl, rfl, ⟨[.int .u8 0], _, rfl, rfl, ⟨[.int .u8 0], _, rfl, rfl, ⟨[.int .u8 0], _, rfl, rfl, ⟨[.int .u8 0], _, rfl, rfl, ⟨[.int .u8 0], _, rfl, rfl, ⟨[.int .u8 0], _, rfl, rfl, ⟨[.int .u8 0], _, rfl, rfl, ⟨[.int .u8 0], _, rfl, rfl, ⟨[.int .u8 0], _, rfl, rfl, ⟨[.int .u8 0], _, rfl, rfl, ⟨[.int .u8 0], _, rfl, rfl, ⟨[.int .u8 0], _, rfl, rfl, ⟨[.int .u8 0], _, rfl, rfl, ⟨[.int .u8 0], _, rfl, rfl, ⟨[.int .u8 0], _, rfl, rfl, ⟨[.int .u8 0], _, rfl, rfl, ⟨[.int .u8 0], _, rfl, rfl, ⟨[.int .u8 0], _, rfl, rfl, ⟨[.int .u8 0], _, rfl, rfl, ⟨[.int .u8 0], _, rfl, rfl, ⟨[.int .u8 0], _, rfl, rfl, ⟨[.int .u8 0], _, rfl, rfl, ⟨[.int .u8 0], _, rfl, rfl, ⟨[.int .u8 0], _, rfl, rfl, ⟨[.int .u8 0], _, rfl, rfl, ⟨[.int .u8 0], _, rfl, rfl, ⟨[.int .u8 0], _, rfl, rfl, ⟨[.int .u8 0], _, rfl, rfl, ⟨[.int .u8 0], _, rfl, rfl, ⟨[.int .u8 0], _, rfl, rfl, ⟨[.int .u8 0], _, rfl, rfl, rfl⟩⟩⟩⟩⟩⟩⟩⟩⟩⟩⟩⟩⟩⟩⟩⟩⟩⟩⟩⟩⟩⟩⟩⟩⟩⟩⟩⟩⟩⟩⟩⟩
    refine s_x h rfl rfl (by decide) (x_build h.k rfl [(0, .int .u8 5)] rfl k26 (by rw [hk27]; kernel_rfl)) (fun a h => ?_)
    obtain ⟨x28, h29, hf⟩ := bsome hf
    have hX := anchor_Slot_Set_nil0_ok Fu (S0 := snapAll _) k23 ([(4 : UInt8), (0 : UInt8), (0 : UInt8), (0 : UInt8), (0 : UInt8), (0 : UInt8), (0 : UInt8), (0 : UInt8), (0 : UInt8), (0 : UInt8), (0 : UInt8), (0 : UInt8), (0 : UInt8), (0 : UInt8), (0 : UInt8), (0 : UInt8), (0 : UInt8), (0 : UInt8), (0 : UInt8), (0 : UInt8), (0 : UInt8), (0 : UInt8), (0 : UInt8), (0 : UInt8), (0 : UInt8), (0 : UInt8), (0 : UInt8), (0 : UInt8), (0 : UInt8), (0 : UInt8), (0 : UInt8), (0 : UInt8)]) ((tyA 32 ty8).mono (h.m.leAll (i := 0) rfl) (show (tyA 32 ty8).rep S7 k23 ([(4 : UInt8), (0 : UInt8), (0 : UInt8), (0 : UInt8), (0 : UInt8), (0 : UInt8), (0 : UInt8), (0 : UInt8), (0 : UInt8), (0 : UInt8), (0 : UInt8), (0 : UInt8), (0 : UInt8), (0 : UInt8), (0 : UInt8), (0 : UInt8), (0 : UInt8), (0 : UInt8), (0 : UInt8), (0 : UInt8), (0 : UInt8), (0 : UInt8), (0 : UInt8), (0 : UInt8), (0 : UInt8), (0 : UInt8), (0 : UInt8), (0 : UInt8), (0 : UInt8), (0 : UInt8), (0 : UInt8), (0 : UInt8)]) from ⟨hq22, (show [(4 : UInt8), (0 : UInt8), (0 : UInt8), (0 : UInt8), (0 : UInt8), (0 : UInt8), (0 : UInt8), (0 : UInt8), (0 : UInt8), (0 : UInt8), (0 : UInt8), (0 : UInt8), (0 : UInt8), (0 : UInt8), (0 : UInt8), (0 : UInt8), (0 : UInt8), (0 : UInt8), (0 : UInt8), (0 : UInt8), (0 : UInt8), (0 : UInt8), (0 : UInt8), (0 : UInt8), (0 : UInt8), (0 : UInt8), (0 : UInt8), (0 : UInt8), (0 : UInt8), (0 : UInt8), (0 : UInt8), (0 : UInt8)].length = 32 from rfl)⟩)) k26 ([(5 : UInt8), (0 : UInt8), (0 : UInt8), (0 : UInt8), (0 : UInt8), (0 : UInt8), (0 : UInt8), (0 : UInt8), (0 : UInt8), (0 : UInt8), (0 : UInt8), (0 : UInt8), (0 : UInt8), (0 : UInt8), (0 : UInt8), (0 : UInt8), (0 : UInt8), (0 : UInt8), (0 : UInt8), (0 : UInt8), (0 : UInt8), (0 : UInt8), (0 : UInt8), (0 : UInt8), (0 : UInt8), (0 : UInt8), (0 : UInt8), (0 : UInt8), (0 : UInt8), (0 : UInt8), (0 : UInt8), (0 : UInt8)]) ((tyA 32 ty8).mono (h.m.leAll (i := 0) rfl) (show (tyA 32 ty8).rep S7 k26 ([(5 : UInt8), (0 : UInt8), (0 : UInt8), (0 : UInt8), (0 : UInt8), (0 : UInt8), (0 : UInt8), (0 : UInt8), (0 : UInt8), (0 : UInt8), (0 : UInt8), (0 : UInt8), (0 : UInt8), (0 : UInt8), (0 : UInt8), (0 : UInt8), (0 : UInt8), (0 : UInt8), (0 : UInt8), (0 : UInt8), (0 : UInt8), (0 : UInt8), (0 : UInt8), (0 : UInt8), (0 : UInt8), (0 : UInt8), (0 : UInt8), (0 : UInt8), (0 : UInt8), (0 : UInt8), (0 : UInt8), (0 : UInt8)]) from ⟨hq25, (show [(5 : UInt8), (0 : UInt8), (0 : UInt8), (0 : UInt8), (0 : UInt8), (0 : UInt8), (0 : UInt8), (0 : UInt8), (0 : UInt8), (0 : UInt8), (0 : UInt8), (0 : UInt8), (0 : UInt8), (0 : UInt8), (0 : UInt8), (0 : UInt8), (0 : UInt8), (0 : UInt8), (0 : UInt8), (0 : UInt8), (0 : UInt8), (0 : UInt8), (0 : UInt8), (0 : UInt8), (0 : UInt8), (0 : UInt8), (0 : UInt8), (0 : UInt8), (0 : UInt8), (0 : UInt8), (0 : UInt8), (0 : UInt8)].length = 32 from rfl)⟩)) _ h29 _ h.startAll
    refine q_callX hX h rfl rfl rfl (by decide) Try.func42 rfl rfl rfl (fun a w v L1 S1 hR hb1 h => ?_)
    obtain ⟨rfl, rfl, hr31, _⟩ := hR
    refine s_assign h rfl _ rfl rfl (by decide) rfl (fun a h => ?_)
    refine l_end ?_
    refine c_rs ?_ -- region 4
    refine s_move h rfl _ rfl rfl (by decide) rfl (fun a h => ?_)
    refine s_x h rfl rfl (by decide) (x_bin h.k rfl rfl rfl ib_eql) (fun a h => ?_)
    refine s_move h rfl _ rfl rfl (by decide) rfl (fun a h => ?_)
    refine q_grp h 3 (t := 20) 23 ((decide (x10 = 0)) && (decide (x18 = 0))) rfl (fun hB2 => ?_) (fun hB2 => ?_) (fun a w h => ?_)
    · refine g_yes h rfl rfl rfl rfl hB2 ?_
      refine s_move h rfl _ rfl rfl (by decide) rfl (fun a h => ?_)
      refine g_yes h rfl rfl rfl rfl hB2 ?_
      refine s_x h rfl rfl (by decide) (x_bin h.k rfl rfl rfl ib_eql) (fun a h => ?_)
      refine s_x h rfl rfl (by decide) (x_pick (u' := undef) h.k rfl rfl (fun _ => rfl) (fun hh => absurd (hB2.symm.trans hh) (by decide))) (fun a h => ?_)
      exact (h.mid 2 rfl).val (by first | rfl | (rw [hB2]; first | rfl | simp))
    · refine g_no h rfl rfl rfl rfl hB2 rfl (by decide) (fun a h => ?_)
      refine g_no h rfl rfl rfl rfl hB2 rfl (by decide) (fun a h => ?_)
      refine s_x h rfl rfl (by decide) (x_pick (u' := undef) h.k rfl rfl (fun hh => absurd (hB2.symm.trans hh) (by decide)) (fun _ => rfl)) (fun a h => ?_)
      exact (h.mid 2 rfl).val (by first | rfl | (rw [hB2]; first | rfl | simp))
    refine s_move h rfl _ rfl rfl (by decide) rfl (fun a h => ?_)
    refine q_grp h 3 (t := 24) 27 (((decide (x10 = 0)) && (decide (x18 = 0))) && (decide (x28 = 35))) rfl (fun hB6 => ?_) (fun hB6 => ?_) (fun a w h => ?_)
    · refine g_yes h rfl rfl rfl rfl hB6 ?_
      refine s_move h rfl _ rfl rfl (by decide) rfl (fun a h => ?_)
      refine g_yes h rfl rfl rfl rfl hB6 ?_
      refine s_x h rfl rfl (by decide) (x_bin h.k rfl rfl rfl ib_eql) (fun a h => ?_)
      refine s_x h rfl rfl (by decide) (x_pick (u' := undef) h.k rfl rfl (fun _ => rfl) (fun hh => absurd (hB6.symm.trans hh) (by decide))) (fun a h => ?_)
      exact (h.mid 2 rfl).val (by first | rfl | (rw [hB6]; first | rfl | simp))
    · refine g_no h rfl rfl rfl rfl hB6 rfl (by decide) (fun a h => ?_)
      refine g_no h rfl rfl rfl rfl hB6 rfl (by decide) (fun a h => ?_)
      refine s_x h rfl rfl (by decide) (x_pick (u' := undef) h.k rfl rfl (fun hh => absurd (hB6.symm.trans hh) (by decide)) (fun _ => rfl)) (fun a h => ?_)
      exact (h.mid 2 rfl).val (by first | rfl | (rw [hB6]; first | rfl | simp))
    refine s_move h rfl _ rfl rfl (by decide) rfl (fun a h => ?_)
    obtain ⟨z37, hz36, hf⟩ := bsome hf
    refine q_grp h 7 (t := 28) 35 z37 rfl (fun hB10 => ?_) (fun hB10 => ?_) (fun a w h => ?_)
    · rw [if_pos hB10] at hz36
      refine g_yes h rfl rfl rfl rfl hB10 ?_
      refine s_move h rfl _ rfl rfl (by decide) rfl (fun a h => ?_)
      refine g_yes h rfl rfl rfl rfl hB10 ?_
      obtain ⟨x39, h40, hz36⟩ := bsome hz36
      have hX := anchor_Slot_Get_nil0_ok Fu (S0 := snapAll _)  _ h40 _ h.startAll
      refine q_callX hX h rfl rfl rfl (by decide) Try.func38 rfl rfl rfl (fun a w v L1 S1 hR hb1 h => ?_)
      obtain ⟨k42, rfl, rfl, hv43, _⟩ := hR
      obtain ⟨k44, k45, rfl, ⟨rfl, hr46⟩, ⟨k47, k48, rfl, ⟨hs49, hl50⟩, ⟨hs51, hl52⟩⟩⟩ := hv43
      have hq53 := hs49.fl (S' := S7) fl_8
      have hq54 := hs51.fl (S' := S7) fl_8
      refine g_yes h rfl rfl rfl rfl hB10 ?_
      obtain ⟨k56, hk57⟩ : ∃ k : List Value, k = [.int .u8 2, .int .u8 0, .int .u8 0, .int .u8 0, .int .u8 0, .int .u8 0, .int .u8 0, .int .u8 0, .int .u8 0, .int .u8 0, .int .u8 0, .int .u8 0, .int .u8 0, .int .u8 0, .int .u8 0, .int .u8 0, .int .u8 0, .int .u8 0, .int .u8 0, .int .u8 0, .int .u8 0, .int .u8 0, .int .u8 0, .int .u8 0, .int .u8 0, .int .u8 0, .int .u8 0, .int .u8 0, .int .u8 0, .int .u8 0, .int .u8 0, .int .u8 0] := ⟨_, rfl⟩
      have hq55 : reps ty8 S7 k56 [(2 : UInt8), (0 : UInt8), (0 : UInt8), (0 : UInt8), (0 : UInt8), (0 : UInt8), (0 : UInt8), (0 : UInt8), (0 : UInt8), (0 : UInt8), (0 : UInt8), (0 : UInt8), (0 : UInt8), (0 : UInt8), (0 : UInt8), (0 : UInt8), (0 : UInt8), (0 : UInt8), (0 : UInt8), (0 : UInt8), (0 : UInt8), (0 : UInt8), (0 : UInt8), (0 : UInt8), (0 : UInt8), (0 : UInt8), (0 : UInt8), (0 : UInt8), (0 : UInt8), (0 : UInt8), (0 : UInt8), (0 : UInt8)] := by rw [hk57]; exact ⟨[.int .u8 2], _, rfl, rfl, ⟨[.int .u8 0], _, rfl, rfl, ⟨[.int .u8 0], _, rfl, rfl, ⟨[.int .u8 0], _, rfl, rfl, ⟨[.int .u8 0], _, rfl, rfl, ⟨[.int .u8 0], _, rfl, rfl, ⟨[.int .u8 0], _, rfl, rfl, ⟨[.int .u8 0], _, rfl, rfl, ⟨[.int .u8 0], _, rfl, rfl, ⟨[.int .u8 0], _, rfl, rfl, ⟨[.int .u8 0], _, rfl, rfl, ⟨[.int .u8 0], _, rfl, rfl, ⟨[.int .u8 0], _, rfl, rfl, ⟨[.int .u8 0], _, rfl, rfl, ⟨[.int .u8 0], _, rfl, rfl, ⟨[.int .u8 0], _, rfl, rfl, ⟨[.int .u8 0], _, rfl, rfl, ⟨[.int .u8 0], _, rfl, rfl, ⟨[.int .u8 0], _, rfl, rfl, ⟨[.int .u8 0], _, rfl, rfl, ⟨[.int .u8 0], _, rfl, rfl, ⟨[.int .u8 0], _, rfl, rfl, ⟨[.int .u8 0], _, rfl, rfl, ⟨[.int .u8 0], _, rfl, rfl, ⟨[.int .u8 0], _, rfl, rfl, ⟨[.int .u8 0], _, rfl, rfl, ⟨[.int .u8 0], _, rfl, rfl, ⟨[.int .u8 0], _, rfl, rfl, ⟨[.int .u8 0], _, rfl, rfl, ⟨[.int .u8 0], _, rfl, rfl, ⟨[.int .u8 0], _, rfl, rfl, ⟨[.int .u8 0], _, rfl, rfl, rfl⟩⟩⟩⟩⟩⟩⟩⟩⟩⟩⟩⟩⟩⟩⟩⟩⟩⟩⟩⟩⟩⟩⟩⟩⟩⟩⟩⟩⟩⟩⟩⟩
      refine s_x h rfl rfl (by decide) (x_build h.k rfl [(0, .int .u8 2)] rfl k56 (by rw [hk57]; kernel_rfl)) (fun a h => ?_)
      refine g_yes h rfl rfl rfl rfl hB10 ?_
      obtain ⟨k59, hk60⟩ : ∃ k : List Value, k = [.int .u8 3, .int .u8 0, .int .u8 0, .int .u8 0, .int .u8 0, .int .u8 0, .int .u8 0, .int .u8 0, .int .u8 0, .int .u8 0, .int .u8 0, .int .u8 0, .int .u8 0, .int .u8 0, .int .u8 0, .int .u8 0, .int .u8 0, .int .u8 0, .int .u8 0, .int .u8 0, .int .u8 0, .int .u8 0, .int .u8 0, .int .u8 0, .int .u8 0, .int .u8 0, .int .u8 0, .int .u8 0, .int .u8 0, .int .u8 0, .int .u8 0, .int .u8 0] := ⟨_, rfl⟩
      have hq58 : reps ty8 S7 k59 [(3 : UInt8), (0 : UInt8), (0 : UInt8), (0 : UInt8), (0 : UInt8), (0 : UInt8), (0 : UInt8), (0 : UInt8), (0 : UInt8), (0 : UInt8), (0 : UInt8), (0 : UInt8), (0 : UInt8), (0 : UInt8), (0 : UInt8), (0 : UInt8), (0 : UInt8), (0 : UInt8), (0 : UInt8), (0 : UInt8), (0 : UInt8), (0 : UInt8), (0 : UInt8), (0 : UInt8), (0 : UInt8), (0 : UInt8), (0 : UInt8), (0 : UInt8), (0 : UInt8), (0 : UInt8), (0 : UInt8), (0 : UInt8)] := by rw [hk60]; exact ⟨[.int .u8 3], _, rfl, rfl, ⟨[.int .u8 0], _, rfl, rfl, ⟨[.int .u8 0], _, rfl, rfl, ⟨[.int .u8 0], _, rfl, rfl, ⟨[.int .u8 0], _, rfl, rfl, ⟨[.int .u8 0], _, rfl, rfl, ⟨[.int .u8 0], _, rfl, rfl, ⟨[.int .u8 0], _, rfl, rfl, ⟨[.int .u8 0], _, rfl, rfl, ⟨[.int .u8 0], _, rfl, rfl, ⟨[.int .u8 0], _, rfl, rfl, ⟨[.int .u8 0], _, rfl, rfl, ⟨[.int .u8 0], _, rfl, rfl, ⟨[.int .u8 0], _, rfl, rfl, ⟨[.int .u8 0], _, rfl, rfl, ⟨[.int .u8 0], _, rfl, rfl, ⟨[.int .u8 0], _, rfl, rfl, ⟨[.int .u8 0], _, rfl, rfl, ⟨[.int .u8 0], _, rfl, rfl, ⟨[.int .u8 0], _, rfl, rfl, ⟨[.int .u8 0], _, rfl, rfl, ⟨[.int .u8 0], _, rfl, rfl, ⟨[.int .u8 0], _, rfl, rfl, ⟨[.int .u8 0], _, rfl, rfl, ⟨[.int .u8 0], _, rfl, rfl, ⟨[.int .u8 0], _, rfl, rfl, ⟨[.int .u8 0], _, rfl, rfl, ⟨[.int .u8 0], _, rfl, rfl, ⟨[.int .u8 0], _, rfl, rfl, ⟨[.int .u8 0], _, rfl, rfl, ⟨[.int .u8 0], _, rfl, rfl, ⟨[.int .u8 0], _, rfl, rfl, rfl⟩⟩⟩⟩⟩⟩⟩⟩⟩⟩⟩⟩⟩⟩⟩⟩⟩⟩⟩⟩⟩⟩⟩⟩⟩⟩⟩⟩⟩⟩⟩⟩
      refine s_x h rfl rfl (by decide) (x_build h.k rfl [(0, .int .u8 3)] rfl k59 (by rw [hk60]; kernel_rfl)) (fun a h => ?_)
      refine g_yes h rfl rfl rfl rfl hB10 ?_
      refine s_x h rfl rfl (by decide) (x_build h.k rfl [(0, .int .i64 1), (1, .agg k56.toArray), (2, .agg k59.toArray)] rfl (([.int .i64 1] : List Value) ++ (k56 ++ k59)) (builtS Try.underlying69 zi_api_Root (places := [(0, 1), (1, 32), (33, 32)]) (by kernel_rfl) (cs := ([.int .i64 0] : List Value) ++ ((List.replicate 32 (.int .u8 0 : Value)) ++ (List.replicate 32 (.int .u8 0 : Value)))) (by kernel_rfl) (built_step (X := []) (Y := [.int .i64 0]) (Z := (List.replicate 32 (.int .u8 0 : Value)) ++ ((List.replicate 32 (.int .u8 0 : Value)))) (V := [.int .i64 1]) (off := 0) (n := 1) (by simp only [List.append_assoc, List.cons_append, List.nil_append, List.append_nil]) rfl rfl rfl rfl rfl (built_step (X := [.int .i64 1]) (Y := (List.replicate 32 (.int .u8 0 : Value))) (Z := (List.replicate 32 (.int .u8 0 : Value))) (V := k56) (off := 1) (n := 32) (by simp only [List.append_assoc, List.cons_append, List.nil_append, List.append_nil]) rfl rfl (by first | rfl | simp_all) rfl ((hq55).len.trans (by rw [(show [(2 : UInt8), (0 : UInt8), (0 : UInt8), (0 : UInt8), (0 : UInt8), (0 : UInt8), (0 : UInt8), (0 : UInt8), (0 : UInt8), (0 : UInt8), (0 : UInt8), (0 : UInt8), (0 : UInt8), (0 : UInt8), (0 : UInt8), (0 : UInt8), (0 : UInt8), (0 : UInt8), (0 : UInt8), (0 : UInt8), (0 : UInt8), (0 : UInt8), (0 : UInt8), (0 : UInt8), (0 : UInt8), (0 : UInt8), (0 : UInt8), (0 : UInt8), (0 : UInt8), (0 : UInt8), (0 : UInt8), (0 : UInt8)].length = 32 from rfl)]; rfl)) (built_step (X := ([.int .i64 1] : List Value) ++ (k56)) (Y := (List.replicate 32 (.int .u8 0 : Value))) (Z := []) (V := k59) (off := 33) (n := 32) (by simp only [List.append_assoc, List.cons_append, List.nil_append, List.append_nil]) rfl (show (([.int .i64 1] : List Value) ++ (k56) : List Value).length = 33 from by simp only [List.length_append, List.length_cons, List.length_nil, (show (k56 : List Value).length = 32 from ((hq55).len.trans (by rw [(show [(2 : UInt8), (0 : UInt8), (0 : UInt8), (0 : UInt8), (0 : UInt8), (0 : UInt8), (0 : UInt8), (0 : UInt8), (0 : UInt8), (0 : UInt8), (0 : UInt8), (0 : UInt8), (0 : UInt8), (0 : UInt8), (0 : UInt8), (0 : UInt8), (0 : UInt8), (0 : UInt8), (0 : UInt8), (0 : UInt8), (0 : UInt8), (0 : UInt8), (0 : UInt8), (0 : UInt8), (0 : UInt8), (0 : UInt8), (0 : UInt8), (0 : UInt8), (0 : UInt8), (0 : UInt8), (0 : UInt8), (0 : UInt8)].length = 32 from rfl)]; rfl))), (show ((List.replicate 32 (.int .u8 0 : Value)) : List Value).length = 32 from (by first | rfl | simp_all))]) (by first | rfl | simp_all) rfl ((hq58).len.trans (by rw [(show [(3 : UInt8), (0 : UInt8), (0 : UInt8), (0 : UInt8), (0 : UInt8), (0 : UInt8), (0 : UInt8), (0 : UInt8), (0 : UInt8), (0 : UInt8), (0 : UInt8), (0 : UInt8), (0 : UInt8), (0 : UInt8), (0 : UInt8), (0 : UInt8), (0 : UInt8), (0 : UInt8), (0 : UInt8), (0 : UInt8), (0 : UInt8), (0 : UInt8), (0 : UInt8), (0 : UInt8), (0 : UInt8), (0 : UInt8), (0 : UInt8), (0 : UInt8), (0 : UInt8), (0 : UInt8), (0 : UInt8), (0 : UInt8)].length = 32 from rfl)]; rfl)) (built_nil (by simp only [List.append_assoc, List.cons_append, List.nil_append, List.append_nil]))))))) (fun a h => ?_)
      refine g_yes h rfl rfl rfl rfl hB10 ?_
      refine s_x h rfl rfl (by decide) (x_eqlS h.k rfl rfl rfl gdb_api_Root (eqa_api_Root _ (S := S7) (S' := S7) (([.int .i64 x39.1] : List Value) ++ (k47 ++ k48)) (([.int .i64 1] : List Value) ++ (k56 ++ k59)) x39 (1, [(2 : UInt8), (0 : UInt8), (0 : UInt8), (0 : UInt8), (0 : UInt8), (0 : UInt8), (0 : UInt8), (0 : UInt8), (0 : UInt8), (0 : UInt8), (0 : UInt8), (0 : UInt8), (0 : UInt8), (0 : UInt8), (0 : UInt8), (0 : UInt8), (0 : UInt8), (0 : UInt8), (0 : UInt8), (0 : UInt8), (0 : UInt8), (0 : UInt8), (0 : UInt8), (0 : UInt8), (0 : UInt8), (0 : UInt8), (0 : UInt8), (0 : UInt8), (0 : UInt8), (0 : UInt8), (0 : UInt8), (0 : UInt8)], [(3 : UInt8), (0 : UInt8), (0 : UInt8), (0 : UInt8), (0 : UInt8), (0 : UInt8), (0 : UInt8), (0 : UInt8), (0 : UInt8), (0 : UInt8), (0 : UInt8), (0 : UInt8), (0 : UInt8), (0 : UInt8), (0 : UInt8), (0 : UInt8), (0 : UInt8), (0 : UInt8), (0 : UInt8), (0 : UInt8), (0 : UInt8), (0 : UInt8), (0 : UInt8), (0 : UInt8), (0 : UInt8), (0 : UInt8), (0 : UInt8), (0 : UInt8), (0 : UInt8), (0 : UInt8), (0 : UInt8), (0 : UInt8)]) ⟨[.int .i64 x39.1], k47 ++ k48, rfl, ⟨rfl, hr46⟩, ⟨k47, k48, rfl, ⟨hq53, hl50⟩, ⟨hq54, hl52⟩⟩⟩ ⟨[.int .i64 1], k56 ++ k59, rfl, ⟨rfl, (show r64 1 from ⟨by decide, by decide⟩)⟩, ⟨k56, k59, rfl, ⟨hq55, (show [(2 : UInt8), (0 : UInt8), (0 : UInt8), (0 : UInt8), (0 : UInt8), (0 : UInt8), (0 : UInt8), (0 : UInt8), (0 : UInt8), (0 : UInt8), (0 : UInt8), (0 : UInt8), (0 : UInt8), (0 : UInt8), (0 : UInt8), (0 : UInt8), (0 : UInt8), (0 : UInt8), (0 : UInt8), (0 : UInt8), (0 : UInt8), (0 : UInt8), (0 : UInt8), (0 : UInt8), (0 : UInt8), (0 : UInt8), (0 : UInt8), (0 : UInt8), (0 : UInt8), (0 : UInt8), (0 : UInt8), (0 : UInt8)].length = 32 from rfl)⟩, ⟨hq58, (show [(3 : UInt8), (0 : UInt8), (0 : UInt8), (0 : UInt8), (0 : UInt8), (0 : UInt8), (0 : UInt8), (0 : UInt8), (0 : UInt8), (0 : UInt8), (0 : UInt8), (0 : UInt8), (0 : UInt8), (0 : UInt8), (0 : UInt8), (0 : UInt8), (0 : UInt8), (0 : UInt8), (0 : UInt8), (0 : UInt8), (0 : UInt8), (0 : UInt8), (0 : UInt8), (0 : UInt8), (0 : UInt8), (0 : UInt8), (0 : UInt8), (0 : UInt8), (0 : UInt8), (0 : UInt8), (0 : UInt8), (0 : UInt8)].length = 32 from rfl)⟩⟩⟩)) (fun a h => ?_)
      refine s_x h rfl rfl (by decide) (x_pick (u' := undef) h.k rfl rfl (fun _ => rfl) (fun hh => absurd (hB10.symm.trans hh) (by decide))) (fun a h => ?_)
      exact (h.mid 6 rfl).val (by rw [Option.some.inj hz36])
    · refine g_no h rfl rfl rfl rfl hB10 rfl (by decide) (fun a h => ?_)
      refine g_no h rfl rfl rfl rfl hB10 rfl (by decide) (fun a h => ?_)
      refine g_no h rfl rfl rfl rfl hB10 rfl (by decide) (fun a h => ?_)
      refine g_no h rfl rfl rfl rfl hB10 rfl (by decide) (fun a h => ?_)
      refine g_no h rfl rfl rfl rfl hB10 rfl (by decide) (fun a h => ?_)
      refine g_no h rfl rfl rfl rfl hB10 rfl (by decide) (fun a h => ?_)
      rw [if_neg (by rw [hB10]; decide)] at hz36
      refine s_x h rfl rfl (by decide) (x_pick (u' := undef) h.k rfl rfl (fun hh => absurd (hB10.symm.trans hh) (by decide)) (fun _ => rfl)) (fun a h => ?_)
      exact (h.mid 6 rfl).val (by rw [Option.some.inj hz36])
    refine s_assign h rfl _ rfl rfl (by decide) rfl (fun a h => ?_)
    refine l_end ?_
    refine wp_ret ?_
    rw [← Option.some.inj hf]
    exact r_ret1 h rfl (rv_tmp h rfl) ⟨_, [], _, rfl, ⟨rfl, rfl, trivial⟩, rfl, up8, h.m⟩
  · obtain ⟨x61, rfl, hR⟩ := hR
    dsimp only at hf
    obtain ⟨g62, k64, k67, rfl, rfl, hr63, hs65, hl66, hs68, hl69, hr70, hr71, _⟩ := hR
    refine s_move h rfl _ rfl rfl (by decide) rfl (fun a h => ?_)
    refine s_x h rfl rfl (by decide) (x_ext h.k rfl rfl rfl) (fun a h => ?_)
    refine s_x h rfl rfl (by decide) (x_ext h.k rfl rfl rfl) (fun a h => ?_)
    refine s_assign h rfl _ rfl rfl (by decide) rfl (fun a h => ?_)
    refine s_assign h rfl _ rfl rfl (by decide) rfl (fun a h => ?_)
    refine l_end ?_
    refine c_rs ?_ -- region 2
    refine s_move h rfl _ rfl rfl (by decide) rfl (fun a h => ?_)
    obtain ⟨k73, hk74⟩ : ∃ k : List Value, k = [.int .u8 2, .int .u8 0, .int .u8 0, .int .u8 0, .int .u8 0, .int .u8 0, .int .u8 0, .int .u8 0, .int .u8 0, .int .u8 0, .int .u8 0, .int .u8 0, .int .u8 0, .int .u8 0, .int .u8 0, .int .u8 0, .int .u8 0, .int .u8 0, .int .u8 0, .int .u8 0, .int .u8 0, .int .u8 0, .int .u8 0, .int .u8 0, .int .u8 0, .int .u8 0, .int .u8 0, .int .u8 0, .int .u8 0, .int .u8 0, .int .u8 0, .int .u8 0] := ⟨_, rfl⟩
    have hq72 : reps ty8 S7 k73 [(2 : UInt8), (0 : UInt8), (0 : UInt8), (0 : UInt8), (0 : UInt8), (0 : UInt8), (0 : UInt8), (0 : UInt8), (0 : UInt8), (0 : UInt8), (0 : UInt8), (0 : UInt8), (0 : UInt8), (0 : UInt8), (0 : UInt8), (0 : UInt8), (0 : UInt8), (0 : UInt8), (0 : UInt8), (0 : UInt8), (0 : UInt8), (0 : UInt8), (0 : UInt8), (0 : UInt8), (0 : UInt8), (0 : UInt8), (0 : UInt8), (0 : UInt8), (0 : UInt8), (0 : UInt8), (0 : UInt8), (0 : UInt8)] := by rw [hk74]; exact ⟨[.int .u8 2], _, rfl, rfl, ⟨[.int .u8 0], _, rfl, rfl, ⟨[.int .u8 0], _, rfl, rfl, ⟨[.int .u8 0], _, rfl, rfl, ⟨[.int .u8 0], _, rfl, rfl, ⟨[.int .u8 0], _, rfl, rfl, ⟨[.int .u8 0], _, rfl, rfl, ⟨[.int .u8 0], _, rfl, rfl, ⟨[.int .u8 0], _, rfl, rfl, ⟨[.int .u8 0], _, rfl, rfl, ⟨[.int .u8 0], _, rfl, rfl, ⟨[.int .u8 0], _, rfl, rfl, ⟨[.int .u8 0], _, rfl, rfl, ⟨[.int .u8 0], _, rfl, rfl, ⟨[.int .u8 0], _, rfl, rfl, ⟨[.int .u8 0], _, rfl, rfl, ⟨[.int .u8 0], _, rfl, rfl, ⟨[.int .u8 0], _, rfl, rfl, ⟨[.int .u8 0], _, rfl, rfl, ⟨[.int .u8 0], _, rfl, rfl, ⟨[.int .u8 0], _, rfl, rfl, ⟨[.int .u8 0], _, rfl, rfl, ⟨[.int .u8 0], _, rfl, rfl, ⟨[.int .u8 0], _, rfl, rfl, ⟨[.int .u8 0], _, rfl, rfl, ⟨[.int .u8 0], _, rfl, rfl, ⟨[.int .u8 0], _, rfl, rfl, ⟨[.int .u8 0], _, rfl, rfl, ⟨[.int .u8 0], _, rfl, rfl, ⟨[.int .u8 0], _, rfl, rfl, ⟨[.int .u8 0], _, rfl, rfl, ⟨[.int .u8 0], _, rfl, rfl, rfl⟩⟩⟩⟩⟩⟩⟩⟩⟩⟩⟩⟩⟩⟩⟩⟩⟩⟩⟩⟩⟩⟩⟩⟩⟩⟩⟩⟩⟩⟩⟩⟩
    refine s_x h rfl rfl (by decide) (x_build h.k rfl [(0, .int .u8 2)] rfl k73 (by rw [hk74]; kernel_rfl)) (fun a h => ?_)
    obtain ⟨k76, hk77⟩ : ∃ k : List Value, k = [.int .u8 3, .int .u8 0, .int .u8 0, .int .u8 0, .int .u8 0, .int .u8 0, .int .u8 0, .int .u8 0, .int .u8 0, .int .u8 0, .int .u8 0, .int .u8 0, .int .u8 0, .int .u8 0, .int .u8 0, .int .u8 0, .int .u8 0, .int .u8 0, .int .u8 0, .int .u8 0, .int .u8 0, .int .u8 0, .int .u8 0, .int .u8 0, .int .u8 0, .int .u8 0, .int .u8 0, .int .u8 0, .int .u8 0, .int .u8 0, .int .u8 0, .int .u8 0] := ⟨_, rfl⟩
    have hq75 : reps ty8 S7 k76 [(3 : UInt8), (0 : UInt8), (0 : UInt8), (0 : UInt8), (0 : UInt8), (0 : UInt8), (0 : UInt8), (0 : UInt8), (0 : UInt8), (0 : UInt8), (0 : UInt8), (0 : UInt8), (0 : UInt8), (0 : UInt8), (0 : UInt8), (0 : UInt8), (0 : UInt8), (0 : UInt8), (0 : UInt8), (0 : UInt8), (0 : UInt8), (0 : UInt8), (0 : UInt8), (0 : UInt8), (0 : UInt8), (0 : UInt8), (0 : UInt8), (0 : UInt8), (0 : UInt8), (0 : UInt8), (0 : UInt8), (0 : UInt8)] := by rw [hk77]; exact ⟨[.int .u8 3], _, rfl, rfl, ⟨[.int .u8 0], _, rfl, rfl, ⟨[.int .u8 0], _, rfl, rfl, ⟨[.int .u8 0], _, rfl, rfl, ⟨[.int .u8 0], _, rfl, rfl, ⟨[.int .u8 0], _, rfl, rfl, ⟨[.int .u8 0], _, rfl, rfl, ⟨[.int .u8 0], _, rfl, rfl, ⟨[.int .u8 0], _, rfl, rfl, ⟨[.int .u8 0], _, rfl, rfl, ⟨[.int .u8 0], _, rfl, rfl, ⟨[.int .u8 0], _, rfl, rfl, ⟨[.int .u8 0], _, rfl, rfl, ⟨[.int .u8 0], _, rfl, rfl, ⟨[.int .u8 0], _, rfl, rfl, ⟨[.int .u8 0], _, rfl, rfl, ⟨[.int .u8 0], _, rfl, rfl, ⟨[.int .u8 0], _, rfl, rfl, ⟨[.int .u8 0], _, rfl, rfl, ⟨[.int .u8 0], _, rfl, rfl, ⟨[.int .u8 0], _, rfl, rfl, ⟨[.int .u8 0], _, rfl, rfl, ⟨[.int .u8 0], _, rfl, rfl, ⟨[.int .u8 0], _, rfl, rfl, ⟨[.int .u8 0], _, rfl, rfl, ⟨[.int .u8 0], _, rfl, rfl, ⟨[.int .u8 0], _, rfl, rfl, ⟨[.int .u8 0], _, rfl, rfl, ⟨[.int .u8 0], _, rfl, rfl, ⟨[.int .u8 0], _, rfl, rfl, ⟨[.int .u8 0], _, rfl, rfl, ⟨[.int .u8 0], _, rfl, rfl, rfl⟩⟩⟩⟩⟩⟩⟩⟩⟩⟩⟩⟩⟩⟩⟩⟩⟩⟩⟩⟩⟩⟩⟩⟩⟩⟩⟩⟩⟩⟩⟩⟩
    refine s_x h rfl rfl (by decide) (x_build h.k rfl [(0, .int .u8 3)] rfl k76 (by rw [hk77]; kernel_rfl)) (fun a h => ?_)
    obtain ⟨x78, h79, hf⟩ := bsome hf
    have hX := anchor_Slot_Set_ok Fu (S0 := S7) x61.1 g62 k64 k67 hr63 hs65 hl66 hs68 hl69 hr70 k73 ([(2 : UInt8), (0 : UInt8), (0 : UInt8), (0 : UInt8), (0 : UInt8), (0 : UInt8), (0 : UInt8), (0 : UInt8), (0 : UInt8), (0 : UInt8), (0 : UInt8), (0 : UInt8), (0 : UInt8), (0 : UInt8), (0 : UInt8), (0 : UInt8), (0 : UInt8), (0 : UInt8), (0 : UInt8), (0 : UInt8), (0 : UInt8), (0 : UInt8), (0 : UInt8), (0 : UInt8), (0 : UInt8), (0 : UInt8), (0 : UInt8), (0 : UInt8), (0 : UInt8), (0 : UInt8), (0 : UInt8), (0 : UInt8)]) (⟨hq72, (show [(2 : UInt8), (0 : UInt8), (0 : UInt8), (0 : UInt8), (0 : UInt8), (0 : UInt8), (0 : UInt8), (0 : UInt8), (0 : UInt8), (0 : UInt8), (0 : UInt8), (0 : UInt8), (0 : UInt8), (0 : UInt8), (0 : UInt8), (0 : UInt8), (0 : UInt8), (0 : UInt8), (0 : UInt8), (0 : UInt8), (0 : UInt8), (0 : UInt8), (0 : UInt8), (0 : UInt8), (0 : UInt8), (0 : UInt8), (0 : UInt8), (0 : UInt8), (0 : UInt8), (0 : UInt8), (0 : UInt8), (0 : UInt8)].length = 32 from rfl)⟩) k76 ([(3 : UInt8), (0 : UInt8), (0 : UInt8), (0 : UInt8), (0 : UInt8), (0 : UInt8), (0 : UInt8), (0 : UInt8), (0 : UInt8), (0 : UInt8), (0 : UInt8), (0 : UInt8), (0 : UInt8), (0 : UInt8), (0 : UInt8), (0 : UInt8), (0 : UInt8), (0 : UInt8), (0 : UInt8), (0 : UInt8), (0 : UInt8), (0 : UInt8), (0 : UInt8), (0 : UInt8), (0 : UInt8), (0 : UInt8), (0 : UInt8), (0 : UInt8), (0 : UInt8), (0 : UInt8), (0 : UInt8), (0 : UInt8)]) (⟨hq75, (show [(3 : UInt8), (0 : UInt8), (0 : UInt8), (0 : UInt8), (0 : UInt8), (0 : UInt8), (0 : UInt8), (0 : UInt8), (0 : UInt8), (0 : UInt8), (0 : UInt8), (0 : UInt8), (0 : UInt8), (0 : UInt8), (0 : UInt8), (0 : UInt8), (0 : UInt8), (0 : UInt8), (0 : UInt8), (0 : UInt8), (0 : UInt8), (0 : UInt8), (0 : UInt8), (0 : UInt8), (0 : UInt8), (0 : UInt8), (0 : UInt8), (0 : UInt8), (0 : UInt8), (0 : UInt8), (0 : UInt8), (0 : UInt8)].length = 32 from rfl)⟩) _ h79 _ (h.sub (Ls := [.box g62 104 (([.int .i64 x61.1.1.1] : List Value) ++ (k64 ++ (k67 ++ ([.int .i64 x61.1.2.1, .bool x61.1.2.2]))))]))
    refine q_callY (Ls := [.box g62 104 (([.int .i64 x61.1.1.1] : List Value) ++ (k64 ++ (k67 ++ ([.int .i64 x61.1.2.1, .bool x61.1.2.2]))))]) hX h up8 rfl rfl rfl (by decide) Try.func42 rfl rfl rfl (fun a w v L1 S81 hR le83 up82 h => ?_)
    obtain ⟨k86, k89, rfl, rfl, hr84, hr85, hs87, hl88, hs90, hl91, hr92, _⟩ := hR
    refine s_assign h rfl _ rfl rfl (by decide) rfl (fun a h => ?_)
    refine l_end ?_
    refine c_rs ?_ -- region 3
    refine s_move h rfl _ rfl rfl (by decide) rfl (fun a h => ?_)
    obtain ⟨k94, hk95⟩ : ∃ k : List Value, k = [.int .u8 4, .int .u8 0, .int .u8 0, .int .u8 0, .int .u8 0, .int .u8 0, .int .u8 0, .int .u8 0, .int .u8 0, .int .u8 0, .int .u8 0, .int .u8 0, .int .u8 0, .int .u8 0, .int .u8 0, .int .u8 0, .int .u8 0, .int .u8 0, .int .u8 0, .int .u8 0, .int .u8 0, .int .u8 0, .int .u8 0, .int .u8 0, .int .u8 0, .int .u8 0, .int .u8 0, .int .u8 0, .int .u8 0, .int .u8 0, .int .u8 0, .int .u8 0] := ⟨_, rfl⟩
    have hq93 : reps ty8 S81 k94 [(4 : UInt8), (0 : UInt8), (0 : UInt8), (0 : UInt8), (0 : UInt8), (0 : UInt8), (0 : UInt8), (0 : UInt8), (0 : UInt8), (0 : UInt8), (0 : UInt8), (0 : UInt8), (0 : UInt8), (0 : UInt8), (0 : UInt8), (0 : UInt8), (0 : UInt8), (0 : UInt8), (0 : UInt8), (0 : UInt8), (0 : UInt8), (0 : UInt8), (0 : UInt8), (0 : UInt8), (0 : UInt8), (0 : UInt8), (0 : UInt8), (0 : UInt8), (0 : UInt8), (0 : UInt8), (0 : UInt8), (0 : UInt8)] := by rw [hk95]; exact ⟨[.int .u8 4], _, rfl, rfl, ⟨[.int .u8 0], _, rfl, rfl, ⟨[.int .u8 0], _, rfl, rfl, ⟨[.int .u8 0], _, rfl, rfl, ⟨[.int .u8 0], _, rfl, rfl, ⟨[.int .u8 0], _, rfl, rfl, ⟨[.int .u8 0], _, rfl, rfl, ⟨[.int .u8 0], _, rfl, rfl, ⟨[.int .u8 0], _, rfl, rfl, ⟨[.int .u8 0], _, rfl, rfl, ⟨[.int .u8 0], _, rfl, rfl, ⟨[.int .u8 0], _, rfl, rfl, ⟨[.int .u8 0], _, rfl, rfl, ⟨[.int .u8 0], _, rfl, rfl, ⟨[.int .u8 0], _, rfl, rfl, ⟨[.int .u8 0], _, rfl, rfl, ⟨[.int .u8 0], _, rfl, rfl, ⟨[.int .u8 0], _, rfl, rfl, ⟨[.int .u8 0], _, rfl, rfl, ⟨[.int .u8 0], _, rfl, rfl, ⟨[.int .u8 0], _, rfl, rfl, ⟨[.int .u8 0], _, rfl, rfl, ⟨[.int .u8 0], _, rfl, rfl, ⟨[.int .u8 0], _, rfl, rfl, ⟨[.int .u8 0], _, rfl, rfl, ⟨[.int .u8 0], _, rfl, rfl, ⟨[.int .u8 0], _, rfl, rfl, ⟨[.int .u8 0], _, rfl, rfl, ⟨[.int .u8 0], _, rfl, rfl, ⟨[.int .u8 0], _, rfl, rfl, ⟨[.int .u8 0], _, rfl, rfl, ⟨[.int .u8 0], _, rfl, rfl, rfl⟩⟩⟩⟩⟩⟩⟩⟩⟩⟩⟩⟩⟩⟩⟩⟩⟩⟩⟩⟩⟩⟩⟩⟩⟩⟩⟩⟩⟩⟩⟩⟩
    refine s_x h rfl rfl (by decide) (x_build h.k rfl [(0, .int .u8 4)] rfl k94 (by rw [hk95]; kernel_rfl)) (fun a h => ?_)
    obtain ⟨k97, hk98⟩ : ∃ k : List Value, k = [.int .u8 5, .int .u8 0, .int .u8 0, .int .u8 0, .int .u8 0, .int .u8 0, .int .u8 0, .int .u8 0, .int .u8 0, .int .u8 0, .int .u8 0, .int .u8 0, .int .u8 0, .int .u8 0, .int .u8 0, .int .u8 0, .int .u8 0, .int .u8 0, .int .u8 0, .int .u8 0, .int .u8 0, .int .u8 0, .int .u8 0, .int .u8 0, .int .u8 0, .int .u8 0, .int .u8 0, .int .u8 0, .int .u8 0, .int .u8 0, .int .u8 0, .int .u8 0] := ⟨_, rfl⟩
    have hq96 : reps ty8 S81 k97 [(5 : UInt8), (0 : UInt8), (0 : UInt8), (0 : UInt8), (0 : UInt8), (0 : UInt8), (0 : UInt8), (0 : UInt8), (0 : UInt8), (0 : UInt8), (0 : UInt8), (0 : UInt8), (0 : UInt8), (0 : UInt8), (0 : UInt8), (0 : UInt8), (0 : UInt8), (0 : UInt8), (0 : UInt8), (0 : UInt8), (0 : UInt8), (0 : UInt8), (0 : UInt8), (0 : UInt8), (0 : UInt8), (0 : UInt8), (0 : UInt8), (0 : UInt8), (0 : UInt8), (0 : UInt8), (0 : UInt8), (0 : UInt8)] := by rw [hk98]; exact ⟨[.int .u8 5], _, rfl, rfl, ⟨[.int .u8 0], _, rfl, rfl, ⟨[.int .u8 0], _, rfl, rfl, ⟨[.int .u8 0], _, rfl, rfl, ⟨[.int .u8 0], _, rfl, rfl, ⟨[.int .u8 0], _, rfl, rfl, ⟨[.int .u8 0], _, rfl, rfl, ⟨[.int .u8 0], _, rfl, rfl, ⟨[.int .u8 0], _, rfl, rfl, ⟨[.int .u8 0], _, rfl, rfl, ⟨[.int .u8 0], _, rfl, rfl, ⟨[.int .u8 0], _, rfl, rfl, ⟨[.int .u8 0], _, rfl, rfl, ⟨[.int .u8 0], _, rfl, rfl, ⟨[.int .u8 0], _, rfl, rfl, ⟨[.int .u8 0], _, rfl, rfl, ⟨[.int .u8 0], _, rfl, rfl, ⟨[.int .u8 0], _, rfl, rfl, ⟨[.int .u8 0], _, rfl, rfl, ⟨[.int .u8 0], _, rfl, rfl, ⟨[.int .u8 0], _, rfl, rfl, ⟨[.int .u8 0], _, rfl, rfl, ⟨[.int .u8 0], _, rfl, rfl, ⟨[.int .u8 0], _, rfl, rfl, ⟨[.int .u8 0], _, rfl, rfl, ⟨[.int .u8 0], _, rfl, rfl, ⟨[.int .u8 0], _, rfl, rfl, ⟨[.int .u8 0], _, rfl, rfl, ⟨[.int .u8 0], _, rfl, rfl, ⟨[.int .u8 0], _, rfl, rfl, ⟨[.int .u8 0], _, rfl, rfl, ⟨[.int .u8 0], _, rfl, rfl, rfl⟩⟩⟩⟩⟩⟩⟩⟩⟩⟩⟩⟩⟩⟩⟩⟩⟩⟩⟩⟩⟩⟩⟩⟩⟩⟩⟩⟩⟩⟩⟩⟩
    refine s_x h rfl rfl (by decide) (x_build h.k rfl [(0, .int .u8 5)] rfl k97 (by rw [hk98]; kernel_rfl)) (fun a h => ?_)
    obtain ⟨x99, h100, hf⟩ := bsome hf
    have hX := anchor_Slot_Set_ok Fu (S0 := S81) x78.2 g62 k86 k89 hr85 hs87 hl88 hs90 hl91 hr92 k94 ([(4 : UInt8), (0 : UInt8), (0 : UInt8), (0 : UInt8), (0 : UInt8), (0 : UInt8), (0 : UInt8), (0 : UInt8), (0 : UInt8), (0 : UInt8), (0 : UInt8), (0 : UInt8), (0 : UInt8), (0 : UInt8), (0 : UInt8), (0 : UInt8), (0 : UInt8), (0 : UInt8), (0 : UInt8), (0 : UInt8), (0 : UInt8), (0 : UInt8), (0 : UInt8), (0 : UInt8), (0 : UInt8), (0 : UInt8), (0 : UInt8), (0 : UInt8), (0 : UInt8), (0 : UInt8), (0 : UInt8), (0 : UInt8)]) (⟨hq93, (show [(4 : UInt8), (0 : UInt8), (0 : UInt8), (0 : UInt8), (0 : UInt8), (0 : UInt8), (0 : UInt8), (0 : UInt8), (0 : UInt8), (0 : UInt8), (0 : UInt8), (0 : UInt8), (0 : UInt8), (0 : UInt8), (0 : UInt8), (0 : UInt8), (0 : UInt8), (0 : UInt8), (0 : UInt8), (0 : UInt8), (0 : UInt8), (0 : UInt8), (0 : UInt8), (0 : UInt8), (0 : UInt8), (0 : UInt8), (0 : UInt8), (0 : UInt8), (0 : UInt8), (0 : UInt8), (0 : UInt8), (0 : UInt8)].length = 32 from rfl)⟩) k97 ([(5 : UInt8), (0 : UInt8), (0 : UInt8), (0 : UInt8), (0 : UInt8), (0 : UInt8), (0 : UInt8), (0 : UInt8), (0 : UInt8), (0 : UInt8), (0 : UInt8), (0 : UInt8), (0 : UInt8), (0 : UInt8), (0 : UInt8), (0 : UInt8), (0 : UInt8), (0 : UInt8), (0 : UInt8), (0 : UInt8), (0 : UInt8), (0 : UInt8), (0 : UInt8), (0 : UInt8), (0 : UInt8), (0 : UInt8), (0 : UInt8), (0 : UInt8), (0 : UInt8), (0 : UInt8), (0 : UInt8), (0 : UInt8)]) (⟨hq96, (show [(5 : UInt8), (0 : UInt8), (0 : UInt8), (0 : UInt8), (0 : UInt8), (0 : UInt8), (0 : UInt8), (0 : UInt8), (0 : UInt8), (0 : UInt8), (0 : UInt8), (0 : UInt8), (0 : UInt8), (0 : UInt8), (0 : UInt8), (0 : UInt8), (0 : UInt8), (0 : UInt8), (0 : UInt8), (0 : UInt8), (0 : UInt8), (0 : UInt8), (0 : UInt8), (0 : UInt8), (0 : UInt8), (0 : UInt8), (0 : UInt8), (0 : UInt8), (0 : UInt8), (0 : UInt8), (0 : UInt8), (0 : UInt8)].length = 32 from rfl)⟩) _ h100 _ (h.sub (Ls := [.box g62 104 (([.int .i64 x78.2.1.1] : List Value) ++ (k86 ++ (k89 ++ ([.int .i64 x78.2.2.1, .bool x78.2.2.2]))))]))
    refine q_callY (Ls := [.box g62 104 (([.int .i64 x78.2.1.1] : List Value) ++ (k86 ++ (k89 ++ ([.int .i64 x78.2.2.1, .bool x78.2.2.2]))))]) hX h up82 rfl rfl rfl (by decide) Try.func42 rfl rfl rfl (fun a w v L1 S102 hR le104 up103 h => ?_)
    obtain ⟨k107, k110, rfl, rfl, hr105, hr106, hs108, hl109, hs111, hl112, hr113, _⟩ := hR
    refine s_assign h rfl _ rfl rfl (by decide) rfl (fun a h => ?_)
    refine l_end ?_
    refine c_rs ?_ -- region 4
    refine s_move h rfl _ rfl rfl (by decide) rfl (fun a h => ?_)
    refine s_x h rfl rfl (by decide) (x_bin h.k rfl rfl rfl ib_eql) (fun a h => ?_)
    refine s_move h rfl _ rfl rfl (by decide) rfl (fun a h => ?_)
    refine q_grp h 3 (t := 20) 23 ((decide (x61.2 = 0)) && (decide (x78.1 = 0))) rfl (fun hB2 => ?_) (fun hB2 => ?_) (fun a w h => ?_)
    · refine g_yes h rfl rfl rfl rfl hB2 ?_
      refine s_move h rfl _ rfl rfl (by decide) rfl (fun a h => ?_)
      refine g_yes h rfl rfl rfl rfl hB2 ?_
      refine s_x h rfl rfl (by decide) (x_bin h.k rfl rfl rfl ib_eql) (fun a h => ?_)
      refine s_x h rfl rfl (by decide) (x_pick (u' := undef) h.k rfl rfl (fun _ => rfl) (fun hh => absurd (hB2.symm.trans hh) (by decide))) (fun a h => ?_)
      exact (h.mid 2 rfl).val (by first | rfl | (rw [hB2]; first | rfl | simp))
    · refine g_no h rfl rfl rfl rfl hB2 rfl (by decide) (fun a h => ?_)
      refine g_no h rfl rfl rfl rfl hB2 rfl (by decide) (fun a h => ?_)
      refine s_x h rfl rfl (by decide) (x_pick (u' := undef) h.k rfl rfl (fun hh => absurd (hB2.symm.trans hh) (by decide)) (fun _ => rfl)) (fun a h => ?_)
      exact (h.mid 2 rfl).val (by first | rfl | (rw [hB2]; first | rfl | simp))
    refine s_move h rfl _ rfl rfl (by decide) rfl (fun a h => ?_)
    refine q_grp h 3 (t := 24) 27 (((decide (x61.2 = 0)) && (decide (x78.1 = 0))) && (decide (x99.1 = 35))) rfl (fun hB6 => ?_) (fun hB6 => ?_) (fun a w h => ?_)
    · refine g_yes h rfl rfl rfl rfl hB6 ?_
      refine s_move h rfl _ rfl rfl (by decide) rfl (fun a h => ?_)
      refine g_yes h rfl rfl rfl rfl hB6 ?_
      refine s_x h rfl rfl (by decide) (x_bin h.k rfl rfl rfl ib_eql) (fun a h => ?_)
      refine s_x h rfl rfl (by decide) (x_pick (u' := undef) h.k rfl rfl (fun _ => rfl) (fun hh => absurd (hB6.symm.trans hh) (by decide))) (fun a h => ?_)
      exact (h.mid 2 rfl).val (by first | rfl | (rw [hB6]; first | rfl | simp))
    · refine g_no h rfl rfl rfl rfl hB6 rfl (by decide) (fun a h => ?_)
      refine g_no h rfl rfl rfl rfl hB6 rfl (by decide) (fun a h => ?_)
      refine s_x h rfl rfl (by decide) (x_pick (u' := undef) h.k rfl rfl (fun hh => absurd (hB6.symm.trans hh) (by decide)) (fun _ => rfl)) (fun a h => ?_)
      exact (h.mid 2 rfl).val (by first | rfl | (rw [hB6]; first | rfl | simp))
    refine s_move h rfl _ rfl rfl (by decide) rfl (fun a h => ?_)
    obtain ⟨z119, hz118, hf⟩ := bsome hf
    refine q_grp h 7 (t := 28) 35 z119 rfl (fun hB10 => ?_) (fun hB10 => ?_) (fun a w h => ?_)
    · rw [if_pos hB10] at hz118
      refine g_yes h rfl rfl rfl rfl hB10 ?_
      refine s_move h rfl _ rfl rfl (by decide) rfl (fun a h => ?_)
      refine g_yes h rfl rfl rfl rfl hB10 ?_
      obtain ⟨x121, h122, hz118⟩ := bsome hz118
      have hX := anchor_Slot_Get_ok Fu (S0 := snapAll _) g62 x99.2 ⟨([.int .i64 x99.2.1.1] : List Value) ++ (k107 ++ (k110 ++ ([.int .i64 x99.2.2.1, .bool x99.2.2.2]))), h.m.boxAll (i := 0) rfl, ⟨([.int .i64 x99.2.1.1] : List Value) ++ (k107 ++ k110), [.int .i64 x99.2.2.1, .bool x99.2.2.2], (by simp only [List.append_assoc, List.cons_append, List.nil_append, List.append_nil]), ⟨[.int .i64 x99.2.1.1], k107 ++ k110, rfl, ⟨rfl, hr106⟩, ⟨k107, k110, rfl, ⟨(hs108).mono (h.m.leAll (i := 1) rfl), hl109⟩, ⟨(hs111).mono (h.m.leAll (i := 1) rfl), hl112⟩⟩⟩, ⟨[.int .i64 x99.2.2.1], [.bool x99.2.2.2], rfl, ⟨rfl, hr113⟩, rfl⟩⟩⟩ _ h122 _ h.startAll
      refine q_callX hX h rfl rfl rfl (by decide) Try.func38 rfl rfl rfl (fun a w v L1 S1 hR hb1 h => ?_)
      obtain ⟨k124, rfl, rfl, hv125, _⟩ := hR
      obtain ⟨k126, k127, rfl, ⟨rfl, hr128⟩, ⟨k129, k130, rfl, ⟨hs131, hl132⟩, ⟨hs133, hl134⟩⟩⟩ := hv125
      have hq135 := hs131.fl (S' := S102) fl_8
      have hq136 := hs133.fl (S' := S102) fl_8
      refine g_yes h rfl rfl rfl rfl hB10 ?_
      obtain ⟨k138, hk139⟩ : ∃ k : List Value, k = [.int .u8 2, .int .u8 0, .int .u8 0, .int .u8 0, .int .u8 0, .int .u8 0, .int .u8 0, .int .u8 0, .int .u8 0, .int .u8 0, .int .u8 0, .int .u8 0, .int .u8 0, .int .u8 0, .int .u8 0, .int .u8 0, .int .u8 0, .int .u8 0, .int .u8 0, .int .u8 0, .int .u8 0, .int .u8 0, .int .u8 0, .int .u8 0, .int .u8 0, .int .u8 0, .int .u8 0, .int .u8 0, .int .u8 0, .int .u8 0, .int .u8 0, .int .u8 0] := ⟨_, rfl⟩
      have hq137 : reps ty8 S102 k138 [(2 : UInt8), (0 : UInt8), (0 : UInt8), (0 : UInt8), (0 : UInt8), (0 : UInt8), (0 : UInt8), (0 : UInt8), (0 : UInt8), (0 : UInt8), (0 : UInt8), (0 : UInt8), (0 : UInt8), (0 : UInt8), (0 : UInt8), (0 : UInt8), (0 : UInt8), (0 : UInt8), (0 : UInt8), (0 : UInt8), (0 : UInt8), (0 : UInt8), (0 : UInt8), (0 : UInt8), (0 : UInt8), (0 : UInt8), (0 : UInt8), (0 : UInt8), (0 : UInt8), (0 : UInt8), (0 : UInt8), (0 : UInt8)] := by rw [hk139]; exact ⟨[.int .u8 2], _, rfl, rfl, ⟨[.int .u8 0], _, rfl, rfl, ⟨[.int .u8 0], _, rfl, rfl, ⟨[.int .u8 0], _, rfl, rfl, ⟨[.int .u8 0], _, rfl, rfl, ⟨[.int .u8 0], _, rfl, rfl, ⟨[.int .u8 0], _, rfl, rfl, ⟨[.int .u8 0], _, rfl, rfl, ⟨[.int .u8 0], _, rfl, rfl, ⟨[.int .u8 0], _, rfl, rfl, ⟨[.int .u8 0], _, rfl, rfl, ⟨[.int .u8 0], _, rfl, rfl, ⟨[.int .u8 0], _, rfl, rfl, ⟨[.int .u8 0], _, rfl, rfl, ⟨[.int .u8 0], _, rfl, rfl, ⟨[.int .u8 0], _, rfl, rfl, ⟨[.int .u8 0], _, rfl, rfl, ⟨[.int .u8 0], _, rfl, rfl, ⟨[.int .u8 0], _, rfl, rfl, ⟨[.int .u8 0], _, rfl, rfl, ⟨[.int .u8 0], _, rfl, rfl, ⟨[.int .u8 0], _, rfl, rfl, ⟨[.int .u8 0], _, rfl, rfl, ⟨[.int .u8 0], _, rfl, rfl, ⟨[.int .u8 0], _, rfl, rfl, ⟨[.int .u8 0], _, rfl, rfl, ⟨[.int .u8 0], _, rfl, rfl, ⟨[.int .u8 0], _, rfl, rfl, ⟨[.int .u8 0], _, rfl, rfl, ⟨[.int .u8 0], _, rfl, rfl, ⟨[.int .u8 0], _, rfl, rfl, ⟨[.int .u8 0], _, rfl, rfl, rfl⟩⟩⟩⟩⟩⟩⟩⟩⟩⟩⟩⟩⟩⟩⟩⟩⟩⟩⟩⟩⟩⟩⟩⟩⟩⟩⟩⟩⟩⟩⟩⟩
      refine s_x h rfl rfl (by decide) (x_build h.k rfl [(0, .int .u8 2)] rfl k138 (by rw [hk139]; kernel_rfl)) (fun a h => ?_)
      refine g_yes h rfl rfl rfl rfl hB10 ?_
      obtain ⟨k141, hk142⟩ : ∃ k : List Value, k = [.int .u8 3, .int .u8 0, .int .u8 0, .int .u8 0, .int .u8 0, .int .u8 0, .int .u8 0, .int .u8 0, .int .u8 0, .int .u8 0, .int .u8 0, .int .u8 0, .int .u8 0, .int .u8 0, .int .u8 0, .int .u8 0, .int .u8 0, .int .u8 0, .int .u8 0, .int .u8 0, .int .u8 0, .int .u8 0, .int .u8 0, .int .u8 0, .int .u8 0, .int .u8 0, .int .u8 0, .int .u8 0, .int .u8 0, .int .u8 0, .int .u8 0, .int .u8 0] := ⟨_, rfl⟩
      have hq140 : reps ty8 S102 k141 [(3 : UInt8), (0 : UInt8), (0 : UInt8), (0 : UInt8), (0 : UInt8), (0 : UInt8), (0 : UInt8), (0 : UInt8), (0 : UInt8), (0 : UInt8), (0 : UInt8), (0 : UInt8), (0 : UInt8), (0 : UInt8), (0 : UInt8), (0 : UInt8), (0 : UInt8), (0 : UInt8), (0 : UInt8), (0 : UInt8), (0 : UInt8), (0 : UInt8), (0 : UInt8), (0 : UInt8), (0 : UInt8), (0 : UInt8), (0 : UInt8), (0 : UInt8), (0 : UInt8), (0 : UInt8), (0 : UInt8), (0 : UInt8)] := by rw [hk142]; exact ⟨[.int .u8 3], _, rfl, rfl, ⟨[.int .u8 0], _, rfl, rfl, ⟨[.int .u8 0], _, rfl, rfl, ⟨[.int .u8 0], _, rfl, rfl, ⟨[.int .u8 0], _, rfl, rfl, ⟨[.int .u8 0], _, rfl, rfl, ⟨[.int .u8 0], _, rfl, rfl, ⟨[.int .u8 0], _, rfl, rfl, ⟨[.int .u8 0], _, rfl, rfl, ⟨[.int .u8 0], _, rfl, rfl, ⟨[.int .u8 0], _, rfl, rfl, ⟨[.int .u8 0], _, rfl, rfl, ⟨[.int .u8 0], _, rfl, rfl, ⟨[.int .u8 0], _, rfl, rfl, ⟨[.int .u8 0], _, rfl, rfl, ⟨[.int .u8 0], _, rfl, rfl, ⟨[.int .u8 0], _, rfl, rfl, ⟨[.int .u8 0], _, rfl, rfl, ⟨[.int .u8 0], _, rfl, rfl, ⟨[.int .u8 0], _, rfl, rfl, ⟨[.int .u8 0], _, rfl, rfl, ⟨[.int .u8 0], _, rfl, rfl, ⟨[.int .u8 0], _, rfl, rfl, ⟨[.int .u8 0], _, rfl, rfl, ⟨[.int .u8 0], _, rfl, rfl, ⟨[.int .u8 0], _, rfl, rfl, ⟨[.int .u8 0], _, rfl, rfl, ⟨[.int .u8 0], _, rfl, rfl, ⟨[.int .u8 0], _, rfl, rfl, ⟨[.int .u8 0], _, rfl, rfl, ⟨[.int .u8 0], _, rfl, rfl, ⟨[.int .u8 0], _, rfl, rfl, rfl⟩⟩⟩⟩⟩⟩⟩⟩⟩⟩⟩⟩⟩⟩⟩⟩⟩⟩⟩⟩⟩⟩⟩⟩⟩⟩⟩⟩⟩⟩⟩⟩
      refine s_x h rfl rfl (by decide) (x_build h.k rfl [(0, .int .u8 3)] rfl k141 (by rw [hk142]; kernel_rfl)) (fun a h => ?_)
      refine g_yes h rfl rfl rfl rfl hB10 ?_
      refine s_x h rfl rfl (by decide) (x_build h.k rfl [(0, .int .i64 1), (1, .agg k138.toArray), (2, .agg k141.toArray)] rfl (([.int .i64 1] : List Value) ++ (k138 ++ k141)) (builtS Try.underlying69 zi_api_Root (places := [(0, 1), (1, 32), (33, 32)]) (by kernel_rfl) (cs := ([.int .i64 0] : List Value) ++ ((List.replicate 32 (.int .u8 0 : Value)) ++ (List.replicate 32 (.int .u8 0 : Value)))) (by kernel_rfl) (built_step (X := []) (Y := [.int .i64 0]) (Z := (List.replicate 32 (.int .u8 0 : Value)) ++ ((List.replicate 32 (.int .u8 0 : Value)))) (V := [.int .i64 1]) (off := 0) (n := 1) (by simp only [List.append_assoc, List.cons_append, List.nil_append, List.append_nil]) rfl rfl rfl rfl rfl (built_step (X := [.int .i64 1]) (Y := (List.replicate 32 (.int .u8 0 : Value))) (Z := (List.replicate 32 (.int .u8 0 : Value))) (V := k138) (off := 1) (n := 32) (by simp only [List.append_assoc, List.cons_append, List.nil_append, List.append_nil]) rfl rfl (by first | rfl | simp_all) rfl ((hq137).len.trans (by rw [(show [(2 : UInt8), (0 : UInt8), (0 : UInt8), (0 : UInt8), (0 : UInt8), (0 : UInt8), (0 : UInt8), (0 : UInt8), (0 : UInt8), (0 : UInt8), (0 : UInt8), (0 : UInt8), (0 : UInt8), (0 : UInt8), (0 : UInt8), (0 : UInt8), (0 : UInt8), (0 : UInt8), (0 : UInt8), (0 : UInt8), (0 : UInt8), (0 : UInt8), (0 : UInt8), (0 : UInt8), (0 : UInt8), (0 : UInt8), (0 : UInt8), (0 : UInt8), (0 : UInt8), (0 : UInt8), (0 : UInt8), (0 : UInt8)].length = 32 from rfl)]; rfl)) (built_step (X := ([.int .i64 1] : List Value) ++ (k138)) (Y := (List.replicate 32 (.int .u8 0 : Value))) (Z := []) (V := k141) (off := 33) (n := 32) (by simp only [List.append_assoc, List.cons_append, List.nil_append, List.append_nil]) rfl (show (([.int .i64 1] : List Value) ++ (k138) : List Value).length = 33 from by simp only [List.length_append, List.length_cons, List.length_nil, (show (k138 : List Value).length = 32 from ((hq137).len.trans (by rw [(show [(2 : UInt8), (0 : UInt8), (0 : UInt8), (0 : UInt8), (0 : UInt8), (0 : UInt8), (0 : UInt8), (0 : UInt8), (0 : UInt8), (0 : UInt8), (0 : UInt8), (0 : UInt8), (0 : UInt8), (0 : UInt8), (0 : UInt8), (0 : UInt8), (0 : UInt8), (0 : UInt8), (0 : UInt8), (0 : UInt8), (0 : UInt8), (0 : UInt8), (0 : UInt8), (0 : UInt8), (0 : UInt8), (0 : UInt8), (0 : UInt8), (0 : UInt8), (0 : UInt8), (0 : UInt8), (0 : UInt8), (0 : UInt8)].length = 32 from rfl)]; rfl))), (show ((List.replicate 32 (.int .u8 0 : Value)) : List Value).length = 32 from (by first | rfl | simp_all))]) (by first | rfl | simp_all) rfl ((hq140).len.trans (by rw [(show [(3 : UInt8), (0 : UInt8), (0 : UInt8), (0 : UInt8), (0 : UInt8), (0 : UInt8), (0 : UInt8), (0 : UInt8), (0 : UInt8), (0 : UInt8), (0 : UInt8), (0 : UInt8), (0 : UInt8), (0 : UInt8), (0 : UInt8), (0 : UInt8), (0 : UInt8), (0 : UInt8), (0 : UInt8), (0 : UInt8), (0 : UInt8), (0 : UInt8), (0 : UInt8), (0 : UInt8), (0 : UInt8), (0 : UInt8), (0 : UInt8), (0 : UInt8), (0 : UInt8), (0 : UInt8), (0 : UInt8), (0 : UInt8)].length = 32 from rfl)]; rfl)) (built_nil (by simp only [List.append_assoc, List.cons_append, List.nil_append, List.append_nil]))))))) (fun a h => ?_)
      refine g_yes h rfl rfl rfl rfl hB10 ?_
      refine s_x h rfl rfl (by decide) (x_eqlS h.k rfl rfl rfl gdb_api_Root (eqa_api_Root _ (S := S102) (S' := S102) (([.int .i64 x121.1] : List Value) ++ (k129 ++ k130)) (([.int .i64 1] : List Value) ++ (k138 ++ k141)) x121 (1, [(2 : UInt8), (0 : UInt8), (0 : UInt8), (0 : UInt8), (0 : UInt8), (0 : UInt8), (0 : UInt8), (0 : UInt8), (0 : UInt8), (0 : UInt8), (0 : UInt8), (0 : UInt8), (0 : UInt8), (0 : UInt8), (0 : UInt8), (0 : UInt8), (0 : UInt8), (0 : UInt8), (0 : UInt8), (0 : UInt8), (0 : UInt8), (0 : UInt8), (0 : UInt8), (0 : UInt8), (0 : UInt8), (0 : UInt8), (0 : UInt8), (0 : UInt8), (0 : UInt8), (0 : UInt8), (0 : UInt8), (0 : UInt8)], [(3 : UInt8), (0 : UInt8), (0 : UInt8), (0 : UInt8), (0 : UInt8), (0 : UInt8), (0 : UInt8), (0 : UInt8), (0 : UInt8), (0 : UInt8), (0 : UInt8), (0 : UInt8), (0 : UInt8), (0 : UInt8), (0 : UInt8), (0 : UInt8), (0 : UInt8), (0 : UInt8), (0 : UInt8), (0 : UInt8), (0 : UInt8), (0 : UInt8), (0 : UInt8), (0 : UInt8), (0 : UInt8), (0 : UInt8), (0 : UInt8), (0 : UInt8), (0 : UInt8), (0 : UInt8), (0 : UInt8), (0 : UInt8)]) ⟨[.int .i64 x121.1], k129 ++ k130, rfl, ⟨rfl, hr128⟩, ⟨k129, k130, rfl, ⟨hq135, hl132⟩, ⟨hq136, hl134⟩⟩⟩ ⟨[.int .i64 1], k138 ++ k141, rfl, ⟨rfl, (show r64 1 from ⟨by decide, by decide⟩)⟩, ⟨k138, k141, rfl, ⟨hq137, (show [(2 : UInt8), (0 : UInt8), (0 : UInt8), (0 : UInt8), (0 : UInt8), (0 : UInt8), (0 : UInt8), (0 : UInt8), (0 : UInt8), (0 : UInt8), (0 : UInt8), (0 : UInt8), (0 : UInt8), (0 : UInt8), (0 : UInt8), (0 : UInt8), (0 : UInt8), (0 : UInt8), (0 : UInt8), (0 : UInt8), (0 : UInt8), (0 : UInt8), (0 : UInt8), (0 : UInt8), (0 : UInt8), (0 : UInt8), (0 : UInt8), (0 : UInt8), (0 : UInt8), (0 : UInt8), (0 : UInt8), (0 : UInt8)].length = 32 from rfl)⟩, ⟨hq140, (show [(3 : UInt8), (0 : UInt8), (0 : UInt8), (0 : UInt8), (0 : UInt8), (0 : UInt8), (0 : UInt8), (0 : UInt8), (0 : UInt8), (0 : UInt8), (0 : UInt8), (0 : UInt8), (0 : UInt8), (0 : UInt8), (0 : UInt8), (0 : UInt8), (0 : UInt8), (0 : UInt8), (0 : UInt8), (0 : UInt8), (0 : UInt8), (0 : UInt8), (0 : UInt8), (0 : UInt8), (0 : UInt8), (0 : UInt8), (0 : UInt8), (0 : UInt8), (0 : UInt8), (0 : UInt8), (0 : UInt8), (0 : UInt8)].length = 32 from rfl)⟩⟩⟩)) (fun a h => ?_)
      refine s_x h rfl rfl (by decide) (x_pick (u' := undef) h.k rfl rfl (fun _ => rfl) (fun hh => absurd (hB10.symm.trans hh) (by decide))) (fun a h => ?_)
      exact (h.mid 6 rfl).val (by rw [Option.some.inj hz118])
    · refine g_no h rfl rfl rfl rfl hB10 rfl (by decide) (fun a h => ?_)
      refine g_no h rfl rfl rfl rfl hB10 rfl (by decide) (fun a h => ?_)
      refine g_no h rfl rfl rfl rfl hB10 rfl (by decide) (fun a h => ?_)
      refine g_no h rfl rfl rfl rfl hB10 rfl (by decide) (fun a h => ?_)
      refine g_no h rfl rfl rfl rfl hB10 rfl (by decide) (fun a h => ?_)
      refine g_no h rfl rfl rfl rfl hB10 rfl (by decide) (fun a h => ?_)
      rw [if_neg (by rw [hB10]; decide)] at hz118
      refine s_x h rfl rfl (by decide) (x_pick (u' := undef) h.k rfl rfl (fun hh => absurd (hB10.symm.trans hh) (by decide)) (fun _ => rfl)) (fun a h => ?_)
      exact (h.mid 6 rfl).val (by rw [Option.some.inj hz118])
    refine s_assign h rfl _ rfl rfl (by decide) rfl (fun a h => ?_)
    refine l_end ?_
    refine wp_ret ?_
    rw [← Option.some.inj hf]
    exact r_ret1 h rfl (rv_tmp h rfl) ⟨_, [], _, rfl, ⟨rfl, rfl, trivial⟩, rfl, up103, (h.m.pick [1] _ (by decide) rfl)⟩
def chatelainelaw16_AnchorBytes (Fu : Nat) (a0 : List UInt8) : Option Bool :=
  (chatelainelaw16_awake Fu).bind fun x1 => if (!x1) = true then (some false) else ((anchor_Slot_Get_nil0 Fu).bind fun x4 => (if (!(decide (x4 = (0, (List.replicate 32 ((0 : UInt8) : UInt8)), (List.replicate 32 ((0 : UInt8) : UInt8)))))) = true then some true else (anchor_Slot_Can_nil0 Fu).bind fun x23 => some x23).bind fun z21 => (if z21 = true then some true else (anchor_Slot_Limit_nil0 Fu).bind fun x29 => some (decide (x29 ≠ 0))).bind fun z27 => (if z27 = true then some true else (anchor_Slot_Bytes_nil0 Fu).bind fun x36 => some (decide ((x36.length : Int) ≠ 0))).bind fun z34 => (if z34 = true then some true else (anchor_Slot_Set_nil0 Fu (List.replicate 32 ((0 : UInt8) : UInt8)) (List.replicate 32 ((0 : UInt8) : UInt8))).bind fun x48 => some (decide (x48 ≠ 1))).bind fun z46 => if z46 = true then (some false) else (if 300 < (a0.length : Int) then (some true) else ((anchor_Of Fu a0).bind fun x52 => (match x52 with | .inl x58 => (if (a0.length : Int) < 80 then (some (decide (x58 = 10))) else (if 80 < (a0.length : Int) then (some (decide (x58 = 13))) else ((sub a0 0 8).bind fun x64 => (chatelaineref01_Get Fu x64).bind fun x74 => (sub a0 8 16).bind fun x79 => (chatelaineref01_Get Fu x79).bind fun x89 => if ((((decide (x74.2 ≠ 0)) || (decide (x89.2 ≠ 0))) || (decide (1099511627776 < x89.1))) || (decide (x89.1 < x74.1))) = true then (some (decide (x58 = 11))) else ((anchor_Slot_Get_nil0 Fu).bind fun x102 => (if x58 = 0 then (anchor_Slot_Limit_nil0 Fu).bind fun x121 => some (decide (x121 = x89.1)) else some false).bind fun z119 => (if (z119 && (decide (x102.1 = x74.1))) = true then (sub a0 16 48).bind fun x130 => (chatelaineref01_Same Fu x102.2.1 x130).bind fun x140 => some x140 else some false).bind fun z127 => (if z127 = true then (sub a0 48 (a0.length : Int)).bind fun x146 => (chatelaineref01_Same Fu x102.2.2 x146).bind fun x156 => some x156 else some false).bind fun z143 => (if z143 = true then (anchor_Slot_Bytes_nil0 Fu).bind fun x161 => (chatelaineref01_Same Fu x161 a0).bind fun x169 => some x169 else some false).bind fun z159 => some z159)))) | .inr x172 => (if (a0.length : Int) < 80 then (some false) else (if 80 < (a0.length : Int) then (some false) else ((sub a0 0 8).bind fun x187 => (chatelaineref01_Get Fu x187).bind fun x197 => (sub a0 8 16).bind fun x202 => (chatelaineref01_Get Fu x202).bind fun x212 => if ((((decide (x197.2 ≠ 0)) || (decide (x212.2 ≠ 0))) || (decide (1099511627776 < x212.1))) || (decide (x212.1 < x197.1))) = true then (some false) else ((anchor_Slot_Get Fu x172.1).bind fun x225 => (if x172.2 = 0 then (anchor_Slot_Limit Fu x172.1).bind fun x244 => some (decide (x244 = x212.1)) else some false).bind fun z242 => (if (z242 && (decide (x225.1 = x197.1))) = true then (sub a0 16 48).bind fun x253 => (chatelaineref01_Same Fu x225.2.1 x253).bind fun x263 => some x263 else some false).bind fun z250 => (if z250 = true then (sub a0 48 (a0.length : Int)).bind fun x269 => (chatelaineref01_Same Fu x225.2.2 x269).bind fun x279 => some x279 else some false).bind fun z266 => (if z266 = true then (anchor_Slot_Bytes Fu x172.1).bind fun x284 => (chatelaineref01_Same Fu x284 a0).bind fun x292 => some x292 else some false).bind fun z282 => some z282))))))))
set_option maxRecDepth 100000 in
set_option maxHeartbeats 2000000 in
theorem chatelainelaw16_AnchorBytes_ok (Fu : Nat) {S0 : Snap} (Aa0 : Option Addr) (ca0 : Nat) (a0 : List UInt8) (hsa0 : slS ty8 S0 Aa0 ca0 a0) (r : Bool) (hf : chatelainelaw16_AnchorBytes Fu a0 = some r) (w0 : World) (hm : Mem w0 (ownL ([] ++ [.sn S0])) ([] ++ [.sn S0]) w0) :
    Calls Try.prog 12 #[.slice Aa0 a0.length ca0] w0 (Ret w0 S0 [] (fun v L1 S1 => v = .bool r ∧ L1 = [] ∧ True)) := by
  unfold chatelainelaw16_AnchorBytes at hf
  refine c_enterM Try.func12 rfl 136 rfl (by simp) _ hm _ rfl (fun a h => ?_)
  refine c_rs ?_ -- region 0
  refine s_assign h rfl _ rfl rfl (by decide) rfl (fun a h => ?_)
  refine l_end ?_
  refine wp_seq ?_
  refine c_rs ?_ -- region 1
  obtain ⟨x1, h2, hf⟩ := bsome hf
  have hX := chatelainelaw16_awake_ok Fu (S0 := snapAll _)  _ h2 _ h.startAll
  refine q_callX hX h rfl rfl rfl (by decide) Try.func37 rfl rfl rfl (fun a w v L1 S1 hR hb1 h => ?_)
  obtain ⟨rfl, rfl, _⟩ := hR
  refine s_x h rfl rfl (by decide) (x_not h.k rfl rfl) (fun a h => ?_)
  refine l_end ?_
  refine c_cond h rfl (fun hb => ?_) (fun hb => ?_)
  · rw [if_pos hb] at hf
    refine c_rs ?_ -- region 2
    refine s_assign h rfl _ rfl rfl (by decide) rfl (fun a h => ?_)
    refine l_end ?_
    refine wp_ret ?_
    refine e_thenR ?_
    rw [← Option.some.inj hf]
    exact r_ret1 h rfl (rv_tmp h rfl) ⟨_, [], _, rfl, ⟨rfl, rfl, trivial⟩, rfl, (Up.refl _ _ _), h.m⟩
  · rw [if_neg (by rw [hb]; decide)] at hf
    refine wp_skip ?_
    refine e_thenN ?_
    refine c_rs ?_ -- region 3
    refine s_assign h rfl _ rfl rfl (by decide) rfl (fun a h => ?_)
    refine l_end ?_
    refine wp_seq ?_
    refine c_rs ?_ -- region 4
    refine s_move h rfl _ rfl rfl (by decide) rfl (fun a h => ?_)
    obtain ⟨x4, h5, hf⟩ := bsome hf
    have hX := anchor_Slot_Get_nil0_ok Fu (S0 := snapAll _)  _ h5 _ h.startAll
    refine q_callX hX h rfl rfl rfl (by decide) Try.func38 rfl rfl rfl (fun a w v L1 S1 hR hb1 h => ?_)
    obtain ⟨k7, rfl, rfl, hv8, _⟩ := hR
    obtain ⟨k9, k10, rfl, ⟨rfl, hr11⟩, ⟨k12, k13, rfl, ⟨hs14, hl15⟩, ⟨hs16, hl17⟩⟩⟩ := hv8
    have hq18 := hs14.fl (S' := S0) fl_8
    have hq19 := hs16.fl (S' := S0) fl_8
    refine s_x h rfl rfl (by decide) (x_build h.k rfl [] rfl (([.int .i64 0] : List Value) ++ ((List.replicate 32 (.int .u8 0 : Value)) ++ (List.replicate 32 (.int .u8 0 : Value)))) (by kernel_rfl)) (fun a h => ?_)
    refine s_x h rfl rfl (by decide) (x_neqS h.k rfl rfl rfl gdb_api_Root (eqa_api_Root _ (S := S0) (S' := S0) (([.int .i64 x4.1] : List Value) ++ (k12 ++ k13)) (([.int .i64 0] : List Value) ++ ((List.replicate 32 (.int .u8 0 : Value)) ++ (List.replicate 32 (.int .u8 0 : Value)))) x4 (0, (List.replicate 32 ((0 : UInt8) : UInt8)), (List.replicate 32 ((0 : UInt8) : UInt8))) ⟨[.int .i64 x4.1], k12 ++ k13, rfl, ⟨rfl, hr11⟩, ⟨k12, k13, rfl, ⟨hq18, hl15⟩, ⟨hq19, hl17⟩⟩⟩ ⟨[.int .i64 0], (List.replicate 32 (.int .u8 0 : Value)) ++ (List.replicate 32 (.int .u8 0 : Value)), rfl, ⟨rfl, (show r64 0 from ⟨by decide, by decide⟩)⟩, ⟨(List.replicate 32 (.int .u8 0 : Value)), (List.replicate 32 (.int .u8 0 : Value)), rfl, ⟨(show reps ty8 S0 (List.replicate 32 (.int .u8 0 : Value)) (List.replicate 32 ((0 : UInt8) : UInt8)) from repsRep1 (x := ((0 : UInt8) : UInt8)) rfl), (show (List.replicate 32 ((0 : UInt8) : UInt8)).length = 32 from List.length_replicate)⟩, ⟨(show reps ty8 S0 (List.replicate 32 (.int .u8 0 : Value)) (List.replicate 32 ((0 : UInt8) : UInt8)) from repsRep1 (x := ((0 : UInt8) : UInt8)) rfl), (show (List.replicate 32 ((0 : UInt8) : UInt8)).length = 32 from List.length_replicate)⟩⟩⟩)) (fun a h => ?_)
    refine s_move h rfl _ rfl rfl (by decide) rfl (fun a h => ?_)
    obtain ⟨z21, hz20, hf⟩ := bsome hf
    refine q_grp h 3 (t := 17) 20 z21 rfl (fun hB4 => ?_) (fun hB4 => ?_) (fun a w h => ?_)
    · refine g_no h rfl rfl rfl rfl hB4 rfl (by decide) (fun a h => ?_)
      refine g_no h rfl rfl rfl rfl hB4 rfl (by decide) (fun a h => ?_)
      rw [if_pos hB4] at hz20
      refine s_x h rfl rfl (by decide) (x_pick (u' := undef) h.k rfl rfl (fun _ => rfl) (fun hh => absurd (hB4.symm.trans hh) (by decide))) (fun a h => ?_)
      exact (h.mid 2 rfl).val (by rw [Option.some.inj hz20])
    · rw [if_neg (by rw [hB4]; decide)] at hz20
      refine g_yes h rfl rfl rfl rfl hB4 ?_
      refine s_move h rfl _ rfl rfl (by decide) rfl (fun a h => ?_)
      refine g_yes h rfl rfl rfl rfl hB4 ?_
      obtain ⟨x23, h24, hz20⟩ := bsome hz20
      have hX := anchor_Slot_Can_nil0_ok Fu (S0 := snapAll _)  _ h24 _ h.startAll
      refine q_callX hX h rfl rfl rfl (by decide) Try.func39 rfl rfl rfl (fun a w v L1 S1 hR hb1 h => ?_)
      obtain ⟨rfl, rfl, _⟩ := hR
      refine s_x h rfl rfl (by decide) (x_pick (u' := undef) h.k rfl rfl (fun hh => absurd (hB4.symm.trans hh) (by decide)) (fun _ => rfl)) (fun a h => ?_)
      exact (h.mid 2 rfl).val (by rw [Option.some.inj hz20])
    refine s_move h rfl _ rfl rfl (by decide) rfl (fun a h => ?_)
    obtain ⟨z27, hz26, hf⟩ := bsome hf
    refine q_grp h 4 (t := 21) 25 z27 rfl (fun hB8 => ?_) (fun hB8 => ?_) (fun a w h => ?_)
    · refine g_no h rfl rfl rfl rfl hB8 rfl (by decide) (fun a h => ?_)
      refine g_no h rfl rfl rfl rfl hB8 rfl (by decide) (fun a h => ?_)
      refine g_no h rfl rfl rfl rfl hB8 rfl (by decide) (fun a h => ?_)
      rw [if_pos hB8] at hz26
      refine s_x h rfl rfl (by decide) (x_pick (u' := undef) h.k rfl rfl (fun _ => rfl) (fun hh => absurd (hB8.symm.trans hh) (by decide))) (fun a h => ?_)
      exact (h.mid 3 rfl).val (by rw [Option.some.inj hz26])
    · rw [if_neg (by rw [hB8]; decide)] at hz26
      refine g_yes h rfl rfl rfl rfl hB8 ?_
      refine s_move h rfl _ rfl rfl (by decide) rfl (fun a h => ?_)
      refine g_yes h rfl rfl rfl rfl hB8 ?_
      obtain ⟨x29, h30, hz26⟩ := bsome hz26
      have hX := anchor_Slot_Limit_nil0_ok Fu (S0 := snapAll _)  _ h30 _ h.startAll
      refine q_callX hX h rfl rfl rfl (by decide) Try.func40 rfl rfl rfl (fun a w v L1 S1 hR hb1 h => ?_)
      obtain ⟨rfl, rfl, hr32, _⟩ := hR
      refine g_yes h rfl rfl rfl rfl hB8 ?_
      refine s_x h rfl rfl (by decide) (x_bin h.k rfl rfl rfl ib_neq) (fun a h => ?_)
      refine s_x h rfl rfl (by decide) (x_pick (u' := undef) h.k rfl rfl (fun hh => absurd (hB8.symm.trans hh) (by decide)) (fun _ => rfl)) (fun a h => ?_)
      exact (h.mid 3 rfl).val (by rw [Option.some.inj hz26])
    refine s_move h rfl _ rfl rfl (by decide) rfl (fun a h => ?_)
    obtain ⟨z34, hz33, hf⟩ := bsome hf
    refine q_grp h 5 (t := 26) 31 z34 rfl (fun hB13 => ?_) (fun hB13 => ?_) (fun a w h => ?_)
    · refine g_no h rfl rfl rfl rfl hB13 rfl (by decide) (fun a h => ?_)
      refine g_no h rfl rfl rfl rfl hB13 rfl (by decide) (fun a h => ?_)
      refine g_no h rfl rfl rfl rfl hB13 rfl (by decide) (fun a h => ?_)
      refine g_no h rfl rfl rfl rfl hB13 rfl (by decide) (fun a h => ?_)
      rw [if_pos hB13] at hz33
      refine s_x h rfl rfl (by decide) (x_pick (u' := undef) h.k rfl rfl (fun _ => rfl) (fun hh => absurd (hB13.symm.trans hh) (by decide))) (fun a h => ?_)
      exact (h.mid 4 rfl).val (by rw [Option.some.inj hz33])
    · rw [if_neg (by rw [hB13]; decide)] at hz33
      refine g_yes h rfl rfl rfl rfl hB13 ?_
      refine s_move h rfl _ rfl rfl (by decide) rfl (fun a h => ?_)
      refine g_yes h rfl rfl rfl rfl hB13 ?_
      obtain ⟨x36, h37, hz33⟩ := bsome hz33
      have hX := anchor_Slot_Bytes_nil0_ok Fu (S0 := snapAll _)  _ h37 _ h.startAll
      refine q_callX hX h rfl rfl rfl (by decide) Try.func41 rfl rfl rfl (fun a w v L1 S1 hR hb1 h => ?_)
      obtain ⟨A39, c40, cs41, rfl, rfl, hq42, _⟩ := hR
      have hq43 := hq42.fl (S' := S0) fl_8
      refine g_yes h rfl rfl rfl rfl hB13 ?_
      have hr44 : r64 (x36.length : Int) := len_r (h.m.rowLen (i := 0) rfl)
      refine s_x h rfl rfl (by decide) (x_len h.k rfl Try.underlying22 rfl) (fun a h => ?_)
      refine g_yes h rfl rfl rfl rfl hB13 ?_
      refine s_x h rfl rfl (by decide) (x_bin h.k rfl rfl rfl ib_neq) (fun a h => ?_)
      refine s_x h rfl rfl (by decide) (x_pick (u' := undef) h.k rfl rfl (fun hh => absurd (hB13.symm.trans hh) (by decide)) (fun _ => rfl)) (fun a h => ?_)
      have h := h.pick [1] (by decide) rfl
      exact (h.mid 4 rfl).val (by rw [Option.some.inj hz33])
    refine s_move h rfl _ rfl rfl (by decide) rfl (fun a h => ?_)
    obtain ⟨z46, hz45, hf⟩ := bsome hf
    refine q_grp h 6 (t := 32) 38 z46 rfl (fun hB19 => ?_) (fun hB19 => ?_) (fun a w h => ?_)
    · refine g_no h rfl rfl rfl rfl hB19 rfl (by decide) (fun a h => ?_)
      refine g_no h rfl rfl rfl rfl hB19 rfl (by decide) (fun a h => ?_)
      refine g_no h rfl rfl rfl rfl hB19 rfl (by decide) (fun a h => ?_)
      refine g_no h rfl rfl rfl rfl hB19 rfl (by decide) (fun a h => ?_)
      refine g_no h rfl rfl rfl rfl hB19 rfl (by decide) (fun a h => ?_)
      rw [if_pos hB19] at hz45
      refine s_x h rfl rfl (by decide) (x_pick (u' := undef) h.k rfl rfl (fun _ => rfl) (fun hh => absurd (hB19.symm.trans hh) (by decide))) (fun a h => ?_)
      exact (h.mid 5 rfl).val (by rw [Option.some.inj hz45])
    · rw [if_neg (by rw [hB19]; decide)] at hz45
      refine g_yes h rfl rfl rfl rfl hB19 ?_
      refine s_move h rfl _ rfl rfl (by decide) rfl (fun a h => ?_)
      refine g_yes h rfl rfl rfl rfl hB19 ?_
      refine s_x h rfl rfl (by decide) (x_build h.k rfl [] rfl (List.replicate 32 (.int .u8 0 : Value)) (by kernel_rfl)) (fun a h => ?_)
      refine g_yes h rfl rfl rfl rfl hB19 ?_
      refine s_x h rfl rfl (by decide) (x_build h.k rfl [] rfl (List.replicate 32 (.int .u8 0 : Value)) (by kernel_rfl)) (fun a h => ?_)
      refine g_yes h rfl rfl rfl rfl hB19 ?_
      obtain ⟨x48, h49, hz45⟩ := bsome hz45
      have hX := anchor_Slot_Set_nil0_ok Fu (S0 := snapAll _) (List.replicate 32 (.int .u8 0 : Value)) (List.replicate 32 ((0 : UInt8) : UInt8)) ((tyA 32 ty8).mono (h.m.leAll (i := 0) rfl) (show (tyA 32 ty8).rep S0 (List.replicate 32 (.int .u8 0 : Value)) (List.replicate 32 ((0 : UInt8) : UInt8)) from ⟨(show reps ty8 S0 (List.replicate 32 (.int .u8 0 : Value)) (List.replicate 32 ((0 : UInt8) : UInt8)) from repsRep1 (x := ((0 : UInt8) : UInt8)) rfl), (show (List.replicate 32 ((0 : UInt8) : UInt8)).length = 32 from List.length_replicate)⟩)) (List.replicate 32 (.int .u8 0 : Value)) (List.replicate 32 ((0 : UInt8) : UInt8)) ((tyA 32 ty8).mono (h.m.leAll (i := 0) rfl) (show (tyA 32 ty8).rep S0 (List.replicate 32 (.int .u8 0 : Value)) (List.replicate 32 ((0 : UInt8) : UInt8)) from ⟨(show reps ty8 S0 (List.replicate 32 (.int .u8 0 : Value)) (List.replicate 32 ((0 : UInt8) : UInt8)) from repsRep1 (x := ((0 : UInt8) : UInt8)) rfl), (show (List.replicate 32 ((0 : UInt8) : UInt8)).length = 32 from List.length_replicate)⟩)) _ h49 _ h.startAll
      refine q_callX hX h rfl rfl rfl (by decide) Try.func42 rfl rfl rfl (fun a w v L1 S1 hR hb1 h => ?_)
      obtain ⟨rfl, rfl, hr51, _⟩ := hR
      refine g_yes h rfl rfl rfl rfl hB19 ?_
      refine s_x h rfl rfl (by decide) (x_bin h.k rfl rfl rfl ib_neq) (fun a h => ?_)
      refine s_x h rfl rfl (by decide) (x_pick (u' := undef) h.k rfl rfl (fun hh => absurd (hB19.symm.trans hh) (by decide)) (fun _ => rfl)) (fun a h => ?_)
      exact (h.mid 5 rfl).val (by rw [Option.some.inj hz45])
    refine l_end ?_
    refine c_cond h rfl (fun hb => ?_) (fun hb => ?_)
    · rw [if_pos hb] at hf
      refine c_rs ?_ -- region 5
      refine s_assign h rfl _ rfl rfl (by decide) rfl (fun a h => ?_)
      refine l_end ?_
      refine wp_ret ?_
      refine e_thenR ?_
      rw [← Option.some.inj hf]
      exact r_ret1 h rfl (rv_tmp h rfl) ⟨_, [], _, rfl, ⟨rfl, rfl, trivial⟩, rfl, (Up.refl _ _ _), h.m⟩
    · rw [if_neg (by rw [hb]; decide)] at hf
      refine wp_skip ?_
      refine e_thenN ?_
      refine wp_seq ?_
      refine c_rs ?_ -- region 6
      refine s_move h rfl _ rfl rfl (by decide) rfl (fun a h => ?_)
      refine s_x h rfl rfl (by decide) (x_len h.k rfl Try.underlying22 rfl) (fun a h => ?_)
      refine s_x h rfl rfl (by decide) (x_bin h.k rfl rfl rfl ib_gtr) (fun a h => ?_)
      refine l_end ?_
      refine c_cond h rfl (fun hb => ?_) (fun hb => ?_)
      · rw [if_pos (of_decide_eq_true hb)] at hf
        refine c_rs ?_ -- region 7
        refine s_assign h rfl _ rfl rfl (by decide) rfl (fun a h => ?_)
        refine l_end ?_
        refine wp_ret ?_
        refine e_thenR ?_
        rw [← Option.some.inj hf]
        exact r_ret1 h rfl (rv_tmp h rfl) ⟨_, [], _, rfl, ⟨rfl, rfl, trivial⟩, rfl, (Up.refl _ _ _), h.m⟩
      · rw [if_neg (of_decide_eq_false hb)] at hf
        refine wp_skip ?_
        refine e_thenN ?_
        refine c_rs ?_ -- region 8
        refine s_move h rfl _ rfl rfl (by decide) rfl (fun a h => ?_)
        obtain ⟨x52, h53, hf⟩ := bsome hf
        have hX := anchor_Of_ok Fu (S0 := S0) Aa0 ca0 a0 hsa0 _ h53 _ (h.sub (Ls := []))
        refine q_callY (Ls := []) hX h (Up.refl _ _ _) rfl rfl rfl (by decide) Try.func43 rfl rfl rfl (fun a w v L1 S55 hR le57 up56 h => ?_)
        rcases hR with hR | hR
        · obtain ⟨x58, rfl, hR⟩ := hR
          dsimp only at hf
          obtain ⟨rfl, rfl, hr59, _⟩ := hR
          refine s_move h rfl _ rfl rfl (by decide) rfl (fun a h => ?_)
          refine s_x h rfl rfl (by decide) (x_ext h.k rfl rfl rfl) (fun a h => ?_)
          refine s_x h rfl rfl (by decide) (x_ext h.k rfl rfl rfl) (fun a h => ?_)
          refine s_assign h rfl _ rfl rfl (by decide) rfl (fun a h => ?_)
          refine s_assign h rfl _ rfl rfl (by decide) rfl (fun a h => ?_)
          refine l_end ?_
          refine wp_seq ?_
          refine wp_block ?_
          refine c_rs ?_ -- region 9
          refine s_move h rfl _ rfl rfl (by decide) rfl (fun a h => ?_)
          refine s_x h rfl rfl (by decide) (x_len h.k rfl Try.underlying22 rfl) (fun a h => ?_)
          refine s_x h rfl rfl (by decide) (x_bin h.k rfl rfl rfl ib_lss) (fun a h => ?_)
          refine s_assign h rfl _ rfl rfl (by decide) rfl (fun a h => ?_)
          refine l_end ?_
          refine c_cond h rfl (fun hb => ?_) (fun hb => ?_)
          · rw [if_pos (of_decide_eq_true hb)] at hf
            refine c_rs ?_ -- region 10
            refine s_move h rfl _ rfl rfl (by decide) rfl (fun a h => ?_)
            refine s_x h rfl rfl (by decide) (x_eql_nn h.k rfl Try.underlying66 rfl rfl) (fun a h => ?_)
            refine s_move h rfl _ rfl rfl (by decide) rfl (fun a h => ?_)
            refine q_grp h 3 (t := 53) 56 (decide (x58 = 10)) rfl (fun hB2 => ?_) (fun hB2 => ?_) (fun a w h => ?_)
            · refine g_yes h rfl rfl rfl rfl hB2 ?_
              refine s_move h rfl _ rfl rfl (by decide) rfl (fun a h => ?_)
              refine g_yes h rfl rfl rfl rfl hB2 ?_
              refine s_x h rfl rfl (by decide) (x_bin h.k rfl rfl rfl ib_eql) (fun a h => ?_)
              refine s_x h rfl rfl (by decide) (x_pick (u' := undef) h.k rfl rfl (fun _ => rfl) (fun hh => absurd (hB2.symm.trans hh) (by decide))) (fun a h => ?_)
              exact (h.mid 2 rfl).val (by first | rfl | (rw [hB2]; first | rfl | simp))
            · exact absurd hB2 (by decide)
            refine s_assign h rfl _ rfl rfl (by decide) rfl (fun a h => ?_)
            refine l_end ?_
            refine wp_ret ?_
            refine e_blkR ?_
            refine e_thenR ?_
            obtain rfl := Option.some.inj hf
            exact r_ret1 h rfl (rv_tmp h rfl) ⟨_, [], _, rfl, ⟨rfl, rfl, trivial⟩, rfl, up56, h.m⟩
          · rw [if_neg (of_decide_eq_false hb)] at hf
            refine c_rs ?_ -- region 11
            refine s_move h rfl _ rfl rfl (by decide) rfl (fun a h => ?_)
            refine s_x h rfl rfl (by decide) (x_len h.k rfl Try.underlying22 rfl) (fun a h => ?_)
            refine s_x h rfl rfl (by decide) (x_bin h.k rfl rfl rfl ib_gtr) (fun a h => ?_)
            refine s_assign h rfl _ rfl rfl (by decide) rfl (fun a h => ?_)
            refine l_end ?_
            refine c_cond h rfl (fun hb => ?_) (fun hb => ?_)
            · rw [if_pos (of_decide_eq_true hb)] at hf
              refine c_rs ?_ -- region 12
              refine s_move h rfl _ rfl rfl (by decide) rfl (fun a h => ?_)
              refine s_x h rfl rfl (by decide) (x_eql_nn h.k rfl Try.underlying66 rfl rfl) (fun a h => ?_)
              refine s_move h rfl _ rfl rfl (by decide) rfl (fun a h => ?_)
              refine q_grp h 3 (t := 63) 66 (decide (x58 = 13)) rfl (fun hB2 => ?_) (fun hB2 => ?_) (fun a w h => ?_)
              · refine g_yes h rfl rfl rfl rfl hB2 ?_
                refine s_move h rfl _ rfl rfl (by decide) rfl (fun a h => ?_)
                refine g_yes h rfl rfl rfl rfl hB2 ?_
                refine s_x h rfl rfl (by decide) (x_bin h.k rfl rfl rfl ib_eql) (fun a h => ?_)
                refine s_x h rfl rfl (by decide) (x_pick (u' := undef) h.k rfl rfl (fun _ => rfl) (fun hh => absurd (hB2.symm.trans hh) (by decide))) (fun a h => ?_)
                exact (h.mid 2 rfl).val (by first | rfl | (rw [hB2]; first | rfl | simp))
              · exact absurd hB2 (by decide)
              refine s_assign h rfl _ rfl rfl (by decide) rfl (fun a h => ?_)
              refine l_end ?_
              refine wp_ret ?_
              refine e_blkR ?_
              refine e_thenR ?_
              obtain rfl := Option.some.inj hf
              exact r_ret1 h rfl (rv_tmp h rfl) ⟨_, [], _, rfl, ⟨rfl, rfl, trivial⟩, rfl, up56, h.m⟩
            · rw [if_neg (of_decide_eq_false hb)] at hf
              refine wp_skip ?_
              refine e_blkN ?_
              refine e_thenN ?_
              refine c_rs ?_ -- region 13
              refine s_move h rfl _ rfl rfl (by decide) rfl (fun a h => ?_)
              obtain ⟨x64, h65, hf⟩ := bsome hf
              obtain ⟨m66, n67, hi68, hi69, hm70, hm71, hr72⟩ := sub_some h65
              have hs73 := slS.sub ((hsa0.mono le57)) hm70 hm71 (Nat.le_trans hm71 ((hsa0.mono le57)).1) (Nat.le_refl _) hr72
              refine s_x h rfl rfl (by decide) (x_sliceE h.k rfl Try.underlying22 sz_uint8 rfl ca0 hr72 (bd_none (by omega)) (bd_some rfl hi69) (bd_none rfl) (by intro hh; cases hh) hm70 hm71 (Nat.le_trans hm71 ((hsa0.mono le57)).1) (Nat.le_refl _)) (fun a h => ?_)
              obtain ⟨x74, h75, hf⟩ := bsome hf
              have hX := chatelaineref01_Get_ok Fu (S0 := snapAll _) (sA Aa0 ca0 m66 1) (ca0 - m66) x64 (hs73.mono (h.m.leAll (i := 0) rfl)) _ h75 _ h.startAll
              refine q_callX hX h rfl rfl rfl (by decide) Try.func44 rfl rfl rfl (fun a w v L1 S1 hR hb1 h => ?_)
              obtain ⟨rfl, rfl, hr77, hr78, _⟩ := hR
              refine s_move h rfl _ rfl rfl (by decide) rfl (fun a h => ?_)
              refine s_x h rfl rfl (by decide) (x_ext h.k rfl rfl rfl) (fun a h => ?_)
              refine s_x h rfl rfl (by decide) (x_ext h.k rfl rfl rfl) (fun a h => ?_)
              refine s_assign h rfl _ rfl rfl (by decide) rfl (fun a h => ?_)
              refine s_assign h rfl _ rfl rfl (by decide) rfl (fun a h => ?_)
              refine l_end ?_
              refine c_rs ?_ -- region 14
              refine s_move h rfl _ rfl rfl (by decide) rfl (fun a h => ?_)
              obtain ⟨x79, h80, hf⟩ := bsome hf
              obtain ⟨m81, n82, hi83, hi84, hm85, hm86, hr87⟩ := sub_some h80
              have hs88 := slS.sub ((hsa0.mono le57)) hm85 hm86 (Nat.le_trans hm86 ((hsa0.mono le57)).1) (Nat.le_refl _) hr87
              refine s_x h rfl rfl (by decide) (x_sliceE h.k rfl Try.underlying22 sz_uint8 rfl ca0 hr87 (bd_some rfl hi83) (bd_some rfl hi84) (bd_none rfl) (by intro hh; cases hh) hm85 hm86 (Nat.le_trans hm86 ((hsa0.mono le57)).1) (Nat.le_refl _)) (fun a h => ?_)
              obtain ⟨x89, h90, hf⟩ := bsome hf
              have hX := chatelaineref01_Get_ok Fu (S0 := snapAll _) (sA Aa0 ca0 m81 1) (ca0 - m81) x79 (hs88.mono (h.m.leAll (i := 0) rfl)) _ h90 _ h.startAll
              refine q_callX hX h rfl rfl rfl (by decide) Try.func44 rfl rfl rfl (fun a w v L1 S1 hR hb1 h => ?_)
              obtain ⟨rfl, rfl, hr92, hr93, _⟩ := hR
              refine s_move h rfl _ rfl rfl (by decide) rfl (fun a h => ?_)
              refine s_x h rfl rfl (by decide) (x_ext h.k rfl rfl rfl) (fun a h => ?_)
              refine s_x h rfl rfl (by decide) (x_ext h.k rfl rfl rfl) (fun a h => ?_)
              refine s_assign h rfl _ rfl rfl (by decide) rfl (fun a h => ?_)
              refine s_assign h rfl _ rfl rfl (by decide) rfl (fun a h => ?_)
              refine l_end ?_
              refine wp_seq ?_
              refine c_rs ?_ -- region 15
              refine s_move h rfl _ rfl rfl (by decide) rfl (fun a h => ?_)
              refine s_x h rfl rfl (by decide) (x_bin h.k rfl rfl rfl ib_neq) (fun a h => ?_)
              refine s_move h rfl _ rfl rfl (by decide) rfl (fun a h => ?_)
              refine q_grp h 3 (t := 81) 84 ((decide (x74.2 ≠ 0)) || (decide (x89.2 ≠ 0))) rfl (fun hB2 => ?_) (fun hB2 => ?_) (fun a w h => ?_)
              · refine g_no h rfl rfl rfl rfl hB2 rfl (by decide) (fun a h => ?_)
                refine g_no h rfl rfl rfl rfl hB2 rfl (by decide) (fun a h => ?_)
                refine s_x h rfl rfl (by decide) (x_pick (u' := undef) h.k rfl rfl (fun _ => rfl) (fun hh => absurd (hB2.symm.trans hh) (by decide))) (fun a h => ?_)
                exact (h.mid 2 rfl).val (by first | rfl | (rw [hB2]; first | rfl | simp))
              · refine g_yes h rfl rfl rfl rfl hB2 ?_
                refine s_move h rfl _ rfl rfl (by decide) rfl (fun a h => ?_)
                refine g_yes h rfl rfl rfl rfl hB2 ?_
                refine s_x h rfl rfl (by decide) (x_bin h.k rfl rfl rfl ib_neq) (fun a h => ?_)
                refine s_x h rfl rfl (by decide) (x_pick (u' := undef) h.k rfl rfl (fun hh => absurd (hB2.symm.trans hh) (by decide)) (fun _ => rfl)) (fun a h => ?_)
                exact (h.mid 2 rfl).val (by first | rfl | (rw [hB2]; first | rfl | simp))
              refine s_move h rfl _ rfl rfl (by decide) rfl (fun a h => ?_)
              refine q_grp h 3 (t := 85) 88 (((decide (x74.2 ≠ 0)) || (decide (x89.2 ≠ 0))) || (decide (1099511627776 < x89.1))) rfl (fun hB6 => ?_) (fun hB6 => ?_) (fun a w h => ?_)
              · refine g_no h rfl rfl rfl rfl hB6 rfl (by decide) (fun a h => ?_)
                refine g_no h rfl rfl rfl rfl hB6 rfl (by decide) (fun a h => ?_)
                refine s_x h rfl rfl (by decide) (x_pick (u' := undef) h.k rfl rfl (fun _ => rfl) (fun hh => absurd (hB6.symm.trans hh) (by decide))) (fun a h => ?_)
                exact (h.mid 2 rfl).val (by first | rfl | (rw [hB6]; first | rfl | simp))
              · refine g_yes h rfl rfl rfl rfl hB6 ?_
                refine s_move h rfl _ rfl rfl (by decide) rfl (fun a h => ?_)
                refine g_yes h rfl rfl rfl rfl hB6 ?_
                refine s_x h rfl rfl (by decide) (x_bin h.k rfl rfl rfl ib_gtr) (fun a h => ?_)
                refine s_x h rfl rfl (by decide) (x_pick (u' := undef) h.k rfl rfl (fun hh => absurd (hB6.symm.trans hh) (by decide)) (fun _ => rfl)) (fun a h => ?_)
                exact (h.mid 2 rfl).val (by first | rfl | (rw [hB6]; first | rfl | simp))
              refine s_move h rfl _ rfl rfl (by decide) rfl (fun a h => ?_)
              refine q_grp h 4 (t := 89) 93 ((((decide (x74.2 ≠ 0)) || (decide (x89.2 ≠ 0))) || (decide (1099511627776 < x89.1))) || (decide (x89.1 < x74.1))) rfl (fun hB10 => ?_) (fun hB10 => ?_) (fun a w h => ?_)
              · refine g_no h rfl rfl rfl rfl hB10 rfl (by decide) (fun a h => ?_)
                refine g_no h rfl rfl rfl rfl hB10 rfl (by decide) (fun a h => ?_)
                refine g_no h rfl rfl rfl rfl hB10 rfl (by decide) (fun a h => ?_)
                refine s_x h rfl rfl (by decide) (x_pick (u' := undef) h.k rfl rfl (fun _ => rfl) (fun hh => absurd (hB10.symm.trans hh) (by decide))) (fun a h => ?_)
                exact (h.mid 3 rfl).val (by first | rfl | (rw [hB10]; first | rfl | simp))
              · refine g_yes h rfl rfl rfl rfl hB10 ?_
                refine s_move h rfl _ rfl rfl (by decide) rfl (fun a h => ?_)
                refine g_yes h rfl rfl rfl rfl hB10 ?_
                refine s_move h rfl _ rfl rfl (by decide) rfl (fun a h => ?_)
                refine g_yes h rfl rfl rfl rfl hB10 ?_
                refine s_x h rfl rfl (by decide) (x_bin h.k rfl rfl rfl ib_gtr) (fun a h => ?_)
                refine s_x h rfl rfl (by decide) (x_pick (u' := undef) h.k rfl rfl (fun hh => absurd (hB10.symm.trans hh) (by decide)) (fun _ => rfl)) (fun a h => ?_)
                exact (h.mid 3 rfl).val (by first | rfl | (rw [hB10]; first | rfl | simp))
              refine l_end ?_
              refine c_cond h rfl (fun hb => ?_) (fun hb => ?_)
              · rw [if_pos hb] at hf
                refine c_rs ?_ -- region 16
                refine s_move h rfl _ rfl rfl (by decide) rfl (fun a h => ?_)
                refine s_x h rfl rfl (by decide) (x_eql_nn h.k rfl Try.underlying66 rfl rfl) (fun a h => ?_)
                refine s_move h rfl _ rfl rfl (by decide) rfl (fun a h => ?_)
                refine q_grp h 3 (t := 96) 99 (decide (x58 = 11)) rfl (fun hB2 => ?_) (fun hB2 => ?_) (fun a w h => ?_)
                · refine g_yes h rfl rfl rfl rfl hB2 ?_
                  refine s_move h rfl _ rfl rfl (by decide) rfl (fun a h => ?_)
                  refine g_yes h rfl rfl rfl rfl hB2 ?_
                  refine s_x h rfl rfl (by decide) (x_bin h.k rfl rfl rfl ib_eql) (fun a h => ?_)
                  refine s_x h rfl rfl (by decide) (x_pick (u' := undef) h.k rfl rfl (fun _ => rfl) (fun hh => absurd (hB2.symm.trans hh) (by decide))) (fun a h => ?_)
                  exact (h.mid 2 rfl).val (by first | rfl | (rw [hB2]; first | rfl | simp))
                · exact absurd hB2 (by decide)
                refine s_assign h rfl _ rfl rfl (by decide) rfl (fun a h => ?_)
                refine l_end ?_
                refine wp_ret ?_
                refine e_thenR ?_
                obtain rfl := Option.some.inj hf
                exact r_ret1 h rfl (rv_tmp h rfl) ⟨_, [], _, rfl, ⟨rfl, rfl, trivial⟩, rfl, up56, h.m⟩
              · rw [if_neg (by rw [hb]; decide)] at hf
                refine wp_skip ?_
                refine e_thenN ?_
                refine c_rs ?_ -- region 17
                refine s_move h rfl _ rfl rfl (by decide) rfl (fun a h => ?_)
                obtain ⟨x102, h103, hf⟩ := bsome hf
                have hX := anchor_Slot_Get_nil0_ok Fu (S0 := snapAll _)  _ h103 _ h.startAll
                refine q_callX hX h rfl rfl rfl (by decide) Try.func38 rfl rfl rfl (fun a w v L1 S1 hR hb1 h => ?_)
                obtain ⟨k105, rfl, rfl, hv106, _⟩ := hR
                obtain ⟨k107, k108, rfl, ⟨rfl, hr109⟩, ⟨k110, k111, rfl, ⟨hs112, hl113⟩, ⟨hs114, hl115⟩⟩⟩ := hv106
                have hq116 := hs112.fl (S' := S55) fl_8
                have hq117 := hs114.fl (S' := S55) fl_8
                refine s_alloc h rfl rfl rfl (by decide) zi_api_Root rfl (fun a w g118 h => ?_)
                refine s_stW h rfl rfl rfl ag_api_Root rfl (es := ([.int .i64 x102.1] : List Value) ++ (k110 ++ k111)) rfl (show (([.int .i64 x102.1] : List Value) ++ (k110 ++ k111) : List Value).length = 65 from by simp only [List.length_append, List.length_cons, List.length_nil, (show (k110 : List Value).length = 32 from ((hq116).len.trans (by rw [hl113]; rfl))), (show (k111 : List Value).length = 32 from ((hq117).len.trans (by rw [hl115]; rfl)))]) ((tyP tyI (tyP (tyA 32 ty8) (tyA 32 ty8))).one (show (tyP tyI (tyP (tyA 32 ty8) (tyA 32 ty8))).rep S55 (([.int .i64 x102.1] : List Value) ++ (k110 ++ k111)) x102 from ⟨[.int .i64 x102.1], k110 ++ k111, rfl, ⟨rfl, hr109⟩, ⟨k110, k111, rfl, ⟨hq116, hl113⟩, ⟨hq117, hl115⟩⟩⟩)) 0 rfl (show (([.int .i64 0] : List Value) ++ ((List.replicate 32 (.int .u8 0 : Value)) ++ (List.replicate 32 (.int .u8 0 : Value))) : List Value).length = 65 from by simp only [List.length_append, List.length_cons, List.length_nil, (show ((List.replicate 32 (.int .u8 0 : Value)) : List Value).length = 32 from (by first | rfl | simp_all))]) (fun a w h => ?_)
                refine l_end ?_
                refine wp_seq ?_
                -- region 18 draws
                obtain ⟨z119, hz120, hf⟩ := bsome hf
                obtain ⟨z127, hz128, hf⟩ := bsome hf
                obtain ⟨z143, hz144, hf⟩ := bsome hf
                obtain ⟨z159, hz160, hf⟩ := bsome hf
                refine c_fin (fun a w => St 136 w0 (ownL ([] ++ [.sn S0])) [(2, .bool z159)] [.sn S55] a w) ?_ (fun a w h => ?_)
                · refine d_start h (Mem _ _ _) 35 35 rfl (by kernel_rfl) (fun _ _ _ _ _ h => h) (fun _ h => h) (fun Q a w HE HN h HS => ?_)
                  refine d_takeP h (fun _ => HS) HN 0 rfl (by kernel_rfl) (by kernel_rfl) (by kernel_rfl) (by decide) rfl rfl (by decide) (fun w' => x_move h.k _ rfl rfl) (fun a h => ?_)
                  refine d_takeP h (fun _ => HS) HN 1 rfl (by kernel_rfl) (by kernel_rfl) (by kernel_rfl) (by decide) rfl rfl (by decide) (fun w' => x_bin h.k rfl rfl rfl ib_eql) (fun a h => ?_)
                  refine d_takeP h (fun _ => HS) HN 2 rfl (by kernel_rfl) (by kernel_rfl) (by kernel_rfl) (by decide) rfl rfl (by decide) (fun w' => x_move h.k _ rfl rfl) (fun a h => ?_)
                  refine d_split (t := 104) h rfl (fun hB2 => ?_) (fun hB2 => ?_)
                  · rw [if_pos (of_decide_eq_true hB2)] at hz120
                    obtain ⟨x121, h122, hz120⟩ := bsome hz120
                    refine d_takeP h (fun _ => HS) HN 3 rfl (by kernel_rfl) (by kernel_rfl) (by kernel_rfl) (by decide) (by rw [g_want h rfl rfl rfl rfl hB2]; rfl) rfl (by decide) (fun w' => x_move h.k _ rfl rfl) (fun a h => ?_)
                    refine d_takeP h (fun _ => HS) HN 5 rfl (by kernel_rfl) (by kernel_rfl) (by kernel_rfl) (by decide) (by rw [g_want h rfl rfl rfl rfl hB2]; rfl) rfl (by decide) (fun w' => x_move h.k _ rfl rfl) (fun a h => ?_)
                    refine d_alone 4 rfl (by kernel_rfl) (fun K hK => ?_)
                    refine g_yes (j := 2) (t := 104) h rfl rfl rfl rfl hB2 ?_
                    have hX := anchor_Slot_Limit_nil0_ok Fu (S0 := snapAll _)  _ h122 _ h.startAll
                    refine q_callX hX h rfl rfl rfl (by decide) Try.func40 rfl rfl rfl (fun a w v L1 S1 hR hb1 h => ?_)
                    obtain ⟨rfl, rfl, hr124, _⟩ := hR
                    refine hK _ _ (fun _ _ => HS.ext hb1) ?_
                    replace HS := HS.ext hb1
                    clear hK
                    refine d_takeP h (fun _ => HS) HN 6 rfl (by kernel_rfl) (by kernel_rfl) (by kernel_rfl) (by decide) (by rw [g_want h rfl rfl rfl rfl hB2]; rfl) rfl (by decide) (fun w' => x_bin h.k rfl rfl rfl ib_eql) (fun a h => ?_)
                    refine d_takeP h (fun _ => HS) HN 7 rfl (by kernel_rfl) (by kernel_rfl) (by kernel_rfl) (by decide) rfl rfl (by decide) (fun w' => x_pick (v := .bool z119) (u' := undef) h.k rfl rfl (fun _ => by rw [← Option.some.inj hz120]; rfl) (fun hh => absurd (hB2.symm.trans hh) (by decide))) (fun a h => ?_)
                    refine d_takeP h (fun _ => HS) HN 8 rfl (by kernel_rfl) (by kernel_rfl) (by kernel_rfl) (by decide) rfl rfl (by decide) (fun w' => x_move h.k _ rfl rfl) (fun a h => ?_)
                    refine d_split (t := 110) h rfl (fun hB8 => ?_) (fun hB8 => ?_)
                    · refine d_takeP h (fun _ => HS) HN 9 rfl (by kernel_rfl) (by kernel_rfl) (by kernel_rfl) (by decide) (by rw [g_want h rfl rfl rfl rfl hB8]; rfl) rfl (by decide) (fun w' => x_faddr h.k rfl Try.underlying69 rfl sz_int rfl) (fun a h => ?_)
                      refine d_takeY h HS HN 10 rfl (by kernel_rfl) (by kernel_rfl) (by kernel_rfl) (by kernel_rfl) (by kernel_rfl) (by rw [g_want h rfl rfl rfl rfl hB8]; rfl) rfl (by decide) (fun w' hw => x_ld h.k rfl Try.underlying3 rfl rfl ((hw.cell (i := 0) rfl 0).trans (cell_oneE (X := []) (Z := k110 ++ (k111)) (off := 0) (u := .int .i64 x102.1) (by simp only [List.append_assoc, List.cons_append, List.nil_append, List.append_nil]) rfl))) (fun a h => ?_)
                      refine d_takeP h (fun _ => HS) HN 11 rfl (by kernel_rfl) (by kernel_rfl) (by kernel_rfl) (by decide) (by rw [g_want h rfl rfl rfl rfl hB8]; rfl) rfl (by decide) (fun w' => x_move h.k _ rfl rfl) (fun a h => ?_)
                      refine d_takeP h (fun _ => HS) HN 12 rfl (by kernel_rfl) (by kernel_rfl) (by kernel_rfl) (by decide) (by rw [g_want h rfl rfl rfl rfl hB8]; rfl) rfl (by decide) (fun w' => x_bin h.k rfl rfl rfl ib_eql) (fun a h => ?_)
                      refine d_takeP h (fun _ => HS) HN 13 rfl (by kernel_rfl) (by kernel_rfl) (by kernel_rfl) (by decide) rfl rfl (by decide) (fun w' => x_pick (v := .bool (z119 && (decide (x102.1 = x74.1)))) (u' := undef) h.k rfl rfl (fun _ => by rw [hB8]; first | rfl | simp [ev, List.lookup]) (fun hh => absurd (hB8.symm.trans hh) (by decide))) (fun a h => ?_)
                      refine d_takeP h (fun _ => HS) HN 14 rfl (by kernel_rfl) (by kernel_rfl) (by kernel_rfl) (by decide) rfl rfl (by decide) (fun w' => x_move h.k _ rfl rfl) (fun a h => ?_)
                      refine d_split (t := 116) h rfl (fun hB14 => ?_) (fun hB14 => ?_)
                      · rw [if_pos hB14] at hz128
                        obtain ⟨x130, h131, hz128⟩ := bsome hz128
                        obtain ⟨x140, h141, hz128⟩ := bsome hz128
                        refine d_takeP h (fun _ => HS) HN 15 rfl (by kernel_rfl) (by kernel_rfl) (by kernel_rfl) (by decide) (by rw [g_want h rfl rfl rfl rfl hB14]; rfl) rfl (by decide) (fun w' => x_faddr h.k rfl Try.underlying69 rfl sz_A32_uint8 rfl) (fun a h => ?_)
                        have hl129 : x102.2.1.length = 32 := hl113
                        refine d_takeP h (fun _ => HS) HN 16 rfl (by kernel_rfl) (by kernel_rfl) (by kernel_rfl) (by decide) (by rw [g_want h rfl rfl rfl rfl hB14]; rfl) rfl (by decide) (fun w' => x_slAllE (p := x102.2.1) h.k rfl Try.underlying67 sz_uint8 rfl (by decide) hl129) (fun a h => ?_)
                        refine d_takeP h (fun _ => HS) HN 17 rfl (by kernel_rfl) (by kernel_rfl) (by kernel_rfl) (by decide) (by rw [g_want h rfl rfl rfl rfl hB14]; rfl) rfl (by decide) (fun w' => x_move h.k _ rfl rfl) (fun a h => ?_)
                        obtain ⟨m132, n133, hi134, hi135, hm136, hm137, hr138⟩ := sub_some h131
                        have hs139 := slS.sub ((hsa0.mono le57)) hm136 hm137 (Nat.le_trans hm137 ((hsa0.mono le57)).1) (Nat.le_refl _) hr138
                        refine d_takeP h (fun _ => HS) HN 18 rfl (by kernel_rfl) (by kernel_rfl) (by kernel_rfl) (by decide) (by rw [g_want h rfl rfl rfl rfl hB14]; rfl) rfl (by decide) (fun w' => x_sliceE h.k rfl Try.underlying22 sz_uint8 rfl ca0 hr138 (bd_some rfl hi134) (bd_some rfl hi135) (bd_none rfl) (by intro hh; cases hh) hm136 hm137 (Nat.le_trans hm137 ((hsa0.mono le57)).1) (Nat.le_refl _)) (fun a h => ?_)
                        refine d_alone 19 rfl (by kernel_rfl) (fun K hK => ?_)
                        refine g_yes (j := 14) (t := 116) h rfl rfl rfl rfl hB14 ?_
                        have hX := chatelaineref01_Same_ok Fu (S0 := snapAll _) (some ⟨g118, 1, none⟩) 32 x102.2.1 (slS_arr (fun w hw => rangeMidA (X := [.int .i64 x102.1]) (Y := k110) (Z := k111) (off := 1) (h.m.boxAll (i := 0) rfl w hw) (by simp only [List.append_assoc, List.cons_append, List.nil_append, List.append_nil]) rfl) ((hq116).mono (h.m.leAll (i := 1) rfl)) hl113 (by decide)) (sA Aa0 ca0 m132 1) (ca0 - m132) x130 (hs139.mono (h.m.leAll (i := 1) rfl)) _ h141 _ h.startAll
                        refine q_callX hX h rfl rfl rfl (by decide) Try.func25 rfl rfl rfl (fun a w v L1 S1 hR hb1 h => ?_)
                        obtain ⟨rfl, rfl, _⟩ := hR
                        refine hK _ _ (fun _ _ => HS.ext hb1) ?_
                        replace HS := HS.ext hb1
                        clear hK
                        refine d_takeP h (fun _ => HS) HN 20 rfl (by kernel_rfl) (by kernel_rfl) (by kernel_rfl) (by decide) rfl rfl (by decide) (fun w' => x_pick (v := .bool z127) (u' := undef) h.k rfl rfl (fun _ => by rw [← Option.some.inj hz128]; rfl) (fun hh => absurd (hB14.symm.trans hh) (by decide))) (fun a h => ?_)
                        refine d_takeP h (fun _ => HS) HN 21 rfl (by kernel_rfl) (by kernel_rfl) (by kernel_rfl) (by decide) rfl rfl (by decide) (fun w' => x_move h.k _ rfl rfl) (fun a h => ?_)
                        refine d_split (t := 123) h rfl (fun hB21 => ?_) (fun hB21 => ?_)
                        · rw [if_pos hB21] at hz144
                          obtain ⟨x146, h147, hz144⟩ := bsome hz144
                          obtain ⟨x156, h157, hz144⟩ := bsome hz144
                          refine d_takeP h (fun _ => HS) HN 22 rfl (by kernel_rfl) (by kernel_rfl) (by kernel_rfl) (by decide) (by rw [g_want h rfl rfl rfl rfl hB21]; rfl) rfl (by decide) (fun w' => x_faddr h.k rfl Try.underlying69 rfl sz_A32_uint8 rfl) (fun a h => ?_)
                          have hl145 : x102.2.2.length = 32 := hl115
                          refine d_takeP h (fun _ => HS) HN 23 rfl (by kernel_rfl) (by kernel_rfl) (by kernel_rfl) (by decide) (by rw [g_want h rfl rfl rfl rfl hB21]; rfl) rfl (by decide) (fun w' => x_slAllE (p := x102.2.2) h.k rfl Try.underlying67 sz_uint8 rfl (by decide) hl145) (fun a h => ?_)
                          refine d_takeP h (fun _ => HS) HN 24 rfl (by kernel_rfl) (by kernel_rfl) (by kernel_rfl) (by decide) (by rw [g_want h rfl rfl rfl rfl hB21]; rfl) rfl (by decide) (fun w' => x_move h.k _ rfl rfl) (fun a h => ?_)
                          obtain ⟨m148, n149, hi150, hi151, hm152, hm153, hr154⟩ := sub_some h147
                          have hs155 := slS.sub ((hsa0.mono le57)) hm152 hm153 (Nat.le_trans hm153 ((hsa0.mono le57)).1) (Nat.le_refl _) hr154
                          refine d_takeP h (fun _ => HS) HN 25 rfl (by kernel_rfl) (by kernel_rfl) (by kernel_rfl) (by decide) (by rw [g_want h rfl rfl rfl rfl hB21]; rfl) rfl (by decide) (fun w' => x_sliceE h.k rfl Try.underlying22 sz_uint8 rfl ca0 hr154 (bd_some rfl hi150) (bd_none (by omega)) (bd_none rfl) (by intro _; rfl) hm152 hm153 (Nat.le_trans hm153 ((hsa0.mono le57)).1) (Nat.le_refl _)) (fun a h => ?_)
                          refine d_alone 26 rfl (by kernel_rfl) (fun K hK => ?_)
                          refine g_yes (j := 21) (t := 123) h rfl rfl rfl rfl hB21 ?_
                          have hX := chatelaineref01_Same_ok Fu (S0 := snapAll _) (some ⟨g118, 33, none⟩) 32 x102.2.2 (slS_arr (fun w hw => rangeMidA (X := ([.int .i64 x102.1] : List Value) ++ (k110)) (Y := k111) (Z := []) (off := 33) (h.m.boxAll (i := 0) rfl w hw) (by simp only [List.append_assoc, List.cons_append, List.nil_append, List.append_nil]) (show (([.int .i64 x102.1] : List Value) ++ (k110) : List Value).length = 33 from by simp only [List.length_append, List.length_cons, List.length_nil, (show (k110 : List Value).length = 32 from ((hq116).len.trans (by rw [hl113]; rfl))), (show (k111 : List Value).length = 32 from ((hq117).len.trans (by rw [hl115]; rfl)))])) ((hq117).mono (h.m.leAll (i := 1) rfl)) hl115 (by decide)) (sA Aa0 ca0 m148 1) (ca0 - m148) x146 (hs155.mono (h.m.leAll (i := 1) rfl)) _ h157 _ h.startAll
                          refine q_callX hX h rfl rfl rfl (by decide) Try.func25 rfl rfl rfl (fun a w v L1 S1 hR hb1 h => ?_)
                          obtain ⟨rfl, rfl, _⟩ := hR
                          refine hK _ _ (fun _ _ => HS.ext hb1) ?_
                          replace HS := HS.ext hb1
                          clear hK
                          refine d_takeP h (fun _ => HS) HN 27 rfl (by kernel_rfl) (by kernel_rfl) (by kernel_rfl) (by decide) rfl rfl (by decide) (fun w' => x_pick (v := .bool z143) (u' := undef) h.k rfl rfl (fun _ => by rw [← Option.some.inj hz144]; rfl) (fun hh => absurd (hB21.symm.trans hh) (by decide))) (fun a h => ?_)
                          refine d_takeP h (fun _ => HS) HN 28 rfl (by kernel_rfl) (by kernel_rfl) (by kernel_rfl) (by decide) rfl rfl (by decide) (fun w' => x_move h.k _ rfl rfl) (fun a h => ?_)
                          refine d_split (t := 130) h rfl (fun hB28 => ?_) (fun hB28 => ?_)
                          · rw [if_pos hB28] at hz160
                            obtain ⟨x161, h162, hz160⟩ := bsome hz160
                            obtain ⟨x169, h170, hz160⟩ := bsome hz160
                            refine d_takeP h (fun _ => HS) HN 29 rfl (by kernel_rfl) (by kernel_rfl) (by kernel_rfl) (by decide) (by rw [g_want h rfl rfl rfl rfl hB28]; rfl) rfl (by decide) (fun w' => x_move h.k _ rfl rfl) (fun a h => ?_)
                            refine d_takeP h (fun _ => HS) HN 31 rfl (by kernel_rfl) (by kernel_rfl) (by kernel_rfl) (by decide) (by rw [g_want h rfl rfl rfl rfl hB28]; rfl) rfl (by decide) (fun w' => x_move h.k _ rfl rfl) (fun a h => ?_)
                            refine d_alone 30 rfl (by kernel_rfl) (fun K hK => ?_)
                            refine g_yes (j := 28) (t := 130) h rfl rfl rfl rfl hB28 ?_
                            have hX := anchor_Slot_Bytes_nil0_ok Fu (S0 := snapAll _)  _ h162 _ h.startAll
                            refine q_callX hX h rfl rfl rfl (by decide) Try.func41 rfl rfl rfl (fun a w v L1 S1 hR hb1 h => ?_)
                            obtain ⟨A164, c165, cs166, rfl, rfl, hq167, _⟩ := hR
                            have hq168 := hq167.fl (S' := S55) fl_8
                            refine hK _ _ (fun _ _ => HS.ext hb1) ?_
                            replace HS := HS.ext hb1
                            clear hK
                            refine d_alone 32 rfl (by kernel_rfl) (fun K hK => ?_)
                            refine g_yes (j := 28) (t := 130) h rfl rfl rfl rfl hB28 ?_
                            have hX := chatelaineref01_Same_ok Fu (S0 := snapAll _) A164 c165 x161 (h.m.rowAll (i := 0) rfl (j := 2) rfl hq168) Aa0 ca0 a0 ((hsa0.mono le57).mono (h.m.leAll (i := 2) rfl)) _ h170 _ h.startAll
                            refine q_callX hX h rfl rfl rfl (by decide) Try.func25 rfl rfl rfl (fun a w v L1 S1 hR hb1 h => ?_)
                            obtain ⟨rfl, rfl, _⟩ := hR
                            refine hK _ _ (fun _ _ => HS.ext hb1) ?_
                            replace HS := HS.ext hb1
                            clear hK
                            refine d_takeP h (fun _ => HS) HN 33 rfl (by kernel_rfl) (by kernel_rfl) (by kernel_rfl) (by decide) rfl rfl (by decide) (fun w' => x_pick (v := .bool z159) (u' := undef) h.k rfl rfl (fun _ => by rw [← Option.some.inj hz160]; rfl) (fun hh => absurd (hB28.symm.trans hh) (by decide))) (fun a h => ?_)
                            refine d_takeP h (fun _ => HS) HN 34 rfl (by kernel_rfl) (by kernel_rfl) (by kernel_rfl) (by decide) rfl rfl (by decide) (fun w' => x_assign h.k _ rfl rfl) (fun a h => ?_)
                            refine d_done (by kernel_rfl) (HE _ _ ?_) _
                            refine e_thenN ?_
                            have h := h.pick [2] (by decide) rfl
                            exact h.has (by exact ⟨rfl, trivial⟩)
                          · rw [if_neg (by rw [hB28]; decide)] at hz160
                            refine d_takeNP h (fun _ => HS) HN 29 rfl (by kernel_rfl) (by kernel_rfl) (by kernel_rfl) (by decide) (by rw [g_want h rfl rfl rfl rfl hB28]; rfl) rfl (by decide) (fun a h => ?_)
                            refine d_takeNP h (fun _ => HS) HN 30 rfl (by kernel_rfl) (by kernel_rfl) (by kernel_rfl) (by decide) (by rw [g_want h rfl rfl rfl rfl hB28]; rfl) rfl (by decide) (fun a h => ?_)
                            refine d_takeNP h (fun _ => HS) HN 31 rfl (by kernel_rfl) (by kernel_rfl) (by kernel_rfl) (by decide) (by rw [g_want h rfl rfl rfl rfl hB28]; rfl) rfl (by decide) (fun a h => ?_)
                            refine d_takeNP h (fun _ => HS) HN 32 rfl (by kernel_rfl) (by kernel_rfl) (by kernel_rfl) (by decide) (by rw [g_want h rfl rfl rfl rfl hB28]; rfl) rfl (by decide) (fun a h => ?_)
                            refine d_takeP h (fun _ => HS) HN 33 rfl (by kernel_rfl) (by kernel_rfl) (by kernel_rfl) (by decide) rfl rfl (by decide) (fun w' => x_pick (v := .bool z159) (u' := undef) h.k rfl rfl (fun hh => absurd (hB28.symm.trans hh) (by decide)) (fun _ => by rw [← Option.some.inj hz160]; rfl)) (fun a h => ?_)
                            refine d_takeP h (fun _ => HS) HN 34 rfl (by kernel_rfl) (by kernel_rfl) (by kernel_rfl) (by decide) rfl rfl (by decide) (fun w' => x_assign h.k _ rfl rfl) (fun a h => ?_)
                            refine d_done (by kernel_rfl) (HE _ _ ?_) _
                            refine e_thenN ?_
                            have h := h.pick [1] (by decide) rfl
                            exact h.has (by exact ⟨rfl, trivial⟩)
                        · rw [if_neg (by rw [hB21]; decide)] at hz144
                          refine d_takeNP h (fun _ => HS) HN 22 rfl (by kernel_rfl) (by kernel_rfl) (by kernel_rfl) (by decide) (by rw [g_want h rfl rfl rfl rfl hB21]; rfl) rfl (by decide) (fun a h => ?_)
                          refine d_takeNP h (fun _ => HS) HN 23 rfl (by kernel_rfl) (by kernel_rfl) (by kernel_rfl) (by decide) (by rw [g_want h rfl rfl rfl rfl hB21]; rfl) rfl (by decide) (fun a h => ?_)
                          refine d_takeNP h (fun _ => HS) HN 24 rfl (by kernel_rfl) (by kernel_rfl) (by kernel_rfl) (by decide) (by rw [g_want h rfl rfl rfl rfl hB21]; rfl) rfl (by decide) (fun a h => ?_)
                          refine d_takeNP h (fun _ => HS) HN 25 rfl (by kernel_rfl) (by kernel_rfl) (by kernel_rfl) (by decide) (by rw [g_want h rfl rfl rfl rfl hB21]; rfl) rfl (by decide) (fun a h => ?_)
                          refine d_takeNP h (fun _ => HS) HN 26 rfl (by kernel_rfl) (by kernel_rfl) (by kernel_rfl) (by decide) (by rw [g_want h rfl rfl rfl rfl hB21]; rfl) rfl (by decide) (fun a h => ?_)
                          refine d_takeP h (fun _ => HS) HN 27 rfl (by kernel_rfl) (by kernel_rfl) (by kernel_rfl) (by decide) rfl rfl (by decide) (fun w' => x_pick (v := .bool z143) (u' := undef) h.k rfl rfl (fun hh => absurd (hB21.symm.trans hh) (by decide)) (fun _ => by rw [← Option.some.inj hz144]; rfl)) (fun a h => ?_)
                          refine d_takeP h (fun _ => HS) HN 28 rfl (by kernel_rfl) (by kernel_rfl) (by kernel_rfl) (by decide) rfl rfl (by decide) (fun w' => x_move h.k _ rfl rfl) (fun a h => ?_)
                          have hB28 : z143 = false := (Option.some.inj hz144).symm
                          rw [if_neg (by rw [hB28]; decide)] at hz160
                          refine d_takeNP h (fun _ => HS) HN 29 rfl (by kernel_rfl) (by kernel_rfl) (by kernel_rfl) (by decide) (by rw [g_want h rfl rfl rfl rfl hB28]; rfl) rfl (by decide) (fun a h => ?_)
                          refine d_takeNP h (fun _ => HS) HN 30 rfl (by kernel_rfl) (by kernel_rfl) (by kernel_rfl) (by decide) (by rw [g_want h rfl rfl rfl rfl hB28]; rfl) rfl (by decide) (fun a h => ?_)
                          refine d_takeNP h (fun _ => HS) HN 31 rfl (by kernel_rfl) (by kernel_rfl) (by kernel_rfl) (by decide) (by rw [g_want h rfl rfl rfl rfl hB28]; rfl) rfl (by decide) (fun a h => ?_)
                          refine d_takeNP h (fun _ => HS) HN 32 rfl (by kernel_rfl) (by kernel_rfl) (by kernel_rfl) (by decide) (by rw [g_want h rfl rfl rfl rfl hB28]; rfl) rfl (by decide) (fun a h => ?_)
                          refine d_takeP h (fun _ => HS) HN 33 rfl (by kernel_rfl) (by kernel_rfl) (by kernel_rfl) (by decide) rfl rfl (by decide) (fun w' => x_pick (v := .bool z159) (u' := undef) h.k rfl rfl (fun hh => absurd (hB28.symm.trans hh) (by decide)) (fun _ => by rw [← Option.some.inj hz160]; rfl)) (fun a h => ?_)
                          refine d_takeP h (fun _ => HS) HN 34 rfl (by kernel_rfl) (by kernel_rfl) (by kernel_rfl) (by decide) rfl rfl (by decide) (fun w' => x_assign h.k _ rfl rfl) (fun a h => ?_)
                          refine d_done (by kernel_rfl) (HE _ _ ?_) _
                          refine e_thenN ?_
                          have h := h.pick [1] (by decide) rfl
                          exact h.has (by exact ⟨rfl, trivial⟩)
                      · rw [if_neg (by rw [hB14]; decide)] at hz128
                        refine d_takeNP h (fun _ => HS) HN 15 rfl (by kernel_rfl) (by kernel_rfl) (by kernel_rfl) (by decide) (by rw [g_want h rfl rfl rfl rfl hB14]; rfl) rfl (by decide) (fun a h => ?_)
                        refine d_takeNP h (fun _ => HS) HN 16 rfl (by kernel_rfl) (by kernel_rfl) (by kernel_rfl) (by decide) (by rw [g_want h rfl rfl rfl rfl hB14]; rfl) rfl (by decide) (fun a h => ?_)
                        refine d_takeNP h (fun _ => HS) HN 17 rfl (by kernel_rfl) (by kernel_rfl) (by kernel_rfl) (by decide) (by rw [g_want h rfl rfl rfl rfl hB14]; rfl) rfl (by decide) (fun a h => ?_)
                        refine d_takeNP h (fun _ => HS) HN 18 rfl (by kernel_rfl) (by kernel_rfl) (by kernel_rfl) (by decide) (by rw [g_want h rfl rfl rfl rfl hB14]; rfl) rfl (by decide) (fun a h => ?_)
                        refine d_takeNP h (fun _ => HS) HN 19 rfl (by kernel_rfl) (by kernel_rfl) (by kernel_rfl) (by decide) (by rw [g_want h rfl rfl rfl rfl hB14]; rfl) rfl (by decide) (fun a h => ?_)
                        refine d_takeP h (fun _ => HS) HN 20 rfl (by kernel_rfl) (by kernel_rfl) (by kernel_rfl) (by decide) rfl rfl (by decide) (fun w' => x_pick (v := .bool z127) (u' := undef) h.k rfl rfl (fun hh => absurd (hB14.symm.trans hh) (by decide)) (fun _ => by rw [← Option.some.inj hz128]; rfl)) (fun a h => ?_)
                        refine d_takeP h (fun _ => HS) HN 21 rfl (by kernel_rfl) (by kernel_rfl) (by kernel_rfl) (by decide) rfl rfl (by decide) (fun w' => x_move h.k _ rfl rfl) (fun a h => ?_)
                        have hB21 : z127 = false := (Option.some.inj hz128).symm
                        rw [if_neg (by rw [hB21]; decide)] at hz144
                        refine d_takeNP h (fun _ => HS) HN 22 rfl (by kernel_rfl) (by kernel_rfl) (by kernel_rfl) (by decide) (by rw [g_want h rfl rfl rfl rfl hB21]; rfl) rfl (by decide) (fun a h => ?_)
                        refine d_takeNP h (fun _ => HS) HN 23 rfl (by kernel_rfl) (by kernel_rfl) (by kernel_rfl) (by decide) (by rw [g_want h rfl rfl rfl rfl hB21]; rfl) rfl (by decide) (fun a h => ?_)
                        refine d_takeNP h (fun _ => HS) HN 24 rfl (by kernel_rfl) (by kernel_rfl) (by kernel_rfl) (by decide) (by rw [g_want h rfl rfl rfl rfl hB21]; rfl) rfl (by decide) (fun a h => ?_)
                        refine d_takeNP h (fun _ => HS) HN 25 rfl (by kernel_rfl) (by kernel_rfl) (by kernel_rfl) (by decide) (by rw [g_want h rfl rfl rfl rfl hB21]; rfl) rfl (by decide) (fun a h => ?_)
                        refine d_takeNP h (fun _ => HS) HN 26 rfl (by kernel_rfl) (by kernel_rfl) (by kernel_rfl) (by decide) (by rw [g_want h rfl rfl rfl rfl hB21]; rfl) rfl (by decide) (fun a h => ?_)
                        refine d_takeP h (fun _ => HS) HN 27 rfl (by kernel_rfl) (by kernel_rfl) (by kernel_rfl) (by decide) rfl rfl (by decide) (fun w' => x_pick (v := .bool z143) (u' := undef) h.k rfl rfl (fun hh => absurd (hB21.symm.trans hh) (by decide)) (fun _ => by rw [← Option.some.inj hz144]; rfl)) (fun a h => ?_)
                        refine d_takeP h (fun _ => HS) HN 28 rfl (by kernel_rfl) (by kernel_rfl) (by kernel_rfl) (by decide) rfl rfl (by decide) (fun w' => x_move h.k _ rfl rfl) (fun a h => ?_)
                        have hB28 : z143 = false := (Option.some.inj hz144).symm
                        rw [if_neg (by rw [hB28]; decide)] at hz160
                        refine d_takeNP h (fun _ => HS) HN 29 rfl (by kernel_rfl) (by kernel_rfl) (by kernel_rfl) (by decide) (by rw [g_want h rfl rfl rfl rfl hB28]; rfl) rfl (by decide) (fun a h => ?_)
                        refine d_takeNP h (fun _ => HS) HN 30 rfl (by kernel_rfl) (by kernel_rfl) (by kernel_rfl) (by decide) (by rw [g_want h rfl rfl rfl rfl hB28]; rfl) rfl (by decide) (fun a h => ?_)
                        refine d_takeNP h (fun _ => HS) HN 31 rfl (by kernel_rfl) (by kernel_rfl) (by kernel_rfl) (by decide) (by rw [g_want h rfl rfl rfl rfl hB28]; rfl) rfl (by decide) (fun a h => ?_)
                        refine d_takeNP h (fun _ => HS) HN 32 rfl (by kernel_rfl) (by kernel_rfl) (by kernel_rfl) (by decide) (by rw [g_want h rfl rfl rfl rfl hB28]; rfl) rfl (by decide) (fun a h => ?_)
                        refine d_takeP h (fun _ => HS) HN 33 rfl (by kernel_rfl) (by kernel_rfl) (by kernel_rfl) (by decide) rfl rfl (by decide) (fun w' => x_pick (v := .bool z159) (u' := undef) h.k rfl rfl (fun hh => absurd (hB28.symm.trans hh) (by decide)) (fun _ => by rw [← Option.some.inj hz160]; rfl)) (fun a h => ?_)
                        refine d_takeP h (fun _ => HS) HN 34 rfl (by kernel_rfl) (by kernel_rfl) (by kernel_rfl) (by decide) rfl rfl (by decide) (fun w' => x_assign h.k _ rfl rfl) (fun a h => ?_)
                        refine d_done (by kernel_rfl) (HE _ _ ?_) _
                        refine e_thenN ?_
                        have h := h.pick [1] (by decide) rfl
                        exact h.has (by exact ⟨rfl, trivial⟩)
                    · refine d_takeNP h (fun _ => HS) HN 9 rfl (by kernel_rfl) (by kernel_rfl) (by kernel_rfl) (by decide) (by rw [g_want h rfl rfl rfl rfl hB8]; rfl) rfl (by decide) (fun a h => ?_)
                      refine d_takeNP h (fun _ => HS) HN 10 rfl (by kernel_rfl) (by kernel_rfl) (by kernel_rfl) (by decide) (by rw [g_want h rfl rfl rfl rfl hB8]; rfl) rfl (by decide) (fun a h => ?_)
                      refine d_takeNP h (fun _ => HS) HN 11 rfl (by kernel_rfl) (by kernel_rfl) (by kernel_rfl) (by decide) (by rw [g_want h rfl rfl rfl rfl hB8]; rfl) rfl (by decide) (fun a h => ?_)
                      refine d_takeNP h (fun _ => HS) HN 12 rfl (by kernel_rfl) (by kernel_rfl) (by kernel_rfl) (by decide) (by rw [g_want h rfl rfl rfl rfl hB8]; rfl) rfl (by decide) (fun a h => ?_)
                      refine d_takeP h (fun _ => HS) HN 13 rfl (by kernel_rfl) (by kernel_rfl) (by kernel_rfl) (by decide) rfl rfl (by decide) (fun w' => x_pick (v := .bool (z119 && (decide (x102.1 = x74.1)))) (u' := undef) h.k rfl rfl (fun hh => absurd (hB8.symm.trans hh) (by decide)) (fun _ => by rw [hB8]; first | rfl | simp [ev, List.lookup])) (fun a h => ?_)
                      refine d_takeP h (fun _ => HS) HN 14 rfl (by kernel_rfl) (by kernel_rfl) (by kernel_rfl) (by decide) rfl rfl (by decide) (fun w' => x_move h.k _ rfl rfl) (fun a h => ?_)
                      have hB14 : (z119 && (decide (x102.1 = x74.1))) = false := (by rw [hB8]; first | rfl | simp)
                      rw [if_neg (by rw [hB14]; decide)] at hz128
                      refine d_takeNP h (fun _ => HS) HN 15 rfl (by kernel_rfl) (by kernel_rfl) (by kernel_rfl) (by decide) (by rw [g_want h rfl rfl rfl rfl hB14]; rfl) rfl (by decide) (fun a h => ?_)
                      refine d_takeNP h (fun _ => HS) HN 16 rfl (by kernel_rfl) (by kernel_rfl) (by kernel_rfl) (by decide) (by rw [g_want h rfl rfl rfl rfl hB14]; rfl) rfl (by decide) (fun a h => ?_)
                      refine d_takeNP h (fun _ => HS) HN 17 rfl (by kernel_rfl) (by kernel_rfl) (by kernel_rfl) (by decide) (by rw [g_want h rfl rfl rfl rfl hB14]; rfl) rfl (by decide) (fun a h => ?_)
                      refine d_takeNP h (fun _ => HS) HN 18 rfl (by kernel_rfl) (by kernel_rfl) (by kernel_rfl) (by decide) (by rw [g_want h rfl rfl rfl rfl hB14]; rfl) rfl (by decide) (fun a h => ?_)
                      refine d_takeNP h (fun _ => HS) HN 19 rfl (by kernel_rfl) (by kernel_rfl) (by kernel_rfl) (by decide) (by rw [g_want h rfl rfl rfl rfl hB14]; rfl) rfl (by decide) (fun a h => ?_)
                      refine d_takeP h (fun _ => HS) HN 20 rfl (by kernel_rfl) (by kernel_rfl) (by kernel_rfl) (by decide) rfl rfl (by decide) (fun w' => x_pick (v := .bool z127) (u' := undef) h.k rfl rfl (fun hh => absurd (hB14.symm.trans hh) (by decide)) (fun _ => by rw [← Option.some.inj hz128]; rfl)) (fun a h => ?_)
                      refine d_takeP h (fun _ => HS) HN 21 rfl (by kernel_rfl) (by kernel_rfl) (by kernel_rfl) (by decide) rfl rfl (by decide) (fun w' => x_move h.k _ rfl rfl) (fun a h => ?_)
                      have hB21 : z127 = false := (Option.some.inj hz128).symm
                      rw [if_neg (by rw [hB21]; decide)] at hz144
                      refine d_takeNP h (fun _ => HS) HN 22 rfl (by kernel_rfl) (by kernel_rfl) (by kernel_rfl) (by decide) (by rw [g_want h rfl rfl rfl rfl hB21]; rfl) rfl (by decide) (fun a h => ?_)
                      refine d_takeNP h (fun _ => HS) HN 23 rfl (by kernel_rfl) (by kernel_rfl) (by kernel_rfl) (by decide) (by rw [g_want h rfl rfl rfl rfl hB21]; rfl) rfl (by decide) (fun a h => ?_)
                      refine d_takeNP h (fun _ => HS) HN 24 rfl (by kernel_rfl) (by kernel_rfl) (by kernel_rfl) (by decide) (by rw [g_want h rfl rfl rfl rfl hB21]; rfl) rfl (by decide) (fun a h => ?_)
                      refine d_takeNP h (fun _ => HS) HN 25 rfl (by kernel_rfl) (by kernel_rfl) (by kernel_rfl) (by decide) (by rw [g_want h rfl rfl rfl rfl hB21]; rfl) rfl (by decide) (fun a h => ?_)
                      refine d_takeNP h (fun _ => HS) HN 26 rfl (by kernel_rfl) (by kernel_rfl) (by kernel_rfl) (by decide) (by rw [g_want h rfl rfl rfl rfl hB21]; rfl) rfl (by decide) (fun a h => ?_)
                      refine d_takeP h (fun _ => HS) HN 27 rfl (by kernel_rfl) (by kernel_rfl) (by kernel_rfl) (by decide) rfl rfl (by decide) (fun w' => x_pick (v := .bool z143) (u' := undef) h.k rfl rfl (fun hh => absurd (hB21.symm.trans hh) (by decide)) (fun _ => by rw [← Option.some.inj hz144]; rfl)) (fun a h => ?_)
                      refine d_takeP h (fun _ => HS) HN 28 rfl (by kernel_rfl) (by kernel_rfl) (by kernel_rfl) (by decide) rfl rfl (by decide) (fun w' => x_move h.k _ rfl rfl) (fun a h => ?_)
                      have hB28 : z143 = false := (Option.some.inj hz144).symm
                      rw [if_neg (by rw [hB28]; decide)] at hz160
                      refine d_takeNP h (fun _ => HS) HN 29 rfl (by kernel_rfl) (by kernel_rfl) (by kernel_rfl) (by decide) (by rw [g_want h rfl rfl rfl rfl hB28]; rfl) rfl (by decide) (fun a h => ?_)
                      refine d_takeNP h (fun _ => HS) HN 30 rfl (by kernel_rfl) (by kernel_rfl) (by kernel_rfl) (by decide) (by rw [g_want h rfl rfl rfl rfl hB28]; rfl) rfl (by decide) (fun a h => ?_)
                      refine d_takeNP h (fun _ => HS) HN 31 rfl (by kernel_rfl) (by kernel_rfl) (by kernel_rfl) (by decide) (by rw [g_want h rfl rfl rfl rfl hB28]; rfl) rfl (by decide) (fun a h => ?_)
                      refine d_takeNP h (fun _ => HS) HN 32 rfl (by kernel_rfl) (by kernel_rfl) (by kernel_rfl) (by decide) (by rw [g_want h rfl rfl rfl rfl hB28]; rfl) rfl (by decide) (fun a h => ?_)
                      refine d_takeP h (fun _ => HS) HN 33 rfl (by kernel_rfl) (by kernel_rfl) (by kernel_rfl) (by decide) rfl rfl (by decide) (fun w' => x_pick (v := .bool z159) (u' := undef) h.k rfl rfl (fun hh => absurd (hB28.symm.trans hh) (by decide)) (fun _ => by rw [← Option.some.inj hz160]; rfl)) (fun a h => ?_)
                      refine d_takeP h (fun _ => HS) HN 34 rfl (by kernel_rfl) (by kernel_rfl) (by kernel_rfl) (by decide) rfl rfl (by decide) (fun w' => x_assign h.k _ rfl rfl) (fun a h => ?_)
                      refine d_done (by kernel_rfl) (HE _ _ ?_) _
                      refine e_thenN ?_
                      have h := h.pick [1] (by decide) rfl
                      exact h.has (by exact ⟨rfl, trivial⟩)
                  · rw [if_neg (of_decide_eq_false hB2)] at hz120
                    refine d_takeNP h (fun _ => HS) HN 3 rfl (by kernel_rfl) (by kernel_rfl) (by kernel_rfl) (by decide) (by rw [g_want h rfl rfl rfl rfl hB2]; rfl) rfl (by decide) (fun a h => ?_)
                    refine d_takeNP h (fun _ => HS) HN 4 rfl (by kernel_rfl) (by kernel_rfl) (by kernel_rfl) (by decide) (by rw [g_want h rfl rfl rfl rfl hB2]; rfl) rfl (by decide) (fun a h => ?_)
                    refine d_takeNP h (fun _ => HS) HN 5 rfl (by kernel_rfl) (by kernel_rfl) (by kernel_rfl) (by decide) (by rw [g_want h rfl rfl rfl rfl hB2]; rfl) rfl (by decide) (fun a h => ?_)
                    refine d_takeNP h (fun _ => HS) HN 6 rfl (by kernel_rfl) (by kernel_rfl) (by kernel_rfl) (by decide) (by rw [g_want h rfl rfl rfl rfl hB2]; rfl) rfl (by decide) (fun a h => ?_)
                    refine d_takeP h (fun _ => HS) HN 7 rfl (by kernel_rfl) (by kernel_rfl) (by kernel_rfl) (by decide) rfl rfl (by decide) (fun w' => x_pick (v := .bool z119) (u' := undef) h.k rfl rfl (fun hh => absurd (hB2.symm.trans hh) (by decide)) (fun _ => by rw [← Option.some.inj hz120]; rfl)) (fun a h => ?_)
                    refine d_takeP h (fun _ => HS) HN 8 rfl (by kernel_rfl) (by kernel_rfl) (by kernel_rfl) (by decide) rfl rfl (by decide) (fun w' => x_move h.k _ rfl rfl) (fun a h => ?_)
                    have hB8 : z119 = false := (Option.some.inj hz120).symm
                    refine d_takeNP h (fun _ => HS) HN 9 rfl (by kernel_rfl) (by kernel_rfl) (by kernel_rfl) (by decide) (by rw [g_want h rfl rfl rfl rfl hB8]; rfl) rfl (by decide) (fun a h => ?_)
                    refine d_takeNP h (fun _ => HS) HN 10 rfl (by kernel_rfl) (by kernel_rfl) (by kernel_rfl) (by decide) (by rw [g_want h rfl rfl rfl rfl hB8]; rfl) rfl (by decide) (fun a h => ?_)
                    refine d_takeNP h (fun _ => HS) HN 11 rfl (by kernel_rfl) (by kernel_rfl) (by kernel_rfl) (by decide) (by rw [g_want h rfl rfl rfl rfl hB8]; rfl) rfl (by decide) (fun a h => ?_)
                    refine d_takeNP h (fun _ => HS) HN 12 rfl (by kernel_rfl) (by kernel_rfl) (by kernel_rfl) (by decide) (by rw [g_want h rfl rfl rfl rfl hB8]; rfl) rfl (by decide) (fun a h => ?_)
                    refine d_takeP h (fun _ => HS) HN 13 rfl (by kernel_rfl) (by kernel_rfl) (by kernel_rfl) (by decide) rfl rfl (by decide) (fun w' => x_pick (v := .bool (z119 && (decide (x102.1 = x74.1)))) (u' := undef) h.k rfl rfl (fun hh => absurd (hB8.symm.trans hh) (by decide)) (fun _ => by rw [hB8]; first | rfl | simp [ev, List.lookup])) (fun a h => ?_)
                    refine d_takeP h (fun _ => HS) HN 14 rfl (by kernel_rfl) (by kernel_rfl) (by kernel_rfl) (by decide) rfl rfl (by decide) (fun w' => x_move h.k _ rfl rfl) (fun a h => ?_)
                    have hB14 : (z119 && (decide (x102.1 = x74.1))) = false := (by rw [hB8]; first | rfl | simp)
                    rw [if_neg (by rw [hB14]; decide)] at hz128
                    refine d_takeNP h (fun _ => HS) HN 15 rfl (by kernel_rfl) (by kernel_rfl) (by kernel_rfl) (by decide) (by rw [g_want h rfl rfl rfl rfl hB14]; rfl) rfl (by decide) (fun a h => ?_)
                    refine d_takeNP h (fun _ => HS) HN 16 rfl (by kernel_rfl) (by kernel_rfl) (by kernel_rfl) (by decide) (by rw [g_want h rfl rfl rfl rfl hB14]; rfl) rfl (by decide) (fun a h => ?_)
                    refine d_takeNP h (fun _ => HS) HN 17 rfl (by kernel_rfl) (by kernel_rfl) (by kernel_rfl) (by decide) (by rw [g_want h rfl rfl rfl rfl hB14]; rfl) rfl (by decide) (fun a h => ?_)
                    refine d_takeNP h (fun _ => HS) HN 18 rfl (by kernel_rfl) (by kernel_rfl) (by kernel_rfl) (by decide) (by rw [g_want h rfl rfl rfl rfl hB14]; rfl) rfl (by decide) (fun a h => ?_)
                    refine d_takeNP h (fun _ => HS) HN 19 rfl (by kernel_rfl) (by kernel_rfl) (by kernel_rfl) (by decide) (by rw [g_want h rfl rfl rfl rfl hB14]; rfl) rfl (by decide) (fun a h => ?_)
                    refine d_takeP h (fun _ => HS) HN 20 rfl (by kernel_rfl) (by kernel_rfl) (by kernel_rfl) (by decide) rfl rfl (by decide) (fun w' => x_pick (v := .bool z127) (u' := undef) h.k rfl rfl (fun hh => absurd (hB14.symm.trans hh) (by decide)) (fun _ => by rw [← Option.some.inj hz128]; rfl)) (fun a h => ?_)
                    refine d_takeP h (fun _ => HS) HN 21 rfl (by kernel_rfl) (by kernel_rfl) (by kernel_rfl) (by decide) rfl rfl (by decide) (fun w' => x_move h.k _ rfl rfl) (fun a h => ?_)
                    have hB21 : z127 = false := (Option.some.inj hz128).symm
                    rw [if_neg (by rw [hB21]; decide)] at hz144
                    refine d_takeNP h (fun _ => HS) HN 22 rfl (by kernel_rfl) (by kernel_rfl) (by kernel_rfl) (by decide) (by rw [g_want h rfl rfl rfl rfl hB21]; rfl) rfl (by decide) (fun a h => ?_)
                    refine d_takeNP h (fun _ => HS) HN 23 rfl (by kernel_rfl) (by kernel_rfl) (by kernel_rfl) (by decide) (by rw [g_want h rfl rfl rfl rfl hB21]; rfl) rfl (by decide) (fun a h => ?_)
                    refine d_takeNP h (fun _ => HS) HN 24 rfl (by kernel_rfl) (by kernel_rfl) (by kernel_rfl) (by decide) (by rw [g_want h rfl rfl rfl rfl hB21]; rfl) rfl (by decide) (fun a h => ?_)
                    refine d_takeNP h (fun _ => HS) HN 25 rfl (by kernel_rfl) (by kernel_rfl) (by kernel_rfl) (by decide) (by rw [g_want h rfl rfl rfl rfl hB21]; rfl) rfl (by decide) (fun a h => ?_)
                    refine d_takeNP h (fun _ => HS) HN 26 rfl (by kernel_rfl) (by kernel_rfl) (by kernel_rfl) (by decide) (by rw [g_want h rfl rfl rfl rfl hB21]; rfl) rfl (by decide) (fun a h => ?_)
                    refine d_takeP h (fun _ => HS) HN 27 rfl (by kernel_rfl) (by kernel_rfl) (by kernel_rfl) (by decide) rfl rfl (by decide) (fun w' => x_pick (v := .bool z143) (u' := undef) h.k rfl rfl (fun hh => absurd (hB21.symm.trans hh) (by decide)) (fun _ => by rw [← Option.some.inj hz144]; rfl)) (fun a h => ?_)
                    refine d_takeP h (fun _ => HS) HN 28 rfl (by kernel_rfl) (by kernel_rfl) (by kernel_rfl) (by decide) rfl rfl (by decide) (fun w' => x_move h.k _ rfl rfl) (fun a h => ?_)
                    have hB28 : z143 = false := (Option.some.inj hz144).symm
                    rw [if_neg (by rw [hB28]; decide)] at hz160
                    refine d_takeNP h (fun _ => HS) HN 29 rfl (by kernel_rfl) (by kernel_rfl) (by kernel_rfl) (by decide) (by rw [g_want h rfl rfl rfl rfl hB28]; rfl) rfl (by decide) (fun a h => ?_)
                    refine d_takeNP h (fun _ => HS) HN 30 rfl (by kernel_rfl) (by kernel_rfl) (by kernel_rfl) (by decide) (by rw [g_want h rfl rfl rfl rfl hB28]; rfl) rfl (by decide) (fun a h => ?_)
                    refine d_takeNP h (fun _ => HS) HN 31 rfl (by kernel_rfl) (by kernel_rfl) (by kernel_rfl) (by decide) (by rw [g_want h rfl rfl rfl rfl hB28]; rfl) rfl (by decide) (fun a h => ?_)
                    refine d_takeNP h (fun _ => HS) HN 32 rfl (by kernel_rfl) (by kernel_rfl) (by kernel_rfl) (by decide) (by rw [g_want h rfl rfl rfl rfl hB28]; rfl) rfl (by decide) (fun a h => ?_)
                    refine d_takeP h (fun _ => HS) HN 33 rfl (by kernel_rfl) (by kernel_rfl) (by kernel_rfl) (by decide) rfl rfl (by decide) (fun w' => x_pick (v := .bool z159) (u' := undef) h.k rfl rfl (fun hh => absurd (hB28.symm.trans hh) (by decide)) (fun _ => by rw [← Option.some.inj hz160]; rfl)) (fun a h => ?_)
                    refine d_takeP h (fun _ => HS) HN 34 rfl (by kernel_rfl) (by kernel_rfl) (by kernel_rfl) (by decide) rfl rfl (by decide) (fun w' => x_assign h.k _ rfl rfl) (fun a h => ?_)
                    refine d_done (by kernel_rfl) (HE _ _ ?_) _
                    refine e_thenN ?_
                    have h := h.pick [1] (by decide) rfl
                    exact h.has (by exact ⟨rfl, trivial⟩)
                refine e_thenN ?_
                refine wp_ret ?_
                rw [← Option.some.inj hf]
                exact r_ret1 h rfl (rv_tmp h rfl) ⟨_, [], _, rfl, ⟨rfl, rfl, trivial⟩, rfl, up56, h.m⟩
        · obtain ⟨x172, rfl, hR⟩ := hR
          dsimp only at hf
          obtain ⟨g173, k175, k178, rfl, rfl, hr174, hs176, hl177, hs179, hl180, hr181, hr182, _⟩ := hR
          refine s_move h rfl _ rfl rfl (by decide) rfl (fun a h => ?_)
          refine s_x h rfl rfl (by decide) (x_ext h.k rfl rfl rfl) (fun a h => ?_)
          refine s_x h rfl rfl (by decide) (x_ext h.k rfl rfl rfl) (fun a h => ?_)
          refine s_assign h rfl _ rfl rfl (by decide) rfl (fun a h => ?_)
          refine s_assign h rfl _ rfl rfl (by decide) rfl (fun a h => ?_)
          refine l_end ?_
          refine wp_seq ?_
          refine wp_block ?_
          refine c_rs ?_ -- region 9
          refine s_move h rfl _ rfl rfl (by decide) rfl (fun a h => ?_)
          refine s_x h rfl rfl (by decide) (x_len h.k rfl Try.underlying22 rfl) (fun a h => ?_)
          refine s_x h rfl rfl (by decide) (x_bin h.k rfl rfl rfl ib_lss) (fun a h => ?_)
          refine s_assign h rfl _ rfl rfl (by decide) rfl (fun a h => ?_)
          refine l_end ?_
          refine c_cond h rfl (fun hb => ?_) (fun hb => ?_)
          · rw [if_pos (of_decide_eq_true hb)] at hf
            refine c_rs ?_ -- region 10
            refine s_move h rfl _ rfl rfl (by decide) rfl (fun a h => ?_)
            refine s_x h rfl rfl (by decide) (x_eql_pn h.k rfl Try.underlying66 rfl rfl) (fun a h => ?_)
            refine s_move h rfl _ rfl rfl (by decide) rfl (fun a h => ?_)
            refine q_grp h 3 (t := 53) 56 false rfl (fun hB2 => ?_) (fun hB2 => ?_) (fun a w h => ?_)
            · exact absurd hB2 (by decide)
            · refine g_no h rfl rfl rfl rfl hB2 rfl (by decide) (fun a h => ?_)
              refine g_no h rfl rfl rfl rfl hB2 rfl (by decide) (fun a h => ?_)
              refine s_x h rfl rfl (by decide) (x_pick (u' := undef) h.k rfl rfl (fun hh => absurd (hB2.symm.trans hh) (by decide)) (fun _ => rfl)) (fun a h => ?_)
              exact (h.mid 2 rfl).val (by first | rfl | (rw [hB2]; first | rfl | simp))
            refine s_assign h rfl _ rfl rfl (by decide) rfl (fun a h => ?_)
            refine l_end ?_
            refine wp_ret ?_
            refine e_blkR ?_
            refine e_thenR ?_
            rw [← Option.some.inj hf]
            exact r_ret1 h rfl (rv_tmp h rfl) ⟨_, [], _, rfl, ⟨rfl, rfl, trivial⟩, rfl, up56, (h.m.pick [1] _ (by decide) rfl)⟩
          · rw [if_neg (of_decide_eq_false hb)] at hf
            refine c_rs ?_ -- region 11
            refine s_move h rfl _ rfl rfl (by decide) rfl (fun a h => ?_)
            refine s_x h rfl rfl (by decide) (x_len h.k rfl Try.underlying22 rfl) (fun a h => ?_)
            refine s_x h rfl rfl (by decide) (x_bin h.k rfl rfl rfl ib_gtr) (fun a h => ?_)
            refine s_assign h rfl _ rfl rfl (by decide) rfl (fun a h => ?_)
            refine l_end ?_
            refine c_cond h rfl (fun hb => ?_) (fun hb => ?_)
            · rw [if_pos (of_decide_eq_true hb)] at hf
              refine c_rs ?_ -- region 12
              refine s_move h rfl _ rfl rfl (by decide) rfl (fun a h => ?_)
              refine s_x h rfl rfl (by decide) (x_eql_pn h.k rfl Try.underlying66 rfl rfl) (fun a h => ?_)
              refine s_move h rfl _ rfl rfl (by decide) rfl (fun a h => ?_)
              refine q_grp h 3 (t := 63) 66 false rfl (fun hB2 => ?_) (fun hB2 => ?_) (fun a w h => ?_)
              · exact absurd hB2 (by decide)
              · refine g_no h rfl rfl rfl rfl hB2 rfl (by decide) (fun a h => ?_)
                refine g_no h rfl rfl rfl rfl hB2 rfl (by decide) (fun a h => ?_)
                refine s_x h rfl rfl (by decide) (x_pick (u' := undef) h.k rfl rfl (fun hh => absurd (hB2.symm.trans hh) (by decide)) (fun _ => rfl)) (fun a h => ?_)
                exact (h.mid 2 rfl).val (by first | rfl | (rw [hB2]; first | rfl | simp))
              refine s_assign h rfl _ rfl rfl (by decide) rfl (fun a h => ?_)
              refine l_end ?_
              refine wp_ret ?_
              refine e_blkR ?_
              refine e_thenR ?_
              rw [← Option.some.inj hf]
              exact r_ret1 h rfl (rv_tmp h rfl) ⟨_, [], _, rfl, ⟨rfl, rfl, trivial⟩, rfl, up56, (h.m.pick [1] _ (by decide) rfl)⟩
            · rw [if_neg (of_decide_eq_false hb)] at hf
              refine wp_skip ?_
              refine e_blkN ?_
              refine e_thenN ?_
              refine c_rs ?_ -- region 13
              refine s_move h rfl _ rfl rfl (by decide) rfl (fun a h => ?_)
              obtain ⟨x187, h188, hf⟩ := bsome hf
              obtain ⟨m189, n190, hi191, hi192, hm193, hm194, hr195⟩ := sub_some h188
              have hs196 := slS.sub ((hsa0.mono le57)) hm193 hm194 (Nat.le_trans hm194 ((hsa0.mono le57)).1) (Nat.le_refl _) hr195
              refine s_x h rfl rfl (by decide) (x_sliceE h.k rfl Try.underlying22 sz_uint8 rfl ca0 hr195 (bd_none (by omega)) (bd_some rfl hi192) (bd_none rfl) (by intro hh; cases hh) hm193 hm194 (Nat.le_trans hm194 ((hsa0.mono le57)).1) (Nat.le_refl _)) (fun a h => ?_)
              obtain ⟨x197, h198, hf⟩ := bsome hf
              have hX := chatelaineref01_Get_ok Fu (S0 := snapAll _) (sA Aa0 ca0 m189 1) (ca0 - m189) x187 (hs196.mono (h.m.leAll (i := 1) rfl)) _ h198 _ h.startAll
              refine q_callX hX h rfl rfl rfl (by decide) Try.func44 rfl rfl rfl (fun a w v L1 S1 hR hb1 h => ?_)
              obtain ⟨rfl, rfl, hr200, hr201, _⟩ := hR
              refine s_move h rfl _ rfl rfl (by decide) rfl (fun a h => ?_)
              refine s_x h rfl rfl (by decide) (x_ext h.k rfl rfl rfl) (fun a h => ?_)
              refine s_x h rfl rfl (by decide) (x_ext h.k rfl rfl rfl) (fun a h => ?_)
              refine s_assign h rfl _ rfl rfl (by decide) rfl (fun a h => ?_)
              refine s_assign h rfl _ rfl rfl (by decide) rfl (fun a h => ?_)
              refine l_end ?_
              refine c_rs ?_ -- region 14
              refine s_move h rfl _ rfl rfl (by decide) rfl (fun a h => ?_)
              obtain ⟨x202, h203, hf⟩ := bsome hf
              obtain ⟨m204, n205, hi206, hi207, hm208, hm209, hr210⟩ := sub_some h203
              have hs211 := slS.sub ((hsa0.mono le57)) hm208 hm209 (Nat.le_trans hm209 ((hsa0.mono le57)).1) (Nat.le_refl _) hr210
              refine s_x h rfl rfl (by decide) (x_sliceE h.k rfl Try.underlying22 sz_uint8 rfl ca0 hr210 (bd_some rfl hi206) (bd_some rfl hi207) (bd_none rfl) (by intro hh; cases hh) hm208 hm209 (Nat.le_trans hm209 ((hsa0.mono le57)).1) (Nat.le_refl _)) (fun a h => ?_)
              obtain ⟨x212, h213, hf⟩ := bsome hf
              have hX := chatelaineref01_Get_ok Fu (S0 := snapAll _) (sA Aa0 ca0 m204 1) (ca0 - m204) x202 (hs211.mono (h.m.leAll (i := 1) rfl)) _ h213 _ h.startAll
              refine q_callX hX h rfl rfl rfl (by decide) Try.func44 rfl rfl rfl (fun a w v L1 S1 hR hb1 h => ?_)
              obtain ⟨rfl, rfl, hr215, hr216, _⟩ := hR
              refine s_move h rfl _ rfl rfl (by decide) rfl (fun a h => ?_)
              refine s_x h rfl rfl (by decide) (x_ext h.k rfl rfl rfl) (fun a h => ?_)
              refine s_x h rfl rfl (by decide) (x_ext h.k rfl rfl rfl) (fun a h => ?_)
              refine s_assign h rfl _ rfl rfl (by decide) rfl (fun a h => ?_)
              refine s_assign h rfl _ rfl rfl (by decide) rfl (fun a h => ?_)
              refine l_end ?_
              refine wp_seq ?_
              refine c_rs ?_ -- region 15
              refine s_move h rfl _ rfl rfl (by decide) rfl (fun a h => ?_)
              refine s_x h rfl rfl (by decide) (x_bin h.k rfl rfl rfl ib_neq) (fun a h => ?_)
              refine s_move h rfl _ rfl rfl (by decide) rfl (fun a h => ?_)
              refine q_grp h 3 (t := 81) 84 ((decide (x197.2 ≠ 0)) || (decide (x212.2 ≠ 0))) rfl (fun hB2 => ?_) (fun hB2 => ?_) (fun a w h => ?_)
              · refine g_no h rfl rfl rfl rfl hB2 rfl (by decide) (fun a h => ?_)
                refine g_no h rfl rfl rfl rfl hB2 rfl (by decide) (fun a h => ?_)
                refine s_x h rfl rfl (by decide) (x_pick (u' := undef) h.k rfl rfl (fun _ => rfl) (fun hh => absurd (hB2.symm.trans hh) (by decide))) (fun a h => ?_)
                exact (h.mid 2 rfl).val (by first | rfl | (rw [hB2]; first | rfl | simp))
              · refine g_yes h rfl rfl rfl rfl hB2 ?_
                refine s_move h rfl _ rfl rfl (by decide) rfl (fun a h => ?_)
                refine g_yes h rfl rfl rfl rfl hB2 ?_
                refine s_x h rfl rfl (by decide) (x_bin h.k rfl rfl rfl ib_neq) (fun a h => ?_)
                refine s_x h rfl rfl (by decide) (x_pick (u' := undef) h.k rfl rfl (fun hh => absurd (hB2.symm.trans hh) (by decide)) (fun _ => rfl)) (fun a h => ?_)
                exact (h.mid 2 rfl).val (by first | rfl | (rw [hB2]; first | rfl | simp))
              refine s_move h rfl _ rfl rfl (by decide) rfl (fun a h => ?_)
              refine q_grp h 3 (t := 85) 88 (((decide (x197.2 ≠ 0)) || (decide (x212.2 ≠ 0))) || (decide (1099511627776 < x212.1))) rfl (fun hB6 => ?_) (fun hB6 => ?_) (fun a w h => ?_)
              · refine g_no h rfl rfl rfl rfl hB6 rfl (by decide) (fun a h => ?_)
                refine g_no h rfl rfl rfl rfl hB6 rfl (by decide) (fun a h => ?_)
                refine s_x h rfl rfl (by decide) (x_pick (u' := undef) h.k rfl rfl (fun _ => rfl) (fun hh => absurd (hB6.symm.trans hh) (by decide))) (fun a h => ?_)
                exact (h.mid 2 rfl).val (by first | rfl | (rw [hB6]; first | rfl | simp))
              · refine g_yes h rfl rfl rfl rfl hB6 ?_
                refine s_move h rfl _ rfl rfl (by decide) rfl (fun a h => ?_)
                refine g_yes h rfl rfl rfl rfl hB6 ?_
                refine s_x h rfl rfl (by decide) (x_bin h.k rfl rfl rfl ib_gtr) (fun a h => ?_)
                refine s_x h rfl rfl (by decide) (x_pick (u' := undef) h.k rfl rfl (fun hh => absurd (hB6.symm.trans hh) (by decide)) (fun _ => rfl)) (fun a h => ?_)
                exact (h.mid 2 rfl).val (by first | rfl | (rw [hB6]; first | rfl | simp))
              refine s_move h rfl _ rfl rfl (by decide) rfl (fun a h => ?_)
              refine q_grp h 4 (t := 89) 93 ((((decide (x197.2 ≠ 0)) || (decide (x212.2 ≠ 0))) || (decide (1099511627776 < x212.1))) || (decide (x212.1 < x197.1))) rfl (fun hB10 => ?_) (fun hB10 => ?_) (fun a w h => ?_)
              · refine g_no h rfl rfl rfl rfl hB10 rfl (by decide) (fun a h => ?_)
                refine g_no h rfl rfl rfl rfl hB10 rfl (by decide) (fun a h => ?_)
                refine g_no h rfl rfl rfl rfl hB10 rfl (by decide) (fun a h => ?_)
                refine s_x h rfl rfl (by decide) (x_pick (u' := undef) h.k rfl rfl (fun _ => rfl) (fun hh => absurd (hB10.symm.trans hh) (by decide))) (fun a h => ?_)
                exact (h.mid 3 rfl).val (by first | rfl | (rw [hB10]; first | rfl | simp))
              · refine g_yes h rfl rfl rfl rfl hB10 ?_
                refine s_move h rfl _ rfl rfl (by decide) rfl (fun a h => ?_)
                refine g_yes h rfl rfl rfl rfl hB10 ?_
                refine s_move h rfl _ rfl rfl (by decide) rfl (fun a h => ?_)
                refine g_yes h rfl rfl rfl rfl hB10 ?_
                refine s_x h rfl rfl (by decide) (x_bin h.k rfl rfl rfl ib_gtr) (fun a h => ?_)
                refine s_x h rfl rfl (by decide) (x_pick (u' := undef) h.k rfl rfl (fun hh => absurd (hB10.symm.trans hh) (by decide)) (fun _ => rfl)) (fun a h => ?_)
                exact (h.mid 3 rfl).val (by first | rfl | (rw [hB10]; first | rfl | simp))
              refine l_end ?_
              refine c_cond h rfl (fun hb => ?_) (fun hb => ?_)
              · rw [if_pos hb] at hf
                refine c_rs ?_ -- region 16
                refine s_move h rfl _ rfl rfl (by decide) rfl (fun a h => ?_)
                refine s_x h rfl rfl (by decide) (x_eql_pn h.k rfl Try.underlying66 rfl rfl) (fun a h => ?_)
                refine s_move h rfl _ rfl rfl (by decide) rfl (fun a h => ?_)
                refine q_grp h 3 (t := 96) 99 false rfl (fun hB2 => ?_) (fun hB2 => ?_) (fun a w h => ?_)
                · exact absurd hB2 (by decide)
                · refine g_no h rfl rfl rfl rfl hB2 rfl (by decide) (fun a h => ?_)
                  refine g_no h rfl rfl rfl rfl hB2 rfl (by decide) (fun a h => ?_)
                  refine s_x h rfl rfl (by decide) (x_pick (u' := undef) h.k rfl rfl (fun hh => absurd (hB2.symm.trans hh) (by decide)) (fun _ => rfl)) (fun a h => ?_)
                  exact (h.mid 2 rfl).val (by first | rfl | (rw [hB2]; first | rfl | simp))
                refine s_assign h rfl _ rfl rfl (by decide) rfl (fun a h => ?_)
                refine l_end ?_
                refine wp_ret ?_
                refine e_thenR ?_
                rw [← Option.some.inj hf]
                exact r_ret1 h rfl (rv_tmp h rfl) ⟨_, [], _, rfl, ⟨rfl, rfl, trivial⟩, rfl, up56, (h.m.pick [1] _ (by decide) rfl)⟩
              · rw [if_neg (by rw [hb]; decide)] at hf
                refine wp_skip ?_
                refine e_thenN ?_
                refine c_rs ?_ -- region 17
                refine s_move h rfl _ rfl rfl (by decide) rfl (fun a h => ?_)
                obtain ⟨x225, h226, hf⟩ := bsome hf
                have hX := anchor_Slot_Get_ok Fu (S0 := snapAll _) g173 x172.1 ⟨([.int .i64 x172.1.1.1] : List Value) ++ (k175 ++ (k178 ++ ([.int .i64 x172.1.2.1, .bool x172.1.2.2]))), h.m.boxAll (i := 0) rfl, ⟨([.int .i64 x172.1.1.1] : List Value) ++ (k175 ++ k178), [.int .i64 x172.1.2.1, .bool x172.1.2.2], (by simp only [List.append_assoc, List.cons_append, List.nil_append, List.append_nil]), ⟨[.int .i64 x172.1.1.1], k175 ++ k178, rfl, ⟨rfl, hr174⟩, ⟨k175, k178, rfl, ⟨(hs176).mono (h.m.leAll (i := 1) rfl), hl177⟩, ⟨(hs179).mono (h.m.leAll (i := 1) rfl), hl180⟩⟩⟩, ⟨[.int .i64 x172.1.2.1], [.bool x172.1.2.2], rfl, ⟨rfl, hr181⟩, rfl⟩⟩⟩ _ h226 _ h.startAll
                refine q_callX hX h rfl rfl rfl (by decide) Try.func38 rfl rfl rfl (fun a w v L1 S1 hR hb1 h => ?_)
                obtain ⟨k228, rfl, rfl, hv229, _⟩ := hR
                obtain ⟨k230, k231, rfl, ⟨rfl, hr232⟩, ⟨k233, k234, rfl, ⟨hs235, hl236⟩, ⟨hs237, hl238⟩⟩⟩ := hv229
                have hq239 := hs235.fl (S' := S55) fl_8
                have hq240 := hs237.fl (S' := S55) fl_8
                refine s_alloc h rfl rfl rfl (by decide) zi_api_Root rfl (fun a w g241 h => ?_)
                refine s_stW h rfl rfl rfl ag_api_Root rfl (es := ([.int .i64 x225.1] : List Value) ++ (k233 ++ k234)) rfl (show (([.int .i64 x225.1] : List Value) ++ (k233 ++ k234) : List Value).length = 65 from by simp only [List.length_append, List.length_cons, List.length_nil, (show (k233 : List Value).length = 32 from ((hq239).len.trans (by rw [hl236]; rfl))), (show (k234 : List Value).length = 32 from ((hq240).len.trans (by rw [hl238]; rfl)))]) ((tyP tyI (tyP (tyA 32 ty8) (tyA 32 ty8))).one (show (tyP tyI (tyP (tyA 32 ty8) (tyA 32 ty8))).rep S55 (([.int .i64 x225.1] : List Value) ++ (k233 ++ k234)) x225 from ⟨[.int .i64 x225.1], k233 ++ k234, rfl, ⟨rfl, hr232⟩, ⟨k233, k234, rfl, ⟨hq239, hl236⟩, ⟨hq240, hl238⟩⟩⟩)) 0 rfl (show (([.int .i64 0] : List Value) ++ ((List.replicate 32 (.int .u8 0 : Value)) ++ (List.replicate 32 (.int .u8 0 : Value))) : List Value).length = 65 from by simp only [List.length_append, List.length_cons, List.length_nil, (show ((List.replicate 32 (.int .u8 0 : Value)) : List Value).length = 32 from (by first | rfl | simp_all))]) (fun a w h => ?_)
                refine l_end ?_
                refine wp_seq ?_
                -- region 18 draws
                obtain ⟨z242, hz243, hf⟩ := bsome hf
                obtain ⟨z250, hz251, hf⟩ := bsome hf
                obtain ⟨z266, hz267, hf⟩ := bsome hf
                obtain ⟨z282, hz283, hf⟩ := bsome hf
                refine c_fin (fun a w => St 136 w0 (ownL ([] ++ [.sn S0])) [(2, .bool z282)] [.sn S55] a w) ?_ (fun a w h => ?_)
                · refine d_start h (Mem _ _ _) 35 35 rfl (by kernel_rfl) (fun _ _ _ _ _ h => h) (fun _ h => h) (fun Q a w HE HN h HS => ?_)
                  refine d_takeP h (fun _ => HS) HN 0 rfl (by kernel_rfl) (by kernel_rfl) (by kernel_rfl) (by decide) rfl rfl (by decide) (fun w' => x_move h.k _ rfl rfl) (fun a h => ?_)
                  refine d_takeP h (fun _ => HS) HN 1 rfl (by kernel_rfl) (by kernel_rfl) (by kernel_rfl) (by decide) rfl rfl (by decide) (fun w' => x_bin h.k rfl rfl rfl ib_eql) (fun a h => ?_)
                  refine d_takeP h (fun _ => HS) HN 2 rfl (by kernel_rfl) (by kernel_rfl) (by kernel_rfl) (by decide) rfl rfl (by decide) (fun w' => x_move h.k _ rfl rfl) (fun a h => ?_)
                  refine d_split (t := 104) h rfl (fun hB2 => ?_) (fun hB2 => ?_)
                  · rw [if_pos (of_decide_eq_true hB2)] at hz243
                    obtain ⟨x244, h245, hz243⟩ := bsome hz243
                    refine d_takeP h (fun _ => HS) HN 3 rfl (by kernel_rfl) (by kernel_rfl) (by kernel_rfl) (by decide) (by rw [g_want h rfl rfl rfl rfl hB2]; rfl) rfl (by decide) (fun w' => x_move h.k _ rfl rfl) (fun a h => ?_)
                    refine d_takeP h (fun _ => HS) HN 5 rfl (by kernel_rfl) (by kernel_rfl) (by kernel_rfl) (by decide) (by rw [g_want h rfl rfl rfl rfl hB2]; rfl) rfl (by decide) (fun w' => x_move h.k _ rfl rfl) (fun a h => ?_)
                    refine d_alone 4 rfl (by kernel_rfl) (fun K hK => ?_)
                    refine g_yes (j := 2) (t := 104) h rfl rfl rfl rfl hB2 ?_
                    have hX := anchor_Slot_Limit_ok Fu (S0 := snapAll _) g173 x172.1 ⟨([.int .i64 x172.1.1.1] : List Value) ++ (k175 ++ (k178 ++ ([.int .i64 x172.1.2.1, .bool x172.1.2.2]))), h.m.boxAll (i := 1) rfl, ⟨([.int .i64 x172.1.1.1] : List Value) ++ (k175 ++ k178), [.int .i64 x172.1.2.1, .bool x172.1.2.2], (by simp only [List.append_assoc, List.cons_append, List.nil_append, List.append_nil]), ⟨[.int .i64 x172.1.1.1], k175 ++ k178, rfl, ⟨rfl, hr174⟩, ⟨k175, k178, rfl, ⟨(hs176).mono (h.m.leAll (i := 2) rfl), hl177⟩, ⟨(hs179).mono (h.m.leAll (i := 2) rfl), hl180⟩⟩⟩, ⟨[.int .i64 x172.1.2.1], [.bool x172.1.2.2], rfl, ⟨rfl, hr181⟩, rfl⟩⟩⟩ _ h245 _ h.startAll
                    refine q_callX hX h rfl rfl rfl (by decide) Try.func40 rfl rfl rfl (fun a w v L1 S1 hR hb1 h => ?_)
                    obtain ⟨rfl, rfl, hr247, _⟩ := hR
                    refine hK _ _ (fun _ _ => HS.ext hb1) ?_
                    replace HS := HS.ext hb1
                    clear hK
                    refine d_takeP h (fun _ => HS) HN 6 rfl (by kernel_rfl) (by kernel_rfl) (by kernel_rfl) (by decide) (by rw [g_want h rfl rfl rfl rfl hB2]; rfl) rfl (by decide) (fun w' => x_bin h.k rfl rfl rfl ib_eql) (fun a h => ?_)
                    refine d_takeP h (fun _ => HS) HN 7 rfl (by kernel_rfl) (by kernel_rfl) (by kernel_rfl) (by decide) rfl rfl (by decide) (fun w' => x_pick (v := .bool z242) (u' := undef) h.k rfl rfl (fun _ => by rw [← Option.some.inj hz243]; rfl) (fun hh => absurd (hB2.symm.trans hh) (by decide))) (fun a h => ?_)
                    refine d_takeP h (fun _ => HS) HN 8 rfl (by kernel_rfl) (by kernel_rfl) (by kernel_rfl) (by decide) rfl rfl (by decide) (fun w' => x_move h.k _ rfl rfl) (fun a h => ?_)
                    refine d_split (t := 110) h rfl (fun hB8 => ?_) (fun hB8 => ?_)
                    · refine d_takeP h (fun _ => HS) HN 9 rfl (by kernel_rfl) (by kernel_rfl) (by kernel_rfl) (by decide) (by rw [g_want h rfl rfl rfl rfl hB8]; rfl) rfl (by decide) (fun w' => x_faddr h.k rfl Try.underlying69 rfl sz_int rfl) (fun a h => ?_)
                      refine d_takeY h HS HN 10 rfl (by kernel_rfl) (by kernel_rfl) (by kernel_rfl) (by kernel_rfl) (by kernel_rfl) (by rw [g_want h rfl rfl rfl rfl hB8]; rfl) rfl (by decide) (fun w' hw => x_ld h.k rfl Try.underlying3 rfl rfl ((hw.cell (i := 0) rfl 0).trans (cell_oneE (X := []) (Z := k233 ++ (k234)) (off := 0) (u := .int .i64 x225.1) (by simp only [List.append_assoc, List.cons_append, List.nil_append, List.append_nil]) rfl))) (fun a h => ?_)
                      refine d_takeP h (fun _ => HS) HN 11 rfl (by kernel_rfl) (by kernel_rfl) (by kernel_rfl) (by decide) (by rw [g_want h rfl rfl rfl rfl hB8]; rfl) rfl (by decide) (fun w' => x_move h.k _ rfl rfl) (fun a h => ?_)
                      refine d_takeP h (fun _ => HS) HN 12 rfl (by kernel_rfl) (by kernel_rfl) (by kernel_rfl) (by decide) (by rw [g_want h rfl rfl rfl rfl hB8]; rfl) rfl (by decide) (fun w' => x_bin h.k rfl rfl rfl ib_eql) (fun a h => ?_)
                      refine d_takeP h (fun _ => HS) HN 13 rfl (by kernel_rfl) (by kernel_rfl) (by kernel_rfl) (by decide) rfl rfl (by decide) (fun w' => x_pick (v := .bool (z242 && (decide (x225.1 = x197.1)))) (u' := undef) h.k rfl rfl (fun _ => by rw [hB8]; first | rfl | simp [ev, List.lookup]) (fun hh => absurd (hB8.symm.trans hh) (by decide))) (fun a h => ?_)
                      refine d_takeP h (fun _ => HS) HN 14 rfl (by kernel_rfl) (by kernel_rfl) (by kernel_rfl) (by decide) rfl rfl (by decide) (fun w' => x_move h.k _ rfl rfl) (fun a h => ?_)
                      refine d_split (t := 116) h rfl (fun hB14 => ?_) (fun hB14 => ?_)
                      · rw [if_pos hB14] at hz251
                        obtain ⟨x253, h254, hz251⟩ := bsome hz251
                        obtain ⟨x263, h264, hz251⟩ := bsome hz251
                        refine d_takeP h (fun _ => HS) HN 15 rfl (by kernel_rfl) (by kernel_rfl) (by kernel_rfl) (by decide) (by rw [g_want h rfl rfl rfl rfl hB14]; rfl) rfl (by decide) (fun w' => x_faddr h.k rfl Try.underlying69 rfl sz_A32_uint8 rfl) (fun a h => ?_)
                        have hl252 : x225.2.1.length = 32 := hl236
                        refine d_takeP h (fun _ => HS) HN 16 rfl (by kernel_rfl) (by kernel_rfl) (by kernel_rfl) (by decide) (by rw [g_want h rfl rfl rfl rfl hB14]; rfl) rfl (by decide) (fun w' => x_slAllE (p := x225.2.1) h.k rfl Try.underlying67 sz_uint8 rfl (by decide) hl252) (fun a h => ?_)
                        refine d_takeP h (fun _ => HS) HN 17 rfl (by kernel_rfl) (by kernel_rfl) (by kernel_rfl) (by decide) (by rw [g_want h rfl rfl rfl rfl hB14]; rfl) rfl (by decide) (fun w' => x_move h.k _ rfl rfl) (fun a h => ?_)
                        obtain ⟨m255, n256, hi257, hi258, hm259, hm260, hr261⟩ := sub_some h254
                        have hs262 := slS.sub ((hsa0.mono le57)) hm259 hm260 (Nat.le_trans hm260 ((hsa0.mono le57)).1) (Nat.le_refl _) hr261
                        refine d_takeP h (fun _ => HS) HN 18 rfl (by kernel_rfl) (by kernel_rfl) (by kernel_rfl) (by decide) (by rw [g_want h rfl rfl rfl rfl hB14]; rfl) rfl (by decide) (fun w' => x_sliceE h.k rfl Try.underlying22 sz_uint8 rfl ca0 hr261 (bd_some rfl hi257) (bd_some rfl hi258) (bd_none rfl) (by intro hh; cases hh) hm259 hm260 (Nat.le_trans hm260 ((hsa0.mono le57)).1) (Nat.le_refl _)) (fun a h => ?_)
                        refine d_alone 19 rfl (by kernel_rfl) (fun K hK => ?_)
                        refine g_yes (j := 14) (t := 116) h rfl rfl rfl rfl hB14 ?_
                        have hX := chatelaineref01_Same_ok Fu (S0 := snapAll _) (some ⟨g241, 1, none⟩) 32 x225.2.1 (slS_arr (fun w hw => rangeMidA (X := [.int .i64 x225.1]) (Y := k233) (Z := k234) (off := 1) (h.m.boxAll (i := 0) rfl w hw) (by simp only [List.append_assoc, List.cons_append, List.nil_append, List.append_nil]) rfl) ((hq239).mono (h.m.leAll (i := 2) rfl)) hl236 (by decide)) (sA Aa0 ca0 m255 1) (ca0 - m255) x253 (hs262.mono (h.m.leAll (i := 2) rfl)) _ h264 _ h.startAll
                        refine q_callX hX h rfl rfl rfl (by decide) Try.func25 rfl rfl rfl (fun a w v L1 S1 hR hb1 h => ?_)
                        obtain ⟨rfl, rfl, _⟩ := hR
                        refine hK _ _ (fun _ _ => HS.ext hb1) ?_
                        replace HS := HS.ext hb1
                        clear hK
                        refine d_takeP h (fun _ => HS) HN 20 rfl (by kernel_rfl) (by kernel_rfl) (by kernel_rfl) (by decide) rfl rfl (by decide) (fun w' => x_pick (v := .bool z250) (u' := undef) h.k rfl rfl (fun _ => by rw [← Option.some.inj hz251]; rfl) (fun hh => absurd (hB14.symm.trans hh) (by decide))) (fun a h => ?_)
                        refine d_takeP h (fun _ => HS) HN 21 rfl (by kernel_rfl) (by kernel_rfl) (by kernel_rfl) (by decide) rfl rfl (by decide) (fun w' => x_move h.k _ rfl rfl) (fun a h => ?_)
                        refine d_split (t := 123) h rfl (fun hB21 => ?_) (fun hB21 => ?_)
                        · rw [if_pos hB21] at hz267
                          obtain ⟨x269, h270, hz267⟩ := bsome hz267
                          obtain ⟨x279, h280, hz267⟩ := bsome hz267
                          refine d_takeP h (fun _ => HS) HN 22 rfl (by kernel_rfl) (by kernel_rfl) (by kernel_rfl) (by decide) (by rw [g_want h rfl rfl rfl rfl hB21]; rfl) rfl (by decide) (fun w' => x_faddr h.k rfl Try.underlying69 rfl sz_A32_uint8 rfl) (fun a h => ?_)
                          have hl268 : x225.2.2.length = 32 := hl238
                          refine d_takeP h (fun _ => HS) HN 23 rfl (by kernel_rfl) (by kernel_rfl) (by kernel_rfl) (by decide) (by rw [g_want h rfl rfl rfl rfl hB21]; rfl) rfl (by decide) (fun w' => x_slAllE (p := x225.2.2) h.k rfl Try.underlying67 sz_uint8 rfl (by decide) hl268) (fun a h => ?_)
                          refine d_takeP h (fun _ => HS) HN 24 rfl (by kernel_rfl) (by kernel_rfl) (by kernel_rfl) (by decide) (by rw [g_want h rfl rfl rfl rfl hB21]; rfl) rfl (by decide) (fun w' => x_move h.k _ rfl rfl) (fun a h => ?_)
                          obtain ⟨m271, n272, hi273, hi274, hm275, hm276, hr277⟩ := sub_some h270
                          have hs278 := slS.sub ((hsa0.mono le57)) hm275 hm276 (Nat.le_trans hm276 ((hsa0.mono le57)).1) (Nat.le_refl _) hr277
                          refine d_takeP h (fun _ => HS) HN 25 rfl (by kernel_rfl) (by kernel_rfl) (by kernel_rfl) (by decide) (by rw [g_want h rfl rfl rfl rfl hB21]; rfl) rfl (by decide) (fun w' => x_sliceE h.k rfl Try.underlying22 sz_uint8 rfl ca0 hr277 (bd_some rfl hi273) (bd_none (by omega)) (bd_none rfl) (by intro _; rfl) hm275 hm276 (Nat.le_trans hm276 ((hsa0.mono le57)).1) (Nat.le_refl _)) (fun a h => ?_)
                          refine d_alone 26 rfl (by kernel_rfl) (fun K hK => ?_)
                          refine g_yes (j := 21) (t := 123) h rfl rfl rfl rfl hB21 ?_
                          have hX := chatelaineref01_Same_ok Fu (S0 := snapAll _) (some ⟨g241, 33, none⟩) 32 x225.2.2 (slS_arr (fun w hw => rangeMidA (X := ([.int .i64 x225.1] : List Value) ++ (k233)) (Y := k234) (Z := []) (off := 33) (h.m.boxAll (i := 0) rfl w hw) (by simp only [List.append_assoc, List.cons_append, List.nil_append, List.append_nil]) (show (([.int .i64 x225.1] : List Value) ++ (k233) : List Value).length = 33 from by simp only [List.length_append, List.length_cons, List.length_nil, (show (k233 : List Value).length = 32 from ((hq239).len.trans (by rw [hl236]; rfl))), (show (k234 : List Value).length = 32 from ((hq240).len.trans (by rw [hl238]; rfl)))])) ((hq240).mono (h.m.leAll (i := 2) rfl)) hl238 (by decide)) (sA Aa0 ca0 m271 1) (ca0 - m271) x269 (hs278.mono (h.m.leAll (i := 2) rfl)) _ h280 _ h.startAll
                          refine q_callX hX h rfl rfl rfl (by decide) Try.func25 rfl rfl rfl (fun a w v L1 S1 hR hb1 h => ?_)
                          obtain ⟨rfl, rfl, _⟩ := hR
                          refine hK _ _ (fun _ _ => HS.ext hb1) ?_
                          replace HS := HS.ext hb1
                          clear hK
                          refine d_takeP h (fun _ => HS) HN 27 rfl (by kernel_rfl) (by kernel_rfl) (by kernel_rfl) (by decide) rfl rfl (by decide) (fun w' => x_pick (v := .bool z266) (u' := undef) h.k rfl rfl (fun _ => by rw [← Option.some.inj hz267]; rfl) (fun hh => absurd (hB21.symm.trans hh) (by decide))) (fun a h => ?_)
                          refine d_takeP h (fun _ => HS) HN 28 rfl (by kernel_rfl) (by kernel_rfl) (by kernel_rfl) (by decide) rfl rfl (by decide) (fun w' => x_move h.k _ rfl rfl) (fun a h => ?_)
                          refine d_split (t := 130) h rfl (fun hB28 => ?_) (fun hB28 => ?_)
                          · rw [if_pos hB28] at hz283
                            obtain ⟨x284, h285, hz283⟩ := bsome hz283
                            obtain ⟨x292, h293, hz283⟩ := bsome hz283
                            refine d_takeP h (fun _ => HS) HN 29 rfl (by kernel_rfl) (by kernel_rfl) (by kernel_rfl) (by decide) (by rw [g_want h rfl rfl rfl rfl hB28]; rfl) rfl (by decide) (fun w' => x_move h.k _ rfl rfl) (fun a h => ?_)
                            refine d_takeP h (fun _ => HS) HN 31 rfl (by kernel_rfl) (by kernel_rfl) (by kernel_rfl) (by decide) (by rw [g_want h rfl rfl rfl rfl hB28]; rfl) rfl (by decide) (fun w' => x_move h.k _ rfl rfl) (fun a h => ?_)
                            refine d_alone 30 rfl (by kernel_rfl) (fun K hK => ?_)
                            refine g_yes (j := 28) (t := 130) h rfl rfl rfl rfl hB28 ?_
                            have hX := anchor_Slot_Bytes_ok Fu (S0 := snapAll _) g173 x172.1 ⟨([.int .i64 x172.1.1.1] : List Value) ++ (k175 ++ (k178 ++ ([.int .i64 x172.1.2.1, .bool x172.1.2.2]))), h.m.boxAll (i := 1) rfl, ⟨([.int .i64 x172.1.1.1] : List Value) ++ (k175 ++ k178), [.int .i64 x172.1.2.1, .bool x172.1.2.2], (by simp only [List.append_assoc, List.cons_append, List.nil_append, List.append_nil]), ⟨[.int .i64 x172.1.1.1], k175 ++ k178, rfl, ⟨rfl, hr174⟩, ⟨k175, k178, rfl, ⟨(hs176).mono (h.m.leAll (i := 2) rfl), hl177⟩, ⟨(hs179).mono (h.m.leAll (i := 2) rfl), hl180⟩⟩⟩, ⟨[.int .i64 x172.1.2.1], [.bool x172.1.2.2], rfl, ⟨rfl, hr181⟩, rfl⟩⟩⟩ _ h285 _ h.startAll
                            refine q_callX hX h rfl rfl rfl (by decide) Try.func41 rfl rfl rfl (fun a w v L1 S1 hR hb1 h => ?_)
                            obtain ⟨A287, c288, cs289, rfl, rfl, hq290, _⟩ := hR
                            have hq291 := hq290.fl (S' := S55) fl_8
                            refine hK _ _ (fun _ _ => HS.ext hb1) ?_
                            replace HS := HS.ext hb1
                            clear hK
                            refine d_alone 32 rfl (by kernel_rfl) (fun K hK => ?_)
                            refine g_yes (j := 28) (t := 130) h rfl rfl rfl rfl hB28 ?_
                            have hX := chatelaineref01_Same_ok Fu (S0 := snapAll _) A287 c288 x284 (h.m.rowAll (i := 0) rfl (j := 3) rfl hq291) Aa0 ca0 a0 ((hsa0.mono le57).mono (h.m.leAll (i := 3) rfl)) _ h293 _ h.startAll
                            refine q_callX hX h rfl rfl rfl (by decide) Try.func25 rfl rfl rfl (fun a w v L1 S1 hR hb1 h => ?_)
                            obtain ⟨rfl, rfl, _⟩ := hR
                            refine hK _ _ (fun _ _ => HS.ext hb1) ?_
                            replace HS := HS.ext hb1
                            clear hK
                            refine d_takeP h (fun _ => HS) HN 33 rfl (by kernel_rfl) (by kernel_rfl) (by kernel_rfl) (by decide) rfl rfl (by decide) (fun w' => x_pick (v := .bool z282) (u' := undef) h.k rfl rfl (fun _ => by rw [← Option.some.inj hz283]; rfl) (fun hh => absurd (hB28.symm.trans hh) (by decide))) (fun a h => ?_)
                            refine d_takeP h (fun _ => HS) HN 34 rfl (by kernel_rfl) (by kernel_rfl) (by kernel_rfl) (by decide) rfl rfl (by decide) (fun w' => x_assign h.k _ rfl rfl) (fun a h => ?_)
                            refine d_done (by kernel_rfl) (HE _ _ ?_) _
                            refine e_thenN ?_
                            have h := h.pick [3] (by decide) rfl
                            exact h.has (by exact ⟨rfl, trivial⟩)
                          · rw [if_neg (by rw [hB28]; decide)] at hz283
                            refine d_takeNP h (fun _ => HS) HN 29 rfl (by kernel_rfl) (by kernel_rfl) (by kernel_rfl) (by decide) (by rw [g_want h rfl rfl rfl rfl hB28]; rfl) rfl (by decide) (fun a h => ?_)
                            refine d_takeNP h (fun _ => HS) HN 30 rfl (by kernel_rfl) (by kernel_rfl) (by kernel_rfl) (by decide) (by rw [g_want h rfl rfl rfl rfl hB28]; rfl) rfl (by decide) (fun a h => ?_)
                            refine d_takeNP h (fun _ => HS) HN 31 rfl (by kernel_rfl) (by kernel_rfl) (by kernel_rfl) (by decide) (by rw [g_want h rfl rfl rfl rfl hB28]; rfl) rfl (by decide) (fun a h => ?_)
                            refine d_takeNP h (fun _ => HS) HN 32 rfl (by kernel_rfl) (by kernel_rfl) (by kernel_rfl) (by decide) (by rw [g_want h rfl rfl rfl rfl hB28]; rfl) rfl (by decide) (fun a h => ?_)
                            refine d_takeP h (fun _ => HS) HN 33 rfl (by kernel_rfl) (by kernel_rfl) (by kernel_rfl) (by decide) rfl rfl (by decide) (fun w' => x_pick (v := .bool z282) (u' := undef) h.k rfl rfl (fun hh => absurd (hB28.symm.trans hh) (by decide)) (fun _ => by rw [← Option.some.inj hz283]; rfl)) (fun a h => ?_)
                            refine d_takeP h (fun _ => HS) HN 34 rfl (by kernel_rfl) (by kernel_rfl) (by kernel_rfl) (by decide) rfl rfl (by decide) (fun w' => x_assign h.k _ rfl rfl) (fun a h => ?_)
                            refine d_done (by kernel_rfl) (HE _ _ ?_) _
                            refine e_thenN ?_
                            have h := h.pick [2] (by decide) rfl
                            exact h.has (by exact ⟨rfl, trivial⟩)
                        · rw [if_neg (by rw [hB21]; decide)] at hz267
                          refine d_takeNP h (fun _ => HS) HN 22 rfl (by kernel_rfl) (by kernel_rfl) (by kernel_rfl) (by decide) (by rw [g_want h rfl rfl rfl rfl hB21]; rfl) rfl (by decide) (fun a h => ?_)
                          refine d_takeNP h (fun _ => HS) HN 23 rfl (by kernel_rfl) (by kernel_rfl) (by kernel_rfl) (by decide) (by rw [g_want h rfl rfl rfl rfl hB21]; rfl) rfl (by decide) (fun a h => ?_)
                          refine d_takeNP h (fun _ => HS) HN 24 rfl (by kernel_rfl) (by kernel_rfl) (by kernel_rfl) (by decide) (by rw [g_want h rfl rfl rfl rfl hB21]; rfl) rfl (by decide) (fun a h => ?_)
                          refine d_takeNP h (fun _ => HS) HN 25 rfl (by kernel_rfl) (by kernel_rfl) (by kernel_rfl) (by decide) (by rw [g_want h rfl rfl rfl rfl hB21]; rfl) rfl (by decide) (fun a h => ?_)
                          refine d_takeNP h (fun _ => HS) HN 26 rfl (by kernel_rfl) (by kernel_rfl) (by kernel_rfl) (by decide) (by rw [g_want h rfl rfl rfl rfl hB21]; rfl) rfl (by decide) (fun a h => ?_)
                          refine d_takeP h (fun _ => HS) HN 27 rfl (by kernel_rfl) (by kernel_rfl) (by kernel_rfl) (by decide) rfl rfl (by decide) (fun w' => x_pick (v := .bool z266) (u' := undef) h.k rfl rfl (fun hh => absurd (hB21.symm.trans hh) (by decide)) (fun _ => by rw [← Option.some.inj hz267]; rfl)) (fun a h => ?_)
                          refine d_takeP h (fun _ => HS) HN 28 rfl (by kernel_rfl) (by kernel_rfl) (by kernel_rfl) (by decide) rfl rfl (by decide) (fun w' => x_move h.k _ rfl rfl) (fun a h => ?_)
                          have hB28 : z266 = false := (Option.some.inj hz267).symm
                          rw [if_neg (by rw [hB28]; decide)] at hz283
                          refine d_takeNP h (fun _ => HS) HN 29 rfl (by kernel_rfl) (by kernel_rfl) (by kernel_rfl) (by decide) (by rw [g_want h rfl rfl rfl rfl hB28]; rfl) rfl (by decide) (fun a h => ?_)
                          refine d_takeNP h (fun _ => HS) HN 30 rfl (by kernel_rfl) (by kernel_rfl) (by kernel_rfl) (by decide) (by rw [g_want h rfl rfl rfl rfl hB28]; rfl) rfl (by decide) (fun a h => ?_)
                          refine d_takeNP h (fun _ => HS) HN 31 rfl (by kernel_rfl) (by kernel_rfl) (by kernel_rfl) (by decide) (by rw [g_want h rfl rfl rfl rfl hB28]; rfl) rfl (by decide) (fun a h => ?_)
                          refine d_takeNP h (fun _ => HS) HN 32 rfl (by kernel_rfl) (by kernel_rfl) (by kernel_rfl) (by decide) (by rw [g_want h rfl rfl rfl rfl hB28]; rfl) rfl (by decide) (fun a h => ?_)
                          refine d_takeP h (fun _ => HS) HN 33 rfl (by kernel_rfl) (by kernel_rfl) (by kernel_rfl) (by decide) rfl rfl (by decide) (fun w' => x_pick (v := .bool z282) (u' := undef) h.k rfl rfl (fun hh => absurd (hB28.symm.trans hh) (by decide)) (fun _ => by rw [← Option.some.inj hz283]; rfl)) (fun a h => ?_)
                          refine d_takeP h (fun _ => HS) HN 34 rfl (by kernel_rfl) (by kernel_rfl) (by kernel_rfl) (by decide) rfl rfl (by decide) (fun w' => x_assign h.k _ rfl rfl) (fun a h => ?_)
                          refine d_done (by kernel_rfl) (HE _ _ ?_) _
                          refine e_thenN ?_
                          have h := h.pick [2] (by decide) rfl
                          exact h.has (by exact ⟨rfl, trivial⟩)
                      · rw [if_neg (by rw [hB14]; decide)] at hz251
                        refine d_takeNP h (fun _ => HS) HN 15 rfl (by kernel_rfl) (by kernel_rfl) (by kernel_rfl) (by decide) (by rw [g_want h rfl rfl rfl rfl hB14]; rfl) rfl (by decide) (fun a h => ?_)
                        refine d_takeNP h (fun _ => HS) HN 16 rfl (by kernel_rfl) (by kernel_rfl) (by kernel_rfl) (by decide) (by rw [g_want h rfl rfl rfl rfl hB14]; rfl) rfl (by decide) (fun a h => ?_)
                        refine d_takeNP h (fun _ => HS) HN 17 rfl (by kernel_rfl) (by kernel_rfl) (by kernel_rfl) (by decide) (by rw [g_want h rfl rfl rfl rfl hB14]; rfl) rfl (by decide) (fun a h => ?_)
                        refine d_takeNP h (fun _ => HS) HN 18 rfl (by kernel_rfl) (by kernel_rfl) (by kernel_rfl) (by decide) (by rw [g_want h rfl rfl rfl rfl hB14]; rfl) rfl (by decide) (fun a h => ?_)
                        refine d_takeNP h (fun _ => HS) HN 19 rfl (by kernel_rfl) (by kernel_rfl) (by kernel_rfl) (by decide) (by rw [g_want h rfl rfl rfl rfl hB14]; rfl) rfl (by decide) (fun a h => ?_)
                        refine d_takeP h (fun _ => HS) HN 20 rfl (by kernel_rfl) (by kernel_rfl) (by kernel_rfl) (by decide) rfl rfl (by decide) (fun w' => x_pick (v := .bool z250) (u' := undef) h.k rfl rfl (fun hh => absurd (hB14.symm.trans hh) (by decide)) (fun _ => by rw [← Option.some.inj hz251]; rfl)) (fun a h => ?_)
                        refine d_takeP h (fun _ => HS) HN 21 rfl (by kernel_rfl) (by kernel_rfl) (by kernel_rfl) (by decide) rfl rfl (by decide) (fun w' => x_move h.k _ rfl rfl) (fun a h => ?_)
                        have hB21 : z250 = false := (Option.some.inj hz251).symm
                        rw [if_neg (by rw [hB21]; decide)] at hz267
                        refine d_takeNP h (fun _ => HS) HN 22 rfl (by kernel_rfl) (by kernel_rfl) (by kernel_rfl) (by decide) (by rw [g_want h rfl rfl rfl rfl hB21]; rfl) rfl (by decide) (fun a h => ?_)
                        refine d_takeNP h (fun _ => HS) HN 23 rfl (by kernel_rfl) (by kernel_rfl) (by kernel_rfl) (by decide) (by rw [g_want h rfl rfl rfl rfl hB21]; rfl) rfl (by decide) (fun a h => ?_)
                        refine d_takeNP h (fun _ => HS) HN 24 rfl (by kernel_rfl) (by kernel_rfl) (by kernel_rfl) (by decide) (by rw [g_want h rfl rfl rfl rfl hB21]; rfl) rfl (by decide) (fun a h => ?_)
                        refine d_takeNP h (fun _ => HS) HN 25 rfl (by kernel_rfl) (by kernel_rfl) (by kernel_rfl) (by decide) (by rw [g_want h rfl rfl rfl rfl hB21]; rfl) rfl (by decide) (fun a h => ?_)
                        refine d_takeNP h (fun _ => HS) HN 26 rfl (by kernel_rfl) (by kernel_rfl) (by kernel_rfl) (by decide) (by rw [g_want h rfl rfl rfl rfl hB21]; rfl) rfl (by decide) (fun a h => ?_)
                        refine d_takeP h (fun _ => HS) HN 27 rfl (by kernel_rfl) (by kernel_rfl) (by kernel_rfl) (by decide) rfl rfl (by decide) (fun w' => x_pick (v := .bool z266) (u' := undef) h.k rfl rfl (fun hh => absurd (hB21.symm.trans hh) (by decide)) (fun _ => by rw [← Option.some.inj hz267]; rfl)) (fun a h => ?_)
                        refine d_takeP h (fun _ => HS) HN 28 rfl (by kernel_rfl) (by kernel_rfl) (by kernel_rfl) (by decide) rfl rfl (by decide) (fun w' => x_move h.k _ rfl rfl) (fun a h => ?_)
                        have hB28 : z266 = false := (Option.some.inj hz267).symm
                        rw [if_neg (by rw [hB28]; decide)] at hz283
                        refine d_takeNP h (fun _ => HS) HN 29 rfl (by kernel_rfl) (by kernel_rfl) (by kernel_rfl) (by decide) (by rw [g_want h rfl rfl rfl rfl hB28]; rfl) rfl (by decide) (fun a h => ?_)
                        refine d_takeNP h (fun _ => HS) HN 30 rfl (by kernel_rfl) (by kernel_rfl) (by kernel_rfl) (by decide) (by rw [g_want h rfl rfl rfl rfl hB28]; rfl) rfl (by decide) (fun a h => ?_)
                        refine d_takeNP h (fun _ => HS) HN 31 rfl (by kernel_rfl) (by kernel_rfl) (by kernel_rfl) (by decide) (by rw [g_want h rfl rfl rfl rfl hB28]; rfl) rfl (by decide) (fun a h => ?_)
                        refine d_takeNP h (fun _ => HS) HN 32 rfl (by kernel_rfl) (by kernel_rfl) (by kernel_rfl) (by decide) (by rw [g_want h rfl rfl rfl rfl hB28]; rfl) rfl (by decide) (fun a h => ?_)
                        refine d_takeP h (fun _ => HS) HN 33 rfl (by kernel_rfl) (by kernel_rfl) (by kernel_rfl) (by decide) rfl rfl (by decide) (fun w' => x_pick (v := .bool z282) (u' := undef) h.k rfl rfl (fun hh => absurd (hB28.symm.trans hh) (by decide)) (fun _ => by rw [← Option.some.inj hz283]; rfl)) (fun a h => ?_)
                        refine d_takeP h (fun _ => HS) HN 34 rfl (by kernel_rfl) (by kernel_rfl) (by kernel_rfl) (by decide) rfl rfl (by decide) (fun w' => x_assign h.k _ rfl rfl) (fun a h => ?_)
                        refine d_done (by kernel_rfl) (HE _ _ ?_) _
                        refine e_thenN ?_
                        have h := h.pick [2] (by decide) rfl
                        exact h.has (by exact ⟨rfl, trivial⟩)
                    · refine d_takeNP h (fun _ => HS) HN 9 rfl (by kernel_rfl) (by kernel_rfl) (by kernel_rfl) (by decide) (by rw [g_want h rfl rfl rfl rfl hB8]; rfl) rfl (by decide) (fun a h => ?_)
                      refine d_takeNP h (fun _ => HS) HN 10 rfl (by kernel_rfl) (by kernel_rfl) (by kernel_rfl) (by decide) (by rw [g_want h rfl rfl rfl rfl hB8]; rfl) rfl (by decide) (fun a h => ?_)
                      refine d_takeNP h (fun _ => HS) HN 11 rfl (by kernel_rfl) (by kernel_rfl) (by kernel_rfl) (by decide) (by rw [g_want h rfl rfl rfl rfl hB8]; rfl) rfl (by decide) (fun a h => ?_)
                      refine d_takeNP h (fun _ => HS) HN 12 rfl (by kernel_rfl) (by kernel_rfl) (by kernel_rfl) (by decide) (by rw [g_want h rfl rfl rfl rfl hB8]; rfl) rfl (by decide) (fun a h => ?_)
                      refine d_takeP h (fun _ => HS) HN 13 rfl (by kernel_rfl) (by kernel_rfl) (by kernel_rfl) (by decide) rfl rfl (by decide) (fun w' => x_pick (v := .bool (z242 && (decide (x225.1 = x197.1)))) (u' := undef) h.k rfl rfl (fun hh => absurd (hB8.symm.trans hh) (by decide)) (fun _ => by rw [hB8]; first | rfl | simp [ev, List.lookup])) (fun a h => ?_)
                      refine d_takeP h (fun _ => HS) HN 14 rfl (by kernel_rfl) (by kernel_rfl) (by kernel_rfl) (by decide) rfl rfl (by decide) (fun w' => x_move h.k _ rfl rfl) (fun a h => ?_)
                      have hB14 : (z242 && (decide (x225.1 = x197.1))) = false := (by rw [hB8]; first | rfl | simp)
                      rw [if_neg (by rw [hB14]; decide)] at hz251
                      refine d_takeNP h (fun _ => HS) HN 15 rfl (by kernel_rfl) (by kernel_rfl) (by kernel_rfl) (by decide) (by rw [g_want h rfl rfl rfl rfl hB14]; rfl) rfl (by decide) (fun a h => ?_)
                      refine d_takeNP h (fun _ => HS) HN 16 rfl (by kernel_rfl) (by kernel_rfl) (by kernel_rfl) (by decide) (by rw [g_want h rfl rfl rfl rfl hB14]; rfl) rfl (by decide) (fun a h => ?_)
                      refine d_takeNP h (fun _ => HS) HN 17 rfl (by kernel_rfl) (by kernel_rfl) (by kernel_rfl) (by decide) (by rw [g_want h rfl rfl rfl rfl hB14]; rfl) rfl (by decide) (fun a h => ?_)
                      refine d_takeNP h (fun _ => HS) HN 18 rfl (by kernel_rfl) (by kernel_rfl) (by kernel_rfl) (by decide) (by rw [g_want h rfl rfl rfl rfl hB14]; rfl) rfl (by decide) (fun a h => ?_)
                      refine d_takeNP h (fun _ => HS) HN 19 rfl (by kernel_rfl) (by kernel_rfl) (by kernel_rfl) (by decide) (by rw [g_want h rfl rfl rfl rfl hB14]; rfl) rfl (by decide) (fun a h => ?_)
                      refine d_takeP h (fun _ => HS) HN 20 rfl (by kernel_rfl) (by kernel_rfl) (by kernel_rfl) (by decide) rfl rfl (by decide) (fun w' => x_pick (v := .bool z250) (u' := undef) h.k rfl rfl (fun hh => absurd (hB14.symm.trans hh) (by decide)) (fun _ => by rw [← Option.some.inj hz251]; rfl)) (fun a h => ?_)
                      refine d_takeP h (fun _ => HS) HN 21 rfl (by kernel_rfl) (by kernel_rfl) (by kernel_rfl) (by decide) rfl rfl (by decide) (fun w' => x_move h.k _ rfl rfl) (fun a h => ?_)
                      have hB21 : z250 = false := (Option.some.inj hz251).symm
                      rw [if_neg (by rw [hB21]; decide)] at hz267
                      refine d_takeNP h (fun _ => HS) HN 22 rfl (by kernel_rfl) (by kernel_rfl) (by kernel_rfl) (by decide) (by rw [g_want h rfl rfl rfl rfl hB21]; rfl) rfl (by decide) (fun a h => ?_)
                      refine d_takeNP h (fun _ => HS) HN 23 rfl (by kernel_rfl) (by kernel_rfl) (by kernel_rfl) (by decide) (by rw [g_want h rfl rfl rfl rfl hB21]; rfl) rfl (by decide) (fun a h => ?_)
                      refine d_takeNP h (fun _ => HS) HN 24 rfl (by kernel_rfl) (by kernel_rfl) (by kernel_rfl) (by decide) (by rw [g_want h rfl rfl rfl rfl hB21]; rfl) rfl (by decide) (fun a h => ?_)
                      refine d_takeNP h (fun _ => HS) HN 25 rfl (by kernel_rfl) (by kernel_rfl) (by kernel_rfl) (by decide) (by rw [g_want h rfl rfl rfl rfl hB21]; rfl) rfl (by decide) (fun a h => ?_)
                      refine d_takeNP h (fun _ => HS) HN 26 rfl (by kernel_rfl) (by kernel_rfl) (by kernel_rfl) (by decide) (by rw [g_want h rfl rfl rfl rfl hB21]; rfl) rfl (by decide) (fun a h => ?_)
                      refine d_takeP h (fun _ => HS) HN 27 rfl (by kernel_rfl) (by kernel_rfl) (by kernel_rfl) (by decide) rfl rfl (by decide) (fun w' => x_pick (v := .bool z266) (u' := undef) h.k rfl rfl (fun hh => absurd (hB21.symm.trans hh) (by decide)) (fun _ => by rw [← Option.some.inj hz267]; rfl)) (fun a h => ?_)
                      refine d_takeP h (fun _ => HS) HN 28 rfl (by kernel_rfl) (by kernel_rfl) (by kernel_rfl) (by decide) rfl rfl (by decide) (fun w' => x_move h.k _ rfl rfl) (fun a h => ?_)
                      have hB28 : z266 = false := (Option.some.inj hz267).symm
                      rw [if_neg (by rw [hB28]; decide)] at hz283
                      refine d_takeNP h (fun _ => HS) HN 29 rfl (by kernel_rfl) (by kernel_rfl) (by kernel_rfl) (by decide) (by rw [g_want h rfl rfl rfl rfl hB28]; rfl) rfl (by decide) (fun a h => ?_)
                      refine d_takeNP h (fun _ => HS) HN 30 rfl (by kernel_rfl) (by kernel_rfl) (by kernel_rfl) (by decide) (by rw [g_want h rfl rfl rfl rfl hB28]; rfl) rfl (by decide) (fun a h => ?_)
                      refine d_takeNP h (fun _ => HS) HN 31 rfl (by kernel_rfl) (by kernel_rfl) (by kernel_rfl) (by decide) (by rw [g_want h rfl rfl rfl rfl hB28]; rfl) rfl (by decide) (fun a h => ?_)
                      refine d_takeNP h (fun _ => HS) HN 32 rfl (by kernel_rfl) (by kernel_rfl) (by kernel_rfl) (by decide) (by rw [g_want h rfl rfl rfl rfl hB28]; rfl) rfl (by decide) (fun a h => ?_)
                      refine d_takeP h (fun _ => HS) HN 33 rfl (by kernel_rfl) (by kernel_rfl) (by kernel_rfl) (by decide) rfl rfl (by decide) (fun w' => x_pick (v := .bool z282) (u' := undef) h.k rfl rfl (fun hh => absurd (hB28.symm.trans hh) (by decide)) (fun _ => by rw [← Option.some.inj hz283]; rfl)) (fun a h => ?_)
                      refine d_takeP h (fun _ => HS) HN 34 rfl (by kernel_rfl) (by kernel_rfl) (by kernel_rfl) (by decide) rfl rfl (by decide) (fun w' => x_assign h.k _ rfl rfl) (fun a h => ?_)
                      refine d_done (by kernel_rfl) (HE _ _ ?_) _
                      refine e_thenN ?_
                      have h := h.pick [2] (by decide) rfl
                      exact h.has (by exact ⟨rfl, trivial⟩)
                  · rw [if_neg (of_decide_eq_false hB2)] at hz243
                    refine d_takeNP h (fun _ => HS) HN 3 rfl (by kernel_rfl) (by kernel_rfl) (by kernel_rfl) (by decide) (by rw [g_want h rfl rfl rfl rfl hB2]; rfl) rfl (by decide) (fun a h => ?_)
                    refine d_takeNP h (fun _ => HS) HN 4 rfl (by kernel_rfl) (by kernel_rfl) (by kernel_rfl) (by decide) (by rw [g_want h rfl rfl rfl rfl hB2]; rfl) rfl (by decide) (fun a h => ?_)
                    refine d_takeNP h (fun _ => HS) HN 5 rfl (by kernel_rfl) (by kernel_rfl) (by kernel_rfl) (by decide) (by rw [g_want h rfl rfl rfl rfl hB2]; rfl) rfl (by decide) (fun a h => ?_)
                    refine d_takeNP h (fun _ => HS) HN 6 rfl (by kernel_rfl) (by kernel_rfl) (by kernel_rfl) (by decide) (by rw [g_want h rfl rfl rfl rfl hB2]; rfl) rfl (by decide) (fun a h => ?_)
                    refine d_takeP h (fun _ => HS) HN 7 rfl (by kernel_rfl) (by kernel_rfl) (by kernel_rfl) (by decide) rfl rfl (by decide) (fun w' => x_pick (v := .bool z242) (u' := undef) h.k rfl rfl (fun hh => absurd (hB2.symm.trans hh) (by decide)) (fun _ => by rw [← Option.some.inj hz243]; rfl)) (fun a h => ?_)
                    refine d_takeP h (fun _ => HS) HN 8 rfl (by kernel_rfl) (by kernel_rfl) (by kernel_rfl) (by decide) rfl rfl (by decide) (fun w' => x_move h.k _ rfl rfl) (fun a h => ?_)
                    have hB8 : z242 = false := (Option.some.inj hz243).symm
                    refine d_takeNP h (fun _ => HS) HN 9 rfl (by kernel_rfl) (by kernel_rfl) (by kernel_rfl) (by decide) (by rw [g_want h rfl rfl rfl rfl hB8]; rfl) rfl (by decide) (fun a h => ?_)
                    refine d_takeNP h (fun _ => HS) HN 10 rfl (by kernel_rfl) (by kernel_rfl) (by kernel_rfl) (by decide) (by rw [g_want h rfl rfl rfl rfl hB8]; rfl) rfl (by decide) (fun a h => ?_)
                    refine d_takeNP h (fun _ => HS) HN 11 rfl (by kernel_rfl) (by kernel_rfl) (by kernel_rfl) (by decide) (by rw [g_want h rfl rfl rfl rfl hB8]; rfl) rfl (by decide) (fun a h => ?_)
                    refine d_takeNP h (fun _ => HS) HN 12 rfl (by kernel_rfl) (by kernel_rfl) (by kernel_rfl) (by decide) (by rw [g_want h rfl rfl rfl rfl hB8]; rfl) rfl (by decide) (fun a h => ?_)
                    refine d_takeP h (fun _ => HS) HN 13 rfl (by kernel_rfl) (by kernel_rfl) (by kernel_rfl) (by decide) rfl rfl (by decide) (fun w' => x_pick (v := .bool (z242 && (decide (x225.1 = x197.1)))) (u' := undef) h.k rfl rfl (fun hh => absurd (hB8.symm.trans hh) (by decide)) (fun _ => by rw [hB8]; first | rfl | simp [ev, List.lookup])) (fun a h => ?_)
                    refine d_takeP h (fun _ => HS) HN 14 rfl (by kernel_rfl) (by kernel_rfl) (by kernel_rfl) (by decide) rfl rfl (by decide) (fun w' => x_move h.k _ rfl rfl) (fun a h => ?_)
                    have hB14 : (z242 && (decide (x225.1 = x197.1))) = false := (by rw [hB8]; first | rfl | simp)
                    rw [if_neg (by rw [hB14]; decide)] at hz251
                    refine d_takeNP h (fun _ => HS) HN 15 rfl (by kernel_rfl) (by kernel_rfl) (by kernel_rfl) (by decide) (by rw [g_want h rfl rfl rfl rfl hB14]; rfl) rfl (by decide) (fun a h => ?_)
                    refine d_takeNP h (fun _ => HS) HN 16 rfl (by kernel_rfl) (by kernel_rfl) (by kernel_rfl) (by decide) (by rw [g_want h rfl rfl rfl rfl hB14]; rfl) rfl (by decide) (fun a h => ?_)
                    refine d_takeNP h (fun _ => HS) HN 17 rfl (by kernel_rfl) (by kernel_rfl) (by kernel_rfl) (by decide) (by rw [g_want h rfl rfl rfl rfl hB14]; rfl) rfl (by decide) (fun a h => ?_)
                    refine d_takeNP h (fun _ => HS) HN 18 rfl (by kernel_rfl) (by kernel_rfl) (by kernel_rfl) (by decide) (by rw [g_want h rfl rfl rfl rfl hB14]; rfl) rfl (by decide) (fun a h => ?_)
                    refine d_takeNP h (fun _ => HS) HN 19 rfl (by kernel_rfl) (by kernel_rfl) (by kernel_rfl) (by decide) (by rw [g_want h rfl rfl rfl rfl hB14]; rfl) rfl (by decide) (fun a h => ?_)
                    refine d_takeP h (fun _ => HS) HN 20 rfl (by kernel_rfl) (by kernel_rfl) (by kernel_rfl) (by decide) rfl rfl (by decide) (fun w' => x_pick (v := .bool z250) (u' := undef) h.k rfl rfl (fun hh => absurd (hB14.symm.trans hh) (by decide)) (fun _ => by rw [← Option.some.inj hz251]; rfl)) (fun a h => ?_)
                    refine d_takeP h (fun _ => HS) HN 21 rfl (by kernel_rfl) (by kernel_rfl) (by kernel_rfl) (by decide) rfl rfl (by decide) (fun w' => x_move h.k _ rfl rfl) (fun a h => ?_)
                    have hB21 : z250 = false := (Option.some.inj hz251).symm
                    rw [if_neg (by rw [hB21]; decide)] at hz267
                    refine d_takeNP h (fun _ => HS) HN 22 rfl (by kernel_rfl) (by kernel_rfl) (by kernel_rfl) (by decide) (by rw [g_want h rfl rfl rfl rfl hB21]; rfl) rfl (by decide) (fun a h => ?_)
                    refine d_takeNP h (fun _ => HS) HN 23 rfl (by kernel_rfl) (by kernel_rfl) (by kernel_rfl) (by decide) (by rw [g_want h rfl rfl rfl rfl hB21]; rfl) rfl (by decide) (fun a h => ?_)
                    refine d_takeNP h (fun _ => HS) HN 24 rfl (by kernel_rfl) (by kernel_rfl) (by kernel_rfl) (by decide) (by rw [g_want h rfl rfl rfl rfl hB21]; rfl) rfl (by decide) (fun a h => ?_)
                    refine d_takeNP h (fun _ => HS) HN 25 rfl (by kernel_rfl) (by kernel_rfl) (by kernel_rfl) (by decide) (by rw [g_want h rfl rfl rfl rfl hB21]; rfl) rfl (by decide) (fun a h => ?_)
                    refine d_takeNP h (fun _ => HS) HN 26 rfl (by kernel_rfl) (by kernel_rfl) (by kernel_rfl) (by decide) (by rw [g_want h rfl rfl rfl rfl hB21]; rfl) rfl (by decide) (fun a h => ?_)
                    refine d_takeP h (fun _ => HS) HN 27 rfl (by kernel_rfl) (by kernel_rfl) (by kernel_rfl) (by decide) rfl rfl (by decide) (fun w' => x_pick (v := .bool z266) (u' := undef) h.k rfl rfl (fun hh => absurd (hB21.symm.trans hh) (by decide)) (fun _ => by rw [← Option.some.inj hz267]; rfl)) (fun a h => ?_)
                    refine d_takeP h (fun _ => HS) HN 28 rfl (by kernel_rfl) (by kernel_rfl) (by kernel_rfl) (by decide) rfl rfl (by decide) (fun w' => x_move h.k _ rfl rfl) (fun a h => ?_)
                    have hB28 : z266 = false := (Option.some.inj hz267).symm
                    rw [if_neg (by rw [hB28]; decide)] at hz283
                    refine d_takeNP h (fun _ => HS) HN 29 rfl (by kernel_rfl) (by kernel_rfl) (by kernel_rfl) (by decide) (by rw [g_want h rfl rfl rfl rfl hB28]; rfl) rfl (by decide) (fun a h => ?_)
                    refine d_takeNP h (fun _ => HS) HN 30 rfl (by kernel_rfl) (by kernel_rfl) (by kernel_rfl) (by decide) (by rw [g_want h rfl rfl rfl rfl hB28]; rfl) rfl (by decide) (fun a h => ?_)
                    refine d_takeNP h (fun _ => HS) HN 31 rfl (by kernel_rfl) (by kernel_rfl) (by kernel_rfl) (by decide) (by rw [g_want h rfl rfl rfl rfl hB28]; rfl) rfl (by decide) (fun a h => ?_)
                    refine d_takeNP h (fun _ => HS) HN 32 rfl (by kernel_rfl) (by kernel_rfl) (by kernel_rfl) (by decide) (by rw [g_want h rfl rfl rfl rfl hB28]; rfl) rfl (by decide) (fun a h => ?_)
                    refine d_takeP h (fun _ => HS) HN 33 rfl (by kernel_rfl) (by kernel_rfl) (by kernel_rfl) (by decide) rfl rfl (by decide) (fun w' => x_pick (v := .bool z282) (u' := undef) h.k rfl rfl (fun hh => absurd (hB28.symm.trans hh) (by decide)) (fun _ => by rw [← Option.some.inj hz283]; rfl)) (fun a h => ?_)
                    refine d_takeP h (fun _ => HS) HN 34 rfl (by kernel_rfl) (by kernel_rfl) (by kernel_rfl) (by decide) rfl rfl (by decide) (fun w' => x_assign h.k _ rfl rfl) (fun a h => ?_)
                    refine d_done (by kernel_rfl) (HE _ _ ?_) _
                    refine e_thenN ?_
                    have h := h.pick [2] (by decide) rfl
                    exact h.has (by exact ⟨rfl, trivial⟩)
                refine e_thenN ?_
                refine wp_ret ?_
                rw [← Option.some.inj hf]
                exact r_ret1 h rfl (rv_tmp h rfl) ⟨_, [], _, rfl, ⟨rfl, rfl, trivial⟩, rfl, up56, h.m⟩
end Go.Proofs.Ytoimllmmlbehgaa
