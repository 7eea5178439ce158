/- Bd: Go functions as plain functions, and that they are so (written by xt.py). -/
import Derived.Test.YtnmeelkfpmodgaaDoorBl
import Derived.Test.YtnmeelkfpmodgaaDoorTy
import Derived.Test.YtnmeelkfpmodgaaDoorPs
import Derived.Test.YtnmeelkfpmodgaaDoorPe
set_option linter.unusedVariables false
set_option linter.unusedSimpArgs false
namespace Go.Proofs.YtnmeelkfpmodgaaDoor
open Go.RowKit
def strings_Builder_WriteByte (Fu : Nat) (a0 : Bool × (List UInt8)) (a1 : UInt8) : Option ((Bool × (List UInt8))) :=
  (strings_Builder_copyCheck Fu a0).bind fun x6 => (app 1 x6.2 ([a1])).bind fun x18 => some (x6.1, x18)
set_option maxRecDepth 100000 in
set_option maxHeartbeats 2000000 in
theorem strings_Builder_WriteByte_ok (Fu : Nat) {S0 : Snap} (a0 : Bool × (List UInt8)) (g1 : Nat) (A2 : Option Addr) (c3 : Nat) (cs4 : List Value) (hq5 : reps ty8 S0 cs4 a0.2) (a1 : UInt8) (r : (Bool × (List UInt8))) (hf : strings_Builder_WriteByte Fu a0 a1 = some r) (w0 : World) (hm : Mem w0 (ownL ([.box g1 54 ([.pointer (selfA a0.1 g1), .slice A2 a0.2.length c3]), .row (.slice A2 a0.2.length c3) 5 1 a0.2.length cs4] ++ [.sn S0])) ([.box g1 54 ([.pointer (selfA a0.1 g1), .slice A2 a0.2.length c3]), .row (.slice A2 a0.2.length c3) 5 1 a0.2.length cs4] ++ [.sn S0]) w0) :
    Calls Tryd.prog 25 #[.pointer (some ⟨g1, 0, none⟩), .int .u8 (a1.toNat : Int)] w0 (Ret w0 S0 [.box g1 54 ([.pointer (selfA a0.1 g1), .slice A2 a0.2.length c3]), .row (.slice A2 a0.2.length c3) 5 1 a0.2.length cs4] (fun v L1 S1 => ∃ (A24 : Option Addr), ∃ (c25 : Nat), ∃ (cs26 : List Value), v = Value.nilIface ∧ L1 = [.box g1 54 ([.pointer (selfA r.1 g1), .slice A24 r.2.length c25]), .row (.slice A24 r.2.length c25) 5 1 r.2.length cs26] ∧ reps ty8 S1 cs26 r.2 ∧ True)) := by
  unfold strings_Builder_WriteByte at hf
  obtain ⟨B0, hB0⟩ : ∃ B0, B0 = (ownL ([.box g1 54 ([.pointer (selfA a0.1 g1), .slice A2 a0.2.length c3]), .row (.slice A2 a0.2.length c3) 5 1 a0.2.length cs4] ++ [.sn S0])) := ⟨_, rfl⟩
  rw [← hB0] at hm
  refine c_enterM Tryd.func25 rfl 17 rfl (by simp) _ hm _ rfl (fun a h => ?_)
  refine c_rs ?_ -- region 0
  refine s_assign h rfl _ rfl rfl (by decide) rfl (fun a h => ?_)
  refine l_end ?_
  refine c_rs ?_ -- region 1
  refine s_move h rfl _ rfl rfl (by decide) rfl (fun a h => ?_)
  obtain ⟨x6, h7, hf⟩ := bsome hf
  have hX := strings_Builder_copyCheck_ok Fu (S0 := S0) a0 g1 A2 c3 cs4 hq5 _ h7 _ (h.sub (Ls := [.box g1 54 ([.pointer (selfA a0.1 g1), .slice A2 a0.2.length c3]), .row (.slice A2 a0.2.length c3) 5 1 a0.2.length cs4]))
  refine q_callY (Ls := [.box g1 54 ([.pointer (selfA a0.1 g1), .slice A2 a0.2.length c3]), .row (.slice A2 a0.2.length c3) 5 1 a0.2.length cs4]) hX h (Up.refl _ _ _) rfl rfl rfl (by decide) Tryd.func35 rfl rfl rfl (fun a w v L1 S9 hR le11 up10 h => ?_)
  obtain ⟨A12, c13, cs14, rfl, rfl, hq15, _⟩ := hR
  refine l_end ?_
  refine c_rs ?_ -- region 2
  refine s_move h rfl _ rfl rfl (by decide) rfl (fun a h => ?_)
  refine s_move h rfl _ rfl rfl (by decide) rfl (fun a h => ?_)
  refine s_x h rfl rfl (by decide) (x_nil h.k rfl rfl) (fun a h => ?_)
  refine s_x h rfl rfl (by decide) (x_faddr h.k rfl Tryd.underlying54 rfl sz_Suint8 rfl) (fun a h => ?_)
  refine s_x h rfl rfl (by decide) (x_ld h.k rfl Tryd.underlying28 rfl rfl ((h.m.cell (i := 0) rfl 1).trans rfl)) (fun a h => ?_)
  refine s_move h rfl _ rfl rfl (by decide) rfl (fun a h => ?_)
  refine q_bslice (T := ty8) (S := S9) h rfl rfl rfl (by decide) Tryd.underlying28 zi_uint8 (by decide) (by decide) (by decide) (by decide) [.int .u8 (a1.toNat : Int)] rfl rfl (C := [[.int .u8 (a1.toNat : Int)]]) rfl (xs := [a1]) ⟨[.int .u8 (a1.toNat : Int)], _, rfl, rfl, rfl⟩ (by intro c hc; simp only [List.mem_cons, List.not_mem_nil, or_false] at hc; subst hc; rfl) (fun a w A16 h => ?_)
  have hb17 : reps ty8 S9 ([[.int .u8 (a1.toNat : Int)]] : List (List Value)).flatten [a1] := ⟨[.int .u8 (a1.toNat : Int)], _, rfl, rfl, rfl⟩
  obtain ⟨x18, h19, hf⟩ := bsome hf
  refine q_append (T := ty8) (S := S9) h rfl rfl rfl (by decide) Tryd.underlying28 zb_uint8 rfl (by decide) rfl 2 rfl hq15 rfl hb17 (h.m.rdRowA (i := 0) rfl) h19 (fun a w A20 c21 cs22 hq23 h => ?_)
  refine s_x h rfl rfl (by decide) (x_nil h.k rfl rfl) (fun a h => ?_)
  refine s_x h rfl rfl (by decide) (x_faddr h.k rfl Tryd.underlying54 rfl sz_Suint8 rfl) (fun a h => ?_)
  refine s_stb h rfl rfl rfl sz_Suint8 rfl rfl rfl 1 rfl (by first | decide | simp) (fun a w h => ?_)
  refine l_end ?_
  refine c_rs ?_ -- region 3
  refine s_assign h rfl _ rfl rfl (by decide) rfl (fun a h => ?_)
  refine l_end ?_
  refine wp_ret ?_
  obtain rfl := Option.some.inj hf
  subst hB0
  exact r_ret1 h rfl (rv_tmp h rfl) ⟨_, [.box g1 54 ([.pointer (selfA x6.1 g1), .slice A20 x18.length c21]), .row (.slice A20 x18.length c21) 5 1 x18.length cs22], _, rfl, ⟨A20, c21, cs22, rfl, rfl, hq23, trivial⟩, rfl, up10, (h.m.pick [1, 2, 3] _ (by decide) rfl)⟩
def strings_Builder_WriteString (Fu : Nat) (a0 : Bool × (List UInt8)) (a1 : List UInt8) : Option (Int × (Bool × (List UInt8))) :=
  (strings_Builder_copyCheck Fu a0).bind fun x6 => (app 1 x6.2 a1).bind fun x16 => some ((a1.length : Int), (x6.1, x16))
set_option maxRecDepth 100000 in
set_option maxHeartbeats 2000000 in
theorem strings_Builder_WriteString_ok (Fu : Nat) {S0 : Snap} (a0 : Bool × (List UInt8)) (g1 : Nat) (A2 : Option Addr) (c3 : Nat) (cs4 : List Value) (hq5 : reps ty8 S0 cs4 a0.2) (a1 : List UInt8) (hra1 : a1.length ≤ maxLen) (r : Int × (Bool × (List UInt8))) (hf : strings_Builder_WriteString Fu a0 a1 = some r) (w0 : World) (hm : Mem w0 (ownL ([.box g1 54 ([.pointer (selfA a0.1 g1), .slice A2 a0.2.length c3]), .row (.slice A2 a0.2.length c3) 5 1 a0.2.length cs4] ++ [.sn S0])) ([.box g1 54 ([.pointer (selfA a0.1 g1), .slice A2 a0.2.length c3]), .row (.slice A2 a0.2.length c3) 5 1 a0.2.length cs4] ++ [.sn S0]) w0) :
    Calls Tryd.prog 24 #[.pointer (some ⟨g1, 0, none⟩), .string (sb a1)] w0 (Ret w0 S0 [.box g1 54 ([.pointer (selfA a0.1 g1), .slice A2 a0.2.length c3]), .row (.slice A2 a0.2.length c3) 5 1 a0.2.length cs4] (fun v L1 S1 => ∃ (A23 : Option Addr), ∃ (c24 : Nat), ∃ (cs25 : List Value), v = .tuple #[.int .i64 r.1, Value.nilIface] ∧ L1 = [.box g1 54 ([.pointer (selfA r.2.1 g1), .slice A23 r.2.2.length c24]), .row (.slice A23 r.2.2.length c24) 5 1 r.2.2.length cs25] ∧ r64 r.1 ∧ reps ty8 S1 cs25 r.2.2 ∧ True)) := by
  unfold strings_Builder_WriteString at hf
  obtain ⟨B0, hB0⟩ : ∃ B0, B0 = (ownL ([.box g1 54 ([.pointer (selfA a0.1 g1), .slice A2 a0.2.length c3]), .row (.slice A2 a0.2.length c3) 5 1 a0.2.length cs4] ++ [.sn S0])) := ⟨_, rfl⟩
  rw [← hB0] at hm
  refine c_enterM Tryd.func24 rfl 19 rfl (by simp) _ hm _ rfl (fun a h => ?_)
  refine c_rs ?_ -- region 0
  refine s_assign h rfl _ rfl rfl (by decide) rfl (fun a h => ?_)
  refine s_assign h rfl _ rfl rfl (by decide) rfl (fun a h => ?_)
  refine l_end ?_
  refine c_rs ?_ -- region 1
  refine s_move h rfl _ rfl rfl (by decide) rfl (fun a h => ?_)
  obtain ⟨x6, h7, hf⟩ := bsome hf
  have hX := strings_Builder_copyCheck_ok Fu (S0 := S0) a0 g1 A2 c3 cs4 hq5 _ h7 _ (h.sub (Ls := [.box g1 54 ([.pointer (selfA a0.1 g1), .slice A2 a0.2.length c3]), .row (.slice A2 a0.2.length c3) 5 1 a0.2.length cs4]))
  refine q_callY (Ls := [.box g1 54 ([.pointer (selfA a0.1 g1), .slice A2 a0.2.length c3]), .row (.slice A2 a0.2.length c3) 5 1 a0.2.length cs4]) hX h (Up.refl _ _ _) rfl rfl rfl (by decide) Tryd.func35 rfl rfl rfl (fun a w v L1 S9 hR le11 up10 h => ?_)
  obtain ⟨A12, c13, cs14, rfl, rfl, hq15, _⟩ := hR
  refine l_end ?_
  refine c_rs ?_ -- region 2
  refine s_move h rfl _ rfl rfl (by decide) rfl (fun a h => ?_)
  refine s_move h rfl _ rfl rfl (by decide) rfl (fun a h => ?_)
  refine s_x h rfl rfl (by decide) (x_nil h.k rfl rfl) (fun a h => ?_)
  refine s_x h rfl rfl (by decide) (x_faddr h.k rfl Tryd.underlying54 rfl sz_Suint8 rfl) (fun a h => ?_)
  refine s_x h rfl rfl (by decide) (x_ld h.k rfl Tryd.underlying28 rfl rfl ((h.m.cell (i := 0) rfl 1).trans rfl)) (fun a h => ?_)
  refine s_move h rfl _ rfl rfl (by decide) rfl (fun a h => ?_)
  obtain ⟨x16, h17, hf⟩ := bsome hf
  refine q_appendStr (S := S9) h rfl rfl rfl (by decide) Tryd.underlying28 Tryd.underlying9 zb_uint8 rfl 1 rfl hq15 rfl h17 (fun a w A18 c19 cs20 hq21 h => ?_)
  refine s_x h rfl rfl (by decide) (x_nil h.k rfl rfl) (fun a h => ?_)
  refine s_x h rfl rfl (by decide) (x_faddr h.k rfl Tryd.underlying54 rfl sz_Suint8 rfl) (fun a h => ?_)
  refine s_stb h rfl rfl rfl sz_Suint8 rfl rfl rfl 0 rfl (by first | decide | simp) (fun a w h => ?_)
  refine l_end ?_
  refine c_rs ?_ -- region 3
  refine s_move h rfl _ rfl rfl (by decide) rfl (fun a h => ?_)
  refine s_x h rfl rfl (by decide) (x_lenStr h.k rfl Tryd.underlying9 rfl) (fun a h => ?_)
  refine s_assign h rfl _ rfl rfl (by decide) rfl (fun a h => ?_)
  refine s_assign h rfl _ rfl rfl (by decide) rfl (fun a h => ?_)
  refine l_end ?_
  refine wp_ret ?_
  obtain rfl := Option.some.inj hf
  subst hB0
  exact r_ret2 h rfl (rv_tmp h rfl) (rv_tmp h rfl) ⟨_, [.box g1 54 ([.pointer (selfA x6.1 g1), .slice A18 x16.length c19]), .row (.slice A18 x16.length c19) 5 1 x16.length cs20], _, rfl, ⟨A18, c19, cs20, rfl, rfl, (len_r hra1), hq21, trivial⟩, rfl, up10, h.m⟩
end Go.Proofs.YtnmeelkfpmodgaaDoor
