/- Texts put together. -/
import Derived.Test.YthaoiajbgadcjaaGf
import Derived.Test.YthaoiajbgadcjaaWb
import Derived.Test.YthaoiajbgadcjaaHn
import Derived.Test.YthaoiajbgadcjaaRt
set_option linter.unusedVariables false
set_option linter.unusedSimpArgs false
namespace Go.Proofs.Ythaoiajbgadcjaa
open Go.RowKit
section
section

end
section

end
end
section
def chatelaineref22_Derived (Fu : Nat) (a0 : List UInt8) (a1 : List UInt8) (a2 : Int) : Option ((List UInt8)) :=
  (chatelaineref01_Put64 Fu (u64I a2)).bind fun x1 => (chatelaineref08_Derive Fu a0 a1 32 ([x1])).bind fun x19 => some x19.1
set_option maxRecDepth 100000 in
set_option maxHeartbeats 2000000 in
theorem chatelaineref22_Derived_ok (Fu : Nat) {S0 : Snap} (Aa0 : Option Addr) (ca0 : Nat) (a0 : List UInt8) (hsa0 : slS ty8 S0 Aa0 ca0 a0) (a1 : List UInt8) (hra1 : a1.length ≤ maxLen) (a2 : Int) (hra2 : r64 a2) (r : (List UInt8)) (hf : chatelaineref22_Derived Fu a0 a1 a2 = some r) (w0 : World) (hm : Mem w0 (ownL ([] ++ [.sn S0])) ([] ++ [.sn S0]) w0) :
    Calls Try.prog 11 #[.slice Aa0 a0.length ca0, .string (sb a1), .int .i64 a2] w0 (Ret w0 S0 [] (fun v L1 S1 => ∃ (A29 : Option Addr), ∃ (c30 : Nat), v = .slice A29 r.length c30 ∧ L1 = [] ∧ slS ty8 S1 A29 c30 r ∧ True)) := by
  unfold chatelaineref22_Derived at hf
  refine c_enterM Try.func11 rfl 20 rfl (by simp) _ hm _ rfl (fun a h => ?_)
  refine c_rs ?_ -- region 0
  refine s_assign h rfl _ rfl rfl (by decide) rfl (fun a h => ?_)
  refine l_end ?_
  refine c_rs ?_ -- region 1
  refine s_move h rfl _ rfl rfl (by decide) rfl (fun a h => ?_)
  refine s_move h rfl _ rfl rfl (by decide) rfl (fun a h => ?_)
  refine s_move h rfl _ rfl rfl (by decide) rfl (fun a h => ?_)
  refine s_x h rfl rfl (by decide) (x_convE h.k rfl Try.underlying3 Try.underlying44 rfl (u64I_wrap _)) (fun a h => ?_)
  obtain ⟨x1, h2, hf⟩ := bsome hf
  have hX := chatelaineref01_Put64_ok Fu (S0 := snapAll _) (u64I a2) _ h2 _ h.startAll
  refine q_callX hX h rfl rfl rfl (by decide) Try.func21 rfl rfl rfl (fun a w v L1 S1 hR hb1 h => ?_)
  obtain ⟨A4, c5, cs6, rfl, rfl, hq7, _⟩ := hR
  have hq8 := hq7.fl (S' := S0) fl_8
  obtain ⟨S9, le10, up11, hs12, h⟩ := q_freeze (T := ty8) h (Up.refl _ _ _) hq8
  refine q_bslice (T := tyL ty8) (S := S9) h rfl rfl rfl (by decide) Try.underlying45 zi_Suint8 (by decide) (by decide) (by decide) (by decide) [.slice A4 x1.length c5] rfl rfl (C := [[.slice A4 x1.length c5]]) rfl (xs := [x1]) ⟨[.slice A4 x1.length c5], _, rfl, ⟨_, _, rfl, hs12⟩, rfl⟩ (by intro c hc; simp only [List.mem_cons, List.not_mem_nil, or_false] at hc; subst hc; rfl) (fun a w A13 h => ?_)
  have hb14 : reps (tyL ty8) S9 ([[.slice A4 x1.length c5]] : List (List Value)).flatten [x1] := ⟨[.slice A4 x1.length c5], _, rfl, ⟨_, _, rfl, hs12⟩, rfl⟩
  obtain ⟨S15, le16, up17, hs18, h⟩ := q_freeze (T := tyL ty8) h up11 hb14
  obtain ⟨x19, h20, hf⟩ := bsome hf
  have hX := chatelaineref08_Derive_ok Fu (S0 := S15) Aa0 ca0 a0 (hsa0.mono (le10.trans le16)) a1 hra1 32 (show r64 32 from ⟨by decide, by decide⟩) A13 1 ([x1]) hs18 _ h20 _ (h.sub (Ls := []))
  refine q_callY (Ls := []) hX h up17 rfl rfl rfl (by decide) Try.func20 rfl rfl rfl (fun a w v L1 S22 hR le24 up23 h => ?_)
  obtain ⟨A25, c26, rfl, rfl, hs27, hr28, _⟩ := hR
  refine s_move h rfl _ rfl rfl (by decide) rfl (fun a h => ?_)
  refine s_x h rfl rfl (by decide) (x_ext h.k rfl rfl rfl) (fun a h => ?_)
  refine s_x h rfl rfl (by decide) (x_ext h.k rfl rfl rfl) (fun a h => ?_)
  refine s_assign h rfl _ rfl rfl (by decide) rfl (fun a h => ?_)
  refine s_assign h rfl _ rfl rfl (by decide) rfl (fun a h => ?_)
  refine l_end ?_
  refine c_rs ?_ -- region 2
  refine s_move h rfl _ rfl rfl (by decide) rfl (fun a h => ?_)
  refine s_assign h rfl _ rfl rfl (by decide) rfl (fun a h => ?_)
  refine l_end ?_
  refine wp_ret ?_
  obtain rfl := Option.some.inj hf
  exact r_ret1 h rfl (rv_tmp h rfl) ⟨_, [], _, rfl, ⟨A25, c26, rfl, rfl, hs27, trivial⟩, rfl, up23, h.m⟩
end
end Go.Proofs.Ythaoiajbgadcjaa
