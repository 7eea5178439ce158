/- Sd: Go functions as plain functions, and that they are so (written by xt.py). -/
import Derived.Test.YtnmeelkfpmodgaaDoorSa
set_option linter.unusedVariables false
set_option linter.unusedSimpArgs false
namespace Go.Proofs.YtnmeelkfpmodgaaDoor
open Go.RowKit
def chatelainelaw42_awake (Fu : Nat) : Option Bool :=
  (show_Extents Fu ([(3, 3), (9, 1)])).bind fun x3 => some (decide (x3 = ([51, 45, 53, 32, 57] : List UInt8)))
set_option maxRecDepth 100000 in
set_option maxHeartbeats 2000000 in
theorem chatelainelaw42_awake_ok (Fu : Nat) {S0 : Snap} (hGT : GT S0)  (r : Bool) (hf : chatelainelaw42_awake Fu = some r) (w0 : World) (hm : Mem w0 (ownL ([] ++ [.sn S0])) ([] ++ [.sn S0]) w0) :
    Calls Tryd.prog 6 #[] w0 (Ret w0 S0 [] (fun v L1 S1 => v = .bool r ∧ L1 = [] ∧ True)) := by
  unfold chatelainelaw42_awake at hf
  refine c_enterM Tryd.func6 rfl 6 rfl (by simp) _ hm _ rfl (fun a h => ?_)
  refine c_rs ?_ -- region 0
  refine s_assign h rfl _ rfl rfl (by decide) rfl (fun a h => ?_)
  refine l_end ?_
  refine c_rs ?_ -- region 1
  refine s_x h rfl rfl (by decide) (x_build h.k rfl [(0, .int .i64 3), (1, .int .i64 3)] rfl ([.int .i64 3, .int .i64 3]) (by kernel_rfl)) (fun a h => ?_)
  refine s_x h rfl rfl (by decide) (x_build h.k rfl [(0, .int .i64 9), (1, .int .i64 1)] rfl ([.int .i64 9, .int .i64 1]) (by kernel_rfl)) (fun a h => ?_)
  refine q_bslice (T := tyP tyI tyI) (S := S0) h rfl rfl rfl (by decide) Tryd.underlying29 zi_api_Extent (by decide) (by decide) (by decide) (by decide) [.agg ([.int .i64 3, .int .i64 3]).toArray, .agg ([.int .i64 9, .int .i64 1]).toArray] rfl rfl (C := [[.int .i64 3, .int .i64 3], [.int .i64 9, .int .i64 1]]) rfl (xs := [(3, 3), (9, 1)]) ⟨[.int .i64 3, .int .i64 3], _, rfl, ⟨[.int .i64 3], [.int .i64 3], rfl, ⟨rfl, (show r64 3 from ⟨by decide, by decide⟩)⟩, ⟨rfl, (show r64 3 from ⟨by decide, by decide⟩)⟩⟩, ⟨[.int .i64 9, .int .i64 1], _, rfl, ⟨[.int .i64 9], [.int .i64 1], rfl, ⟨rfl, (show r64 9 from ⟨by decide, by decide⟩)⟩, ⟨rfl, (show r64 1 from ⟨by decide, by decide⟩)⟩⟩, rfl⟩⟩ (by simp only [List.mem_cons, List.not_mem_nil, or_false]; rintro c (rfl | rfl) <;> rfl) (fun a w A1 h => ?_)
  have hb2 : reps (tyP tyI tyI) S0 ([[.int .i64 3, .int .i64 3], [.int .i64 9, .int .i64 1]] : List (List Value)).flatten [(3, 3), (9, 1)] := ⟨[.int .i64 3, .int .i64 3], _, rfl, ⟨[.int .i64 3], [.int .i64 3], rfl, ⟨rfl, (show r64 3 from ⟨by decide, by decide⟩)⟩, ⟨rfl, (show r64 3 from ⟨by decide, by decide⟩)⟩⟩, ⟨[.int .i64 9, .int .i64 1], _, rfl, ⟨[.int .i64 9], [.int .i64 1], rfl, ⟨rfl, (show r64 9 from ⟨by decide, by decide⟩)⟩, ⟨rfl, (show r64 1 from ⟨by decide, by decide⟩)⟩⟩, rfl⟩⟩
  obtain ⟨x3, h4, hf⟩ := bsome hf
  have hX := show_Extents_ok Fu (S0 := snapAll _) (hGT.mono (h.m.leAll (i := 1) rfl)) A1 2 ([(3, 3), (9, 1)]) (h.m.rowAll (i := 0) rfl (j := 1) rfl hb2) _ h4 _ h.startAll
  refine q_callX hX h rfl rfl rfl (by decide) Tryd.func9 rfl rfl rfl (fun a w v L1 S1 hR hb1 h => ?_)
  obtain ⟨rfl, rfl, hr6, _⟩ := hR
  refine s_x h rfl rfl (by decide) (x_eqlStr h.k rfl rfl rfl) (fun a h => ?_)
  refine s_assign h rfl _ rfl rfl (by decide) rfl (fun a h => ?_)
  refine l_end ?_
  refine wp_ret ?_
  obtain rfl := Option.some.inj hf
  exact r_ret1 h rfl (rv_tmp h rfl) ⟨_, [], _, rfl, ⟨rfl, rfl, trivial⟩, rfl, (Up.refl _ _ _), (h.m.pick [1] _ (by decide) rfl)⟩
end Go.Proofs.YtnmeelkfpmodgaaDoor
