/- Texts put together. -/
import Derived.Test.YtcjleeclpmgbjaaDoorPc
import Derived.Test.YtcjleeclpmgbjaaDoorFi
set_option linter.unusedVariables false
set_option linter.unusedSimpArgs false
namespace Go.Proofs.YtcjleeclpmgbjaaDoor
open Go.RowKit
section

end
section
def bytes_Equal (Fu : Nat) (a0 : List UInt8) (a1 : List UInt8) : Option Bool :=
  some (decide (a0 = a1))
set_option maxRecDepth 100000 in
set_option maxHeartbeats 2000000 in
theorem bytes_Equal_ok (Fu : Nat) {S0 : Snap} (Aa0 : Option Addr) (ca0 : Nat) (a0 : List UInt8) (hsa0 : slS ty8 S0 Aa0 ca0 a0) (Aa1 : Option Addr) (ca1 : Nat) (a1 : List UInt8) (hsa1 : slS ty8 S0 Aa1 ca1 a1) (r : Bool) (hf : bytes_Equal Fu a0 a1 = some r) (w0 : World) (hm : Mem w0 (ownL ([] ++ [.sn S0])) ([] ++ [.sn S0]) w0) :
    Calls Tryd.prog 27 #[.slice Aa0 a0.length ca0, .slice Aa1 a1.length ca1] w0 (Ret w0 S0 [] (fun v L1 S1 => v = .bool r ∧ L1 = [] ∧ True)) := by
  unfold bytes_Equal at hf
  refine c_enterM Tryd.func27 rfl 10 rfl (by simp) _ hm _ rfl (fun a h => ?_)
  refine c_rs ?_ -- region 0
  refine s_assign h rfl _ rfl rfl (by decide) rfl (fun a h => ?_)
  refine l_end ?_
  refine c_rs ?_ -- region 1
  refine s_move h rfl _ rfl rfl (by decide) rfl (fun a h => ?_)
  obtain ⟨_, _, vs1, hrd2, hrp3⟩ := id hsa0
  refine s_x h rfl rfl (by decide) (x_convBS (S := S0) h.k rfl Tryd.underlying23 Tryd.underlying5 Tryd.underlying9 rfl hrp3 (hrd2 _ (h.m.snOK (i := 0) rfl))) (fun a h => ?_)
  refine s_move h rfl _ rfl rfl (by decide) rfl (fun a h => ?_)
  obtain ⟨_, _, vs4, hrd5, hrp6⟩ := id hsa1
  refine s_x h rfl rfl (by decide) (x_convBS (S := S0) h.k rfl Tryd.underlying23 Tryd.underlying5 Tryd.underlying9 rfl hrp6 (hrd5 _ (h.m.snOK (i := 0) rfl))) (fun a h => ?_)
  refine s_x h rfl rfl (by decide) (x_eqlStr h.k rfl rfl rfl) (fun a h => ?_)
  refine s_assign h rfl _ rfl rfl (by decide) rfl (fun a h => ?_)
  refine l_end ?_
  refine wp_ret ?_
  obtain rfl := Option.some.inj hf
  exact r_ret1 h rfl (rv_tmp h rfl) ⟨_, [], _, rfl, ⟨rfl, rfl, trivial⟩, rfl, (Up.refl _ _ _), h.m⟩
end
end Go.Proofs.YtcjleeclpmgbjaaDoor
