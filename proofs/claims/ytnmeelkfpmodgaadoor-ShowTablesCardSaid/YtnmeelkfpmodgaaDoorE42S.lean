/- Words of a text: split at spaces, joined; cut at a dash. -/
import Derived.Test.YtnmeelkfpmodgaaDoorSa
import Derived.Test.YtnmeelkfpmodgaaDoorJn
import Derived.Test.YtnmeelkfpmodgaaDoorLp
import Derived.Lib.SplitLaws
set_option linter.unusedVariables false
set_option linter.unusedSimpArgs false
namespace Go.Proofs.YtnmeelkfpmodgaaDoor
open Go.RowKit
theorem joinC (Fu : Nat) (ws : List (List UInt8)) (c : UInt8) (h1 : ws.length ≤ 100000) (h2 : (Lib.join ws [c]).length ≤ 1000000) : strings_Join Fu ws [c] = some (Lib.join ws [c]) := by
  unfold strings_Join; rw [if_pos (by omega)]
theorem join_len (c : UInt8) : ∀ ws : List (List UInt8), (Lib.join ws [c]).length ≤ (ws.map fun w => w.length + 1).sum
  | [] => by simp [Lib.join]
  | w :: r => by
    rw [Lib.join_cons]
    unfold Lib.joinTail
    simp only [List.length_append, List.length_flatten, List.map_map, List.map_cons, List.sum_cons]
    have : (r.map (List.length ∘ ([c] ++ ·))).sum = (r.map fun w => w.length + 1).sum := by
      refine congrArg List.sum (List.map_congr_left fun x _ => ?_)
      simp [Nat.add_comm]
    rw [this]; omega
end Go.Proofs.YtnmeelkfpmodgaaDoor
