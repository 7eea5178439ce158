/- A pure call's contract out of 'Below'. -/
import Derived.Test.YtnmeelkfpmodgaaDoorPc
set_option linter.unusedVariables false
namespace Go.Proofs.YtnmeelkfpmodgaaDoor
open Go.RowKit
theorem ret_below {w0 w' : World} {S0 : Snap} {Rs : Value → List Ch → Snap → Prop} {e : Ending} {v : Value} (hm : Mem w0 (ownL ([] ++ [.sn S0])) ([] ++ [.sn S0]) w0) (he : e = .returned v) (hb : Below w0.heap.size w0 w') (hR : Rs v [] S0) : Ret w0 S0 [] Rs e w' :=
  ⟨v, [], S0, he, hR, rfl, Up.refl _ _ _, hm.ext hb⟩
end Go.Proofs.YtnmeelkfpmodgaaDoor
