/- Texts put together. -/
import Derived.Test.YtnmeelkfpmodgaaDoorE42N
import Derived.Test.YtnmeelkfpmodgaaDoorPo
import Derived.Test.YtnmeelkfpmodgaaDoorE42E
set_option linter.unusedVariables false
set_option linter.unusedSimpArgs false
namespace Go.Proofs.YtnmeelkfpmodgaaDoor
open Go.RowKit
section

end
section
theorem awake42 : chatelainelaw42_awake 2000 = some true := by
  unfold chatelainelaw42_awake
  rw [cExt 2000 _ (by simp) (by omega)]
  simp only [Option.bind_some]
  congr 1
  have e : exT [(3, 3), (9, 1)] = ([51, 45, 53, 32, 57] : List UInt8) := by
    have e3 : Lib.itoa 3 = [51] := by rw [show (3 : Int) = ((3 : Nat) : Int) from rfl, itoa_nat, Lib.decDigits_one (by omega)]; rfl
    have e5 : Lib.itoa 5 = [53] := by rw [show (5 : Int) = ((5 : Nat) : Int) from rfl, itoa_nat, Lib.decDigits_one (by omega)]; rfl
    have e9 : Lib.itoa 9 = [57] := by rw [show (9 : Int) = ((9 : Nat) : Int) from rfl, itoa_nat, Lib.decDigits_one (by omega)]; rfl
    unfold exT
    rw [show ([(3, 3), (9, 1)] : List (Int × Int)).filter mayB = [(3, 3), (9, 1)] by decide]
    simp only [List.map_cons, List.map_nil, exW]
    rw [show (3 : Int) + 3 - 1 = 5 by decide, e3, e5, e9]
    rfl
  rw [e]; rfl
end
end Go.Proofs.YtnmeelkfpmodgaaDoor
