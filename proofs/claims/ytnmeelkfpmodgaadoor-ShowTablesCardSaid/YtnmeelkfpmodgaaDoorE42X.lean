/- Texts put together. -/
import Derived.Test.YtnmeelkfpmodgaaDoorPm
import Derived.Test.YtnmeelkfpmodgaaDoorTy
import Derived.Test.YtnmeelkfpmodgaaDoorTerm2
import Derived.Test.YtnmeelkfpmodgaaDoorSd
import Derived.Test.YtnmeelkfpmodgaaDoorBd
import Derived.Test.YtnmeelkfpmodgaaDoorPo
import Derived.Test.YtnmeelkfpmodgaaDoorE42P
set_option linter.unusedVariables false
set_option linter.unusedSimpArgs false
namespace Go.Proofs.YtnmeelkfpmodgaaDoor
open Go.RowKit
section
section
section
section
section

end
section

end
end
section

end
end
section

end
end
section

end
end
section
theorem wStr (Fu : Nat) (b : Bool) (acc t : List UInt8) (h : acc.length + t.length ≤ 1000000) : strings_Builder_WriteString Fu (b, acc) t = some ((t.length : Int), (true, acc ++ t)) := by
  unfold strings_Builder_WriteString strings_Builder_copyCheck
  simp only [Option.bind_some]
  rw [appk 1 _ _ (by omega) h]; rfl
theorem wByt42 (Fu : Nat) (b : Bool) (acc : List UInt8) (x : UInt8) (h : acc.length ≤ 900000) : strings_Builder_WriteByte Fu (b, acc) x = some (true, acc ++ [x]) := by
  unfold strings_Builder_WriteByte strings_Builder_copyCheck
  simp only [Option.bind_some]
  rw [appk 1 _ _ (by omega) (by simp; omega)]; rfl
/-! sectors that have something -/
/-! bytes as two letters each -/
def hxs : List UInt8 := [48, 49, 50, 51, 52, 53, 54, 55, 56, 57, 97, 98, 99, 100, 101, 102]
/-! tenants and spaces as lines -/
end
end Go.Proofs.YtnmeelkfpmodgaaDoor
