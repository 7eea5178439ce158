/- Texts put together. -/
import Derived.Test.YtnmeelkfpmodgaaDoorSd
import Derived.Test.YtnmeelkfpmodgaaDoorRg
import Derived.Test.YtnmeelkfpmodgaaDoorPo
import Derived.Test.YtnmeelkfpmodgaaDoorTerm2
import Derived.Test.YtnmeelkfpmodgaaDoorE42D
import Derived.Test.YtnmeelkfpmodgaaDoorE42S
import Derived.Test.YtnmeelkfpmodgaaDoorRn
set_option linter.unusedVariables false
set_option linter.unusedSimpArgs false
namespace Go.Proofs.YtnmeelkfpmodgaaDoor
open Go.RowKit
section

end
section
def val (s : List UInt8) : Nat := s.foldl (fun n b => 10 * n + (b.toNat - 48)) 0
end
end Go.Proofs.YtnmeelkfpmodgaaDoor
