/- Terms: three numbers by value, as keys and as elements. -/
import Derived.Test.YtnmeelkfpmodgaaDoorMap2
import Derived.Test.YtnmeelkfpmodgaaDoorBig
import Derived.DeepKeys3
import Derived.DataBytes
set_option linter.unusedVariables false
set_option linter.unusedSimpArgs false
namespace Go.Proofs.YtnmeelkfpmodgaaDoor
open Go.RowKit
section
variable {P : Program}
end
/-- a term -/
abbrev Tm := Int × Int × Int
def tcs (t : Tm) : List Value := [.int .i64 t.1, .int .i64 t.2.1, .int .i64 t.2.2]
def i64 (n : Int) : Prop := -9223372036854775808 ≤ n ∧ n ≤ 9223372036854775807
def tmOk (t : Tm) : Prop := i64 t.1 ∧ i64 t.2.1 ∧ i64 t.2.2
end Go.Proofs.YtnmeelkfpmodgaaDoor
