/- Ea: Go functions as plain functions, and that they are so (written by xt.py). -/
import Derived.Test.YtcjleeclpmgbjaaPm
import Derived.Test.YtcjleeclpmgbjaaTy
import Derived.Test.YtcjleeclpmgbjaaTerm2
set_option linter.unusedVariables false
set_option linter.unusedSimpArgs false
namespace Go.Proofs.Ytcjleeclpmgbjaa
open Go.RowKit
end Go.Proofs.Ytcjleeclpmgbjaa
