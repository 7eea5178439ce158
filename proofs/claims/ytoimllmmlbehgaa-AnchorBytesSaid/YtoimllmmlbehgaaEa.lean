/- Ea: Go functions as plain functions, and that they are so (written by xt.py). -/
import Derived.Test.YtoimllmmlbehgaaPm
import Derived.Test.YtoimllmmlbehgaaTy
import Derived.Test.YtoimllmmlbehgaaTerm2
set_option linter.unusedVariables false
set_option linter.unusedSimpArgs false
namespace Go.Proofs.Ytoimllmmlbehgaa
open Go.RowKit
end Go.Proofs.Ytoimllmmlbehgaa
