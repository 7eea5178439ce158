/- Ea: Go functions as plain functions, and that they are so (written by xt.py). -/
import Derived.Test.YthaakmdafnjkpaaPm
import Derived.Test.YthaakmdafnjkpaaTy
import Derived.Test.YthaakmdafnjkpaaTerm2
set_option linter.unusedVariables false
set_option linter.unusedSimpArgs false
namespace Go.Proofs.Ythaakmdafnjkpaa
open Go.RowKit
end Go.Proofs.Ythaakmdafnjkpaa
