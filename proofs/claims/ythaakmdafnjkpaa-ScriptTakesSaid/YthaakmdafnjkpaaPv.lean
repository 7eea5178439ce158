/- Loops that are walked round by round. -/
import Derived.Test.YthaakmdafnjkpaaPk
import Derived.LoopN
namespace Go.Proofs.Ythaakmdafnjkpaa
open Go.RowKit
theorem c_rounds {P : Program} {Q : Exit → Act → World → Prop} {a : Act} {w : World} {c : Code} {n : Nat} (h : c.wp P (Exit.then (Code.rounds P c Q n) Q) a w) : Code.rounds P c Q (n + 1) a w := h
end Go.Proofs.Ythaakmdafnjkpaa
