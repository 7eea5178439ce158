/- Calls of function values: closures and bound methods. -/
import Derived.Test.YtcjleeclpmgbjaaDoorPk
import Derived.ScopeJumps
set_option linter.unusedVariables false
set_option linter.unusedSimpArgs false
namespace Go.Proofs.YtcjleeclpmgbjaaDoor
open Go.RowKit
section
variable {P : Program} {ops : Array Oper} {rest : List Oper} {o : Oper} {Q : Exit → Act → World → Prop} {N : Nat} {w0 w w' : World} {B : Nat → Prop} {ρ ρ' : Slots} {L L' Ls R : List Ch} {a a' : Act} {d : Nat} {u v : Value} {S S0 S' : Snap}
theorem reps8 {S : Snap} : ∀ {xs : List UInt8} {cs : List Value}, reps ty8 S cs xs → cs = by8 xs
  | [], cs, h => h
  | x :: xs, cs, h => by
    obtain ⟨c, ds, e, h1, h2⟩ := h
    subst e
    rw [reps8 h2, show c = _ from h1]
    rfl
end
end Go.Proofs.YtcjleeclpmgbjaaDoor
