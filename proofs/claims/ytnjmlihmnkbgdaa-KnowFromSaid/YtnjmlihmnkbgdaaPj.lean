/- Texts put together. -/
import Derived.Test.YtnjmlihmnkbgdaaPm
import Derived.Laws.BitsAllLaws
import Derived.WalkMore
set_option linter.unusedVariables false
set_option linter.unusedSimpArgs false
namespace Go.Proofs.Ytnjmlihmnkbgdaa
open Go.RowKit
section
section
variable {P : Program} {o : Oper} {a : Act} {w : World} {N : Nat} {ρ : Slots} {x y : Operand} {t t' : TypeId}
end
end
section
section
variable {P : Program} {ops : Array Oper} {rest : List Oper} {o : Oper} {Q : Exit → Act → World → Prop} {N : Nat} {w0 w w' : World} {B : Nat → Prop} {ρ ρ' : Slots} {L L' Ls R : List Ch} {a a' : Act} {d : Nat} {u v : Value} {S S0 S' : Snap} {α : Type} {T : Ty α}
end
/-! ### left from within -/
section
variable {P : Program} {Q : Exit → Act → World → Prop} {a : Act} {w : World} {R R2 : Act → World → Prop} {id i : Nat}
theorem e_scN (h : Q .normal a w) : Exit.noGoto Q .normal a w := h
def Exit.thenX (R : Act → World → Prop) (id : Nat) (R2 : Act → World → Prop) (Q : Exit → Act → World → Prop) : Exit → Act → World → Prop
  | .normal, a, w => R a w
  | .exit i, a, w => if i = id then R2 a w else Q (.exit i) a w
  | e, a, w => Q e a w
theorem e_xN (h : R a w) : Exit.thenX R id R2 Q .normal a w := h
theorem e_xX (h : R2 a w) : Exit.thenX R id R2 Q (.exit id) a w := by simp only [Exit.thenX, if_true]; exact h
theorem c_finX {x : Code} (R : Act → World → Prop) (id : Nat) (R2 : Act → World → Prop) (h1 : x.wp P (Exit.thenX R id R2 Q) a w) (h2 : ∀ a w, R a w → Q .normal a w) (h3 : ∀ a w, R2 a w → Q (.exit id) a w) : x.wp P Q a w :=
  wp_mono h1 (fun e a w h => by
    cases e with
    | normal => exact h2 _ _ h
    | exit i =>
      simp only [Exit.thenX] at h
      split at h
      · rename_i e; subst e; exact h3 _ _ h
      · exact h
    | _ => exact h)
end
end
end Go.Proofs.Ytnjmlihmnkbgdaa
