/- Views: parts of arrays and of own rows, told lazily, copied from and to; arrays in variables and behind pointers, read and written at an index. -/
import Derived.Test.YtcjleeclpmgbjaaDoorPj
set_option linter.unusedVariables false
set_option linter.unusedSimpArgs false
namespace Go.Proofs.YtcjleeclpmgbjaaDoor
open Go.RowKit
section
variable {α : Type} {T : Ty α} {S S' : Snap}
theorem reps.cut {xs : List α} {cs : List Value} (h1 : T.sz = 1) (hr : reps T S cs xs) (l g : Nat) : reps T S ((cs.take g).drop l) ((xs.take g).drop l) := by
  have := (hr.take g).drop l
  rwa [h1, Nat.mul_one, Nat.mul_one] at this
end
section
variable {P : Program} {ops : Array Oper} {rest : List Oper} {o : Oper} {Q : Exit → Act → World → Prop} {N : Nat} {w0 w w' : World} {B : Nat → Prop} {ρ ρ' : Slots} {L L' Ls R : List Ch} {a a' : Act} {d : Nat} {u v : Value} {S S0 S' : Snap} {α : Type} {T : Ty α}
theorem Rd.sA {A : Option Addr} {c l g sz : Nat} {cs : List Value} (h : Rd w A cs) (h1 : sz = 1) (hg : g ≤ c) : Rd w (sA A c l sz) ((cs.take g).drop l) := by
  have k := (h.take g).tail l c (by rw [List.length_take]; omega)
  subst h1
  unfold Go.Proofs.YtcjleeclpmgbjaaDoor.sA
  rw [Nat.mul_one]
  exact k
end
end Go.Proofs.YtcjleeclpmgbjaaDoor
