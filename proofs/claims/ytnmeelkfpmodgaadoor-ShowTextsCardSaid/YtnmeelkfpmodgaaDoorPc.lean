/- Calls of function values: closures and bound methods. -/
import Derived.Test.YtnmeelkfpmodgaaDoorPk
import Derived.ScopeJumps
set_option linter.unusedVariables false
set_option linter.unusedSimpArgs false
namespace Go.Proofs.YtnmeelkfpmodgaaDoor
open Go.RowKit
section
variable {P : Program} {ops : Array Oper} {rest : List Oper} {o : Oper} {Q : Exit → Act → World → Prop} {N : Nat} {w0 w w' : World} {B : Nat → Prop} {ρ ρ' : Slots} {L L' Ls R : List Ch} {a a' : Act} {d : Nat} {u v : Value} {S S0 S' : Snap}
theorem reps8 {S : Snap} : ∀ {xs : List UInt8} {cs : List Value}, reps ty8 S cs xs → cs = by8 xs
  | [], cs, h => h
  | x :: xs, cs, h => by
    obtain ⟨c, ds, e, h1, h2⟩ := h
    subst e
    rw [reps8 h2, show c = _ from h1]
    rfl
theorem x_neqA8 (h : Knows N ρ a) {x y : Operand} {t t' : TypeId} (ho : o.op = .binOp .neq t x y t') {n : Nat} {e : TypeId} (ht : P.underlying t = some (.array n e)) (he : P.underlying e = some (.int .u8)) (hs : (P.info? e).map (·.size) = some 1) (hq : P.eqGuardType P.depth t = false)
    {X Y : List Value} (hx : ev ρ x = some (.agg X.toArray)) (hy : ev ρ y = some (.agg Y.toArray)) {xs ys : List UInt8} (rx : reps ty8 S X xs) (ry : reps ty8 S Y ys) (hlx : xs.length = n) (hly : ys.length = n) : (execOp a.eval o).run P w = .ok (.value (.bool (!decide (xs = ys)))) w := by
  cases reps8 rx; cases reps8 ry
  exact x_neA h ho ht he hs hq hx hy hlx hly
theorem cell_midE {cs X c Z : List Value} {off m : Nat} {u : Value} (e : cs = X ++ (c ++ Z)) (hX : X.length = off) (h : c[m]? = some u) : cs[off + m]? = some u := by
  subst e
  exact cell_mid hX h
theorem cell_oneE {cs X Z : List Value} {off : Nat} {u : Value} (e : cs = X ++ ([u] ++ Z)) (hX : X.length = off) : cs[off]? = some u := by
  subst e hX
  simp
theorem Mem.rangeMid (h : Mem w0 B L w) {i g off : Nat} {E : TypeId} {cs X Y Z : List Value} (hi : L[i]? = some (.box g E cs)) (e : cs = X ++ (Y ++ Z)) (hX : X.length = off) : w.rangeAt g off Y := fun j v hv => by
  subst e hX
  rw [h.cell hi, List.getElem?_append_right (by omega), Nat.add_sub_cancel_left, List.getElem?_append_left (List.getElem?_eq_some_iff.1 hv).1]
  exact hv
end
end Go.Proofs.YtnmeelkfpmodgaaDoor
