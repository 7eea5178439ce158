/- Texts put together. -/
import Derived.Test.YtnmeelkfpmodgaaDoorK
import Derived.Test.YtnmeelkfpmodgaaDoorSpec
import Derived.Test.YtnmeelkfpmodgaaDoorObj
import Derived.Deep.MidRow
import Derived.Deep.RegionHeld3
import Derived.Laws.StructEq
set_option linter.unusedVariables false
set_option linter.unusedSimpArgs false
namespace Go.Proofs.YtnmeelkfpmodgaaDoor
open Go.RowKit
section
section

/-! ### Same: are two lists of bytes one? -/
/-! ### Put -/
end
section

end
end
section
section
variable {P : Program}
/-- one part of a value that is built -/
theorem fill_mid {place : Nat → Option (Nat × Nat)} {i : Nat} {v : Value} {rest : List (Nat × Value)} {off n : Nat} {X Y Z : List Value} (hp : place i = some (off, n)) (hX : X.length = off) (hY : Y.length = n) (hv : v.cells.size = n) :
    Instr.fill place (X ++ Y ++ Z).toArray ((i, v) :: rest) = Instr.fill place (X ++ v.cells.toList ++ Z).toArray rest := by
  have key : ∀ (ys : List Value) (j : Nat) (X Y Z : List Value), Y.length = ys.length → X.length = off + j →
      ((ys.zipIdx j).foldl (fun (cs : Array Value) (p : Value × Nat) => cs.setIfInBounds (off + p.2) p.1) (X ++ Y ++ Z).toArray) = (X ++ ys ++ Z).toArray := by
    intro ys
    induction ys with
    | nil => intro j X Y Z h1 h2; simp at h1; subst h1; simp
    | cons y ys ih =>
      intro j X Y Z h1 h2
      obtain ⟨y0, Y', rfl⟩ : ∃ y0 Y', Y = y0 :: Y' := by cases Y with
        | nil => simp at h1
        | cons a b => exact ⟨a, b, rfl⟩
      simp only [List.zipIdx_cons, List.foldl_cons]
      have hset : (X ++ (y0 :: Y') ++ Z).toArray.setIfInBounds (off + j) y = ((X ++ [y]) ++ Y' ++ Z).toArray := by
        simp only [List.setIfInBounds_toArray]
        congr 1
        rw [← h2]; simp
      rw [hset, ih (j + 1) (X ++ [y]) Y' Z (by simpa using h1) (by simp; omega)]
      simp
  rw [Instr.fill]
  simp only [hp]
  rw [if_neg (by simp; omega)]
  congr 1
  have hcl : v.cells.zipIdx = (v.cells.toList.zipIdx 0).toArray := by
    apply Array.ext'
    rw [Array.toList_zipIdx]
  have := key v.cells.toList 0 X Y Z (by simp; omega) (by omega)
  rw [hcl]
  simpa using this
/-- the row of a type whose values are many cells -/
def Agg (P : Program) (t : TypeId) (n : Nat) : Prop := ∃ d, P.underlying t = some d ∧ d.isRow = true ∧ (P.info? t).map (·.size) = some n
section
variable {ops : Array Oper} {rest : List Oper} {o : Oper} {a : Act} {w : World} {Q : Exit → Act → World → Prop}
/-- store: cells in order -/
theorem st_op (hg : o.guard = none) (t : TypeId) (x y : Operand) (ho : o.op = .store t x y) (b off : Nat) (cs : List Value) (hx : a.eval x = .pointer (some ⟨b, off, none⟩)) (hy : a.eval y = .agg cs.toArray) {n : Nat} (ht : Agg P t n) (hn : cs.length = n)
    (h1 : ∀ v ∈ cs, v.oneCell' = true) (hth : w.there b off n) (h : wpList P ops Q rest (a.put o.dst undef) (w.setCells b off cs)) : wpList P ops Q (o :: rest) a w := by
  obtain ⟨d, _, _, h3⟩ := ht
  refine wpList_store_mid hg t x y ho b off cs.toArray hx hy (by simpa [hn] using hth) (by rw [h3]; simp [hn]) (all_oneCell_toArray h1) ?_
  simpa using h
end
theorem Chg.setCells {w w' : World} {F : Nat → Prop} (h : Chg w w' F) {b : Nat} (hp : F b ∨ w.heap.size ≤ b) : ∀ (cs : List Value) (off : Nat), Chg w (w'.setCells b off cs) F := by
  intro cs
  induction cs generalizing w' with
  | nil => intro off; exact h
  | cons c cs ih => intro off; rw [World.setCells]; exact ih (h.setCell hp c) (off + 1)
end
end
end Go.Proofs.YtnmeelkfpmodgaaDoor
