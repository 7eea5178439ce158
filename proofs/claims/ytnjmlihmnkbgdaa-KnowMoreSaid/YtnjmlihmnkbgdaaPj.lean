/- Texts put together. -/
import Derived.Test.YtnjmlihmnkbgdaaPm
import Derived.Laws.BitsAllLaws
import Derived.WalkMore
set_option linter.unusedVariables false
set_option linter.unusedSimpArgs false
namespace Go.Proofs.Ytnjmlihmnkbgdaa
open Go.RowKit
section
section
variable {P : Program} {o : Oper} {a : Act} {w : World} {N : Nat} {ρ : Slots} {x y : Operand} {t t' : TypeId}
end
end
section
section
variable {P : Program} {ops : Array Oper} {rest : List Oper} {o : Oper} {Q : Exit → Act → World → Prop} {N : Nat} {w0 w w' : World} {B : Nat → Prop} {ρ ρ' : Slots} {L L' Ls R : List Ch} {a a' : Act} {d : Nat} {u v : Value} {S S0 S' : Snap} {α : Type} {T : Ty α}
/-- a variable that is written no more -/
theorem q_freezeBox {g : Nat} {E : TypeId} {cs : List Value} (h : St N w0 B ρ (.box g E cs :: .sn S :: R) a w) (hu : Up B w0 S0 S) : ∃ S', S.le S' ∧ Up B w0 S0 S' ∧ (∀ w', SnapOK S' w' → w'.rangeAt g 0 cs) ∧ St N w0 B ρ (.sn S' :: R) a w := by
  have hb : w.heap[g]? = some (.cells cs.toArray E (0, 0)) := h.m.ok 0 _ rfl
  obtain ⟨S', h1, h2, h3, h4, h5⟩ := h.m.freeze (fun _ hk => hk)
  refine ⟨S', h1, hu.trans ⟨h1, h2⟩, fun w' hw' j v hv => ?_, h.k, h5⟩
  have := hw' g _ ((h4 g rfl).trans hb)
  simp [World.cell?, this, hv]
/-- '[]T{}' -/
theorem q_bslice0 (h : St N w0 B ρ L a w) (hg : o.guard = none) {t : TypeId} (ho : o.op = .buildSlice t 0 #[]) (hd : o.dst = some d) (hN : d < N) {e : TypeId} (ht : P.underlying t = some (.slice e)) {sz : Nat} (hs : (P.info? e).map (·.size) = some sz)
    (k : ∀ a' w' A, St N w0 B ((d, .slice A 0 0) :: ρ) (.row (.slice A 0 0) e sz 0 [] :: L) a' w' → wpList P ops Q rest a' w') : wpList P ops Q (o :: rest) a w := by
  refine s_of h hg hd hN (v := .slice (some ⟨w.heap.size, 0, none⟩) 0 0) (w' := w.alloc (.cells #[] e)) ?_ (fun a' hk => k a' _ _ ⟨hk, (h.m.alloc (.cells #[] e)).asRow (i := 0) (g := w.heap.size) (E := e) (cs := []) rfl 0 sz (by simp) (by simp [maxLen])⟩)
  simp [execOp, ho, Instr.buildSlice, run_underlying ht, run_size hs, Instr.fill, newRow, newObj, Sem.run]
  have : ((Array.range 0).map (fun (_ : Nat) => (default : Value))) = #[] := by simp [Array.range]
  rw [this]
end
/-! ### left from within -/
section
variable {P : Program} {Q : Exit → Act → World → Prop} {a : Act} {w : World} {R R2 : Act → World → Prop} {id i : Nat}
theorem e_scN (h : Q .normal a w) : Exit.noGoto Q .normal a w := h
def Exit.thenX (R : Act → World → Prop) (id : Nat) (R2 : Act → World → Prop) (Q : Exit → Act → World → Prop) : Exit → Act → World → Prop
  | .normal, a, w => R a w
  | .exit i, a, w => if i = id then R2 a w else Q (.exit i) a w
  | e, a, w => Q e a w
theorem e_xN (h : R a w) : Exit.thenX R id R2 Q .normal a w := h
theorem e_xX (h : R2 a w) : Exit.thenX R id R2 Q (.exit id) a w := by simp only [Exit.thenX, if_true]; exact h
theorem c_finX {x : Code} (R : Act → World → Prop) (id : Nat) (R2 : Act → World → Prop) (h1 : x.wp P (Exit.thenX R id R2 Q) a w) (h2 : ∀ a w, R a w → Q .normal a w) (h3 : ∀ a w, R2 a w → Q (.exit id) a w) : x.wp P Q a w :=
  wp_mono h1 (fun e a w h => by
    cases e with
    | normal => exact h2 _ _ h
    | exit i =>
      simp only [Exit.thenX] at h
      split at h
      · rename_i e; subst e; exact h3 _ _ h
      · exact h
    | _ => exact h)
end
end
end Go.Proofs.Ytnjmlihmnkbgdaa
