/- Further steps: a part of a variable is stored; variables that are written no more; cuts of arrays; slices held against nil; loops left from within. -/
import Derived.Test.YtcjleeclpmgbjaaDoorPi
import Derived.WalkMore
set_option linter.unusedVariables false
set_option linter.unusedSimpArgs false
namespace Go.Proofs.YtcjleeclpmgbjaaDoor
open Go.RowKit
theorem run_eqlIn_SN {P : Program} (w : World) (d : Nat) (t e : TypeId) (a : Option Addr) (n c : Nat) (h : P.underlying t = some (.slice e)) : (Op.equalIn (d + 1) t (.slice a n c) (.slice none 0 0)).run P w = .ok a.isNone w := by
  cases a <;> simp [Op.equalIn, run_underlying h]
section
variable {P : Program} {ops : Array Oper} {rest : List Oper} {o : Oper} {Q : Exit → Act → World → Prop} {N : Nat} {w0 w w' : World} {B : Nat → Prop} {ρ ρ' : Slots} {L L' Ls R : List Ch} {a a' : Act} {d : Nat} {u v : Value} {S S0 S' : Snap} {α : Type} {T : Ty α}
theorem slS.none_nil {c : Nat} {xs : List α} (k : slS T S none c xs) (hw : SnapOK S w) (hs : 0 < T.sz) : xs = [] := by
  obtain ⟨_, _, vs, h1, h2⟩ := k
  have hl := h2.len
  cases xs with
  | nil => rfl
  | cons x xs =>
    rw [List.length_cons, Nat.add_mul] at hl
    obtain ⟨ad, e, _⟩ := h1 w hw 0 vs[0] (List.getElem?_eq_getElem (by omega))
    cases e
theorem x_eqlSN (h : Knows N ρ a) {x y : Operand} {t t' : TypeId} (ho : o.op = .binOp .eql t x y t') {e : TypeId} (ht : P.underlying t = some (.slice e)) {A : Option Addr} {n c : Nat} (hx : ev ρ x = some (.slice A n c)) (hy : ev ρ y = some (.slice none 0 0)) : (execOp a.eval o).run P w = .ok (.value (.bool A.isNone)) w := by
  have he : (eqGuard .eql t x y (.slice A n c) (.slice none 0 0)).run P w = .ok () w := rfl
  have hq : (Op.equal t (.slice A n c) (.slice none 0 0)).run P w = .ok A.isNone w := by
    exact run_eqlIn_SN w 9999 t e A n c ht
  simp [execOp, ho, h.eval hx, h.eval hy, he, binOp, hq, Result.andThen]
theorem x_eqlSNn (h : Knows N ρ a) {x y : Operand} {t t' : TypeId} (ho : o.op = .binOp .eql t x y t') {e : TypeId} (ht : P.underlying t = some (.slice e)) {n c : Nat} (hx : ev ρ x = some (.slice none n c)) (hy : ev ρ y = some (.slice none 0 0)) : (execOp a.eval o).run P w = .ok (.value (.bool true)) w := x_eqlSN h ho ht hx hy
theorem x_eqlSNs (h : Knows N ρ a) {x y : Operand} {t t' : TypeId} (ho : o.op = .binOp .eql t x y t') {e : TypeId} (ht : P.underlying t = some (.slice e)) {ad : Addr} {n c : Nat} (hx : ev ρ x = some (.slice (some ad) n c)) (hy : ev ρ y = some (.slice none 0 0)) : (execOp a.eval o).run P w = .ok (.value (.bool false)) w := x_eqlSN h ho ht hx hy
/-- '[]T{}' -/
theorem q_bslice0 (h : St N w0 B ρ L a w) (hg : o.guard = none) {t : TypeId} (ho : o.op = .buildSlice t 0 #[]) (hd : o.dst = some d) (hN : d < N) {e : TypeId} (ht : P.underlying t = some (.slice e)) {sz : Nat} (hs : (P.info? e).map (·.size) = some sz)
    (k : ∀ a' w' A, St N w0 B ((d, .slice A 0 0) :: ρ) (.row (.slice A 0 0) e sz 0 [] :: L) a' w' → wpList P ops Q rest a' w') : wpList P ops Q (o :: rest) a w := by
  refine s_of h hg hd hN (v := .slice (some ⟨w.heap.size, 0, none⟩) 0 0) (w' := w.alloc (.cells #[] e)) ?_ (fun a' hk => k a' _ _ ⟨hk, (h.m.alloc (.cells #[] e)).asRow (i := 0) (g := w.heap.size) (E := e) (cs := []) rfl 0 sz (by simp) (by simp [maxLen])⟩)
  simp [execOp, ho, Instr.buildSlice, run_underlying ht, run_size hs, Instr.fill, newRow, newObj, Sem.run]
  have : ((Array.range 0).map (fun (_ : Nat) => (default : Value))) = #[] := by simp [Array.range]
  rw [this]
end
/-! ### left from within -/
section
variable {P : Program} {Q : Exit → Act → World → Prop} {a : Act} {w : World} {R R2 : Act → World → Prop} {id i : Nat}
end
end Go.Proofs.YtcjleeclpmgbjaaDoor
