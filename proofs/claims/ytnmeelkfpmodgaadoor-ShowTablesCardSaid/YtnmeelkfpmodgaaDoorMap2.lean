/- Maps: looking up; keys of three numbers. -/
import Derived.Test.YtnmeelkfpmodgaaDoorMap
set_option linter.unusedVariables false
set_option linter.unusedSimpArgs false
namespace Go.Proofs.YtnmeelkfpmodgaaDoor
open Go.RowKit
section
variable {κ : Type} [DecidableEq κ]
/-- what stands under a key -/
def getP (x : κ) : List (κ × Value) → Option Value
  | [] => none
  | p :: ps => if p.1 = x then some p.2 else getP x ps
variable {P : Program} {k : TypeId}
theorem KeyD.get (D : KeyD P k κ) (w : World) {x : κ} (hx : D.ok x) : ∀ (es : List MapEntry) (ps : List (κ × Value)) (i : Nat), D.Is es ps →
    (getP x ps = none ∧ (Instr.findAsking k (D.kv x) es i).run P w = .ok none w) ∨ (∃ j v, getP x ps = some v ∧ (Instr.findAsking k (D.kv x) es i).run P w = .ok (some (j, v)) w)
  | [], [], i, _ => .inl ⟨rfl, rfl⟩
  | [], p :: ps, i, h => by have := congrArg List.length h.1; simp at this
  | e :: es, [], i, h => by have := congrArg List.length h.1; simp at this
  | e :: es, p :: ps, i, h => by
    obtain ⟨h1, h2⟩ := h
    simp only [List.map_cons, List.cons.injEq, Prod.mk.injEq] at h1
    have hp := h2 p (List.mem_cons_self ..)
    have he : (Op.equal k (D.kv x) e.key).run P w = .ok (decide (x = p.1)) w := by rw [h1.1.1]; exact D.eq w hx hp
    by_cases hxp : x = p.1
    · have he' : (Op.equal k (D.kv x) e.key).run P w = .ok true w := by rw [he, decide_eq_true hxp]
      refine .inr ⟨i, p.2, by unfold getP; rw [if_pos hxp.symm], ?_⟩
      simp [Instr.findAsking, he', Result.andThen, h1.1.2]
    · have he' : (Op.equal k (D.kv x) e.key).run P w = .ok false w := by rw [he, decide_eq_false hxp]
      have hg : getP x (p :: ps) = getP x ps := by rw [getP, if_neg (fun e => hxp e.symm)]
      rcases D.get w hx es ps (i + 1) ⟨h1.2, fun q hq => h2 q (List.mem_cons_of_mem _ hq)⟩ with ⟨a1, a2⟩ | ⟨j, v, a1, a2⟩
      · exact .inl ⟨by rw [hg, a1], by simp [Instr.findAsking, he', Result.andThen, a2]⟩
      · exact .inr ⟨j, v, by rw [hg, a1], by simp [Instr.findAsking, he', Result.andThen, a2]⟩
variable {ops : Array Oper} {Q : Exit → Act → World → Prop} {rest : List Oper} {o : Oper} {N d : Nat} {w0 w w' : World} {B : Nat → Prop} {ρ : Slots} {L L' : List Ch} {a : Act} {v : Value}
/-- what a look-up yields -/
def lookV (z : Value) (ok : Bool) (r : Option Value) : Value := if ok then .tuple #[r.getD z, .bool r.isSome] else r.getD z
theorem x_look (h : Knows N ρ a) {m y : Operand} {t : TypeId} {ok : Bool} (ho : o.op = .lookup t m y ok) {e : TypeId} (ht : P.underlying t = some (.map k e)) {g : Nat} (hm : ev ρ m = some (.map (some g))) {es : Array MapEntry} {cl : Nat} (hb : w.heap[g]? = some (.map es cl)) (D : KeyD P k κ) {ps : List (κ × Value)} (hD : D.Is es.toList ps)
    {x : κ} (hx : D.ok x) (hy : ev ρ y = some (D.kv x)) {z : Value} (hz : (zeroValue e).run P w = .ok z w) : (execOp a.eval o).run P w = .ok (.value (lookV z ok (getP x ps))) w := by
  rcases D.get w hx es.toList ps 0 hD with ⟨h1, h2⟩ | ⟨j, v, h1, h2⟩
  · cases ok <;> simp [execOp, ho, h.eval hm, h.eval hy, Instr.lookup, run_underlying ht, MapKept.run_getObj_map hb, D.check w _ hx, D.find, h2, hz, Result.andThen, lookV, h1]
  · cases ok <;> simp [execOp, ho, h.eval hm, h.eval hy, Instr.lookup, run_underlying ht, MapKept.run_getObj_map hb, D.check w _ hx, D.find, h2, Result.andThen, lookV, h1]
end
end Go.Proofs.YtnmeelkfpmodgaaDoor
