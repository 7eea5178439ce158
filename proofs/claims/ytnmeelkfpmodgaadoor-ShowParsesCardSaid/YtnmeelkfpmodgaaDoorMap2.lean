/- Texts put together. -/
import Derived.Test.YtnmeelkfpmodgaaDoorCall
import Derived.MapKept
set_option linter.unusedVariables false
set_option linter.unusedSimpArgs false
namespace Go.Proofs.YtnmeelkfpmodgaaDoor
open Go.RowKit
section

/-- keys that are compared by what they hold -/
structure KeyD (P : Program) (k : TypeId) (κ : Type) [DecidableEq κ] where
  kv : κ → Value
  ok : κ → Prop
  eq : ∀ (w : World) {x y : κ}, ok x → ok y → (Op.equal k (kv x) (kv y)).run P w = .ok (decide (x = y)) w
  check : ∀ (w : World) (b : Bool) {x : κ}, ok x → (Instr.checkKey b 10000 k (kv x)).run P w = .ok () w
  same : ∀ {x : κ}, ok x → Instr.sameBits 10000 (kv x) (kv x) = true
  find : ∀ (w : World) (x : κ) (es : List MapEntry), (Instr.findKey k (kv x) es).run P w = (Instr.findAsking k (kv x) es).run P w
section
variable {κ : Type} [DecidableEq κ]
/-- a pair is set -/
def setP (x : κ) (v : Value) : List (κ × Value) → List (κ × Value)
  | [] => [(x, v)]
  | p :: ps => if p.1 = x then (x, v) :: ps else p :: setP x v ps
variable {P : Program} {k : TypeId}
/-- a map's entries hold these pairs -/
def KeyD.Is (D : KeyD P k κ) (es : List MapEntry) (ps : List (κ × Value)) : Prop := es.map (fun e => (e.key, e.val)) = ps.map (fun p => (D.kv p.1, p.2)) ∧ ∀ p ∈ ps, D.ok p.1
variable {ops : Array Oper} {Q : Exit → Act → World → Prop} {rest : List Oper} {o : Oper} {N d : Nat} {w0 w w' : World} {B : Nat → Prop} {ρ : Slots} {L L' : List Ch} {a : Act} {v : Value}
end
end
section
section
variable {κ : Type} [DecidableEq κ]
/-- what stands under a key -/
def getP (x : κ) : List (κ × Value) → Option Value
  | [] => none
  | p :: ps => if p.1 = x then some p.2 else getP x ps
variable {P : Program} {k : TypeId}
theorem KeyD.get (D : KeyD P k κ) (w : World) {x : κ} (hx : D.ok x) : ∀ (es : List MapEntry) (ps : List (κ × Value)) (i : Nat), D.Is es ps →
    (getP x ps = none ∧ (Instr.findAsking k (D.kv x) es i).run P w = .ok none w) ∨ (∃ j v, getP x ps = some v ∧ (Instr.findAsking k (D.kv x) es i).run P w = .ok (some (j, v)) w)
  | [], [], i, _ => .inl ⟨rfl, rfl⟩
  | [], p :: ps, i, h => by have := congrArg List.length h.1; simp at this
  | e :: es, [], i, h => by have := congrArg List.length h.1; simp at this
  | e :: es, p :: ps, i, h => by
    obtain ⟨h1, h2⟩ := h
    simp only [List.map_cons, List.cons.injEq, Prod.mk.injEq] at h1
    have hp := h2 p (List.mem_cons_self ..)
    have he : (Op.equal k (D.kv x) e.key).run P w = .ok (decide (x = p.1)) w := by rw [h1.1.1]; exact D.eq w hx hp
    by_cases hxp : x = p.1
    · have he' : (Op.equal k (D.kv x) e.key).run P w = .ok true w := by rw [he, decide_eq_true hxp]
      refine .inr ⟨i, p.2, by unfold getP; rw [if_pos hxp.symm], ?_⟩
      simp [Instr.findAsking, he', Result.andThen, h1.1.2]
    · have he' : (Op.equal k (D.kv x) e.key).run P w = .ok false w := by rw [he, decide_eq_false hxp]
      have hg : getP x (p :: ps) = getP x ps := by rw [getP, if_neg (fun e => hxp e.symm)]
      rcases D.get w hx es ps (i + 1) ⟨h1.2, fun q hq => h2 q (List.mem_cons_of_mem _ hq)⟩ with ⟨a1, a2⟩ | ⟨j, v, a1, a2⟩
      · exact .inl ⟨by rw [hg, a1], by simp [Instr.findAsking, he', Result.andThen, a2]⟩
      · exact .inr ⟨j, v, by rw [hg, a1], by simp [Instr.findAsking, he', Result.andThen, a2]⟩
variable {ops : Array Oper} {Q : Exit → Act → World → Prop} {rest : List Oper} {o : Oper} {N d : Nat} {w0 w w' : World} {B : Nat → Prop} {ρ : Slots} {L L' : List Ch} {a : Act} {v : Value}
end
end
end Go.Proofs.YtnmeelkfpmodgaaDoor
