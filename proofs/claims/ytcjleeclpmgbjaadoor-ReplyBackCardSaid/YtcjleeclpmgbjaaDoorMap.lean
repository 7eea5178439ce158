/- Maps: a map of one's own is a part; its content is a list of pairs. -/
import Derived.Test.YtcjleeclpmgbjaaDoorCall
import Derived.MapKept
set_option linter.unusedVariables false
set_option linter.unusedSimpArgs false
namespace Go.Proofs.YtcjleeclpmgbjaaDoor
open Go.RowKit

/-- keys that are compared by what they hold -/
structure KeyD (P : Program) (k : TypeId) (κ : Type) [DecidableEq κ] where
  kv : κ → Value
  ok : κ → Prop
  eq : ∀ (w : World) {x y : κ}, ok x → ok y → (Op.equal k (kv x) (kv y)).run P w = .ok (decide (x = y)) w
  check : ∀ (w : World) (b : Bool) {x : κ}, ok x → (Instr.checkKey b 10000 k (kv x)).run P w = .ok () w
  same : ∀ {x : κ}, ok x → Instr.sameBits 10000 (kv x) (kv x) = true
  find : ∀ (w : World) (x : κ) (es : List MapEntry), (Instr.findKey k (kv x) es).run P w = (Instr.findAsking k (kv x) es).run P w
section
variable {κ : Type} [DecidableEq κ]
/-- a pair is set -/
def setP (x : κ) (v : Value) : List (κ × Value) → List (κ × Value)
  | [] => [(x, v)]
  | p :: ps => if p.1 = x then (x, v) :: ps else p :: setP x v ps
variable {P : Program} {k : TypeId}
/-- a map's entries hold these pairs -/
def KeyD.Is (D : KeyD P k κ) (es : List MapEntry) (ps : List (κ × Value)) : Prop := es.map (fun e => (e.key, e.val)) = ps.map (fun p => (D.kv p.1, p.2)) ∧ ∀ p ∈ ps, D.ok p.1
variable {ops : Array Oper} {Q : Exit → Act → World → Prop} {rest : List Oper} {o : Oper} {N d : Nat} {w0 w w' : World} {B : Nat → Prop} {ρ : Slots} {L L' : List Ch} {a : Act} {v : Value}
end
end Go.Proofs.YtcjleeclpmgbjaaDoor
