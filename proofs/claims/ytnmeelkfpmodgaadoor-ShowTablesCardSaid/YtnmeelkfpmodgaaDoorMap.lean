/- Maps: a map of one's own is a part; its content is a list of pairs. -/
import Derived.Test.YtnmeelkfpmodgaaDoorCall
import Derived.MapKept
set_option linter.unusedVariables false
set_option linter.unusedSimpArgs false
namespace Go.Proofs.YtnmeelkfpmodgaaDoor
open Go.RowKit

/-- keys that are compared by what they hold -/
structure KeyD (P : Program) (k : TypeId) (κ : Type) [DecidableEq κ] where
  kv : κ → Value
  ok : κ → Prop
  eq : ∀ (w : World) {x y : κ}, ok x → ok y → (Op.equal k (kv x) (kv y)).run P w = .ok (decide (x = y)) w
  check : ∀ (w : World) (b : Bool) {x : κ}, ok x → (Instr.checkKey b 10000 k (kv x)).run P w = .ok () w
  same : ∀ {x : κ}, ok x → Instr.sameBits 10000 (kv x) (kv x) = true
  find : ∀ (w : World) (x : κ) (es : List MapEntry), (Instr.findKey k (kv x) es).run P w = (Instr.findAsking k (kv x) es).run P w
section
variable {κ : Type} [DecidableEq κ]
/-- a pair is set -/
def setP (x : κ) (v : Value) : List (κ × Value) → List (κ × Value)
  | [] => [(x, v)]
  | p :: ps => if p.1 = x then (x, v) :: ps else p :: setP x v ps
theorem setP_keys (x : κ) (v : Value) (ps : List (κ × Value)) : (setP x v ps).map (·.1) = if x ∈ ps.map (·.1) then ps.map (·.1) else ps.map (·.1) ++ [x] := by
  induction ps with
  | nil => rfl
  | cons p ps ih =>
    unfold setP
    by_cases h : p.1 = x
    · rw [if_pos h, if_pos (by simp [h])]; simp [h]
    · rw [if_neg h, List.map_cons, ih]
      have h' : ¬ x = p.1 := fun e => h e.symm
      by_cases h2 : x ∈ ps.map (·.1)
      · rw [if_pos h2, if_pos (by simp only [List.map_cons, List.mem_cons]; exact .inr h2)]; rfl
      · rw [if_neg h2, if_neg (by simp only [List.map_cons, List.mem_cons]; rintro (h3 | h3); exact h' h3; exact h2 h3)]; rfl
variable {P : Program} {k : TypeId}
/-- a map's entries hold these pairs -/
def KeyD.Is (D : KeyD P k κ) (es : List MapEntry) (ps : List (κ × Value)) : Prop := es.map (fun e => (e.key, e.val)) = ps.map (fun p => (D.kv p.1, p.2)) ∧ ∀ p ∈ ps, D.ok p.1
theorem KeyD.ask (D : KeyD P k κ) (w : World) {x : κ} (hx : D.ok x) (v : Value) : ∀ (es : List MapEntry) (ps : List (κ × Value)) (i : Nat), D.Is es ps →
    ((Instr.findAsking k (D.kv x) es i).run P w = .ok none w ∧ setP x v ps = ps ++ [(x, v)]) ∨ (∃ j e, (Instr.findAsking k (D.kv x) es i).run P w = .ok (some (i + j, e.val)) w ∧ es[j]? = some e ∧ e.key = D.kv x ∧ setP x v ps = ps.set j (x, v))
  | [], [], i, _ => .inl ⟨rfl, rfl⟩
  | [], p :: ps, i, h => by have := congrArg List.length h.1; simp at this
  | e :: es, [], i, h => by have := congrArg List.length h.1; simp at this
  | e :: es, p :: ps, i, h => by
    obtain ⟨h1, h2⟩ := h
    simp only [List.map_cons, List.cons.injEq, Prod.mk.injEq] at h1
    have hp := h2 p (List.mem_cons_self ..)
    have he : (Op.equal k (D.kv x) e.key).run P w = .ok (decide (x = p.1)) w := by rw [h1.1.1]; exact D.eq w hx hp
    by_cases hxp : x = p.1
    · have he' : (Op.equal k (D.kv x) e.key).run P w = .ok true w := by rw [he, decide_eq_true hxp]
      refine .inr ⟨0, e, ?_, rfl, by rw [h1.1.1, hxp], ?_⟩
      · simp [Instr.findAsking, he', Result.andThen]
      · unfold setP; rw [if_pos hxp.symm]; rfl
    · have hs : setP x v (p :: ps) = p :: setP x v ps := by rw [setP, if_neg (fun e => hxp e.symm)]
      rcases D.ask w hx v es ps (i + 1) ⟨h1.2, fun q hq => h2 q (List.mem_cons_of_mem _ hq)⟩ with ⟨a1, a2⟩ | ⟨j, e0, a1, a2, a3, a4⟩
      · refine .inl ⟨?_, by rw [hs, a2]; rfl⟩
        simp [Instr.findAsking, he, hxp, Result.andThen, a1]
      · refine .inr ⟨j + 1, e0, ?_, by simpa using a2, a3, by rw [hs, a4]; rfl⟩
        rw [show i + (j + 1) = i + 1 + j by omega]
        simp [Instr.findAsking, he, hxp, Result.andThen, a1]
variable {ops : Array Oper} {Q : Exit → Act → World → Prop} {rest : List Oper} {o : Oper} {N d : Nat} {w0 w w' : World} {B : Nat → Prop} {ρ : Slots} {L L' : List Ch} {a : Act} {v : Value}
theorem s_makeMap (h : St N w0 B ρ L a w) (hg : o.guard = none) {t : TypeId} (ho : o.op = .makeMap t none) (hd : o.dst = some d) (hN : d < N)
    (kk : ∀ a' w' g, St N w0 B ((d, .map (some g)) :: ρ) (.obj g (.map #[] 0) :: L) a' w' → wpList P ops Q rest a' w') : wpList P ops Q (o :: rest) a w :=
  s_of h hg hd hN (v := .map (some w.heap.size)) (w' := w.alloc (.map #[] 0)) (by simp [execOp, ho, Instr.makeMap, newObj, Sem.run]) (fun a' hk => kk a' _ _ ⟨hk, h.m.alloc _⟩)
end
end Go.Proofs.YtnmeelkfpmodgaaDoor
