/- Calls of function values: closures and bound methods. -/
import Derived.Test.YtnjmlihmnkbgdaaSo
import Derived.ScopeJumps
set_option linter.unusedVariables false
set_option linter.unusedSimpArgs false
namespace Go.Proofs.Ytnjmlihmnkbgdaa
open Go.RowKit
section
variable {P : Program} {ops : Array Oper} {rest : List Oper} {o : Oper} {Q : Exit → Act → World → Prop} {N : Nat} {w0 w w' : World} {B : Nat → Prop} {ρ ρ' : Slots} {L L' Ls R : List Ch} {a a' : Act} {d : Nat} {u v : Value} {S S0 S' : Snap}
/-- a snapshot part told of an earlier snapshot -/
theorem Mem.snLe (h : Mem w0 B L w) (i : Nat) (hi : L[i]? = some (.sn S')) (le : S.le S') : Mem w0 B (L.set i (.sn S)) w := by
  have get : ∀ (j : Nat) (x : Ch), (L.set i (.sn S))[j]? = some x → (j = i ∧ x = .sn S) ∨ (j ≠ i ∧ L[j]? = some x) := by
    intro j x hx
    by_cases e : j = i
    · subst e
      rw [List.getElem?_set_self (List.getElem?_eq_some_iff.1 hi).1] at hx
      exact .inl ⟨rfl, (Option.some.inj hx).symm⟩
    · rw [List.getElem?_set_ne (fun h => e h.symm)] at hx
      exact .inr ⟨e, hx⟩
  have sub : ∀ k, Ch.use (.sn S) k → Ch.use (.sn S') k := fun k ⟨o, hk⟩ => ⟨o, le k o hk⟩
  refine ⟨h.chg, fun j x hx => ?_, fun j q x y hne hx hy => ?_, fun j x hx k hk => ?_⟩
  · rcases get j x hx with ⟨rfl, rfl⟩ | ⟨_, hx'⟩
    · exact SnapOK.le le (h.ok _ _ hi)
    · exact h.ok j x hx'
  · rcases get j x hx with ⟨rfl, rfl⟩ | ⟨e1, hx'⟩
    · rcases get q y hy with ⟨rfl, rfl⟩ | ⟨e2, hy'⟩
      · exact absurd rfl hne
      · have := h.apart _ _ _ _ hne hi hy'
        exact fun k => ⟨fun ⟨a, _⟩ => a, fun ⟨a, b⟩ => (this k).2 ⟨a, sub k b⟩⟩
    · rcases get q y hy with ⟨rfl, rfl⟩ | ⟨e2, hy'⟩
      · have := h.apart _ _ _ _ hne hx' hi
        exact fun k => ⟨fun ⟨a, b⟩ => (this k).1 ⟨a, sub k b⟩, fun ⟨a, _⟩ => a⟩
      · exact h.apart j q x y hne hx' hy'
  · rcases get j x hx with ⟨rfl, rfl⟩ | ⟨_, hx'⟩
    · exact hk.elim
    · exact h.base j x hx' k hk
end
end Go.Proofs.Ytnjmlihmnkbgdaa
