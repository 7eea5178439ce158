/- strings.Join: the shelf's contract (laid in XBl) in xt.py's form. -/
import Derived.Test.YtnmeelkfpmodgaaDoorBl
import Derived.Test.YtnmeelkfpmodgaaDoorPk
set_option linter.unusedVariables false
namespace Go.Proofs.YtnmeelkfpmodgaaDoor
open Go.RowKit
def strings_Join (Fu : Nat) (a0 : List (List UInt8)) (a1 : List UInt8) : Option (List UInt8) := if a0.length ≤ 140737488355328 ∧ (Lib.join a0 a1).length ≤ 140737488355328 then some (Lib.join a0 a1) else none
theorem strings_Join_ok (Fu : Nat) {S0 : Snap} (Aa0 : Option Addr) (ca0 : Nat) (a0 : List (List UInt8)) (hsa0 : slS tyS S0 Aa0 ca0 a0) (a1 : List UInt8) (hra1 : a1.length ≤ maxLen) (r : List UInt8) (hf : strings_Join Fu a0 a1 = some r) (w0 : World) (hm : Mem w0 (ownL ([] ++ [.sn S0])) ([] ++ [.sn S0]) w0) :
    Calls Tryd.prog 20 #[.slice Aa0 a0.length ca0, .string (sb a1)] w0 (Ret w0 S0 [] (fun v L1 S1 => v = .string (sb r) ∧ L1 = [] ∧ r.length ≤ maxLen ∧ True)) := by
  have hS : SnapOK S0 w0 := hm.snOK (i := 0) rfl
  unfold strings_Join at hf
  split at hf
  · rename_i hb
    obtain rfl := Option.some.inj hf
    have hlen : (Lib.join a0 a1).length ≤ maxLen := by unfold maxLen; omega
    have fin : ∀ {e w'}, (e = Ending.returned (.string ⟨(Lib.join a0 a1).toArray⟩) ∧ Below w0.heap.size w0 w') → Ret w0 S0 [] (fun v L1 S1 => v = .string (sb (Lib.join a0 a1)) ∧ L1 = [] ∧ (Lib.join a0 a1).length ≤ maxLen ∧ True) e w' := by
      rintro e w' ⟨rfl, hB⟩
      exact ⟨_, [], S0, rfl, ⟨rfl, rfl, hlen, trivial⟩, rfl, Up.refl _ _ _, hm.ext hB⟩
    by_cases h0 : a0 = []
    · subst h0
      refine (Go.Proofs.Any.strings_Join_none lays156 extra156 Aa0 ca0 (sb a1) w0).mono ?_
      rintro e w' ⟨rfl, rfl⟩
      exact fin ⟨rfl, Below.refl _ _⟩
    · obtain ⟨x0, hx0⟩ : ∃ x, a0[0]? = some x := ⟨_, List.getElem?_eq_getElem (List.length_pos_iff.2 h0)⟩
      obtain ⟨b, off, u, hA, hu, hc⟩ := hsa0.at1 rfl hx0 hS
      subst hA
      have hcl : ∀ (j : Nat) (x : ByteArray), (a0.map sb)[j]? = some x → w0.cell? ⟨b, off + j, none⟩ = some (.string x) := by
        intro j x hx
        rw [List.getElem?_map] at hx
        obtain ⟨y, hy, rfl⟩ := Option.map_eq_some_iff.1 hx
        obtain ⟨b2, off2, u2, hA2, hu2, hc2⟩ := hsa0.at1 rfl hy hS
        injection hA2 with hA2
        injection hA2 with e1 e2
        subst e1 e2
        obtain ⟨e3, _⟩ := hu2
        injection e3 with e3
        have := hc2 w0 hS
        rw [Nat.mul_one, e3] at this
        exact this
      have hlt : b < w0.heap.size := by
        have := hc w0 hS
        apply Decidable.byContradiction
        intro hn
        have hn2 : w0.heap[b]? = none := Array.getElem?_eq_none (by omega)
        simp [World.cell?, hn2] at this
      have hm1 : (a0.map sb).map (fun x => x.data.toList) = a0 := by
        rw [List.map_map]
        exact List.map_id'' (fun x => by simp [sb]) a0
      have hcap : a0.length ≤ ca0 := hsa0.1
      have hX := Go.Proofs.Any.strings_Join lays156 extra156 b off ca0 (a0.map sb) (sb a1) w0 hcl hlt (by rw [List.length_map]; exact hb.1) (by rw [List.length_map]; exact hcap) (by rw [hm1]; exact hb.2)
      rw [hm1, List.length_map] at hX
      exact hX.mono fun e w' h => fin h
  · cases hf
end Go.Proofs.YtnmeelkfpmodgaaDoor
