/- Loops over lists, told once: a loop that goes on, one that may be left. -/
import Derived.Test.YtnmeelkfpmodgaaDoorPx
import Derived.Test.YtnmeelkfpmodgaaDoorPo
import Derived.Test.YtnmeelkfpmodgaaDoorPs
set_option linter.unusedVariables false
namespace Go.Proofs.YtnmeelkfpmodgaaDoor
open Go.RowKit
theorem w_sm {x : Int} (h : -1000000000000 ≤ x ∧ x ≤ 1000000000000) : w64 x = x := w64_of (by omega)
theorem idx_at {α : Type} {l : List α} {i : Nat} (h : i < l.length) : idx l (i : Int) = some l[i] := by rw [idx_nat, List.getElem?_eq_getElem h]
/-- a loop over a list with a state -/
theorem loopM {α σ R : Type} (l : List α) (step : σ → α → σ) (f : Nat → σ → Int → Option R) (fin : σ → R)
    (inv : Nat → σ → Prop)
    (h1 : ∀ (k : Nat) (s : σ) (i : Nat) (hi : i < l.length), inv i s → f (k + 1) s (i : Int) = f k (step s l[i]) ((i + 1 : Nat) : Int) ∧ inv (i + 1) (step s l[i]))
    (h2 : ∀ (k : Nat) (s : σ), inv l.length s → f (k + 1) s (l.length : Int) = some (fin s)) :
    ∀ (d i k : Nat) (s : σ), i + d = l.length → d < k → inv i s → f k s (i : Int) = some (fin ((l.drop i).foldl step s)) := by
  intro d
  induction d with
  | zero =>
    intro i k s hi hk hs
    obtain ⟨k, rfl⟩ : ∃ m, k = m + 1 := ⟨k - 1, by omega⟩
    obtain rfl : i = l.length := by omega
    rw [h2 k s hs, List.drop_of_length_le (Nat.le_refl _)]; rfl
  | succ d ih =>
    intro i k s hi hk hs
    obtain ⟨k, rfl⟩ : ∃ m, k = m + 1 := ⟨k - 1, by omega⟩
    have hlt : i < l.length := by omega
    obtain ⟨e, hs'⟩ := h1 k s i hlt hs
    rw [e, ih (i + 1) k _ (by omega) (by omega) hs', List.drop_eq_getElem_cons hlt, List.foldl_cons]
theorem loopM0 {α σ R : Type} (l : List α) (step : σ → α → σ) (f : Nat → σ → Int → Option R) (fin : σ → R)
    (inv : Nat → σ → Prop)
    (h1 : ∀ (k : Nat) (s : σ) (i : Nat) (hi : i < l.length), inv i s → f (k + 1) s (i : Int) = f k (step s l[i]) ((i + 1 : Nat) : Int) ∧ inv (i + 1) (step s l[i]))
    (h2 : ∀ (k : Nat) (s : σ), inv l.length s → f (k + 1) s (l.length : Int) = some (fin s)) (k : Nat) (s : σ) (hk : l.length < k) (hs : inv 0 s) :
    f k s 0 = some (fin (l.foldl step s)) := by
  have := loopM l step f fin inv h1 h2 l.length 0 k s (by omega) hk hs
  rwa [List.drop_zero] at this
/-- a loop without a state that may be left -/
theorem loopE {α R : Type} (l : List α) (f : Nat → Int → Option R) (out : α → Option R) (fin : R)
    (h1 : ∀ (k i : Nat) (hi : i < l.length), f (k + 1) (i : Int) = match out l[i] with | some r => some r | none => f k ((i + 1 : Nat) : Int))
    (h2 : ∀ k : Nat, f (k + 1) (l.length : Int) = some fin) :
    ∀ (d i k : Nat), i + d = l.length → d < k → f k (i : Int) = some ((((l.drop i).findSome? out)).getD fin) := by
  intro d
  induction d with
  | zero =>
    intro i k hi hk
    obtain ⟨k, rfl⟩ : ∃ m, k = m + 1 := ⟨k - 1, by omega⟩
    obtain rfl : i = l.length := by omega
    rw [h2 k, List.drop_of_length_le (Nat.le_refl _)]; rfl
  | succ d ih =>
    intro i k hi hk
    obtain ⟨k, rfl⟩ : ∃ m, k = m + 1 := ⟨k - 1, by omega⟩
    have hlt : i < l.length := by omega
    rw [h1 k i hlt, List.drop_eq_getElem_cons hlt, List.findSome?_cons]
    cases h : out l[i] with
    | some r => rfl
    | none => dsimp only; rw [ih (i + 1) k (by omega) (by omega)]
theorem loopE0 {α R : Type} (l : List α) (f : Nat → Int → Option R) (out : α → Option R) (fin : R)
    (h1 : ∀ (k i : Nat) (hi : i < l.length), f (k + 1) (i : Int) = match out l[i] with | some r => some r | none => f k ((i + 1 : Nat) : Int))
    (h2 : ∀ k : Nat, f (k + 1) (l.length : Int) = some fin) (k : Nat) (hk : l.length < k) : f k 0 = some ((l.findSome? out).getD fin) := by
  have := loopE l f out fin h1 h2 l.length 0 k (by omega) hk
  rwa [List.drop_zero] at this
theorem sapp_k (a b : List UInt8) (h : a.length + b.length ≤ 100000000) : sapp a b = some (a ++ b) := by unfold sapp; rw [if_pos (by unfold maxLen; omega)]
theorem appk {α : Type} (n : Nat) (a b : List α) (hn : n ≤ 100) (h : a.length + b.length ≤ 1000000) : app n a b = some (a ++ b) := by
  unfold app
  rw [if_pos ⟨Nat.le_trans (Nat.mul_le_mul h hn) (by decide), by unfold maxLen; omega⟩]
end Go.Proofs.YtnmeelkfpmodgaaDoor
