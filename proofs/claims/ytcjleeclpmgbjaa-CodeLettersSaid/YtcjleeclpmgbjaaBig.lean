/- Lists of sums: their cells, copies, and equality. -/
import Derived.Test.YtcjleeclpmgbjaaCall
set_option linter.unusedVariables false
set_option linter.unusedSimpArgs false
namespace Go.Proofs.Ytcjleeclpmgbjaa
open Go.RowKit

/-- lists of 32 bytes -/
def S32 (l : List (List UInt8)) : Prop := ∀ x ∈ l, x.length = 32
theorem S32.nil : S32 [] := fun x hx => by cases hx
theorem S32.cons {x : List UInt8} {l : List (List UInt8)} (hx : x.length = 32) (h : S32 l) : S32 (x :: l) := fun y hy => by
  rcases List.mem_cons.1 hy with rfl | h1
  · exact hx
  · exact h y h1
theorem S32.tail {x : List UInt8} {l : List (List UInt8)} (h : S32 (x :: l)) : S32 l := fun y hy => h y (List.mem_cons_of_mem _ hy)
theorem S32.append {l m : List (List UInt8)} (h : S32 l) (h' : S32 m) : S32 (l ++ m) := fun y hy => by
  rcases List.mem_append.1 hy with h1 | h1
  · exact h y h1
  · exact h' y h1
theorem S32.take {l : List (List UInt8)} (h : S32 l) (k : Nat) : S32 (l.take k) := fun y hy => h y (List.mem_of_mem_take hy)
theorem S32.drop {l : List (List UInt8)} (h : S32 l) (k : Nat) : S32 (l.drop k) := fun y hy => h y (List.mem_of_mem_drop hy)
theorem S32.at {l : List (List UInt8)} (h : S32 l) {k : Nat} (hk : k < l.length) : l[k].length = 32 := h _ (List.getElem_mem hk)
theorem S32.set {l : List (List UInt8)} (h : S32 l) (k : Nat) {x : List UInt8} (hx : x.length = 32) : S32 (l.set k x) := fun y hy => by
  rcases List.mem_or_eq_of_mem_set hy with h1 | h1
  · exact h y h1
  · rw [h1]; exact hx
theorem flat_len {l : List (List UInt8)} (h : S32 l) : l.flatten.length = l.length * 32 := by
  induction l with
  | nil => rfl
  | cons x l ih => simp only [List.flatten_cons, List.length_append, List.length_cons, ih h.tail, h x (List.mem_cons_self ..)]; omega
theorem flat_split (l : List (List UInt8)) (k : Nat) : l.flatten = (l.take k).flatten ++ (l.drop k).flatten := by rw [← List.flatten_append, List.take_append_drop]
theorem flat_drop {l : List (List UInt8)} (h : S32 l) (k : Nat) (hk : k ≤ l.length) : l.flatten.drop (k * 32) = (l.drop k).flatten := by
  have hl : (l.take k).flatten.length = k * 32 := by rw [flat_len (h.take k), List.length_take, Nat.min_eq_left hk]
  rw [flat_split l k, List.drop_left' hl]
theorem flat_at {l : List (List UInt8)} (h : S32 l) {k : Nat} (hk : k < l.length) : (l.flatten.drop (k * 32)).take 32 = l[k] := by
  rw [flat_drop h k (by omega), List.drop_eq_getElem_cons hk, List.flatten_cons, List.take_left' (h.at hk)]
section
variable {P : Program} {ops : Array Oper} {Q : Exit → Act → World → Prop} {rest : List Oper} {o : Oper} {N d : Nat} {w0 w w' : World} {B : Nat → Prop} {ρ : Slots} {L L' : List Ch} {a : Act} {v : Value}
theorem Rd.range {b o : Nat} {cs : List Value} (h : Rd w (some ⟨b, o, none⟩) cs) (j n : Nat) : w.rangeAt b (o + j) ((cs.drop j).take n) := fun i v hv => by
  rw [List.getElem?_take] at hv
  split at hv
  · rw [List.getElem?_drop] at hv
    have := h.at (j + i) hv
    rwa [show o + (j + i) = o + j + i by omega] at this
  · cases hv
/-- element k of what can be read -/
theorem Rd.sum {b o : Nat} {l : List (List UInt8)} (hl : S32 l) (h : Rd w (some ⟨b, o, none⟩) (by8 l.flatten)) {k : Nat} (hk : k < l.length) : w.rangeAt b (o + k * 32) (by8 l[k]) := by
  have := h.range (k * 32) 32
  rwa [by8_drop, by8_take, flat_at hl hk] at this
end
end Go.Proofs.Ytcjleeclpmgbjaa
