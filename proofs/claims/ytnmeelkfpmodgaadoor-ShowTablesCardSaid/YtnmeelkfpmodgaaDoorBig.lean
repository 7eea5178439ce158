/- Lists of sums: their cells, copies, and equality. -/
import Derived.Test.YtnmeelkfpmodgaaDoorCall
set_option linter.unusedVariables false
set_option linter.unusedSimpArgs false
namespace Go.Proofs.YtnmeelkfpmodgaaDoor
open Go.RowKit

/-- lists of 32 bytes -/
def S32 (l : List (List UInt8)) : Prop := ∀ x ∈ l, x.length = 32
theorem S32.nil : S32 [] := fun x hx => by cases hx
theorem S32.cons {x : List UInt8} {l : List (List UInt8)} (hx : x.length = 32) (h : S32 l) : S32 (x :: l) := fun y hy => by
  rcases List.mem_cons.1 hy with rfl | h1
  · exact hx
  · exact h y h1
theorem S32.tail {x : List UInt8} {l : List (List UInt8)} (h : S32 (x :: l)) : S32 l := fun y hy => h y (List.mem_cons_of_mem _ hy)
theorem S32.append {l m : List (List UInt8)} (h : S32 l) (h' : S32 m) : S32 (l ++ m) := fun y hy => by
  rcases List.mem_append.1 hy with h1 | h1
  · exact h y h1
  · exact h' y h1
theorem S32.take {l : List (List UInt8)} (h : S32 l) (k : Nat) : S32 (l.take k) := fun y hy => h y (List.mem_of_mem_take hy)
theorem S32.drop {l : List (List UInt8)} (h : S32 l) (k : Nat) : S32 (l.drop k) := fun y hy => h y (List.mem_of_mem_drop hy)
theorem S32.at {l : List (List UInt8)} (h : S32 l) {k : Nat} (hk : k < l.length) : l[k].length = 32 := h _ (List.getElem_mem hk)
theorem S32.set {l : List (List UInt8)} (h : S32 l) (k : Nat) {x : List UInt8} (hx : x.length = 32) : S32 (l.set k x) := fun y hy => by
  rcases List.mem_or_eq_of_mem_set hy with h1 | h1
  · exact h y h1
  · rw [h1]; exact hx
theorem flat_len {l : List (List UInt8)} (h : S32 l) : l.flatten.length = l.length * 32 := by
  induction l with
  | nil => rfl
  | cons x l ih => simp only [List.flatten_cons, List.length_append, List.length_cons, ih h.tail, h x (List.mem_cons_self ..)]; omega
theorem flat_split (l : List (List UInt8)) (k : Nat) : l.flatten = (l.take k).flatten ++ (l.drop k).flatten := by rw [← List.flatten_append, List.take_append_drop]
theorem flat_drop {l : List (List UInt8)} (h : S32 l) (k : Nat) (hk : k ≤ l.length) : l.flatten.drop (k * 32) = (l.drop k).flatten := by
  have hl : (l.take k).flatten.length = k * 32 := by rw [flat_len (h.take k), List.length_take, Nat.min_eq_left hk]
  rw [flat_split l k, List.drop_left' hl]
theorem flat_at {l : List (List UInt8)} (h : S32 l) {k : Nat} (hk : k < l.length) : (l.flatten.drop (k * 32)).take 32 = l[k] := by
  rw [flat_drop h k (by omega), List.drop_eq_getElem_cons hk, List.flatten_cons, List.take_left' (h.at hk)]
section
variable {P : Program} {ops : Array Oper} {Q : Exit → Act → World → Prop} {rest : List Oper} {o : Oper} {N d : Nat} {w0 w w' : World} {B : Nat → Prop} {ρ : Slots} {L L' : List Ch} {a : Act} {v : Value}
theorem Rd.range {b o : Nat} {cs : List Value} (h : Rd w (some ⟨b, o, none⟩) cs) (j n : Nat) : w.rangeAt b (o + j) ((cs.drop j).take n) := fun i v hv => by
  rw [List.getElem?_take] at hv
  split at hv
  · rw [List.getElem?_drop] at hv
    have := h.at (j + i) hv
    rwa [show o + (j + i) = o + j + i by omega] at this
  · cases hv
/-- element k of what can be read -/
theorem Rd.sum {b o : Nat} {l : List (List UInt8)} (hl : S32 l) (h : Rd w (some ⟨b, o, none⟩) (by8 l.flatten)) {k : Nat} (hk : k < l.length) : w.rangeAt b (o + k * 32) (by8 l[k]) := by
  have := h.range (k * 32) 32
  rwa [by8_drop, by8_take, flat_at hl hk] at this
theorem x_build (h : Knows N ρ a) {t : TypeId} {ps : Array (Nat × Operand)} (ho : o.op = .build t ps) (parts : List (Nat × Value)) (hp : ps.toList.map (fun p => (p.1, ev ρ p.2)) = parts.map (fun p => (p.1, some p.2))) (es : List Value) (hb : P.built t parts = some es.toArray) : (execOp a.eval o).run P w = .ok (.value (.agg es.toArray)) w := by
  have key : ∀ (l : List (Nat × Operand)) (m : List (Nat × Value)), l.map (fun p => (p.1, ev ρ p.2)) = m.map (fun p => (p.1, some p.2)) → l.map (fun p => (p.1, a.eval p.2)) = m := by
    intro l
    induction l with
    | nil => intro m hm; cases m <;> simp_all
    | cons p l ih =>
      intro m hm
      cases m with
      | nil => simp at hm
      | cons q m =>
        simp only [List.map_cons, List.cons.injEq, Prod.mk.injEq] at hm ⊢
        refine ⟨?_, ih m hm.2⟩
        rw [hm.1.1, h.eval hm.1.2]
  have hp' : (ps.map fun (i, x) => (i, a.eval x)).toList = parts := by rw [Array.toList_map]; exact key _ _ hp
  unfold execOp
  simp only [ho, Sem.run_bind, run_build w t _ es.toArray (by rw [hp']; exact hb), Result.andThen_ok]
  rfl
theorem Mem.range0 (h : Mem w0 B L w) {i g : Nat} {T : TypeId} {cs : List Value} (hi : L[i]? = some (.box g T cs)) : w.rangeAt g 0 cs := fun j v hv => by
  rw [h.cell hi, Nat.zero_add]; exact hv
end
end Go.Proofs.YtnmeelkfpmodgaaDoor
