/- Texts put together. -/
import Derived.Test.YtohgmggdfmjgnaaPm
import Derived.Test.YtohgmggdfmjgnaaOpen
import Derived.DeepKeys3
import Derived.DataBytes
set_option linter.unusedVariables false
set_option linter.unusedSimpArgs false
namespace Go.Proofs.Ytohgmggdfmjgnaa
open Go.RowKit
section
section
variable {P : Program}
end
/-- a term -/
abbrev Tm := Int × Int × Int
def tcs (t : Tm) : List Value := [.int .i64 t.1, .int .i64 t.2.1, .int .i64 t.2.2]
def i64 (n : Int) : Prop := -9223372036854775808 ≤ n ∧ n ≤ 9223372036854775807
def tmOk (t : Tm) : Prop := i64 t.1 ∧ i64 t.2.1 ∧ i64 t.2.2
end
section
theorem Mem.bel {w0 w : World} {L : List Ch} (h : Mem w0 (fun _ => False) L w) : Below w0.heap.size w0 w := ⟨h.chg.os, h.chg.tape, h.chg.output, h.chg.size, fun k hk => h.chg.block k hk (fun h => h)⟩
def tcl (l : List Tm) : List Value := l.flatMap tcs
theorem tcs_length (t : Tm) : (tcs t).length = 3 := rfl
theorem tcl_length (l : List Tm) : (tcl l).length = l.length * 3 := by
  induction l with
  | nil => rfl
  | cons x l ih => simp only [tcl, List.flatMap_cons, List.length_append, tcs_length, List.length_cons] at ih ⊢; omega
theorem tcl_append (l m : List Tm) : tcl (l ++ m) = tcl l ++ tcl m := by simp [tcl]
theorem tcl_drop (l : List Tm) (k : Nat) (hk : k ≤ l.length) : (tcl l).drop (k * 3) = tcl (l.drop k) := by
  have h : tcl l = tcl (l.take k) ++ tcl (l.drop k) := by rw [← tcl_append, List.take_append_drop]
  rw [h, List.drop_left' (by rw [tcl_length, List.length_take, Nat.min_eq_left hk])]
theorem tcl_at (l : List Tm) {k : Nat} (hk : k < l.length) : ((tcl l).drop (k * 3)).take 3 = tcs l[k] := by
  rw [tcl_drop l k (by omega), List.drop_eq_getElem_cons hk]
  show (tcs l[k] ++ tcl _).take 3 = _
  exact List.take_left' rfl
theorem Rd.term {w : World} {b o : Nat} {l : List Tm} (h : Rd w (some ⟨b, o, none⟩) (tcl l)) {k : Nat} (hk : k < l.length) : w.rangeAt b (o + k * 3) (tcs l[k]) := by
  have := h.range (k * 3) 3
  rwa [tcl_at l hk] at this
def TmL (l : List Tm) : Prop := ∀ t ∈ l, tmOk t
theorem TmL.at {l : List Tm} (h : TmL l) {k : Nat} (hk : k < l.length) : tmOk l[k] := h _ (List.getElem_mem hk)
end
end Go.Proofs.Ytohgmggdfmjgnaa
