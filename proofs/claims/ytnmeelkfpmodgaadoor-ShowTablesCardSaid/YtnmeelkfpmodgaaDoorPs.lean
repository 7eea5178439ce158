/- Strings, told as lists of bytes. -/
import Derived.Test.YtnmeelkfpmodgaaDoorPk
import Derived.Lib.Strings
import Derived.Laws.BytesString
set_option linter.unusedVariables false
set_option linter.unusedSimpArgs false
namespace Go.Proofs.YtnmeelkfpmodgaaDoor
open Go.RowKit
theorem sb_toList (l : List UInt8) : (sb l).toList = l := by rw [Go.Lib.toList_data]; simp [sb]
theorem sb_size (l : List UInt8) : (sb l).size = l.length := by simp [sb, ByteArray.size]
theorem sb_app (a b : List UInt8) : sb a ++ sb b = sb (a ++ b) := by
  apply Go.WideShapes.bytes_inj
  rw [ByteArray.data_append]
  simp [sb]
/-- one behind the other -/
def sapp (a b : List UInt8) : Option (List UInt8) := if a.length + b.length ≤ maxLen then some (a ++ b) else none
theorem sapp_some {a b r : List UInt8} (h : sapp a b = some r) : r = a ++ b ∧ r.length ≤ maxLen := by
  unfold sapp at h
  split at h
  · next hh => obtain rfl := Option.some.inj h; exact ⟨rfl, by rw [List.length_append]; exact hh⟩
  · cases h
section
variable {P : Program} {o : Oper} {a : Act} {w : World} {N : Nat} {ρ : Slots} {x y : Operand} {t t' : TypeId} {S : Snap}
theorem x_addS (h : Knows N ρ a) (ho : o.op = .binOp .add t x y t') {p q r : List UInt8} (hx : ev ρ x = some (.string (sb p))) (hy : ev ρ y = some (.string (sb q))) (hr : sapp p q = some r) : (execOp a.eval o).run P w = .ok (.value (.string (sb r))) w := by
  obtain ⟨rfl, hl⟩ := sapp_some hr
  have he : (eqGuard .add t x y (.string (sb p)) (.string (sb q))).run P w = .ok () w := rfl
  rw [List.length_append] at hl
  unfold maxLen at hl
  have hm : ¬ (((sb p).size + (sb q).size : Nat) : Int) > IntKind.i64.max := by
    rw [sb_size, sb_size, show IntKind.i64.max = 9223372036854775807 from rfl]; omega
  have hq : (binOp .add t (.string (sb p)) (.string (sb q))).run P w = .ok (.string (sb (p ++ q))) w := by
    simp only [binOp, Op.stringOp]
    rw [if_neg hm, sb_app]; rfl
  simp [execOp, ho, h.eval hx, h.eval hy, he, hq, Result.andThen]
theorem str_eq (p q : List UInt8) : ((sb p).toList == (sb q).toList) = decide (p = q) := by
  rw [sb_toList, sb_toList, Bool.eq_iff_iff]; simp
theorem x_eqlStr (h : Knows N ρ a) (ho : o.op = .binOp .eql t x y t') {p q : List UInt8} (hx : ev ρ x = some (.string (sb p))) (hy : ev ρ y = some (.string (sb q))) : (execOp a.eval o).run P w = .ok (.value (.bool (decide (p = q)))) w := by
  have he : (eqGuard .eql t x y (.string (sb p)) (.string (sb q))).run P w = .ok () w := rfl
  have hq : (binOp .eql t (.string (sb p)) (.string (sb q))).run P w = .ok (.bool (decide (p = q))) w := by
    simp only [binOp, Op.stringOp, str_eq]; rfl
  simp [execOp, ho, h.eval hx, h.eval hy, he, hq, Result.andThen]
theorem x_lenStr (h : Knows N ρ a) (ho : o.op = .call { callee := .builtin .len, args := #[x], argTypes := #[t] }) (ht : P.underlying t = some .string) {p : List UInt8} (hx : ev ρ x = some (.string (sb p))) : (execOp a.eval o).run P w = .ok (.value (.int .i64 (p.length : Int))) w := by
  rw [← sb_size]
  simp [execOp, ho, resolve, invoke, builtin, h.eval hx, Builtin.len_, run_underlying ht, goInt]
theorem x_indexStr (h : Knows N ρ a) (ho : o.op = .index t x y) (ht : P.underlying t = some .string) {p : List UInt8} (hx : ev ρ x = some (.string (sb p))) {kd : IntKind} {j : Int} (hy : ev ρ y = some (.int kd j)) {m : Nat} (hj : j = (m : Int)) {c : UInt8} (hc : p[m]? = some c) : (execOp a.eval o).run P w = .ok (.value (.int .u8 (c.toNat : Int))) w := by
  subst hj
  have hm : (sb p)[m]? = some c := by
    have := (List.getElem?_eq_some_iff.1 hc)
    obtain ⟨h1, h2⟩ := this
    rw [getElem?_pos (sb p) m (by rw [sb_size]; exact h1)]
    simp [sb, ByteArray.getElem_eq_getElem_data, h2]
  simp [execOp, ho, h.eval hx, h.eval hy, Instr.index, run_underlying ht, asIntOf, hm]
end
end Go.Proofs.YtnmeelkfpmodgaaDoor
