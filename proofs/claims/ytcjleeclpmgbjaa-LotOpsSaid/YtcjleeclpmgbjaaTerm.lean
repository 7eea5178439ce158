/- Terms: three numbers by value, as keys and as elements. -/
import Derived.Test.YtcjleeclpmgbjaaMap2
import Derived.Test.YtcjleeclpmgbjaaBig
import Derived.DeepKeys3
import Derived.DataBytes
set_option linter.unusedVariables false
set_option linter.unusedSimpArgs false
namespace Go.Proofs.Ytcjleeclpmgbjaa
open Go.RowKit
section
variable {P : Program}
theorem eqf_cons' {d : Nat} {xs ys : Array Value} {f : Field} {fs : List Field} {a b : Value} {r s : Bool} {w : World} (hn : f.name ≠ "_") (ha : (part f.type xs f.offset).run P w = .ok a w) (hb : (part f.type ys f.offset).run P w = .ok b w) (he : (Op.equalIn d f.type a b).run P w = .ok r w) (hr : (Op.eqFields d xs ys fs).run P w = .ok s w) : (Op.eqFields d xs ys (f :: fs)).run P w = .ok (r && s) w := by
  rw [Op.eqFields]
  simp only [if_pos hn, Sem.run_bind, ha, hb, he, Result.andThen_ok]
  cases r
  · simp
  · simpa using hr
theorem eqf_nil' {d : Nat} {xs ys : Array Value} {w : World} : (Op.eqFields d xs ys []).run P w = .ok true w := by simp [Op.eqFields]
theorem part_int (w : World) {t : TypeId} (h1 : P.underlying t = some (.int .i64)) (X : Array Value) (y : Value) (off : Nat) (hX : X[off]? = some y) : (part t X off).run P w = .ok y w := by
  have hag : (isAgg t).run P w = .ok false w := by
    unfold isAgg
    rw [Sem.run_bind, run_underlying h1 w]
    rfl
  unfold part
  simp only [Sem.run_bind, hag, Result.andThen_ok, Bool.false_eq_true, if_false]
  rw [hX]; rfl
end
/-- a term -/
abbrev Tm := Int × Int × Int
def tcs (t : Tm) : List Value := [.int .i64 t.1, .int .i64 t.2.1, .int .i64 t.2.2]
def i64 (n : Int) : Prop := -9223372036854775808 ≤ n ∧ n ≤ 9223372036854775807
def tmOk (t : Tm) : Prop := i64 t.1 ∧ i64 t.2.1 ∧ i64 t.2.2
end Go.Proofs.Ytcjleeclpmgbjaa
