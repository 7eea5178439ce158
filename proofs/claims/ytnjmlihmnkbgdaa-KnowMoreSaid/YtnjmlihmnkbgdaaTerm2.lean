/- Texts put together. -/
import Derived.Test.YtnjmlihmnkbgdaaMap2
import Derived.Test.YtnjmlihmnkbgdaaBig
import Derived.DeepKeys3
import Derived.DataBytes
set_option linter.unusedVariables false
set_option linter.unusedSimpArgs false
namespace Go.Proofs.Ytnjmlihmnkbgdaa
open Go.RowKit
section
section
variable {P : Program}
theorem eqf_cons' {d : Nat} {xs ys : Array Value} {f : Field} {fs : List Field} {a b : Value} {r s : Bool} {w : World} (hn : f.name ≠ "_") (ha : (part f.type xs f.offset).run P w = .ok a w) (hb : (part f.type ys f.offset).run P w = .ok b w) (he : (Op.equalIn d f.type a b).run P w = .ok r w) (hr : (Op.eqFields d xs ys fs).run P w = .ok s w) : (Op.eqFields d xs ys (f :: fs)).run P w = .ok (r && s) w := by
  rw [Op.eqFields]
  simp only [if_pos hn, Sem.run_bind, ha, hb, he, Result.andThen_ok]
  cases r
  · simp
  · simpa using hr
theorem eqf_nil' {d : Nat} {xs ys : Array Value} {w : World} : (Op.eqFields d xs ys []).run P w = .ok true w := by simp [Op.eqFields]
theorem part_int (w : World) {t : TypeId} (h1 : P.underlying t = some (.int .i64)) (X : Array Value) (y : Value) (off : Nat) (hX : X[off]? = some y) : (part t X off).run P w = .ok y w := by
  have hag : (isAgg t).run P w = .ok false w := by
    unfold isAgg
    rw [Sem.run_bind, run_underlying h1 w]
    rfl
  unfold part
  simp only [Sem.run_bind, hag, Result.andThen_ok, Bool.false_eq_true, if_false]
  rw [hX]; rfl
end
/-- a term -/
abbrev Tm := Int × Int × Int
def tcs (t : Tm) : List Value := [.int .i64 t.1, .int .i64 t.2.1, .int .i64 t.2.2]
def i64 (n : Int) : Prop := -9223372036854775808 ≤ n ∧ n ≤ 9223372036854775807
def tmOk (t : Tm) : Prop := i64 t.1 ∧ i64 t.2.1 ∧ i64 t.2.2
theorem eq_term (w : World) (x y : Tm) : (Op.equalIn 10000 46 (.agg (tcs x).toArray) (.agg (tcs y).toArray)).run Try.prog w = .ok (decide (x = y)) w := by
  have hq : Try.prog.stoodInHeld 46 = false := by kernel_rfl
  rw [run_equalIn_struct w 9999 _ _ _ (by simp only [Program.fieldsOf, Try.underlying46]) hq]
  simp only [Program.fieldsOf, Try.underlying46]
  refine Eq.trans (b := .ok ((x.1 == y.1) && ((x.2.1 == y.2.1) && ((x.2.2 == y.2.2) && true))) w) ?_ ?_
  · refine eqf_cons' (by decide) (part_int w Try.underlying3 _ _ _ rfl) (part_int w Try.underlying3 _ _ _ rfl) (run_equalIn_int w 9998 _ .i64 .i64 _ _ Try.underlying3) ?_
    refine eqf_cons' (by decide) (part_int w Try.underlying3 _ _ _ rfl) (part_int w Try.underlying3 _ _ _ rfl) (run_equalIn_int w 9998 _ .i64 .i64 _ _ Try.underlying3) ?_
    exact eqf_cons' (by decide) (part_int w Try.underlying3 _ _ _ rfl) (part_int w Try.underlying3 _ _ _ rfl) (run_equalIn_int w 9998 _ .i64 .i64 _ _ Try.underlying3) eqf_nil'
  · refine congrArg (fun b => Result.ok b w) ?_
    obtain ⟨a, b, c⟩ := x
    obtain ⟨a', b', c'⟩ := y
    rw [Bool.eq_iff_iff]
    simp
theorem check_term (w : World) (em : Bool) (x : Tm) (hx : tmOk x) : (Instr.checkKey em 10000 46 (.agg (tcs x).toArray)).run Try.prog w = .ok () w := by
  have hw : ∀ n, i64 n → (Lit.int .i64 n).wf = true := by
    intro n hn
    unfold i64 at hn
    simp [Lit.wf, IntKind.min, IntKind.max, IntKind.signed, IntKind.bits]
    omega
  have hl : Try.prog.keyLits 2 46 (tcs x) = some [Lit.int .i64 x.1, Lit.int .i64 x.2.1, Lit.int .i64 x.2.2] := by
    have hc : Try.prog.cellsOf 3 = 1 := by kernel_rfl
    have hct : Try.prog.cellsOf 46 = 3 := by kernel_rfl
    unfold Program.keyLits
    simp only [Try.underlying46]
    rw [if_pos ⟨by rw [hct]; rfl, by kernel_rfl⟩]
    simp [Program.keyLits, Try.underlying3, hc, tcs, hw _ hx.1, hw _ hx.2.1, hw _ hx.2.2]
  exact run_checkKey_deep em 9998 2 46 (by kernel_rfl) w 2 (.agg (tcs x).toArray) _ (by
    have hct : Try.prog.cellsOf 46 = 3 := by kernel_rfl
    simp [Value.formed, Try.underlying46, hct, tcs]) hl
def keyT : KeyD Try.prog 46 Tm where
  kv x := .agg (tcs x).toArray
  ok x := tmOk x
  eq w x y _ _ := eq_term w x y
  check w b x hx := check_term w b x hx
  same _ := by simp [Instr.sameBits, tcs]
  find w x es := by
    unfold Instr.findKey
    simp only [Sem.run_bind, run_underlying Try.underlying46, Result.andThen_ok]
    cases es with
    | nil => rfl
    | cons a es => rfl
end
section
theorem Mem.bel {w0 w : World} {L : List Ch} (h : Mem w0 (fun _ => False) L w) : Below w0.heap.size w0 w := ⟨h.chg.os, h.chg.tape, h.chg.output, h.chg.size, fun k hk => h.chg.block k hk (fun h => h)⟩
def tcl (l : List Tm) : List Value := l.flatMap tcs
theorem tcs_length (t : Tm) : (tcs t).length = 3 := rfl
theorem tcl_length (l : List Tm) : (tcl l).length = l.length * 3 := by
  induction l with
  | nil => rfl
  | cons x l ih => simp only [tcl, List.flatMap_cons, List.length_append, tcs_length, List.length_cons] at ih ⊢; omega
theorem tcl_append (l m : List Tm) : tcl (l ++ m) = tcl l ++ tcl m := by simp [tcl]
theorem tcl_drop (l : List Tm) (k : Nat) (hk : k ≤ l.length) : (tcl l).drop (k * 3) = tcl (l.drop k) := by
  have h : tcl l = tcl (l.take k) ++ tcl (l.drop k) := by rw [← tcl_append, List.take_append_drop]
  rw [h, List.drop_left' (by rw [tcl_length, List.length_take, Nat.min_eq_left hk])]
theorem tcl_at (l : List Tm) {k : Nat} (hk : k < l.length) : ((tcl l).drop (k * 3)).take 3 = tcs l[k] := by
  rw [tcl_drop l k (by omega), List.drop_eq_getElem_cons hk]
  show (tcs l[k] ++ tcl _).take 3 = _
  exact List.take_left' rfl
theorem Rd.term {w : World} {b o : Nat} {l : List Tm} (h : Rd w (some ⟨b, o, none⟩) (tcl l)) {k : Nat} (hk : k < l.length) : w.rangeAt b (o + k * 3) (tcs l[k]) := by
  have := h.range (k * 3) 3
  rwa [tcl_at l hk] at this
def TmL (l : List Tm) : Prop := ∀ t ∈ l, tmOk t
theorem TmL.at {l : List Tm} (h : TmL l) {k : Nat} (hk : k < l.length) : tmOk l[k] := h _ (List.getElem_mem hk)
end
end Go.Proofs.Ytnjmlihmnkbgdaa
