/- Whole numbers in a walk: what an operation comes to, without a wrap where it fits. -/
import Derived.Test.YtnmeelkfpmodgaaDoorDraw
set_option linter.unusedVariables false
set_option linter.unusedSimpArgs false
namespace Go.Proofs.YtnmeelkfpmodgaaDoor
open Go.RowKit
section
variable {P : Program} {ops : Array Oper} {rest : List Oper} {o : Oper} {Q : Exit → Act → World → Prop} {N : Nat} {w0 w w' : World} {B : Nat → Prop} {ρ ρ' : Slots} {L L' : List Ch} {a a' : Act} {d : Nat} {u v : Value}
/-- an operation on two whole numbers -/
def IB (op : BinOp) (k1 : IntKind) (m : Int) (k2 : IntKind) (n : Int) (v : Value) : Prop := ∀ (P : Program) (t : TypeId) (w : World), (binOp op t (.int k1 m) (.int k2 n)).run P w = .ok v w
theorem x_bin (h : Knows N ρ a) {op : BinOp} {t t2 : TypeId} {x y : Operand} (ho : o.op = .binOp op t x y t2) {k1 k2 : IntKind} {m n : Int} (hx : ev ρ x = some (.int k1 m)) (hy : ev ρ y = some (.int k2 n)) (hv : IB op k1 m k2 n v) : (execOp a.eval o).run P w = .ok (.value v) w := by
  have he : (eqGuard op t x y (.int k1 m) (.int k2 n)).run P w = .ok () w := by cases op <;> rfl
  simp [execOp, ho, h.eval hx, h.eval hy, he, hv P t w]
theorem ib_add {k : IntKind} {m n r : Int} (h : k.wrap (m + n) = r) : IB .add k m k n (.int k r) := fun _ _ _ => by subst h; simp [binOp, Op.intArith]
theorem ib_sub {k : IntKind} {m n r : Int} (h : k.wrap (m - n) = r) : IB .sub k m k n (.int k r) := fun _ _ _ => by subst h; simp [binOp, Op.intArith]
theorem nw64 {x : Int} (h : -9223372036854775808 ≤ x ∧ x ≤ 9223372036854775807) : IntKind.i64.wrap x = x := by rw [IntKind.wrap_i64]; omega
theorem ib_lss {k : IntKind} {m n : Int} : IB .lss k m k n (.bool (decide (m < n))) := fun _ _ _ => by simp [binOp, Op.intCmp]
theorem ib_leq {k : IntKind} {m n : Int} : IB .leq k m k n (.bool (decide (m ≤ n))) := fun _ _ _ => by simp [binOp, Op.intCmp]
theorem ib_gtr {k : IntKind} {m n : Int} : IB .gtr k m k n (.bool (decide (n < m))) := fun _ _ _ => by simp [binOp, Op.intCmp]
theorem ib_geq {k : IntKind} {m n : Int} : IB .geq k m k n (.bool (decide (n ≤ m))) := fun _ _ _ => by simp [binOp, Op.intCmp]
theorem ib_eql {k : IntKind} {m n : Int} : IB .eql k m k n (.bool (decide (m = n))) := fun _ _ _ => by
  have : (m == n) = decide (m = n) := by cases h : decide (m = n) <;> simp_all
  simp [binOp, Op.intCmp, this]
theorem l_split (n : Nat) {l : List Oper} (R : Act → World → Prop) (h1 : wpList P ops (Exit.then R Q) (l.take n) a w) (h2 : ∀ a w, R a w → wpList P ops Q (l.drop n) a w) : wpList P ops Q l a w := by
  induction l generalizing a w n with
  | nil =>
    have := h2 a w (by simpa [wpList, Exit.then] using h1)
    simpa using this
  | cons o l ih =>
    cases n with
    | zero => exact h2 _ _ h1
    | succ n =>
      simp only [List.take_succ_cons, List.drop_succ_cons] at h1 h2
      unfold wpList at h1 ⊢
      split
      · rename_i hw
        rw [if_pos hw] at h1
        rcases h1 with h1 | ⟨h1, h3⟩
        · refine .inl ?_
          have h4 : o.wp P a w (wpList P ops Q l) (Exit.then R Q) := Oper.wp_mono (fun a w h => ih n h h2) h1
          unfold Oper.wp at h4 ⊢
          generalize (execOp a.eval o).run P w = r at h4 ⊢
          cases r with
          | ok n w' =>
            cases n <;> simp only [Oper.upon] at h4 ⊢ <;> first
              | exact h4
              | exact Calls.mono h4 (fun e w'' he => by cases e <;> exact he)
              | exact Rows.mono h4 (fun _ _ he => he)
          | halt x w' => cases x <;> simp only [Oper.upon] at h4 ⊢ <;> exact h4
        · exact .inr ⟨h1, h3⟩
      · rename_i hw
        rw [if_neg hw] at h1
        exact ih n h1 h2
/-- an operation under a guard that says yes, no -/
theorem g_yes (h : St N w0 B ρ L a w) {j : Nat} {want : Bool} (hg : o.guard = some (j, want)) {oj : Oper} (hj : ops[j]? = some oj) {t : Nat} (ht : oj.dst = some t) {b : Bool} (hb : ρ.lookup t = some (.bool b)) (hw : b = want) (k : wpList P ops Q ({ o with guard := none } :: rest) a w) : wpList P ops Q (o :: rest) a w :=
  wanted_plain (by rw [wanted_of h hg hj ht hb, hw]; simp) k
theorem g_no (h : St N w0 B ρ L a w) {j : Nat} {want : Bool} (hg : o.guard = some (j, want)) {oj : Oper} (hj : ops[j]? = some oj) {t : Nat} (ht : oj.dst = some t) {b : Bool} (hb : ρ.lookup t = some (.bool b)) (hw : b = !want) (hd : o.dst = some d) (hN : d < N) (k : ∀ a', St N w0 B ((d, undef) :: ρ) L a' w → wpList P ops Q rest a' w) : wpList P ops Q (o :: rest) a w :=
  s_skip h (by rw [wanted_of h hg hj ht hb, hw]; cases want <;> rfl) hd hN k
theorem c_cut {x y : Code} (R : Act → World → Prop) (h1 : x.wp P (Exit.then R Q) a w) (h2 : ∀ a w, R a w → y.wp P Q a w) : (Code.seq x y).wp P Q a w :=
  wp_seq (Code.wp_mono (fun e a w h => by cases e <;> first | exact h2 _ _ h | exact h) h1)
/-- a code's end, cut -/
theorem c_fin {c : Code} (R : Act → World → Prop) (h1 : c.wp P (Exit.then R Q) a w) (h2 : ∀ a w, R a w → Q .normal a w) : c.wp P Q a w :=
  Code.wp_mono (fun e a w h => by cases e <;> first | exact h2 _ _ h | exact h) h1
theorem x_not (h : Knows N ρ a) {x : Operand} {t : TypeId} (ho : o.op = .unOp .not t x) {b : Bool} (hx : ev ρ x = some (.bool b)) : (execOp a.eval o).run P w = .ok (.value (.bool (!b))) w := by simp [execOp, ho, h.eval hx, Op.unary]
theorem x_pick (h : Knows N ρ a) {c x y : Operand} (ho : o.op = .pick c x y) {b : Bool} (hc : ev ρ c = some (.bool b)) {u' : Value} (hx : b = true → ev ρ x = some v) (hy : b = false → ev ρ y = some v) : (execOp a.eval o).run P w = .ok (.value v) w := by
  cases b <;> simp [execOp, ho, h.eval hc, asBool]
  · rw [h.eval (hy rfl)]
  · rw [h.eval (hx rfl)]
theorem x_ext (h : Knows N ρ a) {x : Operand} {i : Nat} (ho : o.op = .extract x i) {vs : Array Value} (hx : ev ρ x = some (.tuple vs)) (hv : vs[i]? = some v) : (execOp a.eval o).run P w = .ok (.value v) w := by simp [execOp, ho, h.eval hx, Instr.extract, hv]
theorem x_nil (h : Knows N ρ a) {x : Operand} (ho : o.op = .nilCheck x) {p : Addr} (hx : ev ρ x = some (.pointer (some p))) : (execOp a.eval o).run P w = .ok (.value (.pointer (some p))) w := by simp [execOp, ho, h.eval hx]
theorem Mem.tail {x : Ch} (h : Mem w0 B (x :: L) w) : Mem w0 B L w :=
  ⟨h.chg, fun i y hy => h.ok (i + 1) y (by simpa using hy), fun i j y z hne hy hz => h.apart (i + 1) (j + 1) y z (by omega) (by simpa using hy) (by simpa using hz), fun i y hy => h.base (i + 1) y (by simpa using hy)⟩
end
end Go.Proofs.YtnmeelkfpmodgaaDoor
