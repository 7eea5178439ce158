/- Further steps: a part of a variable is stored; variables that are written no more; cuts of arrays; slices held against nil; loops left from within. -/
import Derived.Test.YtlgcfnbhnpnkiaaPi
import Derived.WalkMore
set_option linter.unusedVariables false
set_option linter.unusedSimpArgs false
namespace Go.Proofs.Ytlgcfnbhnpnkiaa
open Go.RowKit
theorem run_eqlIn_SN {P : Program} (w : World) (d : Nat) (t e : TypeId) (a : Option Addr) (n c : Nat) (h : P.underlying t = some (.slice e)) : (Op.equalIn (d + 1) t (.slice a n c) (.slice none 0 0)).run P w = .ok a.isNone w := by
  cases a <;> simp [Op.equalIn, run_underlying h]
theorem hsn {S S' : Snap} {w : World} (h : S.le S') (k : SnapOK S' w) : SnapOK S w := k.le h
section
variable {P : Program} {ops : Array Oper} {rest : List Oper} {o : Oper} {Q : Exit → Act → World → Prop} {N : Nat} {w0 w w' : World} {B : Nat → Prop} {ρ ρ' : Slots} {L L' Ls R : List Ch} {a a' : Act} {d : Nat} {u v : Value} {S S0 S' : Snap} {α : Type} {T : Ty α}
/-- a value of many cells is stored into a part of a variable -/
theorem s_stP (h : St N w0 B ρ L a w) (hg : o.guard = none) {x y : Operand} {t : TypeId} (ho : o.op = .store t x y) (hd : o.dst = none) {n : Nat} (ht : Agg P t n)
    {g off : Nat} (hx : ev ρ x = some (.pointer (some ⟨g, off, none⟩))) {es : List Value} (hy : ev ρ y = some (.agg es.toArray)) (hn : es.length = n) (h1 : ∀ v ∈ es, v.oneCell' = true) (i : Nat) {T : TypeId} {cs : List Value} (hi : L[i]? = some (.box g T cs)) (X Y Z : List Value) (hcs : cs = X ++ (Y ++ Z)) (hX : X.length = off) (hY : Y.length = n)
    (k : ∀ a' w', St N w0 B ρ (L.set i (.box g T (X ++ (es ++ Z)))) a' w' → wpList P ops Q rest a' w') : wpList P ops Q (o :: rest) a w := by
  subst hcs hX
  refine s_stA h hg ho hd ht hx hy hn h1 i hi (by simp; omega) (fun a' w' h => k a' w' (h.parts ?_))
  rw [List.take_left, ← List.drop_drop, List.drop_left, List.drop_left' hY, List.append_assoc]
/-- a variable that is written no more -/
theorem q_freezeBox {g : Nat} {E : TypeId} {cs : List Value} (h : St N w0 B ρ (.box g E cs :: .sn S :: R) a w) (hu : Up B w0 S0 S) : ∃ S', S.le S' ∧ Up B w0 S0 S' ∧ (∀ w', SnapOK S' w' → w'.rangeAt g 0 cs) ∧ St N w0 B ρ (.sn S' :: R) a w := by
  have hb : w.heap[g]? = some (.cells cs.toArray E (0, 0)) := h.m.ok 0 _ rfl
  obtain ⟨S', h1, h2, h3, h4, h5⟩ := h.m.freeze (fun _ hk => hk)
  refine ⟨S', h1, hu.trans ⟨h1, h2⟩, fun w' hw' j v hv => ?_, h.k, h5⟩
  have := hw' g _ ((h4 g rfl).trans hb)
  simp [World.cell?, this, hv]
theorem slS_arr {g off n : Nat} {cs : List Value} {xs : List α} (hc : ∀ w, SnapOK S w → w.rangeAt g off cs) (hr : reps T S cs xs) (hn : xs.length = n) (hm : n ≤ maxLen) : slS T S (some ⟨g, off, none⟩) n xs :=
  ⟨by omega, hm, cs, fun w hw i c hi => ⟨_, rfl, by rw [Addr.add_mid]; exact hc w hw i c hi⟩, hr⟩
theorem slS.none_nil {c : Nat} {xs : List α} (k : slS T S none c xs) (hw : SnapOK S w) (hs : 0 < T.sz) : xs = [] := by
  obtain ⟨_, _, vs, h1, h2⟩ := k
  have hl := h2.len
  cases xs with
  | nil => rfl
  | cons x xs =>
    rw [List.length_cons, Nat.add_mul] at hl
    obtain ⟨ad, e, _⟩ := h1 w hw 0 vs[0] (List.getElem?_eq_getElem (by omega))
    cases e
theorem x_eqlSN (h : Knows N ρ a) {x y : Operand} {t t' : TypeId} (ho : o.op = .binOp .eql t x y t') {e : TypeId} (ht : P.underlying t = some (.slice e)) {A : Option Addr} {n c : Nat} (hx : ev ρ x = some (.slice A n c)) (hy : ev ρ y = some (.slice none 0 0)) : (execOp a.eval o).run P w = .ok (.value (.bool A.isNone)) w := by
  have he : (eqGuard .eql t x y (.slice A n c) (.slice none 0 0)).run P w = .ok () w := rfl
  have hq : (Op.equal t (.slice A n c) (.slice none 0 0)).run P w = .ok A.isNone w := by
    exact run_eqlIn_SN w 9999 t e A n c ht
  simp [execOp, ho, h.eval hx, h.eval hy, he, binOp, hq, Result.andThen]
theorem x_eqlSNn (h : Knows N ρ a) {x y : Operand} {t t' : TypeId} (ho : o.op = .binOp .eql t x y t') {e : TypeId} (ht : P.underlying t = some (.slice e)) {n c : Nat} (hx : ev ρ x = some (.slice none n c)) (hy : ev ρ y = some (.slice none 0 0)) : (execOp a.eval o).run P w = .ok (.value (.bool true)) w := x_eqlSN h ho ht hx hy
theorem x_eqlSNs (h : Knows N ρ a) {x y : Operand} {t t' : TypeId} (ho : o.op = .binOp .eql t x y t') {e : TypeId} (ht : P.underlying t = some (.slice e)) {ad : Addr} {n c : Nat} (hx : ev ρ x = some (.slice (some ad) n c)) (hy : ev ρ y = some (.slice none 0 0)) : (execOp a.eval o).run P w = .ok (.value (.bool false)) w := x_eqlSN h ho ht hx hy
/-- '[]T{}' -/
theorem q_bslice0 (h : St N w0 B ρ L a w) (hg : o.guard = none) {t : TypeId} (ho : o.op = .buildSlice t 0 #[]) (hd : o.dst = some d) (hN : d < N) {e : TypeId} (ht : P.underlying t = some (.slice e)) {sz : Nat} (hs : (P.info? e).map (·.size) = some sz)
    (k : ∀ a' w' A, St N w0 B ((d, .slice A 0 0) :: ρ) (.row (.slice A 0 0) e sz 0 [] :: L) a' w' → wpList P ops Q rest a' w') : wpList P ops Q (o :: rest) a w := by
  refine s_of h hg hd hN (v := .slice (some ⟨w.heap.size, 0, none⟩) 0 0) (w' := w.alloc (.cells #[] e)) ?_ (fun a' hk => k a' _ _ ⟨hk, (h.m.alloc (.cells #[] e)).asRow (i := 0) (g := w.heap.size) (E := e) (cs := []) rfl 0 sz (by simp) (by simp [maxLen])⟩)
  simp [execOp, ho, Instr.buildSlice, run_underlying ht, run_size hs, Instr.fill, newRow, newObj, Sem.run]
  have : ((Array.range 0).map (fun (_ : Nat) => (default : Value))) = #[] := by simp [Array.range]
  rw [this]
end
/-! ### left from within -/
section
variable {P : Program} {Q : Exit → Act → World → Prop} {a : Act} {w : World} {R R2 : Act → World → Prop} {id i : Nat}
theorem e_scN (h : Q .normal a w) : Exit.noGoto Q .normal a w := h
theorem e_scR (h : Q .ret a w) : Exit.noGoto Q .ret a w := h
theorem e_scX (h : Q (.exit i) a w) : Exit.noGoto Q (.exit i) a w := h
def Exit.thenX (R : Act → World → Prop) (id : Nat) (R2 : Act → World → Prop) (Q : Exit → Act → World → Prop) : Exit → Act → World → Prop
  | .normal, a, w => R a w
  | .exit i, a, w => if i = id then R2 a w else Q (.exit i) a w
  | e, a, w => Q e a w
theorem e_xN (h : R a w) : Exit.thenX R id R2 Q .normal a w := h
theorem e_xX (h : R2 a w) : Exit.thenX R id R2 Q (.exit id) a w := by simp only [Exit.thenX, if_true]; exact h
theorem e_xY (hne : i ≠ id) (h : Q (.exit i) a w) : Exit.thenX R id R2 Q (.exit i) a w := by simp only [Exit.thenX, if_neg hne]; exact h
theorem e_xR (h : Q .ret a w) : Exit.thenX R id R2 Q .ret a w := h
theorem c_cutX {x y : Code} (R : Act → World → Prop) (id : Nat) (R2 : Act → World → Prop) (h1 : x.wp P (Exit.thenX R id R2 Q) a w) (h2 : ∀ a w, R a w → y.wp P Q a w) (h3 : ∀ a w, R2 a w → Q (.exit id) a w) : (Code.seq x y).wp P Q a w :=
  wp_seq (wp_mono h1 (fun e a w h => by
    cases e with
    | normal => exact h2 _ _ h
    | exit i =>
      simp only [Exit.thenX] at h
      split at h
      · rename_i e; subst e; exact h3 _ _ h
      · exact h
    | _ => exact h))
theorem c_finX {x : Code} (R : Act → World → Prop) (id : Nat) (R2 : Act → World → Prop) (h1 : x.wp P (Exit.thenX R id R2 Q) a w) (h2 : ∀ a w, R a w → Q .normal a w) (h3 : ∀ a w, R2 a w → Q (.exit id) a w) : x.wp P Q a w :=
  wp_mono h1 (fun e a w h => by
    cases e with
    | normal => exact h2 _ _ h
    | exit i =>
      simp only [Exit.thenX] at h
      split at h
      · rename_i e; subst e; exact h3 _ _ h
      · exact h
    | _ => exact h)
end
end Go.Proofs.Ytlgcfnbhnpnkiaa
