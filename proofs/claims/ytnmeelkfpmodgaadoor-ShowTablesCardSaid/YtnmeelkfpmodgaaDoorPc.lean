/- Calls of function values: closures and bound methods. -/
import Derived.Test.YtnmeelkfpmodgaaDoorPk
import Derived.ScopeJumps
set_option linter.unusedVariables false
set_option linter.unusedSimpArgs false
namespace Go.Proofs.YtnmeelkfpmodgaaDoor
open Go.RowKit
section
variable {P : Program} {ops : Array Oper} {rest : List Oper} {o : Oper} {Q : Exit → Act → World → Prop} {N : Nat} {w0 w w' : World} {B : Nat → Prop} {ρ ρ' : Slots} {L L' Ls R : List Ch} {a a' : Act} {d : Nat} {u v : Value} {S S0 S' : Snap}
theorem s_callV (h : St N w0 B ρ L a w) (hg : o.guard = none) {x : Operand} {f : FuncId} {bnd caps : Array Value} {xs : Array Operand} {ats : Array TypeId} (ho : o.op = .call { callee := .value x, args := xs, argTypes := ats }) (hd : o.dst = some d) (hN : d < N) (hcl : ev ρ x = some (.func (.func f) bnd caps)) {fn : Func} (hf : P.funcs[f]? = some fn) (hb : fn.body.isNone = false) (hn : (fn.name == "runtime.NumGoroutine") = false) {vs : List Value} (hx : xs.toList.map (ev ρ) = vs.map some) {R : Ending → World → Prop}
    {args : Array Value} (hc : Calls P f args w R) (ha : args.toList = bnd.toList ++ (vs ++ caps.toList)) (k : ∀ e w', R e w' → ∃ v, e = .returned v ∧ ∀ a', Knows N ((d, v) :: ρ) a' → wpList P ops Q rest a' w') : wpList P ops Q (o :: rest) a w := by
  have key : ∀ (l : List Operand) (m : List Value), l.map (ev ρ) = m.map some → l.map a.eval = m := by
    intro l
    induction l with
    | nil => intro m hm; cases m <;> simp_all
    | cons p l ih =>
      intro m hm
      cases m with
      | nil => simp at hm
      | cons q m =>
        simp only [List.map_cons, List.cons.injEq] at hm ⊢
        exact ⟨h.k.eval hm.1, ih m hm.2⟩
  have hxs : xs.map a.eval = vs.toArray := by apply Array.ext'; rw [Array.toList_map]; exact key _ _ hx
  refine wpList_plain hg fun K hK => ?_
  unfold Oper.wp
  have hr : (execOp a.eval o).run P w = .ok (.enter f (bnd ++ vs.toArray ++ caps)) w := by
    have hb' : fn.body ≠ none := by intro e; rw [e] at hb; cases hb
    have hn' : fn.name ≠ "runtime.NumGoroutine" := by intro e; rw [e] at hn; simp at hn
    simp [execOp, ho, resolve, invoke, hxs, Deferred.ofValue, h.k.eval hcl, callFunc, hf, hn', hb']
  rw [hr, show bnd ++ vs.toArray ++ caps = args from by apply Array.ext'; simpa using ha.symm]
  refine hc.mono fun e w' he => ?_
  obtain ⟨v, rfl, h2⟩ := k e w' he
  exact hK _ _ (h2 _ (by rw [hd]; exact h.k.put hN))
theorem q_callXV {f : FuncId} {args : Array Value} {Rs : Value → List Ch → Snap → Prop} (hX : Calls P f args w (Ret w (snapAll w) [] Rs)) (h : St N w0 B ρ L a w) (hg : o.guard = none) {x : Operand} {bnd caps : Array Value} {xs : Array Operand} {ats : Array TypeId} (ho : o.op = .call { callee := .value x, args := xs, argTypes := ats }) (hd : o.dst = some d) (hN : d < N) (hcl : ev ρ x = some (.func (.func f) bnd caps)) {fn : Func} (hf : P.funcs[f]? = some fn) (hb : fn.body.isNone = false) (hn : (fn.name == "runtime.NumGoroutine") = false) (vs : List Value) (hx : xs.toList.map (ev ρ) = vs.map some) (ha : args.toList = bnd.toList ++ (vs ++ caps.toList))
    (k : ∀ a' w' v L' S', Rs v L' S' → Below w.heap.size w w' → St N w0 B ((d, v) :: ρ) (L' ++ L) a' w' → wpList P ops Q rest a' w') : wpList P ops Q (o :: rest) a w := by
  refine s_callV h hg ho hd hN hcl hf hb hn hx hX ha (fun e w' ⟨v, L', S', he, hR, hn', hU, hm⟩ => ⟨v, he, fun a' hk => ?_⟩)
  have hno : ∀ k, ¬ ownL [.sn (snapAll w)] k := by rintro k ⟨x, hx, hxk⟩; rw [List.mem_singleton.1 hx] at hxk; exact hxk
  have hb : Below w.heap.size w w' := ⟨hm.chg.os, hm.chg.tape, hm.chg.output, hm.chg.size, fun k hk => hm.chg.block k hk (hno k)⟩
  have hm2 : Mem w (ownL []) L' w' := ⟨⟨hb.os, hb.tape, hb.output, hb.size, fun k hk _ => hb.block k hk⟩, fun i x hi => hm.ok i x (by rw [List.getElem?_append_left (List.getElem?_eq_some_iff.1 hi).1]; exact hi), fun i j x y hne hi hj => hm.apart i j x y hne (by rw [List.getElem?_append_left (List.getElem?_eq_some_iff.1 hi).1]; exact hi) (by rw [List.getElem?_append_left (List.getElem?_eq_some_iff.1 hj).1]; exact hj), fun i x hi k hk => by
    rcases hm.base i x (by rw [List.getElem?_append_left (List.getElem?_eq_some_iff.1 hi).1]; exact hi) k hk with h1 | h1
    · exact absurd h1 (hno k)
    · exact .inr h1⟩
  have hm3 : Mem w0 B (L' ++ L) w' := Mem.frameS (Ls := []) h.m hm2 (fun x hx k hk => by
    obtain ⟨i, hi⟩ := List.mem_iff_getElem?.1 hx
    rcases hm2.base i x hi k (noRo_use hn' x hx k hk) with h1 | h1
    · exact .inl h1
    · exact .inr (.inl h1))
  exact k a' w' v L' S' hR hb ⟨hk, hm3⟩
theorem reps8 {S : Snap} : ∀ {xs : List UInt8} {cs : List Value}, reps ty8 S cs xs → cs = by8 xs
  | [], cs, h => h
  | x :: xs, cs, h => by
    obtain ⟨c, ds, e, h1, h2⟩ := h
    subst e
    rw [reps8 h2, show c = _ from h1]
    rfl
end
end Go.Proofs.YtnmeelkfpmodgaaDoor
