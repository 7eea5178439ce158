/- Calls of function values: closures and bound methods. -/
import Derived.Test.YtohgmggdfmjgnaaPk
import Derived.ScopeJumps
set_option linter.unusedVariables false
set_option linter.unusedSimpArgs false
namespace Go.Proofs.Ytohgmggdfmjgnaa
open Go.RowKit
section
variable {P : Program} {ops : Array Oper} {rest : List Oper} {o : Oper} {Q : Exit → Act → World → Prop} {N : Nat} {w0 w w' : World} {B : Nat → Prop} {ρ ρ' : Slots} {L L' Ls R : List Ch} {a a' : Act} {d : Nat} {u v : Value} {S S0 S' : Snap}
theorem s_callV (h : St N w0 B ρ L a w) (hg : o.guard = none) {x : Operand} {f : FuncId} {bnd caps : Array Value} {xs : Array Operand} {ats : Array TypeId} (ho : o.op = .call { callee := .value x, args := xs, argTypes := ats }) (hd : o.dst = some d) (hN : d < N) (hcl : ev ρ x = some (.func (.func f) bnd caps)) {fn : Func} (hf : P.funcs[f]? = some fn) (hb : fn.body.isNone = false) (hn : (fn.name == "runtime.NumGoroutine") = false) {vs : List Value} (hx : xs.toList.map (ev ρ) = vs.map some) {R : Ending → World → Prop}
    {args : Array Value} (hc : Calls P f args w R) (ha : args.toList = bnd.toList ++ (vs ++ caps.toList)) (k : ∀ e w', R e w' → ∃ v, e = .returned v ∧ ∀ a', Knows N ((d, v) :: ρ) a' → wpList P ops Q rest a' w') : wpList P ops Q (o :: rest) a w := by
  have key : ∀ (l : List Operand) (m : List Value), l.map (ev ρ) = m.map some → l.map a.eval = m := by
    intro l
    induction l with
    | nil => intro m hm; cases m <;> simp_all
    | cons p l ih =>
      intro m hm
      cases m with
      | nil => simp at hm
      | cons q m =>
        simp only [List.map_cons, List.cons.injEq] at hm ⊢
        exact ⟨h.k.eval hm.1, ih m hm.2⟩
  have hxs : xs.map a.eval = vs.toArray := by apply Array.ext'; rw [Array.toList_map]; exact key _ _ hx
  refine wpList_plain hg fun K hK => ?_
  unfold Oper.wp
  have hr : (execOp a.eval o).run P w = .ok (.enter f (bnd ++ vs.toArray ++ caps)) w := by
    have hb' : fn.body ≠ none := by intro e; rw [e] at hb; cases hb
    have hn' : fn.name ≠ "runtime.NumGoroutine" := by intro e; rw [e] at hn; simp at hn
    simp [execOp, ho, resolve, invoke, hxs, Deferred.ofValue, h.k.eval hcl, callFunc, hf, hn', hb']
  rw [hr, show bnd ++ vs.toArray ++ caps = args from by apply Array.ext'; simpa using ha.symm]
  refine hc.mono fun e w' he => ?_
  obtain ⟨v, rfl, h2⟩ := k e w' he
  exact hK _ _ (h2 _ (by rw [hd]; exact h.k.put hN))
theorem q_callXV {f : FuncId} {args : Array Value} {Rs : Value → List Ch → Snap → Prop} (hX : Calls P f args w (Ret w (snapAll w) [] Rs)) (h : St N w0 B ρ L a w) (hg : o.guard = none) {x : Operand} {bnd caps : Array Value} {xs : Array Operand} {ats : Array TypeId} (ho : o.op = .call { callee := .value x, args := xs, argTypes := ats }) (hd : o.dst = some d) (hN : d < N) (hcl : ev ρ x = some (.func (.func f) bnd caps)) {fn : Func} (hf : P.funcs[f]? = some fn) (hb : fn.body.isNone = false) (hn : (fn.name == "runtime.NumGoroutine") = false) (vs : List Value) (hx : xs.toList.map (ev ρ) = vs.map some) (ha : args.toList = bnd.toList ++ (vs ++ caps.toList))
    (k : ∀ a' w' v L' S', Rs v L' S' → Below w.heap.size w w' → St N w0 B ((d, v) :: ρ) (L' ++ L) a' w' → wpList P ops Q rest a' w') : wpList P ops Q (o :: rest) a w := by
  refine s_callV h hg ho hd hN hcl hf hb hn hx hX ha (fun e w' ⟨v, L', S', he, hR, hn', hU, hm⟩ => ⟨v, he, fun a' hk => ?_⟩)
  have hno : ∀ k, ¬ ownL [.sn (snapAll w)] k := by rintro k ⟨x, hx, hxk⟩; rw [List.mem_singleton.1 hx] at hxk; exact hxk
  have hb : Below w.heap.size w w' := ⟨hm.chg.os, hm.chg.tape, hm.chg.output, hm.chg.size, fun k hk => hm.chg.block k hk (hno k)⟩
  have hm2 : Mem w (ownL []) L' w' := ⟨⟨hb.os, hb.tape, hb.output, hb.size, fun k hk _ => hb.block k hk⟩, fun i x hi => hm.ok i x (by rw [List.getElem?_append_left (List.getElem?_eq_some_iff.1 hi).1]; exact hi), fun i j x y hne hi hj => hm.apart i j x y hne (by rw [List.getElem?_append_left (List.getElem?_eq_some_iff.1 hi).1]; exact hi) (by rw [List.getElem?_append_left (List.getElem?_eq_some_iff.1 hj).1]; exact hj), fun i x hi k hk => by
    rcases hm.base i x (by rw [List.getElem?_append_left (List.getElem?_eq_some_iff.1 hi).1]; exact hi) k hk with h1 | h1
    · exact absurd h1 (hno k)
    · exact .inr h1⟩
  have hm3 : Mem w0 B (L' ++ L) w' := Mem.frameS (Ls := []) h.m hm2 (fun x hx k hk => by
    obtain ⟨i, hi⟩ := List.mem_iff_getElem?.1 hx
    rcases hm2.base i x hi k (noRo_use hn' x hx k hk) with h1 | h1
    · exact .inl h1
    · exact .inr (.inl h1))
  exact k a' w' v L' S' hR hb ⟨hk, hm3⟩
theorem q_callYV {f : FuncId} {args : Array Value} {Rs : Value → List Ch → Snap → Prop} (hX : Calls P f args w (Ret w S Ls Rs)) (h : St N w0 B ρ (Ls ++ .sn S :: R) a w) (hu : Up B w0 S0 S) (hg : o.guard = none) {x : Operand} {bnd caps : Array Value} {xs : Array Operand} {ats : Array TypeId} (ho : o.op = .call { callee := .value x, args := xs, argTypes := ats }) (hd : o.dst = some d) (hN : d < N) (hcl : ev ρ x = some (.func (.func f) bnd caps)) {fn : Func} (hf : P.funcs[f]? = some fn) (hb : fn.body.isNone = false) (hn : (fn.name == "runtime.NumGoroutine") = false) (vs : List Value) (hx : xs.toList.map (ev ρ) = vs.map some) (ha : args.toList = bnd.toList ++ (vs ++ caps.toList))
    (k : ∀ a' w' v L' S', Rs v L' S' → S.le S' → Up B w0 S0 S' → St N w0 B ((d, v) :: ρ) (L' ++ .sn S' :: R) a' w' → wpList P ops Q rest a' w') : wpList P ops Q (o :: rest) a w := by
  refine s_callV h hg ho hd hN hcl hf hb hn hx hX ha (fun e w' ⟨v, L', S', he, hR, hn', hU, hm⟩ => ⟨v, he, fun a' hk => ?_⟩)
  have := h.m.call hu hn' hU hm
  exact k a' w' v L' S' hR hU.1 this.2 ⟨hk, this.1⟩
theorem reps8 {S : Snap} : ∀ {xs : List UInt8} {cs : List Value}, reps ty8 S cs xs → cs = by8 xs
  | [], cs, h => h
  | x :: xs, cs, h => by
    obtain ⟨c, ds, e, h1, h2⟩ := h
    subst e
    rw [reps8 h2, show c = _ from h1]
    rfl
/-- a cell among rows of cells is stored -/
theorem s_stM (h : St N w0 B ρ L a w) (hg : o.guard = none) {x y : Operand} {t : TypeId} (ho : o.op = .store t x y) (hd : o.dst = none) (hs : (P.info? t).map (·.size) = some 1)
    {g off : Nat} (hx : ev ρ x = some (.pointer (some ⟨g, off, none⟩))) {v : Value} (hy : ev ρ y = some v) (h1 : v.oneCell' = true) (i : Nat) {E : TypeId} {X Z : List Value} {c : Value} (hi : L[i]? = some (.box g E (X ++ ([c] ++ Z)))) (hX : X.length = off)
    (k : ∀ a' w', St N w0 B ρ (L.set i (.box g E (X ++ ([v] ++ Z)))) a' w' → wpList P ops Q rest a' w') : wpList P ops Q (o :: rest) a w := by
  subst hX
  refine s_stb h hg ho hd hs hx hy h1 i hi (by simp) (fun a' w' h => k a' w' ?_)
  rw [List.set_append_right _ _ (Nat.le_refl _), Nat.sub_self] at h
  exact h
/-- what runs from a label on comes to an end that Q allows -/
def Runs (P : Program) (c rest : Code) (Q : Exit → Act → World → Prop) (a : Act) (w : World) : Prop :=
  ∀ (b : Frame) (k : List Item) (cs : List Frame), ∃ e a' w', Q e a' w' ∧ Arrives P (lone (b.at a (.code rest :: .inScope c :: k)) cs w) b k cs e a' w'
theorem c_scopeJ {c rest : Code} (l : Nat) (hf : findLabel c l = some rest) (first : c.wp P (Exit.jump l (Runs P c rest Q) Q) a w) : (Code.scope c).wp P Q a w := by
  intro b k cs
  have hg : gotoIn l (.inScope c :: k) = some (.code rest :: .inScope c :: k) := by simp [gotoIn, hf]
  obtain ⟨e, a₁, w₁, hq, harr⟩ := first b (.inScope c :: k) cs
  cases e with
  | normal => exact ⟨.normal, a₁, w₁, hq, .head step_scope (Steps.trans harr (.one step_inScope))⟩
  | exit id => exact ⟨.exit id, a₁, w₁, hq, fun k' hk => .head step_scope (harr k' (by simp [exitTo, hk]))⟩
  | goto l' =>
    obtain ⟨rfl, hJ'⟩ := hq
    obtain ⟨e₂, a₂, w₂, hq₂, harr₂⟩ := hJ' b k cs
    exact ⟨e₂, a₂, w₂, hq₂, .of_steps (.head step_scope (harr _ hg)) harr₂⟩
  | ret => exact ⟨_, a₁, w₁, hq, .of_steps (.one step_scope) harr⟩
  | panic ch => exact ⟨_, a₁, w₁, hq, .of_steps (.one step_scope) harr⟩
  | outgrown => exact ⟨_, a₁, w₁, hq, .of_steps (.one step_scope) harr⟩
theorem c_label {c y : Code} (l : Nat) (I : Nat → Act → World → Prop) (n : Nat) (hf : findLabel c l = some (.seq .skip y)) (h0 : I n a w)
    (pass : ∀ m a w, I m a w → y.wp P (Exit.jump l (fun a' w' => ∃ m', m' < m ∧ I m' a' w') Q) a w) : y.wp P (Exit.jump l (Runs P c (.seq .skip y) Q) Q) a w := by
  have key : ∀ n a w, I n a w → Runs P c (.seq .skip y) Q a w := by
    intro n
    induction n using Nat.strongRecOn with
    | _ n ih =>
      intro a w hI b k cs
      have hg : gotoIn l (.inScope c :: k) = some (.code (.seq .skip y) :: .inScope c :: k) := by simp [gotoIn, hf]
      obtain ⟨e, a₁, w₁, hq, harr⟩ := (wp_seq (wp_skip (pass n a w hI)) : (Code.seq .skip y).wp P _ a w) b (.inScope c :: k) cs
      cases e with
      | normal => exact ⟨.normal, a₁, w₁, hq, Steps.trans harr (.one step_inScope)⟩
      | exit id => exact ⟨.exit id, a₁, w₁, hq, fun k' hk => harr k' (by simp [exitTo, hk])⟩
      | goto l' =>
        obtain ⟨rfl, m', hlt, hI'⟩ := hq
        obtain ⟨e₂, a₂, w₂, hq₂, harr₂⟩ := ih m' hlt a₁ w₁ hI' b k cs
        exact ⟨e₂, a₂, w₂, hq₂, .of_steps (harr _ hg) harr₂⟩
      | ret => exact ⟨_, a₁, w₁, hq, harr⟩
      | panic ch => exact ⟨_, a₁, w₁, hq, harr⟩
      | outgrown => exact ⟨_, a₁, w₁, hq, harr⟩
  refine wp_mono (pass n a w h0) (fun e a w h => ?_)
  cases e with
  | goto l' =>
    obtain ⟨e, m', _, hI'⟩ := h
    exact ⟨e, key m' a w hI'⟩
  | _ => exact h
theorem e_jR {l : Nat} {J : Act → World → Prop} (h : Q .ret a w) : Exit.jump l J Q .ret a w := h
theorem e_thenG {l : Nat} {K : Act → World → Prop} (h : Q (.goto l) a w) : Exit.then K Q (.goto l) a w := h
theorem cell_midE {cs X c Z : List Value} {off m : Nat} {u : Value} (e : cs = X ++ (c ++ Z)) (hX : X.length = off) (h : c[m]? = some u) : cs[off + m]? = some u := by
  subst e
  exact cell_mid hX h
theorem cell_oneE {cs X Z : List Value} {off : Nat} {u : Value} (e : cs = X ++ ([u] ++ Z)) (hX : X.length = off) : cs[off]? = some u := by
  subst e hX
  simp
theorem builtS {t : TypeId} {fs : Array Field} {z : Value} {sz : Nat} {places : List (Nat × Nat)} {parts : List (Nat × Value)} {cs : List Value} {r : Option (Array Value)} (hu : P.underlying t = some (.struct fs)) (hz : (P.info? t).map (fun i => (i.zero, i.size)) = some (some z, sz))
    (hp : fs.toList.mapM (fun f => (P.info? f.type).map fun i => (f.offset, i.size)) = some places) (hc : z.cells = cs.toArray) (k : Instr.fill (places.toArray[·]?) cs.toArray parts = r) : P.built t parts = r := by
  cases hq : P.info? t with
  | none => simp [hq] at hz
  | some it =>
    have hz' : it.zero = some z := by rw [hq] at hz; simp at hz; exact hz.1
    rw [← k]
    simp [Program.built, hq, hu, hz', hp, hc]
theorem built_step {place : Nat → Option (Nat × Nat)} {i off n : Nat} {v : Value} {rest : List (Nat × Value)} {cs X Y Z V : List Value} {r : Option (Array Value)} (e : cs = X ++ (Y ++ Z)) (hp : place i = some (off, n)) (hX : X.length = off) (hY : Y.length = n) (hv : v.cells.toList = V) (hV : V.length = n) (k : Instr.fill place (X ++ (V ++ Z)).toArray rest = r) : Instr.fill place cs.toArray ((i, v) :: rest) = r := by
  rw [e, ← List.append_assoc, fill_mid hp hX hY (by rw [← Array.length_toList, hv, hV]), hv, List.append_assoc]
  exact k
theorem built_nil {place : Nat → Option (Nat × Nat)} {cs R : List Value} (e : cs = R) : Instr.fill place cs.toArray [] = some R.toArray := by rw [e, Instr.fill]
theorem Mem.rangeMid (h : Mem w0 B L w) {i g off : Nat} {E : TypeId} {cs X Y Z : List Value} (hi : L[i]? = some (.box g E cs)) (e : cs = X ++ (Y ++ Z)) (hX : X.length = off) : w.rangeAt g off Y := fun j v hv => by
  subst e hX
  rw [h.cell hi, List.getElem?_append_right (by omega), Nat.add_sub_cancel_left, List.getElem?_append_left (List.getElem?_eq_some_iff.1 hv).1]
  exact hv
/-- a snapshot part told of an earlier snapshot -/
theorem Mem.snLe (h : Mem w0 B L w) (i : Nat) (hi : L[i]? = some (.sn S')) (le : S.le S') : Mem w0 B (L.set i (.sn S)) w := by
  have get : ∀ (j : Nat) (x : Ch), (L.set i (.sn S))[j]? = some x → (j = i ∧ x = .sn S) ∨ (j ≠ i ∧ L[j]? = some x) := by
    intro j x hx
    by_cases e : j = i
    · subst e
      rw [List.getElem?_set_self (List.getElem?_eq_some_iff.1 hi).1] at hx
      exact .inl ⟨rfl, (Option.some.inj hx).symm⟩
    · rw [List.getElem?_set_ne (fun h => e h.symm)] at hx
      exact .inr ⟨e, hx⟩
  have sub : ∀ k, Ch.use (.sn S) k → Ch.use (.sn S') k := fun k ⟨o, hk⟩ => ⟨o, le k o hk⟩
  refine ⟨h.chg, fun j x hx => ?_, fun j q x y hne hx hy => ?_, fun j x hx k hk => ?_⟩
  · rcases get j x hx with ⟨rfl, rfl⟩ | ⟨_, hx'⟩
    · exact SnapOK.le le (h.ok _ _ hi)
    · exact h.ok j x hx'
  · rcases get j x hx with ⟨rfl, rfl⟩ | ⟨e1, hx'⟩
    · rcases get q y hy with ⟨rfl, rfl⟩ | ⟨e2, hy'⟩
      · exact absurd rfl hne
      · have := h.apart _ _ _ _ hne hi hy'
        exact fun k => ⟨fun ⟨a, _⟩ => a, fun ⟨a, b⟩ => (this k).2 ⟨a, sub k b⟩⟩
    · rcases get q y hy with ⟨rfl, rfl⟩ | ⟨e2, hy'⟩
      · have := h.apart _ _ _ _ hne hx' hi
        exact fun k => ⟨fun ⟨a, b⟩ => (this k).1 ⟨a, sub k b⟩, fun ⟨a, _⟩ => a⟩
      · exact h.apart j q x y hne hx' hy'
  · rcases get j x hx with ⟨rfl, rfl⟩ | ⟨_, hx'⟩
    · exact hk.elim
    · exact h.base j x hx' k hk
end
end Go.Proofs.Ytohgmggdfmjgnaa
