/- Steps of a walk over slots that are known (Knows) and memory in parts (Mem): the frame itself is a letter. -/
import Derived.Test.YtnmeelkfpmodgaaDoorMem
import Derived.Test.YtnmeelkfpmodgaaDoorArr
import Derived.Deep.WholeRow
import Derived.Great.BuildSlice
set_option linter.unusedVariables false
set_option linter.unusedSimpArgs false
namespace Go.Proofs.YtnmeelkfpmodgaaDoor
open Go.RowKit

abbrev Slots := List (Nat × Value)
def ev (ρ : Slots) : Operand → Option Value
  | .tmp t => ρ.lookup t
  | .const v => some v
  | .global g => some (.pointer (some ⟨g, 0, none⟩))
  | .func f => some (.func (.func f) #[] #[])
structure Knows (N : Nat) (ρ : Slots) (a : Act) : Prop where
  defers : a.defers = []
  size : a.tmps.size = N
  at_ : ∀ t v, ρ.lookup t = some v → a.tmps[t]? = some v
structure St (N : Nat) (w0 : World) (B : Nat → Prop) (ρ : Slots) (L : List Ch) (a : Act) (w : World) : Prop where
  k : Knows N ρ a
  m : Mem w0 B L w
section
variable {P : Program} {ops : Array Oper} {rest : List Oper} {o : Oper} {Q : Exit → Act → World → Prop} {N : Nat} {w0 w w' : World} {B : Nat → Prop} {ρ ρ' : Slots} {L L' : List Ch} {a a' : Act} {d : Nat} {u v : Value}
theorem Knows.eval (h : Knows N ρ a) {x : Operand} (hx : ev ρ x = some v) : a.eval x = v := by
  cases x with
  | tmp t =>
    have := h.at_ t v hx
    simp only [Act.eval, Array.getD_eq_getD_getElem?, this]; rfl
  | const c => exact Option.some.inj hx
  | global g => exact Option.some.inj hx
  | func f => exact Option.some.inj hx
theorem Knows.put (h : Knows N ρ a) (hd : d < N) : Knows N ((d, v) :: ρ) (a.put (some d) v) := by
  refine ⟨h.defers, by simp [Act.put, h.size], fun t u hu => ?_⟩
  rw [List.lookup_cons] at hu
  by_cases e : t = d
  · subst e
    simp at hu; subst hu
    simp [Act.put, h.size, hd]
  · have : (t == d) = false := by simpa using e
    rw [this] at hu
    simp only [Act.put]
    rw [Array.getElem?_setIfInBounds_ne (Ne.symm e)]
    exact h.at_ t u hu
theorem Knows.weaken (h : Knows N ρ a) (hr : ∀ p ∈ ρ', ρ.lookup p.1 = some p.2) : Knows N ρ' a := by
  refine ⟨h.defers, h.size, fun t u hu => ?_⟩
  have hm : (t, u) ∈ ρ' := by
    clear hr
    induction ρ' with
    | nil => simp at hu
    | cons p r ih =>
      obtain ⟨s, x⟩ := p
      rw [List.lookup_cons] at hu
      by_cases e : t = s
      · subst e; simp at hu; subst hu; simp
      · have : (t == s) = false := by simpa using e
        rw [this] at hu; exact List.mem_cons_of_mem _ (ih hu)
  exact h.at_ t u (hr _ hm)
/-- the slots are restated -/
theorem St.slots (h : St N w0 B ρ L a w) (hr : ∀ p ∈ ρ', ρ.lookup p.1 = some p.2) : St N w0 B ρ' L a w := ⟨h.k.weaken hr, h.m⟩
theorem St.mem (h : St N w0 B ρ L a w) (hm : Mem w0 B L' w') : St N w0 B ρ L' a w' := ⟨h.k, hm⟩
theorem St.parts (h : St N w0 B ρ L a w) (e : L = L') : St N w0 B ρ L' a w := e ▸ h
theorem s_put (h : St N w0 B ρ L a w) (hd : o.dst = some d) (hN : d < N) : St N w0 B ((d, v) :: ρ) L (a.put o.dst v) w := by rw [hd]; exact ⟨h.k.put hN, h.m⟩
/-- move -/
theorem s_move (h : St N w0 B ρ L a w) (hg : o.guard = none) (x : Operand) (ho : o.op = .move x) (hd : o.dst = some d) (hN : d < N) (hx : ev ρ x = some v) (k : ∀ a', St N w0 B ((d, v) :: ρ) L a' w → wpList P ops Q rest a' w) : wpList P ops Q (o :: rest) a w :=
  wpList_plain hg fun K hK => BigFrame.wp_move x ho (by rw [h.k.eval hx]; exact hK _ _ (k _ (s_put h hd hN)))
theorem s_assign (h : St N w0 B ρ L a w) (hg : o.guard = none) (x : Operand) (ho : o.op = .assign x) (hd : o.dst = some d) (hN : d < N) (hx : ev ρ x = some v) (k : ∀ a', St N w0 B ((d, v) :: ρ) L a' w → wpList P ops Q rest a' w) : wpList P ops Q (o :: rest) a w :=
  wpList_plain hg fun K hK => BigFrame.wp_assign x ho (by rw [h.k.eval hx]; exact hK _ _ (k _ (s_put h hd hN)))
theorem s_of (h : St N w0 B ρ L a w) (hg : o.guard = none) (hd : o.dst = some d) (hN : d < N) (hr : (execOp a.eval o).run P w = .ok (.value v) w') (k : ∀ a', Knows N ((d, v) :: ρ) a' → wpList P ops Q rest a' w') : wpList P ops Q (o :: rest) a w :=
  wpList_plain hg fun K hK => by
    unfold Oper.wp; rw [hr]
    exact hK _ _ (k _ (by rw [hd]; exact h.k.put hN))
theorem s_of0 (h : St N w0 B ρ L a w) (hg : o.guard = none) (hd : o.dst = none) (hr : (execOp a.eval o).run P w = .ok .skip w') (k : ∀ a', Knows N ρ a' → wpList P ops Q rest a' w') : wpList P ops Q (o :: rest) a w :=
  wpList_plain hg fun K hK => by
    unfold Oper.wp; rw [hr]
    exact hK _ _ (k _ (by rw [hd]; exact h.k))
theorem run_size {t : TypeId} {n : Nat} (h : (P.info? t).map (·.size) = some n) (w : World) : (sizeOf t).run P w = .ok n w := by
  cases hq : P.info? t with
  | none => simp [hq] at h
  | some i =>
    have : i.size = n := by simpa [hq] using h
    simp [sizeOf, typeInfo, hq, this]
/-- store: one cell, into part i -/
theorem s_stb (h : St N w0 B ρ L a w) (hg : o.guard = none) {x y : Operand} {t : TypeId} (ho : o.op = .store t x y) (hd : o.dst = none) (hs : (P.info? t).map (·.size) = some 1)
    {g off : Nat} (hx : ev ρ x = some (.pointer (some ⟨g, off, none⟩))) {v : Value} (hy : ev ρ y = some v) (hv : v.oneCell' = true) (i : Nat) {T : TypeId} {cs : List Value} (hi : L[i]? = some (.box g T cs)) (hc : off < cs.length)
    (k : ∀ a' w', St N w0 B ρ (L.set i (.box g T (cs.set off v))) a' w' → wpList P ops Q rest a' w') : wpList P ops Q (o :: rest) a w := by
  have h1 : w.cell? ⟨g, off, none⟩ = some (cs[off]'hc) := by rw [h.m.cell hi]; simp [hc]
  have h2 := h.m.frozen hi off
  refine s_of0 h hg hd (w' := w.setCell ⟨g, off, none⟩ v) ?_ (fun a' hk => k a' _ ⟨hk, h.m.set hi off v⟩)
  have hcl : v.cells = #[v] := by cases v <;> simp_all [Value.oneCell', Value.cells]
  simp only [execOp, ho, h.k.eval hx, h.k.eval hy, Instr.storeAt, Instr.sureAddr, storeVar, Sem.run_bind, Sem.run_pure, Result.andThen_ok, run_size hs, hcl]
  have h0 : (⟨g, off, none⟩ : Addr).add 0 = ⟨g, off, none⟩ := by simp [Addr.add]
  cases v <;> simp_all [Value.oneCell', storeCells, store, Sem.run, h0]
/-- store: a value of many cells, into part i -/
theorem s_stA (h : St N w0 B ρ L a w) (hg : o.guard = none) {x y : Operand} {t : TypeId} (ho : o.op = .store t x y) (hd : o.dst = none) {n : Nat} (ht : Agg P t n)
    {g off : Nat} (hx : ev ρ x = some (.pointer (some ⟨g, off, none⟩))) {es : List Value} (hy : ev ρ y = some (.agg es.toArray)) (hn : es.length = n) (h1 : ∀ v ∈ es, v.oneCell' = true) (i : Nat) {T : TypeId} {cs : List Value} (hi : L[i]? = some (.box g T cs)) (hc : off + n ≤ cs.length)
    (k : ∀ a' w', St N w0 B ρ (L.set i (.box g T (cs.take off ++ es ++ cs.drop (off + n)))) a' w' → wpList P ops Q rest a' w') : wpList P ops Q (o :: rest) a w := by
  have hth : w.there g off n := fun j hj => ⟨by rw [h.m.cell hi]; simp; omega, h.m.frozen hi _⟩
  refine st_op hg t x y ho g off es (h.k.eval hx) (h.k.eval hy) ht hn h1 hth (k _ _ ⟨by rw [hd]; exact h.k, ?_⟩)
  have hb : w.heap[g]? = some (.cells cs.toArray T (0, 0)) := h.m.ok i _ hi
  have key : ∀ (es : List Value) (off : Nat) (cs : List Value) (w : World), w.heap[g]? = some (.cells cs.toArray T (0, 0)) → off + es.length ≤ cs.length → (w.setCells g off es).heap[g]? = some (.cells (cs.take off ++ es ++ cs.drop (off + es.length)).toArray T (0, 0)) := by
    intro es
    induction es with
    | nil => intro off cs w hw hl; simp [World.setCells, hw]
    | cons e es ih =>
      intro off cs w hw hl
      simp only [List.length_cons] at hl
      rw [World.setCells]
      have hw2 := blk_set hw off e
      have := ih (off + 1) (cs.set off e) (w.setCell ⟨g, off, none⟩ e) (by simpa using hw2) (by simp; omega)
      rw [this]
      congr 3
      have e1 : (cs.set off e).take (off + 1) = cs.take off ++ [e] := by
        rw [List.take_set, List.take_succ_eq_append_getElem (by omega), List.set_append_right _ _ (by simp; omega)]
        simp [Nat.min_eq_left (show off ≤ cs.length by omega)]
      have e2 : (cs.set off e).drop (off + 1 + es.length) = cs.drop (off + (es.length + 1)) := by
        rw [List.drop_set, if_pos (by omega)]; congr 1; omega
      rw [e1, e2]; simp
  refine h.m.write hi (x := .box g T cs) ((Chg.refl w (Ch.box g T cs).own).setCells (.inl rfl) es off) ?_ (fun k hk => .inl hk)
  have := key es off cs w hb (by omega)
  rw [hn] at this
  exact this
theorem s_stW (h : St N w0 B ρ L a w) (hg : o.guard = none) {x y : Operand} {t : TypeId} (ho : o.op = .store t x y) (hd : o.dst = none) {n : Nat} (ht : Agg P t n)
    {g : Nat} (hx : ev ρ x = some (.pointer (some ⟨g, 0, none⟩))) {es : List Value} (hy : ev ρ y = some (.agg es.toArray)) (hn : es.length = n) (h1 : ∀ v ∈ es, v.oneCell' = true) (i : Nat) {T : TypeId} {cs : List Value} (hi : L[i]? = some (.box g T cs)) (hc : cs.length = n)
    (k : ∀ a' w', St N w0 B ρ (L.set i (.box g T es)) a' w' → wpList P ops Q rest a' w') : wpList P ops Q (o :: rest) a w :=
  s_stA h hg ho hd ht hx hy hn h1 i hi (by omega) (fun a' w' h => k a' w' (h.parts (by rw [List.take_zero, List.nil_append, List.drop_of_length_le (by omega), List.append_nil])))
/-- a new variable -/
theorem s_alloc (h : St N w0 B ρ L a w) (hg : o.guard = none) {t : TypeId} (ho : o.op = .alloc t) (hd : o.dst = some d) (hN : d < N) {z : Value} {sz : Nat} (hz : (P.info? t).map (fun i => (i.zero, i.size)) = some (some z, sz)) {cs : List Value} (hcs : z.cells = cs.toArray)
    (k : ∀ a' w' g, St N w0 B ((d, .pointer (some ⟨g, 0, none⟩)) :: ρ) (.box g t cs :: L) a' w' → wpList P ops Q rest a' w') : wpList P ops Q (o :: rest) a w := by
  refine s_of h hg hd hN (v := .pointer (some ⟨w.heap.size, 0, none⟩)) (w' := w.alloc (.cells cs.toArray t)) ?_ (fun a' hk => k a' _ _ ⟨hk, h.m.alloc _⟩)
  have := (zero_of_info hz).1
  simp [execOp, ho, Instr.alloc, this, newVar, newRow, newObj, hcs]
  rfl
/-- a new variable that has a value -/
theorem s_box (h : St N w0 B ρ L a w) (hg : o.guard = none) {t : TypeId} {x : Operand} (ho : o.op = .box t x) (hd : o.dst = some d) (hN : d < N) {v : Value} (hx : ev ρ x = some v) {cs : List Value} (hcs : v.cells = cs.toArray)
    (k : ∀ a' w' g, St N w0 B ((d, .pointer (some ⟨g, 0, none⟩)) :: ρ) (.box g t cs :: L) a' w' → wpList P ops Q rest a' w') : wpList P ops Q (o :: rest) a w := by
  refine s_of h hg hd hN (v := .pointer (some ⟨w.heap.size, 0, none⟩)) (w' := w.alloc (.cells cs.toArray t)) ?_ (fun a' hk => k a' _ _ ⟨hk, h.m.alloc _⟩)
  simp [execOp, ho, h.k.eval hx, Instr.box, newVar, newRow, newObj, hcs]
  rfl
/-- a call of a Go function -/
theorem s_call (h : St N w0 B ρ L a w) (hg : o.guard = none) {f : FuncId} {xs : Array Operand} {ats : Array TypeId} (ho : o.op = .call { callee := .value (.func f), args := xs, argTypes := ats }) (hd : o.dst = some d) (hN : d < N) {fn : Func} (hf : P.funcs[f]? = some fn) (hb : fn.body.isNone = false) (hn : (fn.name == "runtime.NumGoroutine") = false) {vs : List Value} (hx : xs.toList.map (ev ρ) = vs.map some) {R : Ending → World → Prop}
    (hc : Calls P f vs.toArray w R) (k : ∀ e w', R e w' → ∃ v, e = .returned v ∧ ∀ a', Knows N ((d, v) :: ρ) a' → wpList P ops Q rest a' w') : wpList P ops Q (o :: rest) a w := by
  have key : ∀ (l : List Operand) (m : List Value), l.map (ev ρ) = m.map some → l.map a.eval = m := by
    intro l
    induction l with
    | nil => intro m hm; cases m <;> simp_all
    | cons p l ih =>
      intro m hm
      cases m with
      | nil => simp at hm
      | cons q m =>
        simp only [List.map_cons, List.cons.injEq] at hm ⊢
        exact ⟨h.k.eval hm.1, ih m hm.2⟩
  have hxs : xs.map a.eval = vs.toArray := by apply Array.ext'; rw [Array.toList_map]; exact key _ _ hx
  refine wpList_plain hg fun K hK => ?_
  unfold Oper.wp
  have hr : (execOp a.eval o).run P w = .ok (.enter f vs.toArray) w := by
    have hb' : fn.body ≠ none := by intro e; rw [e] at hb; cases hb
    have hn' : fn.name ≠ "runtime.NumGoroutine" := by intro e; rw [e] at hn; simp at hn
    simp [execOp, ho, resolve, invoke, hxs, Deferred.ofValue, Act.eval, callFunc, hf, hn', hb']
  rw [hr]
  refine hc.mono fun e w' he => ?_
  obtain ⟨v, rfl, h2⟩ := k e w' he
  exact hK _ _ (h2 _ (by rw [hd]; exact h.k.put hN))
/-- an operation that isn't wanted -/
theorem s_skip (h : St N w0 B ρ L a w) (hg : Region.wanted o (yielded ops a.tmps) = false) (hd : o.dst = some d) (hN : d < N) (k : ∀ a', St N w0 B ((d, undef) :: ρ) L a' w → wpList P ops Q rest a' w) : wpList P ops Q (o :: rest) a w := by
  unfold wpList
  rw [if_neg (by simp [hg])]
  exact k _ (s_put h hd hN)
theorem wanted_of (h : St N w0 B ρ L a w) {j : Nat} {want : Bool} (hg : o.guard = some (j, want)) {oj : Oper} (hj : ops[j]? = some oj) {t : Nat} (ht : oj.dst = some t) {b : Bool} (hb : ρ.lookup t = some (.bool b)) : Region.wanted o (yielded ops a.tmps) = (b == want) := by
  have := h.k.at_ t _ hb
  simp [Region.wanted, hg, yielded, hj, ht, this]
/-- a bound of a cut -/
def Bd (ρ : Slots) (x : Option Operand) (dflt n : Nat) : Prop := match x with
  | none => n = dflt
  | some x => ∃ kd j, ev ρ x = some (.int kd j) ∧ j = (n : Int)
/-- a literal of a slice: new cells -/
theorem s_bslice (h : St N w0 B ρ L a w) (hg : o.guard = none) {t : TypeId} {n : Nat} {ps : Array (Nat × Operand)} (ho : o.op = .buildSlice t n ps) (hd : o.dst = some d) (hN : d < N) {e : TypeId} (ht : P.underlying t = some (.slice e)) {z : Value} {sz : Nat} (hz : (P.info? e).map (fun i => (i.zero, i.size)) = some (some z, sz))
    (parts : List (Nat × Value)) (hp : ps.toList.map (fun p => (p.1, ev ρ p.2)) = parts.map (fun p => (p.1, some p.2))) (hsm : ¬ n * sz > 2 ^ 24) (hpos : ¬ n * sz = 0) (es : List Value) (hf : Instr.fill (fun i => some (i * sz, sz)) ((Array.range (n * sz)).map (z.cells[· % z.cells.size]!)) parts = some es.toArray)
    (k : ∀ a' w' g, St N w0 B ((d, .slice (some ⟨g, 0, none⟩) n n) :: ρ) (.box g e es :: L) a' w' → wpList P ops Q rest a' w') : wpList P ops Q (o :: rest) a w := by
  have key : ∀ (l : List (Nat × Operand)) (m : List (Nat × Value)), l.map (fun p => (p.1, ev ρ p.2)) = m.map (fun p => (p.1, some p.2)) → l.map (fun p => (p.1, a.eval p.2)) = m := by
    intro l
    induction l with
    | nil => intro m hm; cases m <;> simp_all
    | cons p l ih =>
      intro m hm
      cases m with
      | nil => simp at hm
      | cons q m =>
        simp only [List.map_cons, List.cons.injEq, Prod.mk.injEq] at hm ⊢
        exact ⟨by rw [h.k.eval hm.1.2, hm.1.1], ih m hm.2⟩
  have hpl : (ps.map fun (i, x) => (i, a.eval x)).toList = parts := by rw [Array.toList_map]; exact key _ _ hp
  cases hq : P.info? e with
  | none => simp [hq] at hz
  | some ie =>
    simp only [hq, Option.map_some, Option.some.injEq, Prod.mk.injEq] at hz
    refine s_of h hg hd hN (v := .slice (some ⟨w.heap.size, 0, none⟩) n n) (w' := w.alloc (.cells es.toArray e)) ?_ (fun a' hk => k a' _ _ ⟨hk, h.m.alloc _⟩)
    have := run_buildSlice (P := P) w t e n (ps.map fun (i, x) => (i, a.eval x)) es.toArray ie z ht hq hz.1 (by rw [hz.2]; exact hsm) (by rw [hz.2]; exact hpos) (by rw [hz.2, hpl]; exact hf)
    simp [execOp, ho, this]
/-- no slice yet, as a row of one's own -/
theorem Mem.nilrow (h : Mem w0 B L w) (E : TypeId) (sz : Nat) : Mem w0 B (.row (.slice none 0 0) E sz 0 [] :: L) w :=
  h.add (x := .row (.slice none 0 0) E sz 0 []) (World.ownsRow_nil w 0 E sz) (fun k hk => by cases hk) (fun i y hy k => ⟨fun hh => (by cases hh.1), fun hh => (by cases hh.2)⟩)
/-- what can be read of a row -/
theorem Mem.rdRow (h : Mem w0 B L w) {i : Nat} {v : Value} {E : TypeId} {sz n : Nat} {cs : List Value} (hi : L[i]? = some (.row v E sz n cs)) : ∃ A c, v = .slice A n c ∧ n ≤ c ∧ c ≤ maxLen ∧ Rd w A cs := by
  have h0 : w.ownsRow 0 E sz v n cs := h.ok i _ hi
  rcases h0.2 with ⟨rfl, rfl⟩ | ⟨g, cap, cur, rfl, hb, hg, hn, hm, hs, ht⟩
  · have : cs = [] := List.eq_nil_of_length_eq_zero (by simpa using h0.1)
    subst this
    exact ⟨none, 0, rfl, Nat.le_refl _, by simp [maxLen], Rd.nil _ _⟩
  · refine ⟨_, _, rfl, hn, hm, ?_⟩
    intro i c hc
    exact ⟨_, rfl, h0.cells (g := g) rfl i c hc⟩
/-- a block as a row of one's own -/
theorem Mem.asRow (h : Mem w0 B L w) {i g : Nat} {E : TypeId} {cs : List Value} (hi : L[i]? = some (.box g E cs)) (n sz : Nat) (hl : cs.length = n * sz) (hm : n ≤ maxLen) : Mem w0 B (L.set i (.row (.slice (some ⟨g, 0, none⟩) n n) E sz n cs)) w :=
  h.write hi (x := .box g E cs) (Chg.refl w _) (x' := .row (.slice (some ⟨g, 0, none⟩) n n) E sz n cs) ⟨hl, .inr ⟨g, n, cs.toArray, rfl, Nat.zero_le _, h.ok i _ hi, Nat.le_refl _, hm, by simp [hl], by simp [← hl]⟩⟩
    (fun k hk => .inl (by have : some g = some k := hk; cases this; rfl))
/-- append to a row of one's own -/
theorem s_append (h : St N w0 B ρ L a w) (hg : o.guard = none) {s x : Operand} {t : TypeId} (ho : o.op = .call { callee := .builtin .append, args := #[s, x], argTypes := #[t, t] }) (hd : o.dst = some d) (hN : d < N) {e : TypeId} (ht : P.underlying t = some (.slice e)) {z : Value} {sz bytes : Nat} (hinfo : (P.info? e).map (fun i => (i.zero, i.size, i.bytes)) = some (some z, sz, bytes)) (hz1 : z.cells.size = sz) (hsz : 0 < sz)
    {v : Value} (hs : ev ρ s = some v) (i : Nat) {n : Nat} {cs : List Value} (hi : L[i]? = some (.row v e sz n cs)) {A : Option Addr} {m c : Nat} (hx : ev ρ x = some (.slice A m c)) (news : List Value) (hl : news.length = m * sz) (hr : Rd w A news) (h1 : ∀ u ∈ news, u.oneCell' = true) (hn : (n + m) * bytes ≤ 140737488355328) (hn2 : n + m ≤ maxLen)
    (k : ∀ a' w' v', St N w0 B ((d, v') :: ρ) (L.set i (.row v' e sz (n + m) (cs ++ news))) a' w' → wpList P ops Q rest a' w') : wpList P ops Q (o :: rest) a w := by
  refine append_any (w0 := w) hg s x t e z sz bytes ho ht hinfo hz1 hsz v n cs (h.k.eval hs) A m c news (h.k.eval hx) hl hr h1 0 (h.m.ok i _ hi) ⟨rfl, rfl, rfl, Nat.le_refl _, fun _ hk => absurd hk (Nat.not_lt_zero _)⟩ (Nat.zero_le _) hn hn2 (fun v' w' hown _ hgr hblk => k _ _ v' ⟨by rw [hd]; exact h.k.put hN, ?_⟩)
  refine h.m.write hi (x := .row v e sz n cs) (Chg.grown hgr _ (fun k hk => hk)) hown (fun k hk => ?_)
  rcases hblk k hk with h3 | h3
  · exact .inl h3
  · exact .inr h3
theorem x_ldR (h : Knows N ρ a) {x : Operand} {t : TypeId} (ho : o.op = .load t x) {n : Nat} (ht : Agg P t n) {g off : Nat} (hx : ev ρ x = some (.pointer (some ⟨g, off, none⟩))) (es : List Value) (hn : es.length = n) (hc : w.rangeAt g off es) : (execOp a.eval o).run P w = .ok (.value (.agg es.toArray)) w := by
  obtain ⟨d, h1, h2, h3⟩ := ht
  simp [execOp, ho, h.eval hx, Instr.loadAt, Instr.sureAddr, run_loadVar_mid w g off t es d hc h1 h2 (by rw [h3, hn])]
theorem Mem.range (h : Mem w0 B L w) {i g : Nat} {T : TypeId} {cs : List Value} (hi : L[i]? = some (.box g T cs)) (off n : Nat) : w.rangeAt g off ((cs.drop off).take n) := fun j v hv => by
  rw [h.cell hi]
  rw [List.getElem?_take] at hv
  split at hv
  · rw [List.getElem?_drop] at hv; exact hv
  · cases hv
theorem x_len (h : Knows N ρ a) {x : Operand} {t : TypeId} (ho : o.op = .call { callee := .builtin .len, args := #[x], argTypes := #[t] }) {e : TypeId} (ht : P.underlying t = some (.slice e))
    {A : Option Addr} {n c : Nat} (hx : ev ρ x = some (.slice A n c)) :
    (execOp a.eval o).run P w = .ok (.value (.int .i64 (n : Int))) w := by simp [execOp, ho, resolve, invoke, builtin, h.eval hx, Builtin.len_, run_underlying ht, goInt]
theorem x_iaddr (h : Knows N ρ a) {x y : Operand} {t : TypeId} (ho : o.op = .indexAddr t x y) {e : TypeId} (ht : P.underlying t = some (.slice e)) {sz : Nat} (hs : (P.info? e).map (·.size) = some sz)
    {b off n c : Nat} (hx : ev ρ x = some (.slice (some ⟨b, off, none⟩) n c)) {kd : IntKind} {j : Int} (hy : ev ρ y = some (.int kd j)) {m : Nat} (hj : j = (m : Int)) (hm : m < n) {r : Nat} (hr : off + m * sz = r) :
    (execOp a.eval o).run P w = .ok (.value (.pointer (some ⟨b, r, none⟩))) w := by
  subst hj
  obtain rfl := hr
  have h1 : (0 : Int) ≤ (m : Int) ∧ (m : Int) < (n : Int) := by omega
  simp [execOp, ho, h.eval hx, h.eval hy, Instr.indexAt, run_underlying ht, asIntOf, run_size hs, hm, Addr.add_mid]
theorem x_faddr (h : Knows N ρ a) {x : Operand} {t : TypeId} {f : Nat} (ho : o.op = .fieldAddr t x f) {fs : Array Field} (ht : P.underlying t = some (.struct fs)) {fd : Field} (hf : fs[f]? = some fd) {sz : Nat} (hs : (P.info? fd.type).map (·.size) = some (sz + 1))
    {b off : Nat} (hx : ev ρ x = some (.pointer (some ⟨b, off, none⟩))) :
    (execOp a.eval o).run P w = .ok (.value (.pointer (some ⟨b, off + fd.offset, none⟩))) w := by
  simp [execOp, ho, h.eval hx, Instr.fieldAt, run_underlying ht, hf, Instr.sureAddr, fieldPlace, run_size hs, Addr.add_mid]
theorem x_ld (h : Knows N ρ a) {x : Operand} {t : TypeId} (ho : o.op = .load t x) {de : TypeDesc} (he : P.underlying t = some de) (hde : de.isRow = false)
    {p : Addr} (hx : ev ρ x = some (.pointer (some p))) {v : Value} (hc : w.cell? p = some v) :
    (execOp a.eval o).run P w = .ok (.value (v)) w := by
  have hagg : (isAgg t).run P w = .ok false w := by
    unfold isAgg
    rw [Sem.run_bind, run_underlying he w]
    cases de <;> simp_all [TypeDesc.isRow]
  simp [execOp, ho, h.eval hx, Instr.loadAt, Instr.sureAddr, loadVar, hagg, load, Sem.run, hc]
def Has (ρ : Slots) : Slots → Prop
  | [] => True
  | (t, v) :: r => ρ.lookup t = some v ∧ Has ρ r
theorem Has.mem {ρ ρ' : Slots} (h : Has ρ ρ') : ∀ p ∈ ρ', ρ.lookup p.1 = some p.2 := by
  induction ρ' with
  | nil => intro p hp; simp at hp
  | cons q r ih =>
    intro p hp
    rcases List.mem_cons.1 hp with rfl | hp
    · exact h.1
    · exact ih h.2 p hp
theorem St.has (h : St N w0 B ρ L a w) (hr : Has ρ ρ') : St N w0 B ρ' L a w := h.slots hr.mem
/-! ### control -/
theorem c_rs {id : Nat} {l : List Oper} {y : Code} (h : wpList P l.toArray (Exit.then (y.wp P Q) Q) l a w) : (Code.seq (Code.region id l.toArray false) y).wp P Q a w := wp_seq (wp_region_lit h)
theorem l_end {y : Code} (h : y.wp P Q a w) : wpList P ops (Exit.then (y.wp P Q) Q) [] a w := h
theorem c_enter {f : FuncId} {fn : Func} {c : Code} {args : Array Value} {R : Ending → World → Prop} (hf : P.funcs[f]? = some fn) (hb : fn.body = some c) (N : Nat) (hN : fn.ntmps = N) (hs : args.size ≤ N) (B : Nat → Prop) (ρ : Slots) (hρ : ((List.range args.size).zip args.toList) = ρ)
    (h : ∀ a, St N w B ρ [] a w → c.wp P (bodyPost P fn R) a w) : Calls P f args w R := by
  refine calls_of_wp hf hb (h _ ⟨⟨rfl, by simp; omega, fun t v hv => ?_⟩, Mem.start w B⟩)
  subst hρ
  have key : ∀ (l : List Value) (k : Nat), (((List.range' k l.length).zip l).lookup t = some v) → k ≤ t ∧ l[t - k]? = some v := by
    intro l
    induction l with
    | nil => intro k h; simp at h
    | cons x l ih =>
      intro k h
      simp only [List.length_cons, List.range'_succ, List.zip_cons_cons, List.lookup_cons] at h
      by_cases e : t = k
      · subst e; simp at h; simp [h]
      · have e' : (t == k) = false := by simpa using e
        rw [e'] at h
        obtain ⟨h1, h2⟩ := ih (k + 1) h
        refine ⟨by omega, ?_⟩
        rw [show t - k = (t - (k + 1)) + 1 by omega]; simpa using h2
  have := key args.toList 0 (by rw [← List.range_eq_range']; simpa using hv)
  have h2 : args[t]? = some v := by simpa using this.2
  have hlt : t < args.size := (Array.getElem?_eq_some_iff.1 h2).1
  rw [Array.getElem?_append_left hlt]; exact h2
theorem e_thenN {K : Act → World → Prop} (h : K a w) : Exit.then K Q .normal a w := h
theorem e_thenX {K : Act → World → Prop} {i : Nat} (h : Q (.exit i) a w) : Exit.then K Q (.exit i) a w := h
theorem e_thenR {K : Act → World → Prop} (h : Q .ret a w) : Exit.then K Q .ret a w := h
theorem e_blkN {id : Nat} (h : Q .normal a w) : Exit.inBlock id Q .normal a w := h
theorem e_blkR {id : Nat} (h : Q .ret a w) : Exit.inBlock id Q .ret a w := h
theorem e_blkX {id : Nat} (h : Q .normal a w) : Exit.inBlock id Q (.exit id) a w := by simp only [Exit.inBlock, if_true]; exact h
/-- a region at the end -/
theorem c_r {id : Nat} {l : List Oper} (h : wpList P l.toArray Q l a w) : (Code.region id l.toArray false).wp P Q a w := wp_region_lit h
theorem l_nil (h : Q .normal a w) : wpList P ops Q [] a w := h
theorem c_cond (h : St N w0 B ρ L a w) {x : Operand} {c1 c2 : Code} {b : Bool} (hx : ev ρ x = some (.bool b)) (ht : b = true → c1.wp P Q a w) (hf : b = false → c2.wp P Q a w) : (Code.cond x c1 c2).wp P Q a w :=
  wp_cond_split (h.k.eval hx) ht hf
theorem c_cs (h : St N w0 B ρ L a w) {x : Operand} {c1 c2 y : Code} {b : Bool} (hx : ev ρ x = some (.bool b)) (ht : b = true → c1.wp P (Exit.then (y.wp P Q) Q) a w) (hf : b = false → c2.wp P (Exit.then (y.wp P Q) Q) a w) : (Code.seq (.cond x c1 c2) y).wp P Q a w :=
  wp_seq (c_cond h hx ht hf)
theorem c_loop {c : Code} (I : Nat → Act → World → Prop) (n : Nat) (h0 : I n a w) (round : ∀ m a w, I m a w → c.wp P (Exit.then (fun a' w' => ∃ m', m' < m ∧ I m' a' w') Q) a w) : (Code.loop c).wp P Q a w := by
  intro b k cs
  have key : ∀ n a w, I n a w → ∃ e a' w', Q e a' w' ∧ Arrives P (lone (b.at a (.code c :: .inLoop c :: k)) cs w) b k cs e a' w' := by
    intro n
    induction n using Nat.strongRecOn with
    | _ n ih =>
      intro a w hI
      obtain ⟨e, a₁, w₁, hq, harr⟩ := round n a w hI b (.inLoop c :: k) cs
      cases e with
      | normal =>
        obtain ⟨m', hlt, hI₁⟩ := hq
        obtain ⟨e₂, a₂, w₂, hq₂, harr₂⟩ := ih m' hlt a₁ w₁ hI₁
        exact ⟨e₂, a₂, w₂, hq₂, .of_steps (Steps.trans harr (.one step_inLoop)) harr₂⟩
      | exit id => exact ⟨_, a₁, w₁, hq, .pass (x := .inLoop c) rfl (fun _ _ => .inl (by simp)) harr⟩
      | goto l => exact ⟨_, a₁, w₁, hq, .pass (x := .inLoop c) rfl (fun _ _ => .inl (by simp)) harr⟩
      | ret => exact ⟨_, a₁, w₁, hq, .pass (x := .inLoop c) rfl (fun _ _ => .inl (by simp)) harr⟩
      | panic ch => exact ⟨_, a₁, w₁, hq, .pass (x := .inLoop c) rfl (fun _ _ => .inl (by simp)) harr⟩
      | outgrown => exact ⟨_, a₁, w₁, hq, .pass (x := .inLoop c) rfl (fun _ _ => .inl (by simp)) harr⟩
  obtain ⟨e, a', w', hq, harr⟩ := key _ a w h0
  exact ⟨e, a', w', hq, .of_steps (.one step_loop) harr⟩
/-- results -/
def resv (P : Program) (w : World) (a : Act) : ResultVar → Value → Prop
  | .tmp t, v => a.tmps[t]? = some v
  | .cell p ty, v => ∃ ad, a.tmps[p]? = some (.pointer (some ad)) ∧ (loadVar ty ad).run P w = .ok v w
def rvs (a : Act) : ResultVar → Sem Value
  | .tmp t => pure (a.tmps.getD t undef)
  | .cell p ty => do loadVar ty (← asAddr (a.tmps.getD p undef))
theorem results_rvs (fn : Func) (a : Act) : results fn a.tmps = (do
    let vs ← fn.results.mapM (rvs a)
    pure (if h : vs.size = 1 then vs[0] else .tuple vs)) := by
  unfold results
  first | rfl | (congr 1; done) | (congr 1; congr 1; done) | (congr 1; congr 1; funext r; cases r <;> rfl)
theorem resv_run {r : ResultVar} (h : resv P w a r v) : (rvs a r).run P w = .ok v w := by
  cases r with
  | tmp t =>
    have h : a.tmps[t]? = some v := h
    simp [rvs, h]
  | cell p ty =>
    obtain ⟨ad, h1, h2⟩ := h
    simp [rvs, h1, asAddr, h2]
theorem results1 {fn : Func} {r : ResultVar} (hr : fn.results = #[r]) (h : resv P w a r v) : (results fn a.tmps).run P w = .ok v w := by
  rw [results_rvs, hr]
  simp [resv_run h]
theorem results2 {fn : Func} {r s : ResultVar} (hr : fn.results = #[r, s]) (h : resv P w a r v) (h2 : resv P w a s u) : (results fn a.tmps).run P w = .ok (.tuple #[v, u]) w := by
  rw [results_rvs, hr]
  simp [resv_run h, resv_run h2]
theorem rv_tmp (h : St N w0 B ρ L a w) {t : Nat} (hv : ρ.lookup t = some v) : resv P w a (.tmp t) v := h.k.at_ t v hv
/-- the end of a function -/
theorem r_ret1 {fn : Func} {R : Ending → World → Prop} (h : St N w0 B ρ L a w) {r : ResultVar} (hr : fn.results = #[r]) (hv : resv P w a r v) (hR : R (.returned v) w) : bodyPost P fn R .ret a w := bodyPost_ret (results1 hr hv) h.k.defers hR
theorem r_ret2 {fn : Func} {R : Ending → World → Prop} (h : St N w0 B ρ L a w) {r s : ResultVar} (hr : fn.results = #[r, s]) (hv : resv P w a r v) (hu : resv P w a s u) (hR : R (.returned (.tuple #[v, u])) w) : bodyPost P fn R .ret a w := bodyPost_ret (results2 hr hv hu) h.k.defers hR
end
end Go.Proofs.YtnmeelkfpmodgaaDoor
