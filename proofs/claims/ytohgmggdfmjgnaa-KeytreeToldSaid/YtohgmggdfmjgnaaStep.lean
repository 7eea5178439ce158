/- Steps of a walk over slots that are known (Knows) and memory in parts (Mem): the frame itself is a letter. -/
import Derived.Test.YtohgmggdfmjgnaaMem
import Derived.Test.YtohgmggdfmjgnaaArr
import Derived.Deep.WholeRow
import Derived.Great.BuildSlice
set_option linter.unusedVariables false
set_option linter.unusedSimpArgs false
namespace Go.Proofs.Ytohgmggdfmjgnaa
open Go.RowKit

abbrev Slots := List (Nat × Value)
def ev (ρ : Slots) : Operand → Option Value
  | .tmp t => ρ.lookup t
  | .const v => some v
  | .global g => some (.pointer (some ⟨g, 0, none⟩))
  | .func f => some (.func (.func f) #[] #[])
structure Knows (N : Nat) (ρ : Slots) (a : Act) : Prop where
  defers : a.defers = []
  size : a.tmps.size = N
  at_ : ∀ t v, ρ.lookup t = some v → a.tmps[t]? = some v
structure St (N : Nat) (w0 : World) (B : Nat → Prop) (ρ : Slots) (L : List Ch) (a : Act) (w : World) : Prop where
  k : Knows N ρ a
  m : Mem w0 B L w
section
variable {P : Program} {ops : Array Oper} {rest : List Oper} {o : Oper} {Q : Exit → Act → World → Prop} {N : Nat} {w0 w w' : World} {B : Nat → Prop} {ρ ρ' : Slots} {L L' : List Ch} {a a' : Act} {d : Nat} {u v : Value}
theorem Knows.eval (h : Knows N ρ a) {x : Operand} (hx : ev ρ x = some v) : a.eval x = v := by
  cases x with
  | tmp t =>
    have := h.at_ t v hx
    simp only [Act.eval, Array.getD_eq_getD_getElem?, this]; rfl
  | const c => exact Option.some.inj hx
  | global g => exact Option.some.inj hx
  | func f => exact Option.some.inj hx
theorem Knows.put (h : Knows N ρ a) (hd : d < N) : Knows N ((d, v) :: ρ) (a.put (some d) v) := by
  refine ⟨h.defers, by simp [Act.put, h.size], fun t u hu => ?_⟩
  rw [List.lookup_cons] at hu
  by_cases e : t = d
  · subst e
    simp at hu; subst hu
    simp [Act.put, h.size, hd]
  · have : (t == d) = false := by simpa using e
    rw [this] at hu
    simp only [Act.put]
    rw [Array.getElem?_setIfInBounds_ne (Ne.symm e)]
    exact h.at_ t u hu
theorem Knows.weaken (h : Knows N ρ a) (hr : ∀ p ∈ ρ', ρ.lookup p.1 = some p.2) : Knows N ρ' a := by
  refine ⟨h.defers, h.size, fun t u hu => ?_⟩
  have hm : (t, u) ∈ ρ' := by
    clear hr
    induction ρ' with
    | nil => simp at hu
    | cons p r ih =>
      obtain ⟨s, x⟩ := p
      rw [List.lookup_cons] at hu
      by_cases e : t = s
      · subst e; simp at hu; subst hu; simp
      · have : (t == s) = false := by simpa using e
        rw [this] at hu; exact List.mem_cons_of_mem _ (ih hu)
  exact h.at_ t u (hr _ hm)
/-- the slots are restated -/
theorem St.slots (h : St N w0 B ρ L a w) (hr : ∀ p ∈ ρ', ρ.lookup p.1 = some p.2) : St N w0 B ρ' L a w := ⟨h.k.weaken hr, h.m⟩
theorem St.mem (h : St N w0 B ρ L a w) (hm : Mem w0 B L' w') : St N w0 B ρ L' a w' := ⟨h.k, hm⟩
theorem St.parts (h : St N w0 B ρ L a w) (e : L = L') : St N w0 B ρ L' a w := e ▸ h
theorem s_put (h : St N w0 B ρ L a w) (hd : o.dst = some d) (hN : d < N) : St N w0 B ((d, v) :: ρ) L (a.put o.dst v) w := by rw [hd]; exact ⟨h.k.put hN, h.m⟩
/-- move -/
theorem s_move (h : St N w0 B ρ L a w) (hg : o.guard = none) (x : Operand) (ho : o.op = .move x) (hd : o.dst = some d) (hN : d < N) (hx : ev ρ x = some v) (k : ∀ a', St N w0 B ((d, v) :: ρ) L a' w → wpList P ops Q rest a' w) : wpList P ops Q (o :: rest) a w :=
  wpList_plain hg fun K hK => BigFrame.wp_move x ho (by rw [h.k.eval hx]; exact hK _ _ (k _ (s_put h hd hN)))
theorem s_assign (h : St N w0 B ρ L a w) (hg : o.guard = none) (x : Operand) (ho : o.op = .assign x) (hd : o.dst = some d) (hN : d < N) (hx : ev ρ x = some v) (k : ∀ a', St N w0 B ((d, v) :: ρ) L a' w → wpList P ops Q rest a' w) : wpList P ops Q (o :: rest) a w :=
  wpList_plain hg fun K hK => BigFrame.wp_assign x ho (by rw [h.k.eval hx]; exact hK _ _ (k _ (s_put h hd hN)))
theorem sMV (h : St N w0 B ρ L a w) {x : Operand} (k : ∀ a', St N w0 B ((d, v) :: ρ) L a' w → wpList P ops Q rest a' w) (hg : o.guard = none := by rfl) (ho : o.op = .move x := by rfl) (hd : o.dst = some d := by rfl) (hN : d < N := by decide) (hx : ev ρ x = some v := by rfl) : wpList P ops Q (o :: rest) a w := s_move h hg x ho hd hN hx k
theorem sAV (h : St N w0 B ρ L a w) {x : Operand} (k : ∀ a', St N w0 B ((d, v) :: ρ) L a' w → wpList P ops Q rest a' w) (hg : o.guard = none := by rfl) (ho : o.op = .assign x := by rfl) (hd : o.dst = some d := by rfl) (hN : d < N := by decide) (hx : ev ρ x = some v := by rfl) : wpList P ops Q (o :: rest) a w := s_assign h hg x ho hd hN hx k
theorem s_of (h : St N w0 B ρ L a w) (hg : o.guard = none) (hd : o.dst = some d) (hN : d < N) (hr : (execOp a.eval o).run P w = .ok (.value v) w') (k : ∀ a', Knows N ((d, v) :: ρ) a' → wpList P ops Q rest a' w') : wpList P ops Q (o :: rest) a w :=
  wpList_plain hg fun K hK => by
    unfold Oper.wp; rw [hr]
    exact hK _ _ (k _ (by rw [hd]; exact h.k.put hN))
theorem s_of0 (h : St N w0 B ρ L a w) (hg : o.guard = none) (hd : o.dst = none) (hr : (execOp a.eval o).run P w = .ok .skip w') (k : ∀ a', Knows N ρ a' → wpList P ops Q rest a' w') : wpList P ops Q (o :: rest) a w :=
  wpList_plain hg fun K hK => by
    unfold Oper.wp; rw [hr]
    exact hK _ _ (k _ (by rw [hd]; exact h.k))
/-- len of a slice -/
theorem s_len (h : St N w0 B ρ L a w) (hg : o.guard = none) {x : Operand} {t : TypeId} (ho : o.op = .call { callee := .builtin .len, args := #[x], argTypes := #[t] }) (hd : o.dst = some d) (hN : d < N) {e : TypeId} (ht : P.underlying t = some (.slice e))
    {A : Option Addr} {n c : Nat} (hx : ev ρ x = some (.slice A n c)) (k : ∀ a', St N w0 B ((d, .int .i64 (n : Int)) :: ρ) L a' w → wpList P ops Q rest a' w) : wpList P ops Q (o :: rest) a w :=
  s_of h hg hd hN (by simp [execOp, ho, resolve, invoke, builtin, h.k.eval hx, Builtin.len_, run_underlying ht, goInt]) (fun a' hk => k a' ⟨hk, h.m⟩)
/-- a whole number of another kind -/
theorem s_conv (h : St N w0 B ρ L a w) (hg : o.guard = none) {x : Operand} {s t : TypeId} (ho : o.op = .convert s t x) (hd : o.dst = some d) (hN : d < N) {ds : TypeDesc} (hs : P.underlying s = some ds) {k1 k2 : IntKind} (ht : P.underlying t = some (.int k2))
    {n : Int} (hx : ev ρ x = some (.int k1 n)) (k : ∀ a', St N w0 B ((d, .int k2 (k2.wrap n)) :: ρ) L a' w → wpList P ops Q rest a' w) : wpList P ops Q (o :: rest) a w :=
  s_of h hg hd hN (by simp [execOp, ho, h.k.eval hx, convert, run_underlying hs, run_underlying ht, Conv.intToInt]) (fun a' hk => k a' ⟨hk, h.m⟩)
theorem run_size {t : TypeId} {n : Nat} (h : (P.info? t).map (·.size) = some n) (w : World) : (sizeOf t).run P w = .ok n w := by
  cases hq : P.info? t with
  | none => simp [hq] at h
  | some i =>
    have : i.size = n := by simpa [hq] using h
    simp [sizeOf, typeInfo, hq, this]
/-- an element's address: of a slice, of an array -/
theorem s_iaddr (h : St N w0 B ρ L a w) (hg : o.guard = none) {x y : Operand} {t : TypeId} (ho : o.op = .indexAddr t x y) (hd : o.dst = some d) (hN : d < N) {e : TypeId} (ht : P.underlying t = some (.slice e)) {sz : Nat} (hs : (P.info? e).map (·.size) = some sz)
    {b off n c : Nat} (hx : ev ρ x = some (.slice (some ⟨b, off, none⟩) n c)) {kd : IntKind} {j : Int} (hy : ev ρ y = some (.int kd j)) {m : Nat} (hj : j = (m : Int)) (hm : m < n) {r : Nat} (hr : off + m * sz = r)
    (k : ∀ a', St N w0 B ((d, .pointer (some ⟨b, r, none⟩)) :: ρ) L a' w → wpList P ops Q rest a' w) : wpList P ops Q (o :: rest) a w := by
  subst hj
  obtain rfl := hr
  refine s_of h hg hd hN (v := .pointer (some ⟨b, off + m * sz, none⟩)) ?_ (fun a' hk => k a' ⟨hk, h.m⟩)
  have h1 : (0 : Int) ≤ (m : Int) ∧ (m : Int) < (n : Int) := by omega
  simp [execOp, ho, h.k.eval hx, h.k.eval hy, Instr.indexAt, run_underlying ht, asIntOf, run_size hs, hm, Addr.add_mid]
theorem s_iaddrA (h : St N w0 B ρ L a w) (hg : o.guard = none) {x y : Operand} {t : TypeId} (ho : o.op = .indexAddr t x y) (hd : o.dst = some d) (hN : d < N) {e : TypeId} {n : Nat} (ht : P.underlying t = some (.array n e)) {sz : Nat} (hs : (P.info? e).map (·.size) = some sz)
    {b off : Nat} (hx : ev ρ x = some (.pointer (some ⟨b, off, none⟩))) {kd : IntKind} {j : Int} (hy : ev ρ y = some (.int kd j)) {m : Nat} (hj : j = (m : Int)) (hm : m < n) {r : Nat} (hr : off + m * sz = r)
    (k : ∀ a', St N w0 B ((d, .pointer (some ⟨b, r, none⟩)) :: ρ) L a' w → wpList P ops Q rest a' w) : wpList P ops Q (o :: rest) a w := by
  subst hj
  obtain rfl := hr
  refine s_of h hg hd hN (v := .pointer (some ⟨b, off + m * sz, none⟩)) ?_ (fun a' hk => k a' ⟨hk, h.m⟩)
  simp [execOp, ho, h.k.eval hx, h.k.eval hy, Instr.indexAt, run_underlying ht, asIntOf, Instr.sureAddr, run_size hs, hm, Addr.add_mid]
/-- an element of an array by value -/
theorem s_index (h : St N w0 B ρ L a w) (hg : o.guard = none) {x y : Operand} {t : TypeId} (ho : o.op = .index t x y) (hd : o.dst = some d) (hN : d < N) {e : TypeId} {n : Nat} (ht : P.underlying t = some (.array n e)) {de : TypeDesc} (he : P.underlying e = some de) (hde : de.isRow = false) (hs : (P.info? e).map (·.size) = some 1)
    {C : Array Value} (hx : ev ρ x = some (.agg C)) {kd : IntKind} {j : Int} (hy : ev ρ y = some (.int kd j)) {m : Nat} (hj : j = (m : Int)) (hm : m < n) {v : Value} (hv : C[m]? = some v)
    (k : ∀ a', St N w0 B ((d, v) :: ρ) L a' w → wpList P ops Q rest a' w) : wpList P ops Q (o :: rest) a w := by
  subst hj
  refine s_of h hg hd hN (v := v) ?_ (fun a' hk => k a' ⟨hk, h.m⟩)
  have hagg : (isAgg e).run P w = .ok false w := by
    unfold isAgg
    rw [Sem.run_bind, run_underlying he w]
    cases de <;> simp_all [TypeDesc.isRow]
  simp [execOp, ho, h.k.eval hx, h.k.eval hy, Instr.index, run_underlying ht, asIntOf, run_size hs, hm, part, hagg, hv]
/-- load: one cell -/
theorem s_ld (h : St N w0 B ρ L a w) (hg : o.guard = none) {x : Operand} {t : TypeId} (ho : o.op = .load t x) (hd : o.dst = some d) (hN : d < N) {de : TypeDesc} (he : P.underlying t = some de) (hde : de.isRow = false)
    {p : Addr} (hx : ev ρ x = some (.pointer (some p))) {v : Value} (hc : w.cell? p = some v) (k : ∀ a', St N w0 B ((d, v) :: ρ) L a' w → wpList P ops Q rest a' w) : wpList P ops Q (o :: rest) a w := by
  refine s_of h hg hd hN (v := v) ?_ (fun a' hk => k a' ⟨hk, h.m⟩)
  have hagg : (isAgg t).run P w = .ok false w := by
    unfold isAgg
    rw [Sem.run_bind, run_underlying he w]
    cases de <;> simp_all [TypeDesc.isRow]
  simp [execOp, ho, h.k.eval hx, Instr.loadAt, Instr.sureAddr, loadVar, hagg, load, Sem.run, hc]
/-- load out of part i -/
theorem s_ldb (h : St N w0 B ρ L a w) (hg : o.guard = none) {x : Operand} {t : TypeId} (ho : o.op = .load t x) (hd : o.dst = some d) (hN : d < N) {de : TypeDesc} (he : P.underlying t = some de) (hde : de.isRow = false)
    {g off : Nat} (hx : ev ρ x = some (.pointer (some ⟨g, off, none⟩))) (i : Nat) {T : TypeId} {cs : List Value} (hi : L[i]? = some (.box g T cs)) {v : Value} (hc : cs[off]? = some v) (k : ∀ a', St N w0 B ((d, v) :: ρ) L a' w → wpList P ops Q rest a' w) : wpList P ops Q (o :: rest) a w :=
  s_ld h hg ho hd hN he hde hx ((h.m.cell hi off).trans hc) k
/-- load: a value of many cells out of part i -/
theorem s_ldA (h : St N w0 B ρ L a w) (hg : o.guard = none) {x : Operand} {t : TypeId} (ho : o.op = .load t x) (hd : o.dst = some d) (hN : d < N) {n : Nat} (ht : Agg P t n)
    {g off : Nat} (hx : ev ρ x = some (.pointer (some ⟨g, off, none⟩))) (i : Nat) {T : TypeId} {cs : List Value} (hi : L[i]? = some (.box g T cs)) (hn : off + n ≤ cs.length) {es : List Value} (hes : (cs.drop off).take n = es)
    (k : ∀ a', St N w0 B ((d, .agg es.toArray) :: ρ) L a' w → wpList P ops Q rest a' w) : wpList P ops Q (o :: rest) a w := by
  subst hes
  refine ld_op hg t x ho g off (h.k.eval hx) ht _ (by simp; omega) (fun j v hv => ?_) (k _ (s_put h hd hN))
  rw [h.m.cell hi]
  rw [List.getElem?_take] at hv
  split at hv
  · rw [List.getElem?_drop] at hv; exact hv
  · cases hv
/-- store: one cell, into part i -/
theorem s_stb (h : St N w0 B ρ L a w) (hg : o.guard = none) {x y : Operand} {t : TypeId} (ho : o.op = .store t x y) (hd : o.dst = none) (hs : (P.info? t).map (·.size) = some 1)
    {g off : Nat} (hx : ev ρ x = some (.pointer (some ⟨g, off, none⟩))) {v : Value} (hy : ev ρ y = some v) (hv : v.oneCell' = true) (i : Nat) {T : TypeId} {cs : List Value} (hi : L[i]? = some (.box g T cs)) (hc : off < cs.length)
    (k : ∀ a' w', St N w0 B ρ (L.set i (.box g T (cs.set off v))) a' w' → wpList P ops Q rest a' w') : wpList P ops Q (o :: rest) a w := by
  have h1 : w.cell? ⟨g, off, none⟩ = some (cs[off]'hc) := by rw [h.m.cell hi]; simp [hc]
  have h2 := h.m.frozen hi off
  refine s_of0 h hg hd (w' := w.setCell ⟨g, off, none⟩ v) ?_ (fun a' hk => k a' _ ⟨hk, h.m.set hi off v⟩)
  have hcl : v.cells = #[v] := by cases v <;> simp_all [Value.oneCell', Value.cells]
  simp only [execOp, ho, h.k.eval hx, h.k.eval hy, Instr.storeAt, Instr.sureAddr, storeVar, Sem.run_bind, Sem.run_pure, Result.andThen_ok, run_size hs, hcl]
  have h0 : (⟨g, off, none⟩ : Addr).add 0 = ⟨g, off, none⟩ := by simp [Addr.add]
  cases v <;> simp_all [Value.oneCell', storeCells, store, Sem.run, h0]
/-- store: a value of many cells, into part i -/
theorem s_stA (h : St N w0 B ρ L a w) (hg : o.guard = none) {x y : Operand} {t : TypeId} (ho : o.op = .store t x y) (hd : o.dst = none) {n : Nat} (ht : Agg P t n)
    {g off : Nat} (hx : ev ρ x = some (.pointer (some ⟨g, off, none⟩))) {es : List Value} (hy : ev ρ y = some (.agg es.toArray)) (hn : es.length = n) (h1 : ∀ v ∈ es, v.oneCell' = true) (i : Nat) {T : TypeId} {cs : List Value} (hi : L[i]? = some (.box g T cs)) (hc : off + n ≤ cs.length)
    (k : ∀ a' w', St N w0 B ρ (L.set i (.box g T (cs.take off ++ es ++ cs.drop (off + n)))) a' w' → wpList P ops Q rest a' w') : wpList P ops Q (o :: rest) a w := by
  have hth : w.there g off n := fun j hj => ⟨by rw [h.m.cell hi]; simp; omega, h.m.frozen hi _⟩
  refine st_op hg t x y ho g off es (h.k.eval hx) (h.k.eval hy) ht hn h1 hth (k _ _ ⟨by rw [hd]; exact h.k, ?_⟩)
  have hb : w.heap[g]? = some (.cells cs.toArray T (0, 0)) := h.m.ok i _ hi
  have key : ∀ (es : List Value) (off : Nat) (cs : List Value) (w : World), w.heap[g]? = some (.cells cs.toArray T (0, 0)) → off + es.length ≤ cs.length → (w.setCells g off es).heap[g]? = some (.cells (cs.take off ++ es ++ cs.drop (off + es.length)).toArray T (0, 0)) := by
    intro es
    induction es with
    | nil => intro off cs w hw hl; simp [World.setCells, hw]
    | cons e es ih =>
      intro off cs w hw hl
      simp only [List.length_cons] at hl
      rw [World.setCells]
      have hw2 := blk_set hw off e
      have := ih (off + 1) (cs.set off e) (w.setCell ⟨g, off, none⟩ e) (by simpa using hw2) (by simp; omega)
      rw [this]
      congr 3
      have e1 : (cs.set off e).take (off + 1) = cs.take off ++ [e] := by
        rw [List.take_set, List.take_succ_eq_append_getElem (by omega), List.set_append_right _ _ (by simp; omega)]
        simp [Nat.min_eq_left (show off ≤ cs.length by omega)]
      have e2 : (cs.set off e).drop (off + 1 + es.length) = cs.drop (off + (es.length + 1)) := by
        rw [List.drop_set, if_pos (by omega)]; congr 1; omega
      rw [e1, e2]; simp
  refine h.m.write hi (x := .box g T cs) ((Chg.refl w (Ch.box g T cs).own).setCells (.inl rfl) es off) ?_ (fun k hk => .inl hk)
  have := key es off cs w hb (by omega)
  rw [hn] at this
  exact this
/-- load, store: the whole of part i -/
theorem s_ldW (h : St N w0 B ρ L a w) (hg : o.guard = none) {x : Operand} {t : TypeId} (ho : o.op = .load t x) (hd : o.dst = some d) (hN : d < N) {n : Nat} (ht : Agg P t n)
    {g : Nat} (hx : ev ρ x = some (.pointer (some ⟨g, 0, none⟩))) (i : Nat) {T : TypeId} {cs : List Value} (hi : L[i]? = some (.box g T cs)) (hn : cs.length = n)
    (k : ∀ a', St N w0 B ((d, .agg cs.toArray) :: ρ) L a' w → wpList P ops Q rest a' w) : wpList P ops Q (o :: rest) a w :=
  s_ldA h hg ho hd hN ht hx i hi (by omega) (by rw [List.drop_zero, List.take_of_length_le (by omega)]) k
theorem s_stW (h : St N w0 B ρ L a w) (hg : o.guard = none) {x y : Operand} {t : TypeId} (ho : o.op = .store t x y) (hd : o.dst = none) {n : Nat} (ht : Agg P t n)
    {g : Nat} (hx : ev ρ x = some (.pointer (some ⟨g, 0, none⟩))) {es : List Value} (hy : ev ρ y = some (.agg es.toArray)) (hn : es.length = n) (h1 : ∀ v ∈ es, v.oneCell' = true) (i : Nat) {T : TypeId} {cs : List Value} (hi : L[i]? = some (.box g T cs)) (hc : cs.length = n)
    (k : ∀ a' w', St N w0 B ρ (L.set i (.box g T es)) a' w' → wpList P ops Q rest a' w') : wpList P ops Q (o :: rest) a w :=
  s_stA h hg ho hd ht hx hy hn h1 i hi (by omega) (fun a' w' h => k a' w' (h.parts (by rw [List.take_zero, List.nil_append, List.drop_of_length_le (by omega), List.append_nil])))
/-- a new variable -/
theorem s_alloc (h : St N w0 B ρ L a w) (hg : o.guard = none) {t : TypeId} (ho : o.op = .alloc t) (hd : o.dst = some d) (hN : d < N) {z : Value} {sz : Nat} (hz : (P.info? t).map (fun i => (i.zero, i.size)) = some (some z, sz)) {cs : List Value} (hcs : z.cells = cs.toArray)
    (k : ∀ a' w' g, St N w0 B ((d, .pointer (some ⟨g, 0, none⟩)) :: ρ) (.box g t cs :: L) a' w' → wpList P ops Q rest a' w') : wpList P ops Q (o :: rest) a w := by
  refine s_of h hg hd hN (v := .pointer (some ⟨w.heap.size, 0, none⟩)) (w' := w.alloc (.cells cs.toArray t)) ?_ (fun a' hk => k a' _ _ ⟨hk, h.m.alloc _⟩)
  have := (zero_of_info hz).1
  simp [execOp, ho, Instr.alloc, this, newVar, newRow, newObj, hcs]
  rfl
/-- a new variable that has a value -/
theorem s_box (h : St N w0 B ρ L a w) (hg : o.guard = none) {t : TypeId} {x : Operand} (ho : o.op = .box t x) (hd : o.dst = some d) (hN : d < N) {v : Value} (hx : ev ρ x = some v) {cs : List Value} (hcs : v.cells = cs.toArray)
    (k : ∀ a' w' g, St N w0 B ((d, .pointer (some ⟨g, 0, none⟩)) :: ρ) (.box g t cs :: L) a' w' → wpList P ops Q rest a' w') : wpList P ops Q (o :: rest) a w := by
  refine s_of h hg hd hN (v := .pointer (some ⟨w.heap.size, 0, none⟩)) (w' := w.alloc (.cells cs.toArray t)) ?_ (fun a' hk => k a' _ _ ⟨hk, h.m.alloc _⟩)
  simp [execOp, ho, h.k.eval hx, Instr.box, newVar, newRow, newObj, hcs]
  rfl
/-- a value of many cells is built -/
theorem s_build (h : St N w0 B ρ L a w) (hg : o.guard = none) {t : TypeId} {ps : Array (Nat × Operand)} (ho : o.op = .build t ps) (hd : o.dst = some d) (hN : d < N) (parts : List (Nat × Value)) (hp : ps.toList.map (fun p => (p.1, ev ρ p.2)) = parts.map (fun p => (p.1, some p.2))) (es : List Value) (hb : P.built t parts = some es.toArray)
    (k : ∀ a', St N w0 B ((d, .agg es.toArray) :: ρ) L a' w → wpList P ops Q rest a' w) : wpList P ops Q (o :: rest) a w := by
  refine bld_op hg t ps ho parts ?_ es.toArray hb (k _ (s_put h hd hN))
  have key : ∀ (l : List (Nat × Operand)) (m : List (Nat × Value)), l.map (fun p => (p.1, ev ρ p.2)) = m.map (fun p => (p.1, some p.2)) → l.map (fun p => (p.1, a.eval p.2)) = m := by
    intro l
    induction l with
    | nil => intro m hm; cases m <;> simp_all
    | cons p l ih =>
      intro m hm
      cases m with
      | nil => simp at hm
      | cons q m =>
        simp only [List.map_cons, List.cons.injEq, Prod.mk.injEq] at hm ⊢
        exact ⟨by rw [h.k.eval hm.1.2, hm.1.1], ih m hm.2⟩
  exact key _ _ hp
/-- a call of a Go function -/
theorem s_call (h : St N w0 B ρ L a w) (hg : o.guard = none) {f : FuncId} {xs : Array Operand} {ats : Array TypeId} (ho : o.op = .call { callee := .value (.func f), args := xs, argTypes := ats }) (hd : o.dst = some d) (hN : d < N) {fn : Func} (hf : P.funcs[f]? = some fn) (hb : fn.body.isNone = false) (hn : (fn.name == "runtime.NumGoroutine") = false) {vs : List Value} (hx : xs.toList.map (ev ρ) = vs.map some) {R : Ending → World → Prop}
    (hc : Calls P f vs.toArray w R) (k : ∀ e w', R e w' → ∃ v, e = .returned v ∧ ∀ a', Knows N ((d, v) :: ρ) a' → wpList P ops Q rest a' w') : wpList P ops Q (o :: rest) a w := by
  have key : ∀ (l : List Operand) (m : List Value), l.map (ev ρ) = m.map some → l.map a.eval = m := by
    intro l
    induction l with
    | nil => intro m hm; cases m <;> simp_all
    | cons p l ih =>
      intro m hm
      cases m with
      | nil => simp at hm
      | cons q m =>
        simp only [List.map_cons, List.cons.injEq] at hm ⊢
        exact ⟨h.k.eval hm.1, ih m hm.2⟩
  have hxs : xs.map a.eval = vs.toArray := by apply Array.ext'; rw [Array.toList_map]; exact key _ _ hx
  refine wpList_plain hg fun K hK => ?_
  unfold Oper.wp
  have hr : (execOp a.eval o).run P w = .ok (.enter f vs.toArray) w := by
    have hb' : fn.body ≠ none := by intro e; rw [e] at hb; cases hb
    have hn' : fn.name ≠ "runtime.NumGoroutine" := by intro e; rw [e] at hn; simp at hn
    simp [execOp, ho, resolve, invoke, hxs, Deferred.ofValue, Act.eval, callFunc, hf, hn', hb']
  rw [hr]
  refine hc.mono fun e w' he => ?_
  obtain ⟨v, rfl, h2⟩ := k e w' he
  exact hK _ _ (h2 _ (by rw [hd]; exact h.k.put hN))
/-- a call that changes nothing that was there, and yields a known value -/
theorem s_callB (h : St N w0 B ρ L a w) (hg : o.guard = none) {f : FuncId} {xs : Array Operand} {ats : Array TypeId} (ho : o.op = .call { callee := .value (.func f), args := xs, argTypes := ats }) (hd : o.dst = some d) (hN : d < N) {fn : Func} (hf : P.funcs[f]? = some fn) (hb : fn.body.isNone = false) (hn : (fn.name == "runtime.NumGoroutine") = false) {vs : List Value} (hx : xs.toList.map (ev ρ) = vs.map some) {v : Value}
    (hc : Calls P f vs.toArray w fun e w' => e = .returned v ∧ Below w.heap.size w w') (k : ∀ a' w', Below w.heap.size w w' → St N w0 B ((d, v) :: ρ) L a' w' → wpList P ops Q rest a' w') : wpList P ops Q (o :: rest) a w :=
  s_call h hg ho hd hN hf hb hn hx hc (fun e w' ⟨he, hb⟩ => ⟨v, he, fun a' hk => k a' w' hb ⟨hk, h.m.ext hb⟩⟩)
theorem same_below {f : FuncId} {args : Array Value} {v : Value} (h : Calls P f args w fun e w' => e = .returned v ∧ w' = w) : Calls P f args w fun e w' => e = .returned v ∧ Below w.heap.size w w' := h.mono fun e w' ⟨h1, h2⟩ => ⟨h1, by rw [h2]; exact Below.refl _ _⟩
theorem drew_below {f : FuncId} {args : Array Value} {v : Value} (h : Calls P f args w fun e w' => e = .returned v ∧ ∃ j, w' = w.drewN j) : Calls P f args w fun e w' => e = .returned v ∧ Below w.heap.size w w' := h.mono fun e w' ⟨h1, j, h2⟩ => ⟨h1, by rw [h2]; exact below_drewN (Below.refl _ _) j⟩
/-- an operation that isn't wanted -/
theorem s_skip (h : St N w0 B ρ L a w) (hg : Region.wanted o (yielded ops a.tmps) = false) (hd : o.dst = some d) (hN : d < N) (k : ∀ a', St N w0 B ((d, undef) :: ρ) L a' w → wpList P ops Q rest a' w) : wpList P ops Q (o :: rest) a w := by
  unfold wpList
  rw [if_neg (by simp [hg])]
  exact k _ (s_put h hd hN)
theorem wanted_of (h : St N w0 B ρ L a w) {j : Nat} {want : Bool} (hg : o.guard = some (j, want)) {oj : Oper} (hj : ops[j]? = some oj) {t : Nat} (ht : oj.dst = some t) {b : Bool} (hb : ρ.lookup t = some (.bool b)) : Region.wanted o (yielded ops a.tmps) = (b == want) := by
  have := h.k.at_ t _ hb
  simp [Region.wanted, hg, yielded, hj, ht, this]
/-- a bound of a cut -/
def Bd (ρ : Slots) (x : Option Operand) (dflt n : Nat) : Prop := match x with
  | none => n = dflt
  | some x => ∃ kd j, ev ρ x = some (.int kd j) ∧ j = (n : Int)
theorem run_bounds (isS : Bool) (len cap : Nat) (lo hi mx : Option Operand) (l g m : Nat) (h : Knows N ρ a) (hlo : Bd ρ lo 0 l) (hhi : Bd ρ hi len g) (hmx : Bd ρ mx cap m) (hnone : hi = none → mx = none) (h1 : l ≤ g) (h2 : g ≤ m) (h3 : m ≤ cap) (w : World) :
    (Instr.sliceBounds isS len cap (lo.map a.eval) (hi.map a.eval) (mx.map a.eval)).run P w = .ok (l, g, m) w := by
  have b : ∀ (x : Operand) (n y : Nat) (code : BoundsCode), (∃ kd j, ev ρ x = some (.int kd j) ∧ j = (n : Int)) → n ≤ y → (Instr.sliceBound (a.eval x) y code).run P w = .ok n w := by
    rintro x n y code ⟨kd, j, hj, rfl⟩ hy
    simp [Instr.sliceBound, h.eval hj, asIntOf, hy]
  cases hi with
  | none =>
    obtain rfl := hnone rfl
    obtain rfl : g = len := hhi
    obtain rfl : m = cap := hmx
    cases lo with
    | none => obtain rfl : l = 0 := hlo; simp [Instr.sliceBounds]
    | some x => simp [Instr.sliceBounds, b x l g _ hlo h1]
  | some y =>
    cases mx with
    | none =>
      obtain rfl : m = cap := hmx
      cases lo with
      | none => obtain rfl : l = 0 := hlo; simp [Instr.sliceBounds, b y g m _ hhi h2]
      | some x => simp [Instr.sliceBounds, b y g m _ hhi h2, b x l g _ hlo h1]
    | some z =>
      cases lo with
      | none => obtain rfl : l = 0 := hlo; simp [Instr.sliceBounds, b z m cap _ hmx h3, b y g m _ hhi h2]
      | some x => simp [Instr.sliceBounds, b z m cap _ hmx h3, b y g m _ hhi h2, b x l g _ hlo h1]
/-- a cut of a slice -/
theorem s_slice (h : St N w0 B ρ L a w) (hg : o.guard = none) {t : TypeId} {x : Operand} {lo hi mx : Option Operand} (ho : o.op = .slice t x lo hi mx) (hd : o.dst = some d) (hN : d < N) {e : TypeId} (ht : P.underlying t = some (.slice e)) {sz : Nat} (hs : (P.info? e).map (·.size) = some sz)
    {A : Option Addr} {n c : Nat} (hx : ev ρ x = some (.slice A n c)) (l g m : Nat) (hlo : Bd ρ lo 0 l) (hhi : Bd ρ hi n g) (hmx : Bd ρ mx c m) (hnone : hi = none → mx = none) (h1 : l ≤ g) (h2 : g ≤ m) (h3 : m ≤ c)
    (k : ∀ a' A', (A' = if m = l then A else A.map (·.add (l * sz))) → St N w0 B ((d, .slice A' (g - l) (m - l)) :: ρ) L a' w → wpList P ops Q rest a' w) : wpList P ops Q (o :: rest) a w := by
  refine s_of h hg hd hN (v := .slice (if m = l then A else A.map (·.add (l * sz))) (g - l) (m - l)) ?_ (fun a' hk => k a' _ rfl ⟨hk, h.m⟩)
  have hb := run_bounds (P := P) true n c lo hi mx l g m h.k hlo hhi hmx hnone h1 h2 h3 w
  simp [execOp, ho, h.k.eval hx, Instr.sliceAt, Instr.slice, run_underlying ht, hb, run_size hs]
/-- a literal of a slice: new cells -/
theorem s_bslice (h : St N w0 B ρ L a w) (hg : o.guard = none) {t : TypeId} {n : Nat} {ps : Array (Nat × Operand)} (ho : o.op = .buildSlice t n ps) (hd : o.dst = some d) (hN : d < N) {e : TypeId} (ht : P.underlying t = some (.slice e)) {z : Value} {sz : Nat} (hz : (P.info? e).map (fun i => (i.zero, i.size)) = some (some z, sz))
    (parts : List (Nat × Value)) (hp : ps.toList.map (fun p => (p.1, ev ρ p.2)) = parts.map (fun p => (p.1, some p.2))) (hsm : ¬ n * sz > 2 ^ 24) (hpos : ¬ n * sz = 0) (es : List Value) (hf : Instr.fill (fun i => some (i * sz, sz)) ((Array.range (n * sz)).map (z.cells[· % z.cells.size]!)) parts = some es.toArray)
    (k : ∀ a' w' g, St N w0 B ((d, .slice (some ⟨g, 0, none⟩) n n) :: ρ) (.box g e es :: L) a' w' → wpList P ops Q rest a' w') : wpList P ops Q (o :: rest) a w := by
  have key : ∀ (l : List (Nat × Operand)) (m : List (Nat × Value)), l.map (fun p => (p.1, ev ρ p.2)) = m.map (fun p => (p.1, some p.2)) → l.map (fun p => (p.1, a.eval p.2)) = m := by
    intro l
    induction l with
    | nil => intro m hm; cases m <;> simp_all
    | cons p l ih =>
      intro m hm
      cases m with
      | nil => simp at hm
      | cons q m =>
        simp only [List.map_cons, List.cons.injEq, Prod.mk.injEq] at hm ⊢
        exact ⟨by rw [h.k.eval hm.1.2, hm.1.1], ih m hm.2⟩
  have hpl : (ps.map fun (i, x) => (i, a.eval x)).toList = parts := by rw [Array.toList_map]; exact key _ _ hp
  cases hq : P.info? e with
  | none => simp [hq] at hz
  | some ie =>
    simp only [hq, Option.map_some, Option.some.injEq, Prod.mk.injEq] at hz
    refine s_of h hg hd hN (v := .slice (some ⟨w.heap.size, 0, none⟩) n n) (w' := w.alloc (.cells es.toArray e)) ?_ (fun a' hk => k a' _ _ ⟨hk, h.m.alloc _⟩)
    have := run_buildSlice (P := P) w t e n (ps.map fun (i, x) => (i, a.eval x)) es.toArray ie z ht hq hz.1 (by rw [hz.2]; exact hsm) (by rw [hz.2]; exact hpos) (by rw [hz.2, hpl]; exact hf)
    simp [execOp, ho, this]
/-- operands' values, reckoned -/
def evL (ρ : Slots) : List Operand → Option (List Value)
  | [] => some []
  | x :: r => match ev ρ x, evL ρ r with
    | some v, some l => some (v :: l)
    | _, _ => none
theorem evL_eq (h : Knows N ρ a) : ∀ {l : List Operand} {m : List Value}, evL ρ l = some m → l.map a.eval = m := by
  intro l
  induction l with
  | nil => intro m hm; simp [evL] at hm; simp [hm]
  | cons x r ih =>
    intro m hm
    simp only [evL] at hm
    split at hm
    · rename_i v l hv hl
      cases hm
      rw [List.map_cons, h.eval hv, ih hl]
    · cases hm
/-- a literal of a slice, every place written, cells of one -/
theorem s_bslice1 (h : St N w0 B ρ L a w) (hg : o.guard = none) {t : TypeId} {n : Nat} {ps : Array (Nat × Operand)} (ho : o.op = .buildSlice t n ps) (hd : o.dst = some d) (hN : d < N) {e : TypeId} (ht : P.underlying t = some (.slice e)) {z : Value} (hz : (P.info? e).map (fun i => (i.zero, i.size)) = some (some z, 1))
    {vs : List Value} (hp : evL ρ (ps.toList.map (·.2)) = some vs) (hi : ps.toList.map (·.1) = List.range n) (h1 : ∀ v ∈ vs, v.oneCell' = true) (hpos : 0 < n) (hsm : n ≤ 2 ^ 24)
    (k : ∀ a' w' g, St N w0 B ((d, .slice (some ⟨g, 0, none⟩) n n) :: ρ) (.box g e vs :: L) a' w' → wpList P ops Q rest a' w') : wpList P ops Q (o :: rest) a w := by
  have hv := evL_eq h.k hp
  have hlen : vs.length = n := by
    have e1 := congrArg List.length hv
    have e2 := congrArg List.length hi
    simp at e1 e2; omega
  have hpl : (ps.map fun (i, x) => (i, a.eval x)).toList = (vs.zipIdx 0).map fun x => (x.2, x.1) := by
    rw [Array.toList_map]
    have e3 : ∀ (l : List (Nat × Operand)) (k : Nat) (m : List Value), l.map (·.1) = List.range' k l.length → (l.map (·.2)).map a.eval = m → l.map (fun (i, x) => (i, a.eval x)) = (m.zipIdx k).map fun x => (x.2, x.1) := by
      intro l
      induction l with
      | nil => intro k m _ hm; simp at hm; simp [← hm]
      | cons p l ih =>
        intro k m h1 hm
        simp only [List.map_cons, List.length_cons, List.range'_succ, List.cons.injEq] at h1 hm
        subst hm
        simp only [List.map_cons, List.zipIdx_cons, h1.1]
        rw [ih (k + 1) _ h1.2 rfl]
    refine e3 ps.toList 0 vs ?_ hv
    have e4 : ps.toList.length = n := by have := congrArg List.length hi; simpa using this
    rw [hi, e4, List.range_eq_range']
  cases hq : P.info? e with
  | none => simp [hq] at hz
  | some ie =>
    simp only [hq, Option.map_some, Option.some.injEq, Prod.mk.injEq] at hz
    refine s_of h hg hd hN (v := .slice (some ⟨w.heap.size, 0, none⟩) n n) (w' := w.alloc (.cells vs.toArray e)) ?_ (fun a' hk => k a' _ _ ⟨hk, h.m.alloc _⟩)
    have := run_buildSlice (P := P) w t e n (ps.map fun (i, x) => (i, a.eval x)) vs.toArray ie z ht hq hz.1 (by rw [hz.2]; omega) (by rw [hz.2]; omega) (by
      rw [hpl, hz.2]
      exact Great.fill_flat _ _ (fun v hv => by have := h1 v hv; cases v <;> simp_all [Value.oneCell', Value.cells]) (by simp [hlen]))
    simp [execOp, ho, this]
/-- no slice yet, as a row of one's own -/
theorem Mem.nilrow (h : Mem w0 B L w) (E : TypeId) (sz : Nat) : Mem w0 B (.row (.slice none 0 0) E sz 0 [] :: L) w :=
  h.add (x := .row (.slice none 0 0) E sz 0 []) (World.ownsRow_nil w 0 E sz) (fun k hk => by cases hk) (fun i y hy k => ⟨fun hh => (by cases hh.1), fun hh => (by cases hh.2)⟩)
/-- what can be read of a row -/
theorem Mem.rdRow (h : Mem w0 B L w) {i : Nat} {v : Value} {E : TypeId} {sz n : Nat} {cs : List Value} (hi : L[i]? = some (.row v E sz n cs)) : ∃ A c, v = .slice A n c ∧ n ≤ c ∧ c ≤ maxLen ∧ Rd w A cs := by
  have h0 : w.ownsRow 0 E sz v n cs := h.ok i _ hi
  rcases h0.2 with ⟨rfl, rfl⟩ | ⟨g, cap, cur, rfl, hb, hg, hn, hm, hs, ht⟩
  · have : cs = [] := List.eq_nil_of_length_eq_zero (by simpa using h0.1)
    subst this
    exact ⟨none, 0, rfl, Nat.le_refl _, by simp [maxLen], Rd.nil _ _⟩
  · refine ⟨_, _, rfl, hn, hm, ?_⟩
    intro i c hc
    exact ⟨_, rfl, h0.cells (g := g) rfl i c hc⟩
theorem Mem.rdBox (h : Mem w0 B L w) {i g : Nat} {T : TypeId} {cs : List Value} (hi : L[i]? = some (.box g T cs)) (off : Nat) : Rd w (some ⟨g, off, none⟩) (cs.drop off) := by
  intro j c hc
  refine ⟨_, rfl, ?_⟩
  rw [Addr.add_mid, h.cell hi]
  rwa [List.getElem?_drop] at hc
/-- a block as a row of one's own -/
theorem Mem.asRow (h : Mem w0 B L w) {i g : Nat} {E : TypeId} {cs : List Value} (hi : L[i]? = some (.box g E cs)) (n sz : Nat) (hl : cs.length = n * sz) (hm : n ≤ maxLen) : Mem w0 B (L.set i (.row (.slice (some ⟨g, 0, none⟩) n n) E sz n cs)) w :=
  h.write hi (x := .box g E cs) (Chg.refl w _) (x' := .row (.slice (some ⟨g, 0, none⟩) n n) E sz n cs) ⟨hl, .inr ⟨g, n, cs.toArray, rfl, Nat.zero_le _, h.ok i _ hi, Nat.le_refl _, hm, by simp [hl], by simp [← hl]⟩⟩
    (fun k hk => .inl (by have : some g = some k := hk; cases this; rfl))
/-- append to a row of one's own -/
theorem s_append (h : St N w0 B ρ L a w) (hg : o.guard = none) {s x : Operand} {t : TypeId} (ho : o.op = .call { callee := .builtin .append, args := #[s, x], argTypes := #[t, t] }) (hd : o.dst = some d) (hN : d < N) {e : TypeId} (ht : P.underlying t = some (.slice e)) {z : Value} {sz bytes : Nat} (hinfo : (P.info? e).map (fun i => (i.zero, i.size, i.bytes)) = some (some z, sz, bytes)) (hz1 : z.cells.size = sz) (hsz : 0 < sz)
    {v : Value} (hs : ev ρ s = some v) (i : Nat) {n : Nat} {cs : List Value} (hi : L[i]? = some (.row v e sz n cs)) {A : Option Addr} {m c : Nat} (hx : ev ρ x = some (.slice A m c)) (news : List Value) (hl : news.length = m * sz) (hr : Rd w A news) (h1 : ∀ u ∈ news, u.oneCell' = true) (hn : (n + m) * bytes ≤ 140737488355328) (hn2 : n + m ≤ maxLen)
    (k : ∀ a' w' v', St N w0 B ((d, v') :: ρ) (L.set i (.row v' e sz (n + m) (cs ++ news))) a' w' → wpList P ops Q rest a' w') : wpList P ops Q (o :: rest) a w := by
  refine append_any (w0 := w) hg s x t e z sz bytes ho ht hinfo hz1 hsz v n cs (h.k.eval hs) A m c news (h.k.eval hx) hl hr h1 0 (h.m.ok i _ hi) ⟨rfl, rfl, rfl, Nat.le_refl _, fun _ hk => absurd hk (Nat.not_lt_zero _)⟩ (Nat.zero_le _) hn hn2 (fun v' w' hown _ hgr hblk => k _ _ v' ⟨by rw [hd]; exact h.k.put hN, ?_⟩)
  refine h.m.write hi (x := .row v e sz n cs) (Chg.grown hgr _ (fun k hk => hk)) hown (fun k hk => ?_)
  rcases hblk k hk with h3 | h3
  · exact .inl h3
  · exact .inr h3
/-- make -/
theorem s_make (h : St N w0 B ρ L a w) (hg : o.guard = none) {x y : Operand} {t : TypeId} (ho : o.op = .makeSlice t x y) (hd : o.dst = some d) (hN : d < N) {e : TypeId} (ht : P.underlying t = some (.slice e)) {z : Value} {sz bytes : Nat} (hinfo : (P.info? e).map (fun i => (i.zero, i.size, i.bytes)) = some (some z, sz, bytes))
    {kl kc : IntKind} {Z C : Int} (n : Nat) (hx : ev ρ x = some (.int kl Z)) (hy : ev ρ y = some (.int kc C)) (hZ : Z = (n : Int)) (hC : C = (n : Int)) (hb : bytes * n ≤ 140737488355328) (hn : n ≤ maxLen) {cs : List Value} (hcs : (madeCells z.cells (n * sz)).toList = cs)
    (k : ∀ a' w' g, St N w0 B ((d, .slice (some ⟨g, 0, none⟩) n n) :: ρ) (.row (.slice (some ⟨g, 0, none⟩) n n) e sz n cs :: L) a' w' → wpList P ops Q rest a' w') : wpList P ops Q (o :: rest) a w := by
  subst hcs
  obtain ⟨i, hi, hz, hsz, hby⟩ := info_parts hinfo
  refine wpList_make_full w hg x y t ho w.heap.size e i z sz ht hi hz hsz kl kc Z C n (h.k.eval hx) (h.k.eval hy) hZ hC (by rw [hby]; omega) hn (Nat.le_refl _) (fun w' hown hgr => k _ _ w.heap.size ⟨by rw [hd]; exact h.k.put hN, ?_⟩)
  exact h.m.new (below_of_grown hgr (fun k hk => by cases hk)) (x := .row (.slice (some ⟨w.heap.size, 0, none⟩) n n) e sz n _) (own_lower hown (Nat.zero_le _)) (fun k hk => by have : some w.heap.size = some k := hk; cases this; exact Nat.le_refl _)
/-- store: one cell, into row i -/
theorem s_str (h : St N w0 B ρ L a w) (hg : o.guard = none) {x y : Operand} {t : TypeId} (ho : o.op = .store t x y) (hd : o.dst = none) (hs : (P.info? t).map (·.size) = some 1)
    {g off : Nat} (hx : ev ρ x = some (.pointer (some ⟨g, off, none⟩))) {v : Value} (hy : ev ρ y = some v) (hv : v.oneCell' = true) (i : Nat) {E : TypeId} {sz n c : Nat} {cs : List Value} (hi : L[i]? = some (.row (.slice (some ⟨g, 0, none⟩) n c) E sz n cs)) (hc : off < cs.length)
    (k : ∀ a' w', St N w0 B ρ (L.set i (.row (.slice (some ⟨g, 0, none⟩) n c) E sz n (cs.set off v))) a' w' → wpList P ops Q rest a' w') : wpList P ops Q (o :: rest) a w := by
  have hown : w.ownsRow 0 E sz (.slice (some ⟨g, 0, none⟩) n c) n cs := h.m.ok i _ hi
  have h1 : w.cell? ⟨g, off, none⟩ = some (cs[off]'hc) := by
    have := hown.cells (g := g) rfl off (cs[off]'hc) (by simp [hc])
    rwa [Addr.add_mid, Nat.zero_add] at this
  have h2 : w.frozen? ⟨g, off, none⟩ = false := hown.frozenAt off
  refine s_of0 h hg hd (w' := w.setCell ⟨g, off, none⟩ v) ?_ (fun a' hk => k a' _ ⟨hk, h.m.write hi (x := .row (.slice (some ⟨g, 0, none⟩) n c) E sz n cs) ((Chg.refl w (Ch.row (.slice (some ⟨g, 0, none⟩) n c) E sz n cs).own).setCell (p := ⟨g, off, none⟩) (.inl rfl) v) (hown.stored off v).1 (fun k hk => .inl hk)⟩)
  have hcl : v.cells = #[v] := by cases v <;> simp_all [Value.oneCell', Value.cells]
  simp only [execOp, ho, h.k.eval hx, h.k.eval hy, Instr.storeAt, Instr.sureAddr, storeVar, Sem.run_bind, Sem.run_pure, Result.andThen_ok, run_size hs, hcl]
  have h0 : (⟨g, off, none⟩ : Addr).add 0 = ⟨g, off, none⟩ := by simp [Addr.add]
  cases v <;> simp_all [Value.oneCell', storeCells, store, Sem.run, h0]
theorem Mem.cellRow (h : Mem w0 B L w) {i g : Nat} {E : TypeId} {sz n c : Nat} {cs : List Value} (hi : L[i]? = some (.row (.slice (some ⟨g, 0, none⟩) n c) E sz n cs)) {j : Nat} {v : Value} (hv : cs[j]? = some v) : w.cell? ⟨g, j, none⟩ = some v := by
  have hown : w.ownsRow 0 E sz (.slice (some ⟨g, 0, none⟩) n c) n cs := h.ok i _ hi
  have := hown.cells (g := g) rfl j v hv
  rwa [Addr.add_mid, Nat.zero_add] at this
theorem x_move (h : Knows N ρ a) (x : Operand) (ho : o.op = .move x) (hx : ev ρ x = some v) : (execOp a.eval o).run P w = .ok (.value v) w := by simp [execOp, ho, h.eval hx]
theorem x_assign (h : Knows N ρ a) (x : Operand) (ho : o.op = .assign x) (hx : ev ρ x = some v) : (execOp a.eval o).run P w = .ok (.value v) w := by simp [execOp, ho, h.eval hx]
theorem x_ldR (h : Knows N ρ a) {x : Operand} {t : TypeId} (ho : o.op = .load t x) {n : Nat} (ht : Agg P t n) {g off : Nat} (hx : ev ρ x = some (.pointer (some ⟨g, off, none⟩))) (es : List Value) (hn : es.length = n) (hc : w.rangeAt g off es) : (execOp a.eval o).run P w = .ok (.value (.agg es.toArray)) w := by
  obtain ⟨d, h1, h2, h3⟩ := ht
  simp [execOp, ho, h.eval hx, Instr.loadAt, Instr.sureAddr, run_loadVar_mid w g off t es d hc h1 h2 (by rw [h3, hn])]
theorem Mem.range (h : Mem w0 B L w) {i g : Nat} {T : TypeId} {cs : List Value} (hi : L[i]? = some (.box g T cs)) (off n : Nat) : w.rangeAt g off ((cs.drop off).take n) := fun j v hv => by
  rw [h.cell hi]
  rw [List.getElem?_take] at hv
  split at hv
  · rw [List.getElem?_drop] at hv; exact hv
  · cases hv
theorem x_len (h : Knows N ρ a) {x : Operand} {t : TypeId} (ho : o.op = .call { callee := .builtin .len, args := #[x], argTypes := #[t] }) {e : TypeId} (ht : P.underlying t = some (.slice e))
    {A : Option Addr} {n c : Nat} (hx : ev ρ x = some (.slice A n c)) :
    (execOp a.eval o).run P w = .ok (.value (.int .i64 (n : Int))) w := by simp [execOp, ho, resolve, invoke, builtin, h.eval hx, Builtin.len_, run_underlying ht, goInt]
theorem x_iaddr (h : Knows N ρ a) {x y : Operand} {t : TypeId} (ho : o.op = .indexAddr t x y) {e : TypeId} (ht : P.underlying t = some (.slice e)) {sz : Nat} (hs : (P.info? e).map (·.size) = some sz)
    {b off n c : Nat} (hx : ev ρ x = some (.slice (some ⟨b, off, none⟩) n c)) {kd : IntKind} {j : Int} (hy : ev ρ y = some (.int kd j)) {m : Nat} (hj : j = (m : Int)) (hm : m < n) {r : Nat} (hr : off + m * sz = r) :
    (execOp a.eval o).run P w = .ok (.value (.pointer (some ⟨b, r, none⟩))) w := by
  subst hj
  obtain rfl := hr
  have h1 : (0 : Int) ≤ (m : Int) ∧ (m : Int) < (n : Int) := by omega
  simp [execOp, ho, h.eval hx, h.eval hy, Instr.indexAt, run_underlying ht, asIntOf, run_size hs, hm, Addr.add_mid]
theorem x_iaddrA (h : Knows N ρ a) {x y : Operand} {t : TypeId} (ho : o.op = .indexAddr t x y) {e : TypeId} {n : Nat} (ht : P.underlying t = some (.array n e)) {sz : Nat} (hs : (P.info? e).map (·.size) = some sz)
    {b off : Nat} (hx : ev ρ x = some (.pointer (some ⟨b, off, none⟩))) {kd : IntKind} {j : Int} (hy : ev ρ y = some (.int kd j)) {m : Nat} (hj : j = (m : Int)) (hm : m < n) {r : Nat} (hr : off + m * sz = r) :
    (execOp a.eval o).run P w = .ok (.value (.pointer (some ⟨b, r, none⟩))) w := by
  subst hj
  obtain rfl := hr
  simp [execOp, ho, h.eval hx, h.eval hy, Instr.indexAt, run_underlying ht, asIntOf, Instr.sureAddr, run_size hs, hm, Addr.add_mid]
theorem x_index (h : Knows N ρ a) {x y : Operand} {t : TypeId} (ho : o.op = .index t x y) {e : TypeId} {n : Nat} (ht : P.underlying t = some (.array n e)) {de : TypeDesc} (he : P.underlying e = some de) (hde : de.isRow = false) (hs : (P.info? e).map (·.size) = some 1)
    {C : Array Value} (hx : ev ρ x = some (.agg C)) {kd : IntKind} {j : Int} (hy : ev ρ y = some (.int kd j)) {m : Nat} (hj : j = (m : Int)) (hm : m < n) {v : Value} (hv : C[m]? = some v) :
    (execOp a.eval o).run P w = .ok (.value (v)) w := by
  subst hj
  have hagg : (isAgg e).run P w = .ok false w := by
    unfold isAgg
    rw [Sem.run_bind, run_underlying he w]
    cases de <;> simp_all [TypeDesc.isRow]
  simp [execOp, ho, h.eval hx, h.eval hy, Instr.index, run_underlying ht, asIntOf, run_size hs, hm, part, hagg, hv]
theorem x_faddr (h : Knows N ρ a) {x : Operand} {t : TypeId} {f : Nat} (ho : o.op = .fieldAddr t x f) {fs : Array Field} (ht : P.underlying t = some (.struct fs)) {fd : Field} (hf : fs[f]? = some fd) {sz : Nat} (hs : (P.info? fd.type).map (·.size) = some (sz + 1))
    {b off : Nat} (hx : ev ρ x = some (.pointer (some ⟨b, off, none⟩))) :
    (execOp a.eval o).run P w = .ok (.value (.pointer (some ⟨b, off + fd.offset, none⟩))) w := by
  simp [execOp, ho, h.eval hx, Instr.fieldAt, run_underlying ht, hf, Instr.sureAddr, fieldPlace, run_size hs, Addr.add_mid]
theorem x_ld (h : Knows N ρ a) {x : Operand} {t : TypeId} (ho : o.op = .load t x) {de : TypeDesc} (he : P.underlying t = some de) (hde : de.isRow = false)
    {p : Addr} (hx : ev ρ x = some (.pointer (some p))) {v : Value} (hc : w.cell? p = some v) :
    (execOp a.eval o).run P w = .ok (.value (v)) w := by
  have hagg : (isAgg t).run P w = .ok false w := by
    unfold isAgg
    rw [Sem.run_bind, run_underlying he w]
    cases de <;> simp_all [TypeDesc.isRow]
  simp [execOp, ho, h.eval hx, Instr.loadAt, Instr.sureAddr, loadVar, hagg, load, Sem.run, hc]
theorem x_slice (h : Knows N ρ a) {t : TypeId} {x : Operand} {lo hi mx : Option Operand} (ho : o.op = .slice t x lo hi mx) {e : TypeId} (ht : P.underlying t = some (.slice e)) {sz : Nat} (hs : (P.info? e).map (·.size) = some sz)
    {A : Option Addr} {n c : Nat} (hx : ev ρ x = some (.slice A n c)) (l g m : Nat) (hlo : Bd ρ lo 0 l) (hhi : Bd ρ hi n g) (hmx : Bd ρ mx c m) (hnone : hi = none → mx = none) (h1 : l ≤ g) (h2 : g ≤ m) (h3 : m ≤ c) :
    (execOp a.eval o).run P w = .ok (.value (.slice (if m = l then A else A.map (·.add (l * sz))) (g - l) (m - l))) w := by
  have hb := run_bounds (P := P) true n c lo hi mx l g m h hlo hhi hmx hnone h1 h2 h3 w
  simp [execOp, ho, h.eval hx, Instr.sliceAt, Instr.slice, run_underlying ht, hb, run_size hs]
theorem x_sliceA (h : Knows N ρ a) {t : TypeId} {x : Operand} {lo hi mx : Option Operand} (ho : o.op = .slice t x lo hi mx) {e : TypeId} {n : Nat} (ht : P.underlying t = some (.array n e)) {sz : Nat} (hs : (P.info? e).map (·.size) = some sz)
    {b off : Nat} (hx : ev ρ x = some (.pointer (some ⟨b, off, none⟩))) (l g m : Nat) (hlo : Bd ρ lo 0 l) (hhi : Bd ρ hi n g) (hmx : Bd ρ mx n m) (hnone : hi = none → mx = none) (h1 : l ≤ g) (h2 : g ≤ m) (h3 : m ≤ n) :
    (execOp a.eval o).run P w = .ok (.value (.slice (some ⟨b, if m = l then off else off + l * sz, none⟩) (g - l) (m - l))) w := by
  have hb := run_bounds (P := P) false n n lo hi mx l g m h hlo hhi hmx hnone h1 h2 h3 w
  simp only [execOp, ho, h.eval hx, Instr.sliceAt, Sem.run_bind, run_underlying ht, Result.andThen_ok, Instr.sureAddr, Sem.run_pure, hb, run_size hs, Addr.add_mid]
  split <;> simp [*]
/-- cells that can be read -/
def rdP (A : Option Addr) (cs : List Value) : RP where
  use k := ∃ a, A = some a ∧ cs ≠ [] ∧ a.block = k
  p w := Rd w A cs
  loc w w' _ hb h := fun i c hc => by
    obtain ⟨ad, rfl, h1⟩ := h i c hc
    have hne : cs ≠ [] := by rintro rfl; simp at hc
    have hbk : (ad.add i).block = ad.block := by unfold Addr.add; split <;> rfl
    have hlt := World.block_lt_of_cell? w _ h1
    exact ⟨ad, rfl, (World.cell?_of_block (w := w) (hb _ ⟨ad, rfl, hne, hbk.symm⟩ hlt)).trans h1⟩
  lt w h k := by
    rintro ⟨a, rfl, hne, rfl⟩
    exact rd_lt h a rfl hne
/-- what came in, is read and never written -/
theorem Mem.arg (h : Mem w0 B L w) (r : RP) (hr : r.p w0) (hu : ∀ k, r.use k → ¬ B k) : Mem w0 B (.ro r :: L) w :=
  h.read r (r.loc w0 w h.size (fun k hk hlt => h.chg.block k hlt (hu k hk)) hr) (fun k hk i y hy ho => by
    rcases h.base i y hy k ho with h1 | h1
    · exact hu k hk h1
    · have := r.lt w0 hr k hk; omega)
def Has (ρ : Slots) : Slots → Prop
  | [] => True
  | (t, v) :: r => ρ.lookup t = some v ∧ Has ρ r
theorem Has.mem {ρ ρ' : Slots} (h : Has ρ ρ') : ∀ p ∈ ρ', ρ.lookup p.1 = some p.2 := by
  induction ρ' with
  | nil => intro p hp; simp at hp
  | cons q r ih =>
    intro p hp
    rcases List.mem_cons.1 hp with rfl | hp
    · exact h.1
    · exact ih h.2 p hp
theorem St.has (h : St N w0 B ρ L a w) (hr : Has ρ ρ') : St N w0 B ρ' L a w := h.slots hr.mem
/-! ### control -/
theorem c_rs {id : Nat} {l : List Oper} {y : Code} (h : wpList P l.toArray (Exit.then (y.wp P Q) Q) l a w) : (Code.seq (Code.region id l.toArray false) y).wp P Q a w := wp_seq (wp_region_lit h)
theorem l_end {y : Code} (h : y.wp P Q a w) : wpList P ops (Exit.then (y.wp P Q) Q) [] a w := h
theorem c_enter {f : FuncId} {fn : Func} {c : Code} {args : Array Value} {R : Ending → World → Prop} (hf : P.funcs[f]? = some fn) (hb : fn.body = some c) (N : Nat) (hN : fn.ntmps = N) (hs : args.size ≤ N) (B : Nat → Prop) (ρ : Slots) (hρ : ((List.range args.size).zip args.toList) = ρ)
    (h : ∀ a, St N w B ρ [] a w → c.wp P (bodyPost P fn R) a w) : Calls P f args w R := by
  refine calls_of_wp hf hb (h _ ⟨⟨rfl, by simp; omega, fun t v hv => ?_⟩, Mem.start w B⟩)
  subst hρ
  have key : ∀ (l : List Value) (k : Nat), (((List.range' k l.length).zip l).lookup t = some v) → k ≤ t ∧ l[t - k]? = some v := by
    intro l
    induction l with
    | nil => intro k h; simp at h
    | cons x l ih =>
      intro k h
      simp only [List.length_cons, List.range'_succ, List.zip_cons_cons, List.lookup_cons] at h
      by_cases e : t = k
      · subst e; simp at h; simp [h]
      · have e' : (t == k) = false := by simpa using e
        rw [e'] at h
        obtain ⟨h1, h2⟩ := ih (k + 1) h
        refine ⟨by omega, ?_⟩
        rw [show t - k = (t - (k + 1)) + 1 by omega]; simpa using h2
  have := key args.toList 0 (by rw [← List.range_eq_range']; simpa using hv)
  have h2 : args[t]? = some v := by simpa using this.2
  have hlt : t < args.size := (Array.getElem?_eq_some_iff.1 h2).1
  rw [Array.getElem?_append_left hlt]; exact h2
theorem e_thenN {K : Act → World → Prop} (h : K a w) : Exit.then K Q .normal a w := h
theorem e_thenX {K : Act → World → Prop} {i : Nat} (h : Q (.exit i) a w) : Exit.then K Q (.exit i) a w := h
theorem e_thenR {K : Act → World → Prop} (h : Q .ret a w) : Exit.then K Q .ret a w := h
theorem e_blkN {id : Nat} (h : Q .normal a w) : Exit.inBlock id Q .normal a w := h
theorem e_blkR {id : Nat} (h : Q .ret a w) : Exit.inBlock id Q .ret a w := h
theorem e_blkX {id : Nat} (h : Q .normal a w) : Exit.inBlock id Q (.exit id) a w := by simp only [Exit.inBlock, if_true]; exact h
theorem e_blkY {id i : Nat} (hne : i ≠ id) (h : Q (.exit i) a w) : Exit.inBlock id Q (.exit i) a w := by simp only [Exit.inBlock, if_neg hne]; exact h
/-- a region at the end -/
theorem c_r {id : Nat} {l : List Oper} (h : wpList P l.toArray Q l a w) : (Code.region id l.toArray false).wp P Q a w := wp_region_lit h
theorem l_nil (h : Q .normal a w) : wpList P ops Q [] a w := h
theorem c_cond (h : St N w0 B ρ L a w) {x : Operand} {c1 c2 : Code} {b : Bool} (hx : ev ρ x = some (.bool b)) (ht : b = true → c1.wp P Q a w) (hf : b = false → c2.wp P Q a w) : (Code.cond x c1 c2).wp P Q a w :=
  wp_cond_split (h.k.eval hx) ht hf
theorem c_cs (h : St N w0 B ρ L a w) {x : Operand} {c1 c2 y : Code} {b : Bool} (hx : ev ρ x = some (.bool b)) (ht : b = true → c1.wp P (Exit.then (y.wp P Q) Q) a w) (hf : b = false → c2.wp P (Exit.then (y.wp P Q) Q) a w) : (Code.seq (.cond x c1 c2) y).wp P Q a w :=
  wp_seq (c_cond h hx ht hf)
theorem c_loop {c : Code} (I : Nat → Act → World → Prop) (n : Nat) (h0 : I n a w) (round : ∀ m a w, I m a w → c.wp P (Exit.then (fun a' w' => ∃ m', m' < m ∧ I m' a' w') Q) a w) : (Code.loop c).wp P Q a w := by
  intro b k cs
  have key : ∀ n a w, I n a w → ∃ e a' w', Q e a' w' ∧ Arrives P (lone (b.at a (.code c :: .inLoop c :: k)) cs w) b k cs e a' w' := by
    intro n
    induction n using Nat.strongRecOn with
    | _ n ih =>
      intro a w hI
      obtain ⟨e, a₁, w₁, hq, harr⟩ := round n a w hI b (.inLoop c :: k) cs
      cases e with
      | normal =>
        obtain ⟨m', hlt, hI₁⟩ := hq
        obtain ⟨e₂, a₂, w₂, hq₂, harr₂⟩ := ih m' hlt a₁ w₁ hI₁
        exact ⟨e₂, a₂, w₂, hq₂, .of_steps (Steps.trans harr (.one step_inLoop)) harr₂⟩
      | exit id => exact ⟨_, a₁, w₁, hq, .pass (x := .inLoop c) rfl (fun _ _ => .inl (by simp)) harr⟩
      | goto l => exact ⟨_, a₁, w₁, hq, .pass (x := .inLoop c) rfl (fun _ _ => .inl (by simp)) harr⟩
      | ret => exact ⟨_, a₁, w₁, hq, .pass (x := .inLoop c) rfl (fun _ _ => .inl (by simp)) harr⟩
      | panic ch => exact ⟨_, a₁, w₁, hq, .pass (x := .inLoop c) rfl (fun _ _ => .inl (by simp)) harr⟩
      | outgrown => exact ⟨_, a₁, w₁, hq, .pass (x := .inLoop c) rfl (fun _ _ => .inl (by simp)) harr⟩
  obtain ⟨e, a', w', hq, harr⟩ := key _ a w h0
  exact ⟨e, a', w', hq, .of_steps (.one step_loop) harr⟩
/-- results -/
def resv (P : Program) (w : World) (a : Act) : ResultVar → Value → Prop
  | .tmp t, v => a.tmps[t]? = some v
  | .cell p ty, v => ∃ ad, a.tmps[p]? = some (.pointer (some ad)) ∧ (loadVar ty ad).run P w = .ok v w
def rvs (a : Act) : ResultVar → Sem Value
  | .tmp t => pure (a.tmps.getD t undef)
  | .cell p ty => do loadVar ty (← asAddr (a.tmps.getD p undef))
theorem results_rvs (fn : Func) (a : Act) : results fn a.tmps = (do
    let vs ← fn.results.mapM (rvs a)
    pure (if h : vs.size = 1 then vs[0] else .tuple vs)) := by
  unfold results
  first | rfl | (congr 1; done) | (congr 1; congr 1; done) | (congr 1; congr 1; funext r; cases r <;> rfl)
theorem resv_run {r : ResultVar} (h : resv P w a r v) : (rvs a r).run P w = .ok v w := by
  cases r with
  | tmp t =>
    have h : a.tmps[t]? = some v := h
    simp [rvs, h]
  | cell p ty =>
    obtain ⟨ad, h1, h2⟩ := h
    simp [rvs, h1, asAddr, h2]
theorem results1 {fn : Func} {r : ResultVar} (hr : fn.results = #[r]) (h : resv P w a r v) : (results fn a.tmps).run P w = .ok v w := by
  rw [results_rvs, hr]
  simp [resv_run h]
theorem results2 {fn : Func} {r s : ResultVar} (hr : fn.results = #[r, s]) (h : resv P w a r v) (h2 : resv P w a s u) : (results fn a.tmps).run P w = .ok (.tuple #[v, u]) w := by
  rw [results_rvs, hr]
  simp [resv_run h, resv_run h2]
theorem results3 {fn : Func} {r s q : ResultVar} (hr : fn.results = #[r, s, q]) {x : Value} (h : resv P w a r v) (h2 : resv P w a s u) (h3 : resv P w a q x) : (results fn a.tmps).run P w = .ok (.tuple #[v, u, x]) w := by
  rw [results_rvs, hr]
  simp [resv_run h, resv_run h2, resv_run h3]
theorem rv_tmp (h : St N w0 B ρ L a w) {t : Nat} (hv : ρ.lookup t = some v) : resv P w a (.tmp t) v := h.k.at_ t v hv
theorem rv_cellA (h : St N w0 B ρ L a w) {p g : Nat} {ty : TypeId} (hp : ρ.lookup p = some (.pointer (some ⟨g, 0, none⟩))) (i : Nat) {T : TypeId} {cs : List Value} (hi : L[i]? = some (.box g T cs)) {n : Nat} (ht : Agg P ty n) (hn : cs.length = n) : resv P w a (.cell p ty) (.agg cs.toArray) := by
  subst hn
  obtain ⟨dd, h1, h2, h3⟩ := ht
  refine ⟨_, h.k.at_ p _ hp, run_loadVar_mid w g 0 ty cs dd (fun j v hv => ?_) h1 h2 h3⟩
  rw [Nat.zero_add, h.m.cell hi]; exact hv
theorem rv_cell1 (h : St N w0 B ρ L a w) {p g : Nat} {ty : TypeId} (hp : ρ.lookup p = some (.pointer (some ⟨g, 0, none⟩))) (i : Nat) {T : TypeId} (hi : L[i]? = some (.box g T [v])) {de : TypeDesc} (he : P.underlying ty = some de) (hde : de.isRow = false) : resv P w a (.cell p ty) v := by
  refine ⟨_, h.k.at_ p _ hp, ?_⟩
  have hagg : (isAgg ty).run P w = .ok false w := by
    unfold isAgg
    rw [Sem.run_bind, run_underlying he w]
    cases de <;> simp_all [TypeDesc.isRow]
  have hc : w.cell? ⟨g, 0, none⟩ = some v := h.m.cell hi 0
  simp [loadVar, hagg, load, Sem.run, hc]
/-- the end of a function -/
theorem r_ret1 {fn : Func} {R : Ending → World → Prop} (h : St N w0 B ρ L a w) {r : ResultVar} (hr : fn.results = #[r]) (hv : resv P w a r v) (hR : R (.returned v) w) : bodyPost P fn R .ret a w := bodyPost_ret (results1 hr hv) h.k.defers hR
theorem r_ret2 {fn : Func} {R : Ending → World → Prop} (h : St N w0 B ρ L a w) {r s : ResultVar} (hr : fn.results = #[r, s]) (hv : resv P w a r v) (hu : resv P w a s u) (hR : R (.returned (.tuple #[v, u])) w) : bodyPost P fn R .ret a w := bodyPost_ret (results2 hr hv hu) h.k.defers hR
theorem r_ret3 {fn : Func} {R : Ending → World → Prop} (h : St N w0 B ρ L a w) {r s q : ResultVar} {x : Value} (hr : fn.results = #[r, s, q]) (hv : resv P w a r v) (hu : resv P w a s u) (hx : resv P w a q x) (hR : R (.returned (.tuple #[v, u, x])) w) : bodyPost P fn R .ret a w := bodyPost_ret (results3 hr hv hu hx) h.k.defers hR
theorem r_ret0 {fn : Func} {R : Ending → World → Prop} (h : St N w0 B ρ L a w) (hr : fn.results = #[]) (hR : R (.returned (.tuple #[])) w) : bodyPost P fn R .ret a w := bodyPost_ret (results_none hr _ _ _) h.k.defers hR
theorem r_end0 {fn : Func} {R : Ending → World → Prop} (h : St N w0 B ρ L a w) (hr : fn.results = #[]) (hR : R (.returned (.tuple #[])) w) : bodyPost P fn R .normal a w := bodyPost_end (results_none hr _ _ _) h.k.defers hR
end
end Go.Proofs.Ytohgmggdfmjgnaa
