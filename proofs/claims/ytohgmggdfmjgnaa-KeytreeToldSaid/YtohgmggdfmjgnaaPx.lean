/- Steps over data that stays and rows of one's own, with what they hold told in plain lists. -/
import Derived.Test.YtohgmggdfmjgnaaPu
set_option linter.unusedVariables false
set_option linter.unusedSimpArgs false
namespace Go.Proofs.Ytohgmggdfmjgnaa
open Go.RowKit
def mx (x y : Int) : Int := if y > x then y else x
def mn (x y : Int) : Int := if y < x then y else x
theorem len_r {n : Nat} (h : n ≤ maxLen) : r64 (n : Int) := by unfold maxLen at h; unfold r64; omega
def quoI (x y : Int) : Option Int := if y = 0 then none else some (w64 (Int.tdiv x y))
def remI (x y : Int) : Option Int := if y = 0 then none else some (Int.tmod x y)
theorem ib_quo_ {m n r : Int} (h : quoI m n = some r) : IB .quo .i64 m .i64 n (.int .i64 r) := by
  unfold quoI at h; split at h
  · cases h
  · next hn => cases h; exact ib_quow hn
theorem ib_rem_ {m n r : Int} (h : remI m n = some r) : IB .rem .i64 m .i64 n (.int .i64 r) := by
  unfold remI at h; split at h
  · cases h
  · next hn => cases h; exact ib_remw hn
theorem quoI_r {m n r : Int} (h : quoI m n = some r) (_ : r64 m) : r64 r := by
  unfold quoI at h; split at h
  · cases h
  · cases h; exact w64_r _
def ix (n : Nat) (i : Int) : Option Nat := if 0 ≤ i ∧ i < (n : Int) then some i.toNat else none
theorem ix_some {n m : Nat} {i : Int} (h : ix n i = some m) : i = (m : Int) ∧ m < n := by
  unfold ix at h; split at h
  · next hh => cases h; omega
  · cases h
theorem ix_nat {n m : Nat} (h : m < n) : ix n (m : Int) = some m := by unfold ix; rw [if_pos (by omega)]; rfl
def i8 (n : Int) : UInt8 := UInt8.ofNat (n % 256).toNat
theorem i8_wrap (n : Int) : ((i8 n).toNat : Int) = IntKind.u8.wrap n := by rw [IntKind.wrap_u8]; unfold i8; simp; omega
section
variable {P : Program} {ops : Array Oper} {rest : List Oper} {o : Oper} {Q : Exit → Act → World → Prop} {N : Nat} {w0 w w' : World} {B : Nat → Prop} {ρ ρ' : Slots} {L L' Ls R : List Ch} {a a' : Act} {d : Nat} {u v : Value} {S S0 S' : Snap} {α : Type} {T : Ty α}
theorem Mem.rowHead (h : Mem w0 B L w) {i : Nat} {A : Option Addr} {n c : Nat} {E : TypeId} {sz : Nat} {cs : List Value} (hi : L[i]? = some (.row (.slice A n c) E sz n cs)) (hn : 0 < n) : ∃ g, A = some ⟨g, 0, none⟩ := by
  obtain ⟨g, c', e, _, _⟩ := h.rowAt hi hn
  cases e; exact ⟨g, rfl⟩
theorem Mem.cellRowE (h : Mem w0 B L w) {i g : Nat} {A : Option Addr} {E : TypeId} {sz n c : Nat} {cs : List Value} (hi : L[i]? = some (.row (.slice A n c) E sz n cs)) (hA : A = some ⟨g, 0, none⟩) (j : Nat) {v : Value} (hv : cs[j]? = some v) : w.cell? ⟨g, 0 + j, none⟩ = some v := by
  subst hA; rw [Nat.zero_add]; exact h.cellRow hi hv
theorem x_iaddrE (h : Knows N ρ a) {x y : Operand} {t : TypeId} (ho : o.op = .indexAddr t x y) {e : TypeId} (ht : P.underlying t = some (.slice e)) {sz : Nat} (hs : (P.info? e).map (·.size) = some sz) {A : Option Addr} {b off n c : Nat} (hA : A = some ⟨b, off, none⟩) (hx : ev ρ x = some (.slice A n c)) {kd : IntKind} {j : Int} (hy : ev ρ y = some (.int kd j)) {m : Nat} (hj : j = (m : Int)) (hm : m < n) : (execOp a.eval o).run P w = .ok (.value (.pointer (some ⟨b, off + m * sz, none⟩))) w := by
  subst hA
  exact x_iaddr h ho ht hs hx hy hj hm rfl
theorem x_convE (h : Knows N ρ a) {x : Operand} {s t : TypeId} (ho : o.op = .convert s t x) {ds : TypeDesc} (hs : P.underlying s = some ds) {k1 k2 : IntKind} (ht : P.underlying t = some (.int k2)) {n r : Int} (hx : ev ρ x = some (.int k1 n)) (hr : k2.wrap n = r) : (execOp a.eval o).run P w = .ok (.value (.int k2 r)) w := by
  subst hr
  simp [execOp, ho, h.eval hx, convert, run_underlying hs, run_underlying ht, Conv.intToInt]
theorem St.val (h : St N w0 B ((d, v) :: ρ) L a w) (e : v = u) : St N w0 B ((d, u) :: ρ) L a w := e ▸ h
theorem St.mid (n : Nat) {σ : Slots} (h : St N w0 B ((d, v) :: σ) L a w) (hd : ((σ.take n).all fun p => ((σ.drop n).all fun q => p.1 != q.1)) = true) : St N w0 B ((d, v) :: σ.drop n) L a w := by
  refine ⟨⟨h.k.defers, h.k.size, fun t u hu => h.k.at_ t u ?_⟩, h.m⟩
  rw [List.lookup_cons] at hu ⊢
  split
  · next e => rw [e] at hu; exact hu
  · next e =>
    rw [e] at hu
    have hm : (t, u) ∈ σ.drop n := by
      revert hu
      generalize σ.drop n = τ
      intro hu
      induction τ with
      | nil => simp at hu
      | cons p r ih =>
        obtain ⟨s, x⟩ := p
        rw [List.lookup_cons] at hu
        by_cases e : t = s
        · subst e; simp at hu; subst hu; simp
        · have : (t == s) = false := by simpa using e
          rw [this] at hu; exact List.mem_cons_of_mem _ (ih hu)
    have hk : ∀ (τ : Slots), τ.all (fun p => ((σ.drop n).all fun q => p.1 != q.1)) = true → (τ ++ σ.drop n).lookup t = some u := by
      intro τ
      induction τ with
      | nil => intro _; exact hu
      | cons p r ih =>
        intro hp
        simp only [List.all_cons, Bool.and_eq_true] at hp
        obtain ⟨s, x⟩ := p
        have : (t == s) = false := by
          have := List.all_eq_true.1 hp.1 _ hm
          simp only [bne_iff_ne, ne_eq] at this
          simpa using fun e => this e.symm
        rw [List.cons_append, List.lookup_cons, this]
        exact ih hp.2
    have := hk (σ.take n) hd
    rwa [List.take_append_drop] at this
/-- 'x && y', 'x || y': n operations that are wanted or not -/
theorem q_grp (h : St N w0 B ρ L a w) (n : Nat) {l : List Oper} {t : Nat} {b : Bool} (d : Nat) (z : Bool) (hb : ρ.lookup t = some (.bool b)) (h1 : b = true → wpList P ops (Exit.then (fun a' w' => St N w0 B ((d, .bool z) :: ρ) L a' w') Q) (l.take n) a w)
    (h0 : b = false → wpList P ops (Exit.then (fun a' w' => St N w0 B ((d, .bool z) :: ρ) L a' w') Q) (l.take n) a w) (k : ∀ a' w', St N w0 B ((d, .bool z) :: ρ) L a' w' → wpList P ops Q (l.drop n) a' w') : wpList P ops Q l a w := by
  refine l_split n (fun a' w' => St N w0 B ((d, .bool z) :: ρ) L a' w') ?_ k
  cases b
  · exact h0 rfl
  · exact h1 rfl
/-- a row of one's own that is written no more -/
theorem q_freeze {A : Option Addr} {xs : List α} {c : Nat} {E : TypeId} {cs : List Value} (h : St N w0 B ρ (.row (.slice A xs.length c) E T.sz xs.length cs :: .sn S :: R) a w) (hu : Up B w0 S0 S) (hcs : reps T S cs xs) : ∃ S', S.le S' ∧ Up B w0 S0 S' ∧ slS T S' A c xs ∧ St N w0 B ρ (.sn S' :: R) a w := by
  have hown : w.ownsRow 0 E T.sz (.slice A xs.length c) xs.length cs := h.m.ok 0 _ rfl
  obtain ⟨S', h1, h2, h3, h4, h5⟩ := h.m.freeze (fun _ hk => hk)
  refine ⟨S', h1, hu.trans ⟨h1, h2⟩, ?_, h.k, h5⟩
  obtain ⟨A', c', e, hc1, hc2, hrd⟩ := h.m.rdRow (i := 0) rfl
  cases e
  refine ⟨hc1, hc2, cs, fun w' hw' => ?_, hcs.mono h1⟩
  rcases hown.2 with ⟨e, e2⟩ | ⟨g, cap, cur, e, hb, hg, r⟩
  · have : cs = [] := List.eq_nil_of_length_eq_zero (by rw [hown.1]; simp [e2])
    subst this; exact Rd.nil _ _
  · cases e
    have hs : S' g = some (.cells cur E (0, 0)) := (h4 g rfl).trans hg
    intro i v hv
    obtain ⟨ad, e, hc⟩ := hrd i v hv
    cases e
    refine ⟨_, rfl, (World.cell?_of_block (w := w) ?_).trans hc⟩
    have hbk : ((⟨g, 0, none⟩ : Addr).add i).block = g := by unfold Addr.add; split <;> rfl
    rw [hbk, hw' g _ hs, hg]
/-- append to a row of one's own -/
theorem q_append (h : St N w0 B ρ L a w) (hg : o.guard = none) {s x : Operand} {t : TypeId} (ho : o.op = .call { callee := .builtin .append, args := #[s, x], argTypes := #[t, t] }) (hd : o.dst = some d) (hN : d < N) {e : TypeId} (ht : P.underlying t = some (.slice e)) {z : Value} {bytes : Nat} (hinfo : (P.info? e).map (fun i => (i.zero, i.size, i.bytes)) = some (some z, T.sz, bytes)) (hz1 : z.cells.size = T.sz) (hsz : 0 < T.sz)
    {A A2 : Option Addr} {c c2 : Nat} {l m r : List α} {cs news : List Value} (hs : ev ρ s = some (.slice A l.length c)) (i : Nat) (hi : L[i]? = some (.row (.slice A l.length c) e T.sz l.length cs)) (hl : reps T S cs l) (hx : ev ρ x = some (.slice A2 m.length c2)) (hm : reps T S news m) (hr : Rd w A2 news) (hap : app bytes l m = some r)
    (k : ∀ a' w' A' c' cs', reps T S cs' r → St N w0 B ((d, .slice A' r.length c') :: ρ) (L.set i (.row (.slice A' r.length c') e T.sz r.length cs')) a' w' → wpList P ops Q rest a' w') : wpList P ops Q (o :: rest) a w := by
  obtain ⟨rfl, hb, hml⟩ := app_some hap
  refine s_append h hg ho hd hN ht hinfo hz1 hsz hs i hi hx news hm.len hr hm.one hb hml (fun a' w' v' h => ?_)
  obtain ⟨A', c', e', _, _, _⟩ := h.m.rdRow (i := i) (by rw [List.getElem?_set_self (List.getElem?_eq_some_iff.1 hi).1])
  subst e'
  rw [← List.length_append] at h
  exact k a' w' A' c' _ (hl.append hm) h
/-- a value is stored into a row of one's own: one cell -/
theorem q_setRow (h : St N w0 B ρ L a w) (hg : o.guard = none) {x y : Operand} {t : TypeId} (ho : o.op = .store t x y) (hd : o.dst = none) (hs : (P.info? t).map (·.size) = some 1)
    {A : Option Addr} {g c m : Nat} {cs : List Value} {E : TypeId} {xs : List α} {q : α} (hA : A = some ⟨g, 0, none⟩) (hx : ev ρ x = some (.pointer (some ⟨g, 0 + m * 1, none⟩))) {v : Value} (hy : ev ρ y = some v) (i : Nat) (hi : L[i]? = some (.row (.slice A xs.length c) E T.sz xs.length cs)) (h1 : T.sz = 1) (hr : reps T S cs xs) (hv : T.rep S [v] q) (hm : m < xs.length)
    (k : ∀ a' w' cs', reps T S cs' (xs.set m q) → St N w0 B ρ (L.set i (.row (.slice A (xs.set m q).length c) E T.sz (xs.set m q).length cs')) a' w' → wpList P ops Q rest a' w') : wpList P ops Q (o :: rest) a w := by
  subst hA
  refine s_str h hg ho hd hs hx hy (T.one hv v (by simp)) i hi (by rw [hr.len, h1]; omega) (fun a' w' h => ?_)
  rw [show 0 + m * 1 = m by omega] at h
  refine k a' w' _ (hr.set1 h1 hm hv) ?_
  rw [List.length_set]; exact h
/-- make, elements of one cell -/
theorem madeCells1 (z : Value) (hz : z.cells = #[z]) (n : Nat) : (madeCells z.cells n).toList = List.replicate n z := by
  rw [hz]
  apply List.ext_getElem
  · simp [madeCells]
  · intro j h1 h2; simp [madeCells, Nat.mod_one]
theorem repsRep1 {n : Nat} {u : Value} {x : α} (h : T.rep S [u] x) : reps T S (List.replicate n u) (List.replicate n x) := by
  induction n with
  | zero => simp [reps]
  | succ n ih => exact ⟨[u], _, rfl, h, ih⟩
theorem q_make (h : St N w0 B ρ L a w) (hg : o.guard = none) {x y : Operand} {t : TypeId} (ho : o.op = .makeSlice t x y) (hd : o.dst = some d) (hN : d < N) {e : TypeId} (ht : P.underlying t = some (.slice e)) {z : Value} {bytes : Nat} (hinfo : (P.info? e).map (fun i => (i.zero, i.size, i.bytes)) = some (some z, 1, bytes)) (hz : z.cells = #[z]) (h1 : T.sz = 1) {q : α} (hq : T.rep S [z] q)
    {kl kc : IntKind} {Z : Int} {n : Nat} (hx : ev ρ x = some (.int kl Z)) (hy : ev ρ y = some (.int kc Z)) (hn : mkN bytes Z = some n)
    (k : ∀ a' w' A cs, reps T S cs (List.replicate n q) → St N w0 B ((d, .slice A (List.replicate n q).length n) :: ρ) (.row (.slice A (List.replicate n q).length n) e T.sz (List.replicate n q).length cs :: L) a' w' → wpList P ops Q rest a' w') : wpList P ops Q (o :: rest) a w := by
  obtain ⟨hZ, hb, hm⟩ := mkN_some hn
  refine s_make h hg ho hd hN ht hinfo n hx hy hZ hZ hb hm (by rw [Nat.mul_one]) (fun a' w' g h => ?_)
  rw [madeCells1 z hz n] at h
  have h2 : n = (List.replicate n q).length := by simp
  refine k a' w' (some ⟨g, 0, none⟩) _ (repsRep1 hq) ?_
  rw [h1, ← h2]; exact h
/-- '[]T{x, ..}' -/
theorem fill_rows {sz : Nat} (hsz : 0 < sz) (vs : List Value) (C : List (List Value)) (cells : Array Value) (hC : vs.map (·.cells.toList) = C) (hl : ∀ c ∈ C, c.length = sz) (hn : cells.size = vs.length * sz) : Instr.fill (fun i => some (i * sz, sz)) cells ((vs.zipIdx 0).map fun x => (x.2, x.1)) = some C.flatten.toArray := by
  subst hC
  have hv : ∀ v ∈ vs, v.cells.size = sz := fun v hv => by have := hl _ (List.mem_map.2 ⟨v, hv, rfl⟩); simpa using this
  have key : ∀ (vs : List Value) (k : Nat) (X Y : List Value), (∀ v ∈ vs, v.cells.size = sz) → X.length = k * sz → Y.length = vs.length * sz → Instr.fill (fun i => some (i * sz, sz)) (X ++ Y).toArray ((vs.zipIdx k).map fun x => (x.2, x.1)) = some (X ++ (vs.map (·.cells.toList)).flatten).toArray := by
    intro vs
    induction vs with
    | nil => intro k X Y _ _ hY; simp at hY; subst hY; simp [Instr.fill]
    | cons v vs ih =>
      intro k X Y h1 hX hY
      have hv := h1 v (List.mem_cons_self ..)
      rw [List.length_cons, Nat.add_mul, Nat.one_mul] at hY
      have hm := fill_mid (place := fun i => some (i * sz, sz)) (i := k) (v := v) (rest := (vs.zipIdx (k + 1)).map fun x => (x.2, x.1)) (off := k * sz) (n := sz) (X := X) (Y := Y.take sz) (Z := Y.drop sz) rfl hX (by rw [List.length_take]; omega) hv
      rw [List.append_assoc, List.take_append_drop] at hm
      simp only [List.zipIdx_cons, List.map_cons]
      rw [hm, ih (k + 1) (X ++ v.cells.toList) (Y.drop sz) (fun u hu => h1 u (List.mem_cons_of_mem _ hu)) (by simp [hX, hv, Nat.add_mul]) (by rw [List.length_drop]; omega)]
      simp
  have := key vs 0 [] cells.toList hv (by simp) (by simpa using hn)
  simpa using this
theorem flatten_len {sz : Nat} : ∀ (C : List (List Value)), (∀ c ∈ C, c.length = sz) → C.flatten.length = C.length * sz
  | [], _ => by simp
  | c :: C, h => by rw [List.flatten_cons, List.length_append, h c (by simp), flatten_len C (fun x hx => h x (List.mem_cons_of_mem _ hx)), List.length_cons, Nat.add_mul]; omega
theorem q_bslice (h : St N w0 B ρ L a w) (hg : o.guard = none) {t : TypeId} {n : Nat} {ps : Array (Nat × Operand)} (ho : o.op = .buildSlice t n ps) (hd : o.dst = some d) (hN : d < N) {e : TypeId} (ht : P.underlying t = some (.slice e)) {z : Value} (hz : (P.info? e).map (fun i => (i.zero, i.size)) = some (some z, T.sz)) (hsz : 0 < T.sz) (hsz2 : T.sz ≤ 1000) (hn : n ≤ 1000) (hn0 : 0 < n)
    (vs : List Value) (hp : ps.toList.map (fun p => (p.1, ev ρ p.2)) = (vs.zipIdx 0).map (fun x => (x.2, some x.1))) (hvn : vs.length = n) {C : List (List Value)} (hC : vs.map (·.cells.toList) = C) {xs : List α} (hr : reps T S C.flatten xs) (hl : ∀ c ∈ C, c.length = T.sz)
    (k : ∀ a' w' A, St N w0 B ((d, .slice A xs.length n) :: ρ) (.row (.slice A xs.length n) e T.sz xs.length C.flatten :: L) a' w' → wpList P ops Q rest a' w') : wpList P ops Q (o :: rest) a w := by
  have hlen : C.flatten.length = n * T.sz := by rw [flatten_len C hl, ← hvn, ← hC, List.length_map]
  have hxn : xs.length = n := by
    have := hr.len
    rw [hlen] at this
    exact (Nat.eq_of_mul_eq_mul_right hsz this).symm
  have hzs := hz
  refine s_bslice h hg ho hd hN ht hz (parts := (vs.zipIdx 0).map (fun x => (x.2, x.1))) ?_ ?_ ?_ C.flatten ?_ (fun a' w' g h => ?_)
  · rw [hp, List.map_map]; rfl
  · first | omega | (have : n * T.sz ≤ 1000 * 1000 := Nat.mul_le_mul hn hsz2; have h0 : 0 < n * T.sz := Nat.mul_pos hn0 hsz; omega)
  · first | omega | (have : n * T.sz ≤ 1000 * 1000 := Nat.mul_le_mul hn hsz2; have h0 : 0 < n * T.sz := Nat.mul_pos hn0 hsz; omega)
  · refine fill_rows hsz vs C _ hC hl ?_
    simp [hvn]
  · subst hxn
    have := h.m.asRow (i := 0) rfl xs.length T.sz hlen (by unfold maxLen; omega)
    exact k a' w' _ ⟨h.k, this⟩
theorem St.startAll (h : St N w0 B ρ L a w) : Mem w (ownL ([] ++ [.sn (snapAll w)])) ([] ++ [.sn (snapAll w)]) w := Mem.startS (snapAll_ok w)
theorem St.sub (h : St N w0 B ρ (Ls ++ .sn S :: R) a w) : Mem w (ownL (Ls ++ [.sn S])) (Ls ++ [.sn S]) w := by
  have h' : Mem w0 B ((Ls ++ [.sn S]) ++ R) w := by rw [List.append_assoc]; exact h.m
  exact h'.sub
theorem q_callX {f : FuncId} {args : Array Value} {Rs : Value → List Ch → Snap → Prop} (hX : Calls P f args w (Ret w (snapAll w) [] Rs)) (h : St N w0 B ρ L a w) (hg : o.guard = none) {xs : Array Operand} {ats : Array TypeId} (ho : o.op = .call { callee := .value (.func f), args := xs, argTypes := ats }) (hd : o.dst = some d) (hN : d < N) {fn : Func} (hf : P.funcs[f]? = some fn) (hb : fn.body.isNone = false) (hn : (fn.name == "runtime.NumGoroutine") = false) (hx : xs.toList.map (ev ρ) = args.toList.map some)
    (k : ∀ a' w' v L' S', Rs v L' S' → Below w.heap.size w w' → St N w0 B ((d, v) :: ρ) (L' ++ L) a' w' → wpList P ops Q rest a' w') : wpList P ops Q (o :: rest) a w :=
  q_callB h hg ho hd hN hf hb hn hx (fun _ => hX) k
theorem q_callY {f : FuncId} {args : Array Value} {Rs : Value → List Ch → Snap → Prop} (hX : Calls P f args w (Ret w S Ls Rs)) (h : St N w0 B ρ (Ls ++ .sn S :: R) a w) (hu : Up B w0 S0 S) (hg : o.guard = none) {xs : Array Operand} {ats : Array TypeId} (ho : o.op = .call { callee := .value (.func f), args := xs, argTypes := ats }) (hd : o.dst = some d) (hN : d < N) {fn : Func} (hf : P.funcs[f]? = some fn) (hb : fn.body.isNone = false) (hn : (fn.name == "runtime.NumGoroutine") = false) (hx : xs.toList.map (ev ρ) = args.toList.map some)
    (k : ∀ a' w' v L' S', Rs v L' S' → S.le S' → Up B w0 S0 S' → St N w0 B ((d, v) :: ρ) (L' ++ .sn S' :: R) a' w' → wpList P ops Q rest a' w') : wpList P ops Q (o :: rest) a w :=
  q_call h hu hg ho hd hN hf hb hn hx (fun _ => hX) k
theorem Mem.leAll (h : Mem w0 B L w) {i : Nat} (hi : L[i]? = some (.sn S)) : S.le (snapAll w) := fun k o hk => h.snOK hi k o hk
/-- a row of one's own, read as it is now -/
theorem Mem.rowAll (h : Mem w0 B L w) {i j : Nat} {A : Option Addr} {xs : List α} {c : Nat} {E : TypeId} {sz : Nat} {cs : List Value} (hi : L[i]? = some (.row (.slice A xs.length c) E sz xs.length cs)) (hj : L[j]? = some (.sn S)) (hr : reps T S cs xs) : slS T (snapAll w) A c xs := by
  obtain ⟨A', c', e, h1, h2, h3⟩ := h.rdRow hi
  cases e
  exact ⟨h1, h2, cs, RdS.all h3, hr.mono (h.leAll hj)⟩
/-- a cell of an array of one's own is set -/
theorem q_setBox (h : St N w0 B ρ L a w) (hg : o.guard = none) {x y : Operand} {t : TypeId} (ho : o.op = .store t x y) (hd : o.dst = none) (hs : (P.info? t).map (·.size) = some 1)
    {g m : Nat} {cs : List Value} {E : TypeId} {xs : List α} {q : α} (hx : ev ρ x = some (.pointer (some ⟨g, 0 + m * 1, none⟩))) {v : Value} (hy : ev ρ y = some v) (i : Nat) (hi : L[i]? = some (.box g E cs)) (h1 : T.sz = 1) (hr : reps T S cs xs) (hv : T.rep S [v] q) (hm : m < xs.length)
    (k : ∀ a' w' cs', reps T S cs' (xs.set m q) → St N w0 B ρ (L.set i (.box g E cs')) a' w' → wpList P ops Q rest a' w') : wpList P ops Q (o :: rest) a w := by
  refine s_stb h hg ho hd hs hx hy (T.one hv v (by simp)) i hi (by rw [hr.len, h1]; omega) (fun a' w' h => ?_)
  rw [show 0 + m * 1 = m by omega] at h
  exact k a' w' _ (hr.set1 h1 hm hv) h
end
end Go.Proofs.Ytohgmggdfmjgnaa
