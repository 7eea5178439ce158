/- Steps: calls that make memory, calls that write memory of the caller's, closures. -/
import Derived.Test.YtohgmggdfmjgnaaApp
set_option linter.unusedVariables false
set_option linter.unusedSimpArgs false
namespace Go.Proofs.Ytohgmggdfmjgnaa
open Go.RowKit
section
variable {P : Program} {ops : Array Oper} {rest : List Oper} {o : Oper} {Q : Exit → Act → World → Prop} {N : Nat} {w0 w w' : World} {B : Nat → Prop} {ρ ρ' : Slots} {L L' Ls R : List Ch} {a a' : Act} {d : Nat} {u v : Value}
/-- parts that are no mere readings -/
def noRo : List Ch → Bool
  | [] => true
  | .ro _ :: _ => false
  | _ :: r => noRo r
theorem noRo_use : ∀ {L : List Ch}, noRo L = true → ∀ x ∈ L, ∀ k, x.use k → x.own k := by
  intro L
  induction L with
  | nil => intro _ x hx; simp at hx
  | cons y L ih =>
    intro h x hx k hk
    cases y with
    | ro r => simp [noRo] at h
    | obj g o =>
      rcases List.mem_cons.1 hx with rfl | hx
      · exact hk
      · exact ih (by simpa [noRo] using h) x hx k hk
    | row v E sz n cs =>
      rcases List.mem_cons.1 hx with rfl | hx
      · exact hk
      · exact ih (by simpa [noRo] using h) x hx k hk
    | gen r =>
      rcases List.mem_cons.1 hx with rfl | hx
      · exact hk
      · exact ih (by simpa [noRo] using h) x hx k hk
def ownL (L : List Ch) (k : Nat) : Prop := ∃ x ∈ L, x.own k
/-- the first parts, as a callee sees them -/
theorem Mem.sub (h : Mem w0 B (Ls ++ R) w) : Mem w (ownL Ls) Ls w := by
  refine ⟨Chg.refl w _, fun i x hx => h.ok i x ?_, fun i j x y hne hx hy => h.apart i j x y hne ?_ ?_, fun i x hx k hk => .inl ⟨x, List.mem_of_getElem? hx, hk⟩⟩
  all_goals
    rw [List.getElem?_append_left (List.getElem?_eq_some_iff.1 (by assumption)).1]; assumption
/-- what a call has made of the first parts; the others stay -/
theorem Mem.frame (h : Mem w0 B (Ls ++ R) w) (hc : Mem w (ownL Ls) L' w') (hn : noRo L' = true) : Mem w0 B (L' ++ R) w' := by
  have at_ : ∀ (i : Nat) (x : Ch), (L' ++ R)[i]? = some x → (i < L'.length ∧ L'[i]? = some x) ∨ (L'.length ≤ i ∧ R[i - L'.length]? = some x) := by
    intro i x hx
    rcases Nat.lt_or_ge i L'.length with hi | hi
    · exact .inl ⟨hi, by rwa [List.getElem?_append_left hi] at hx⟩
    · exact .inr ⟨hi, by rwa [List.getElem?_append_right hi] at hx⟩
  have inR : ∀ (i : Nat) (x : Ch), R[i]? = some x → (Ls ++ R)[Ls.length + i]? = some x := by
    intro i x hx; rw [List.getElem?_append_right (by omega)]; simpa using hx
  have sepR : ∀ (i : Nat) (y : Ch), R[i]? = some y → ∀ k, y.use k → ¬ ownL Ls k := by
    rintro i y hy k hk ⟨x, hx, hxk⟩
    obtain ⟨j, hj⟩ := List.mem_iff_getElem?.1 hx
    have hjl := (List.getElem?_eq_some_iff.1 hj).1
    exact (h.apart j (Ls.length + i) x y (by omega) (by rw [List.getElem?_append_left hjl]; exact hj) (inR i y hy) k).1 ⟨hxk, hk⟩
  have okR : ∀ (i : Nat) (y : Ch), R[i]? = some y → y.ok w := fun i y hy => h.ok _ _ (inR i y hy)
  have cross : ∀ (i j : Nat) (x y : Ch), L'[i]? = some x → R[j]? = some y → x.apart y := by
    intro i j x y hx hy k
    have hux : x.use k → ownL Ls k ∨ w.heap.size ≤ k := fun hk => hc.base i x hx k (noRo_use hn x (List.mem_of_getElem? hx) k hk)
    refine ⟨fun ⟨h1, h2⟩ => ?_, fun ⟨h1, h2⟩ => ?_⟩
    · rcases hux (Ch.own_use h1) with h3 | h3
      · exact sepR j y hy k h2 h3
      · have := Ch.lt (okR j y hy) h2; omega
    · rcases hux h2 with h3 | h3
      · exact sepR j y hy k (Ch.own_use h1) h3
      · have := Ch.lt (okR j y hy) (Ch.own_use h1); omega
  refine ⟨h.chg.trans hc.chg (fun k ⟨x, hx, hk⟩ => ?_), fun i x hx => ?_, fun i j x y hne hx hy => ?_, fun i x hx k hk => ?_⟩
  · obtain ⟨j, hj⟩ := List.mem_iff_getElem?.1 hx
    exact h.base j x (by rw [List.getElem?_append_left (List.getElem?_eq_some_iff.1 hj).1]; exact hj) k hk
  · rcases at_ i x hx with ⟨hi, h1⟩ | ⟨hi, h1⟩
    · exact hc.ok i x h1
    · exact Ch.keep (okR _ x h1) hc.chg.size (fun k hk hlt => hc.chg.block k hlt (sepR _ x h1 k hk))
  · rcases at_ i x hx with ⟨hi, h1⟩ | ⟨hi, h1⟩
    · rcases at_ j y hy with ⟨hj, h2⟩ | ⟨hj, h2⟩
      · exact hc.apart i j x y hne h1 h2
      · exact cross _ _ x y h1 h2
    · rcases at_ j y hy with ⟨hj, h2⟩ | ⟨hj, h2⟩
      · exact (cross _ _ y x h2 h1).symm
      · exact h.apart _ _ x y (by omega) (inR _ x h1) (inR _ y h2)
  · rcases at_ i x hx with ⟨hi, h1⟩ | ⟨hi, h1⟩
    · rcases hc.base i x h1 k hk with ⟨y, hy, hyk⟩ | h3
      · obtain ⟨j, hj⟩ := List.mem_iff_getElem?.1 hy
        exact h.base j y (by rw [List.getElem?_append_left (List.getElem?_eq_some_iff.1 hj).1]; exact hj) k hyk
      · exact .inr (Nat.le_trans h.size h3)
    · exact h.base _ x (inR _ x h1) k hk
/-- what is read lies apart from what a callee may write -/
theorem Mem.far (h : Mem w0 B (Ls ++ R) w) {i : Nat} {x : Ch} (hi : R[i]? = some x) {k : Nat} (hk : x.use k) : ¬ ownL Ls k := by
  rintro ⟨y, hy, hyk⟩
  obtain ⟨j, hj⟩ := List.mem_iff_getElem?.1 hy
  have hjl := (List.getElem?_eq_some_iff.1 hj).1
  exact (h.apart j (Ls.length + i) y x (by omega) (by rw [List.getElem?_append_left hjl]; exact hj) (by rw [List.getElem?_append_right (by omega)]; simpa using hi) k).1 ⟨hyk, hk⟩
/-- a new row, seen from ahead of the call -/
theorem Mem.newRow (h : Mem w0 (fun _ => False) L w) {i : Nat} {v : Value} {E : TypeId} {n : Nat} {cs : List Value} (hi : L[i]? = some (.row v E 1 n cs)) : New w0 w E v n cs := by
  have hown : w.ownsRow 0 E 1 v n cs := h.ok i _ hi
  refine ⟨⟨h.chg.os, h.chg.tape, h.chg.output, h.chg.size, fun k hk => h.chg.block k hk (fun h => h)⟩, hown.1, ?_⟩
  rcases hown.2 with h2 | ⟨g, cap, cur, hv, hb, r⟩
  · exact .inl h2
  · refine .inr ⟨g, cap, cur, hv, ?_, r⟩
    rcases h.base i _ hi g (by rw [hv]; rfl) with h3 | h3
    · exact h3.elim
    · exact h3
theorem Mem.addNew (h : Mem w0 B L w) {E : TypeId} {n : Nat} {cs : List Value} (hn : New w w' E v n cs) : Mem w0 B (.row v E 1 n cs :: L) w' :=
  h.new hn.1 (x := .row v E 1 n cs) (own_lower hn.2 (Nat.zero_le _)) (fun k hk => own_base hn.2 k hk)
theorem Mem.addRd (h : Mem w0 B L w) {A : Addr} {cs : List Value} (hb : Below w.heap.size w w') (hA : w.heap.size ≤ A.block) (hr : Rd w' (some A) cs) : Mem w0 B (.ro (rdP (some A) cs) :: L) w' :=
  h.new hb (x := .ro (rdP (some A) cs)) hr (fun k ⟨a, e, _, hk⟩ => by cases e; rw [← hk]; exact hA)
/-- a call that yields a new row -/
theorem s_callN (h : St N w0 B ρ L a w) (hg : o.guard = none) {f : FuncId} {xs : Array Operand} {ats : Array TypeId} (ho : o.op = .call { callee := .value (.func f), args := xs, argTypes := ats }) (hd : o.dst = some d) (hN : d < N) {fn : Func} (hf : P.funcs[f]? = some fn) (hb : fn.body.isNone = false) (hn : (fn.name == "runtime.NumGoroutine") = false) {vs : List Value} (hx : xs.toList.map (ev ρ) = vs.map some) {E : TypeId} {n : Nat} {cs : List Value}
    (hc : Calls P f vs.toArray w fun e w' => ∃ v, e = .returned v ∧ New w w' E v n cs) (k : ∀ a' w' v, Below w.heap.size w w' → St N w0 B ((d, v) :: ρ) (.row v E 1 n cs :: L) a' w' → wpList P ops Q rest a' w') : wpList P ops Q (o :: rest) a w :=
  s_call h hg ho hd hN hf hb hn hx hc (fun e w' ⟨v, he, hn⟩ => ⟨v, he, fun a' hk => k a' w' v hn.1 ⟨hk, h.m.addNew hn⟩⟩)
/-- a call of a function value: a closure -/
theorem s_callF (h : St N w0 B ρ L a w) (hg : o.guard = none) {x : Operand} {f : FuncId} {caps : Array Value} {xs : Array Operand} {ats : Array TypeId} (ho : o.op = .call { callee := .value x, args := xs, argTypes := ats }) (hd : o.dst = some d) (hN : d < N) (hcl : ev ρ x = some (.func (.func f) #[] caps)) {fn : Func} (hf : P.funcs[f]? = some fn) (hb : fn.body.isNone = false) (hn : (fn.name == "runtime.NumGoroutine") = false) {vs : List Value} (hx : xs.toList.map (ev ρ) = vs.map some) {R : Ending → World → Prop}
    {args : Array Value} (hc : Calls P f args w R) (ha : args.toList = vs ++ caps.toList) (k : ∀ e w', R e w' → ∃ v, e = .returned v ∧ ∀ a', Knows N ((d, v) :: ρ) a' → wpList P ops Q rest a' w') : wpList P ops Q (o :: rest) a w := by
  have key : ∀ (l : List Operand) (m : List Value), l.map (ev ρ) = m.map some → l.map a.eval = m := by
    intro l
    induction l with
    | nil => intro m hm; cases m <;> simp_all
    | cons p l ih =>
      intro m hm
      cases m with
      | nil => simp at hm
      | cons q m =>
        simp only [List.map_cons, List.cons.injEq] at hm ⊢
        exact ⟨h.k.eval hm.1, ih m hm.2⟩
  have hxs : xs.map a.eval = vs.toArray := by apply Array.ext'; rw [Array.toList_map]; exact key _ _ hx
  refine wpList_plain hg fun K hK => ?_
  unfold Oper.wp
  have hr : (execOp a.eval o).run P w = .ok (.enter f (vs.toArray ++ caps)) w := by
    have hb' : fn.body ≠ none := by intro e; rw [e] at hb; cases hb
    have hn' : fn.name ≠ "runtime.NumGoroutine" := by intro e; rw [e] at hn; simp at hn
    simp [execOp, ho, resolve, invoke, hxs, Deferred.ofValue, h.k.eval hcl, callFunc, hf, hn', hb']
  rw [hr, show vs.toArray ++ caps = args from by apply Array.ext'; simpa using ha.symm]
  refine hc.mono fun e w' he => ?_
  obtain ⟨v, rfl, h2⟩ := k e w' he
  exact hK _ _ (h2 _ (by rw [hd]; exact h.k.put hN))
/-- a function's own begin, where parts of the caller's come in -/
theorem c_enterM {f : FuncId} {fn : Func} {c : Code} {args : Array Value} {R : Ending → World → Prop} (hf : P.funcs[f]? = some fn) (hb : fn.body = some c) (N : Nat) (hN : fn.ntmps = N) (hs : args.size ≤ N) (B : Nat → Prop) {L : List Ch} (hm : Mem w B L w) (ρ : Slots) (hρ : ((List.range args.size).zip args.toList) = ρ)
    (h : ∀ a, St N w B ρ L a w → c.wp P (bodyPost P fn R) a w) : Calls P f args w R :=
  c_enter hf hb N hN hs B ρ hρ (fun a h' => h a (h'.mem hm))
theorem s_makeFunc (h : St N w0 B ρ L a w) (hg : o.guard = none) {fn : Fn} {xs ys : Array Operand} (ho : o.op = .makeFunc fn xs ys) (hd : o.dst = some d) (hN : d < N) {us vs : List Value} (hx : xs.toList.map (ev ρ) = us.map some) (hy : ys.toList.map (ev ρ) = vs.map some)
    (k : ∀ a', St N w0 B ((d, .func fn us.toArray vs.toArray) :: ρ) L a' w → wpList P ops Q rest a' w) : wpList P ops Q (o :: rest) a w := by
  have key : ∀ (l : List Operand) (m : List Value), l.map (ev ρ) = m.map some → l.map a.eval = m := by
    intro l
    induction l with
    | nil => intro m hm; cases m <;> simp_all
    | cons p l ih =>
      intro m hm
      cases m with
      | nil => simp at hm
      | cons q m =>
        simp only [List.map_cons, List.cons.injEq] at hm ⊢
        exact ⟨h.k.eval hm.1, ih m hm.2⟩
  have h1 : xs.map a.eval = us.toArray := by apply Array.ext'; rw [Array.toList_map]; exact key _ _ hx
  have h2 : ys.map a.eval = vs.toArray := by apply Array.ext'; rw [Array.toList_map]; exact key _ _ hy
  exact s_of h hg hd hN (by simp [execOp, ho, h1, h2, Instr.makeFunc]) (fun a' hk => k a' ⟨hk, h.m⟩)
theorem Rd.at {b o : Nat} {cs : List Value} (h : Rd w (some ⟨b, o, none⟩) cs) (j : Nat) {v : Value} (hv : cs[j]? = some v) : w.cell? ⟨b, o + j, none⟩ = some v := by
  obtain ⟨ad, e, h1⟩ := h j v hv
  cases e
  rwa [Addr.add_mid] at h1
/-! ### a window: a slice of one's own that needn't begin at its block's head (cells of one) -/
def ownsWin (w : World) (e : TypeId) (v : Value) (n : Nat) (xs : List Value) : Prop :=
  xs.length = n ∧ ((v = .slice none 0 0 ∧ n = 0) ∨ ∃ g off cap cur, v = .slice (some ⟨g, off, none⟩) n cap ∧ w.heap[g]? = some (.cells cur e (0, 0)) ∧ n ≤ cap ∧ cap ≤ maxLen ∧ off + cap ≤ cur.size ∧ (cur.toList.drop off).take n = xs)
def winP (e : TypeId) (v : Value) (n : Nat) (xs : List Value) : RP where
  use k := v.ownBlock = some k
  p w := ownsWin w e v n xs
  loc w w' _ hb h := by
    refine ⟨h.1, ?_⟩
    rcases h.2 with h2 | ⟨g, off, cap, cur, hv, hg, r⟩
    · exact .inl h2
    · exact .inr ⟨g, off, cap, cur, hv, (hb g (by rw [hv]; rfl) (blk_lt hg)).trans hg, r⟩
  lt w h k hk := by
    rcases h.2 with ⟨hv, _⟩ | ⟨g, off, cap, cur, hv, hg, r⟩
    · rw [hv] at hk; cases hk
    · rw [hv] at hk
      have : some g = some k := hk
      cases this; exact blk_lt hg
abbrev Ch.win (v : Value) (e : TypeId) (n : Nat) (xs : List Value) : Ch := .gen (winP e v n xs)
theorem ownsWin.rd {e : TypeId} {n : Nat} {xs : List Value} (h : ownsWin w e v n xs) : ∃ A c, v = .slice A n c ∧ n ≤ c ∧ c ≤ maxLen ∧ Rd w A xs := by
  rcases h.2 with ⟨rfl, rfl⟩ | ⟨g, off, cap, cur, rfl, hg, hn, hm, hs, ht⟩
  · have : xs = [] := List.eq_nil_of_length_eq_zero h.1
    subst this
    exact ⟨none, 0, rfl, Nat.le_refl _, by simp [maxLen], Rd.nil _ _⟩
  · refine ⟨_, _, rfl, hn, hm, ?_⟩
    intro i c hc
    refine ⟨_, rfl, ?_⟩
    rw [Addr.add_mid, cell_of_row _ _ _ _ _ _ hg]
    rw [← ht, List.getElem?_take] at hc
    split at hc
    · rw [List.getElem?_drop] at hc; simpa using hc
    · cases hc
theorem run_append_win (w : World) (t ty e : TypeId) (i : TypeInfo) (z : Value) (bytes : Nat) (ht : P.underlying t = some (.slice e)) (hi : P.info? e = some i) (hz : i.zero = some z) (hs1 : i.size = 1) (hby : i.bytes = bytes) (hz1 : z.cells.size = 1)
    (v : Value) (n : Nat) (xs : List Value) (hown : ownsWin w e v n xs) (A : Option Addr) (m c : Nat) (news : List Value) (hl : news.length = m) (hr : Rd w A news) (h1 : ∀ u ∈ news, u.oneCell' = true) (h63 : n + m ≤ maxLen) (hbytes : (n + m) * bytes ≤ 140737488355328) :
    ∃ v' w', (Builtin.append_ #[t, t] ty #[v, .slice A m c]).run P w = .ok v' w' ∧ ownsWin w' e v' (n + m) (xs ++ news) ∧ w.grownBy w' v.ownBlock ∧ (∀ k, v'.ownBlock = some k → v.ownBlock = some k ∨ w.heap.size ≤ k) := by
  have hsmall : n + m ≤ 9223372036854775807 := by simp only [maxLen] at h63; omega
  by_cases hm : m = 0
  · subst hm
    obtain rfl : news = [] := List.eq_nil_of_length_eq_zero hl
    have hf : (Builtin.firstCells i.size 0 (.slice A 0 c)).run P w = .ok #[] w := by
      cases A with
      | none => exact run_firstCells_none w _ 0 0 c
      | some a => exact run_firstCells_some w _ 0 a 0 c [] (by simp) (by simp)
    refine ⟨v, w, ?_, by simpa using hown, World.grownBy.refl w _, fun _ h => .inl h⟩
    rcases hown.2 with ⟨rfl, rfl⟩ | ⟨g, off, cap, cur, rfl, _, hnc, _⟩
    · simp [Builtin.append_, run_underlying ht, sizeOf, typeInfo, hi, Builtin.lenOf, hf]
    · simp [Builtin.append_, run_underlying ht, sizeOf, typeInfo, hi, Builtin.lenOf, hf, hnc, storeCells]
  · obtain ⟨ad, rfl, _⟩ := hr 0 (news[0]'(by omega)) (by simp)
    have hnews : ∀ j u, news[j]? = some u → w.cell? (ad.add j) = some u := by
      intro j u hu
      obtain ⟨ad', e', h'⟩ := hr j u hu
      cases e'; exact h'
    have hxl : xs.length = n := hown.1
    have grown : ∀ old row, old < n + m → ownsWin (w.drew.alloc (.cells (xs.toArray ++ news.toArray ++ Builtin.zeroCells z.cells (grownCap w (n + m) old e - (n + m))) e)) e (.slice (some ⟨w.heap.size, 0, none⟩) (n + m) (grownCap w (n + m) old e)) (n + m) (xs ++ news) ∧
        w.grownBy (w.drew.alloc (.cells (xs.toArray ++ news.toArray ++ Builtin.zeroCells z.cells (grownCap w (n + m) old e - (n + m))) e)) row := by
      intro old row ho
      have hge := grownCap_ge w (n + m) old e
      have hcm : grownCap w (n + m) old e ≤ maxLen := grownCap_le_maxLen w (n + m) old e h63
      refine ⟨⟨by simp [hxl, hl], .inr ⟨w.heap.size, 0, _, _, rfl, heap_alloc_new w.drew _, hge, hcm, ?_, ?_⟩⟩, ⟨rfl, rfl, rfl, by simp, fun k hk _ => heap_alloc_old w.drew _ hk⟩⟩
      · simp [size_zeroCells, hz1, hxl, hl]; omega
      · simp only [Array.toList_append, List.drop_zero]
        rw [show n + m = (xs ++ news).length by simp [hxl, hl]]
        exact List.take_left
    have hnl : news.length = m * i.size := by rw [hs1, hl, Nat.mul_one]
    rcases hown.2 with ⟨rfl, rfl⟩ | ⟨g, off, cap, cur, rfl, hg, hnc, hcm, hcs, htake⟩
    · have hx : xs = [] := List.eq_nil_of_length_eq_zero hown.1
      subst hx
      have hrn := run_append_nil (P := P) w t ty e i z ht hi hz ad m c news hnl hnews (by omega) (by omega) (by have hb := hbytes; simp only [Nat.zero_add] at hb; rw [hby]; omega)
      have hgr := grown 0 (Value.ownBlock (.slice none 0 0)) (by omega)
      simp only [Nat.zero_add, Array.empty_append, List.nil_append] at hgr ⊢
      exact ⟨_, _, hrn, hgr.1, hgr.2, fun k hk => .inr (by have : some w.heap.size = some k := hk; cases this; exact Nat.le_refl _)⟩
    · by_cases hroom : n + m ≤ cap
      · have hf := run_firstCells_some (P := P) w i.size m ad m c news hnl hnews
        have hst := run_storeCells_at P g (off + n) e news 0 cur w hg (by rw [hl]; omega) h1
        simp only [Nat.add_zero] at hst
        have hadd : (⟨g, off, none⟩ : Addr).add n = ⟨g, off + n, none⟩ := Addr.add_mid _ _ _
        refine ⟨.slice (some ⟨g, off, none⟩) (n + m) cap, w.setRow g (cur.toList.take (off + n) ++ news ++ cur.toList.drop (off + n + news.length)).toArray, ?_, ⟨by simp [hxl, hl], .inr ⟨g, off, cap, _, rfl, setRow_heap w g cur _ e _ hg, hroom, hcm, ?_, ?_⟩⟩, ⟨rfl, rfl, rfl, by simp [World.setRow], fun k _ hk => setRow_other w g k _ (fun e => hk (by simp [Value.ownBlock, e]))⟩, fun k hk => .inl hk⟩
        · rw [hs1] at hf
          simp [Builtin.append_, run_underlying ht, sizeOf, typeInfo, hi, hs1, Builtin.lenOf, hroom, hf, hadd, hst]
        · simp; omega
        · rw [List.append_assoc, List.drop_append]
          have e1 : (cur.toList.take (off + n)).drop off = xs := by rw [← htake, List.drop_take, Nat.add_sub_cancel_left]
          have e2 : off - (cur.toList.take (off + n)).length = 0 := by simp; omega
          rw [e1, e2, List.drop_zero, ← List.append_assoc, show n + m = (xs ++ news).length by simp [hxl, hl]]
          exact List.take_left
      · have holds : ∀ j u, xs[j]? = some u → w.cell? ((⟨g, off, none⟩ : Addr).add j) = some u := by
          intro j u hu
          obtain ⟨A', c', e1, _, _, h3⟩ := hown.rd
          cases e1
          obtain ⟨ad', e', h'⟩ := h3 j u hu
          cases e'; exact h'
        have hrg := run_append_grow (P := P) w t ty e i z ht hi hz ⟨g, off, none⟩ n cap xs (by rw [hs1, Nat.mul_one]; exact hown.1) holds ad m c news hnl hnews (by omega) (by omega) (growslice_fits (by omega) (by rw [hby]; exact hbytes))
        have hgr := grown cap (Value.ownBlock (.slice (some ⟨g, off, none⟩) n cap)) (by omega)
        exact ⟨_, _, hrg, hgr.1, hgr.2, fun k hk => .inr (by have : some w.heap.size = some k := hk; cases this; exact Nat.le_refl _)⟩
theorem s_appendW (h : St N w0 B ρ L a w) (hg : o.guard = none) {s x : Operand} {t : TypeId} (ho : o.op = .call { callee := .builtin .append, args := #[s, x], argTypes := #[t, t] }) (hd : o.dst = some d) (hN : d < N) {e : TypeId} (ht : P.underlying t = some (.slice e)) {z : Value} {bytes : Nat} (hinfo : (P.info? e).map (fun i => (i.zero, i.size, i.bytes)) = some (some z, 1, bytes)) (hz1 : z.cells.size = 1)
    {v : Value} (hs : ev ρ s = some v) (i : Nat) {n : Nat} {cs : List Value} (hi : L[i]? = some (.win v e n cs)) {A : Option Addr} {m c : Nat} (hx : ev ρ x = some (.slice A m c)) (news : List Value) (hl : news.length = m) (hr : Rd w A news) (h1 : ∀ u ∈ news, u.oneCell' = true) (hn : (n + m) * bytes ≤ 140737488355328) (hn2 : n + m ≤ maxLen)
    (k : ∀ a' w' v', St N w0 B ((d, v') :: ρ) (L.set i (.win v' e (n + m) (cs ++ news))) a' w' → wpList P ops Q rest a' w') : wpList P ops Q (o :: rest) a w := by
  obtain ⟨ie, hi1, hi2, hi3, hi4⟩ := info_parts hinfo
  obtain ⟨v', w', hrun, hown, hgr, hblk⟩ := run_append_win (P := P) w t o.type e ie z bytes ht hi1 hi2 hi3 hi4 hz1 v n cs (h.m.ok i _ hi) A m c news hl hr h1 hn2 hn
  refine Lib.wpList_append_run w hg s x t t ho v (.slice A m c) (h.k.eval hs) (h.k.eval hx) v' w' hrun (k _ _ v' ⟨by rw [hd]; exact h.k.put hN, ?_⟩)
  refine h.m.write hi (x := .win v e n cs) (Chg.grown hgr _ (fun k hk => hk)) hown (fun k hk => ?_)
  rcases hblk k hk with h3 | h3
  · exact .inl h3
  · exact .inr h3
theorem Mem.nilwin (h : Mem w0 B L w) (E : TypeId) : Mem w0 B (.win (.slice none 0 0) E 0 [] :: L) w :=
  h.add (x := .win (.slice none 0 0) E 0 []) ⟨rfl, .inl ⟨rfl, rfl⟩⟩ (fun k hk => by cases hk) (fun i y hy k => ⟨fun hh => (by cases hh.1), fun hh => (by cases hh.2)⟩)
/-- the window's tail -/
theorem Mem.winTail (h : Mem w0 B L w) {i : Nat} {A : Option Addr} {n c : Nat} {E : TypeId} {xs : List Value} (hi : L[i]? = some (.win (.slice A n c) E n xs)) (l : Nat) (hl : l ≤ n) {A' : Option Addr} (hA : A' = if c = l then A else A.map (·.add (l * 1))) : Mem w0 B (L.set i (.win (.slice A' (n - l) (c - l)) E (n - l) (xs.drop l))) w := by
  have h0 : ownsWin w E (.slice A n c) n xs := h.ok i _ hi
  have hown : (Value.slice A' (n - l) (c - l)).ownBlock = (Value.slice A n c).ownBlock := by
    subst hA
    cases A with
    | none => by_cases e : c = l <;> simp [e, Value.ownBlock]
    | some a =>
      by_cases e : c = l
      · simp [e, Value.ownBlock]
      · simp [e, Value.ownBlock]; unfold Addr.add; split <;> rfl
  refine h.write hi (x := .win (.slice A n c) E n xs) (x' := .win (.slice A' (n - l) (c - l)) E (n - l) (xs.drop l)) (Chg.refl w _) ?_ (fun k hk => .inl (by
    have hk' : (Value.slice A' (n - l) (c - l)).ownBlock = some k := hk
    rw [hown] at hk'; exact hk'))
  refine ⟨by rw [List.length_drop, h0.1], ?_⟩
  rcases h0.2 with ⟨hv, hn⟩ | ⟨g, off, cap, cur, hv, hg, hnc, hcm, hcs, htake⟩
  · cases hv
    left
    subst hA
    have : l = 0 := by omega
    subst this
    simp
  · cases hv
    right
    subst hA
    by_cases e : c = l
    · refine ⟨g, off, 0, cur, by simp [e], hg, by omega, by omega, by omega, ?_⟩
      rw [show n - l = 0 by omega, List.take_zero, List.drop_of_length_le (by rw [h0.1]; omega)]
    · refine ⟨g, off + l, c - l, cur, by simp [e, Addr.add_mid], hg, by omega, by omega, by omega, ?_⟩
      rw [← htake, List.drop_take, List.drop_drop]
/-- parts in another order, reckoned -/
def pickL (L : List Ch) : List Nat → Option (List Ch)
  | [] => some []
  | i :: r => match L[i]?, pickL L r with
    | some x, some l => some (x :: l)
    | _, _ => none
theorem St.pick (h : St N w0 B ρ L a w) (is : List Nat) (hn : is.Nodup) (hL : pickL L is = some L') : St N w0 B ρ L' a w := by
  refine h.mem (h.m.pick is L' hn ?_)
  clear hn
  induction is generalizing L' with
  | nil => simp [pickL] at hL; simp [hL]
  | cons i r ih =>
    simp only [pickL] at hL
    split at hL
    · rename_i x l hx hl
      cases hL
      rw [List.map_cons, List.map_cons, hx, ih hl]
    · cases hL
/-- a slice of bytes that can be read -/
def Rb (w : World) (v : Value) (l : List UInt8) : Prop := ∃ A c, v = .slice A l.length c ∧ l.length ≤ c ∧ c ≤ 9223372036854775807 ∧ Rd w A (by8 l)
theorem Rb.below {l : List UInt8} (h : Rb w v l) (hb : Below w.heap.size w w') : Rb w' v l := by
  obtain ⟨A, c, h1, h2, h3, h4⟩ := h; exact ⟨A, c, h1, h2, h3, h4.below hb⟩
/-- a slice of such -/
def RbL (w : World) (A : Option Addr) (ls : List (List UInt8)) : Prop := ∃ vs : List Value, vs.length = ls.length ∧ Rd w A vs ∧ ∀ (i : Nat) (v : Value) (l : List UInt8), vs[i]? = some v → ls[i]? = some l → Rb w v l
theorem RbL.below {A : Option Addr} {ls : List (List UInt8)} (h : RbL w A ls) (hb : Below w.heap.size w w') : RbL w' A ls := by
  obtain ⟨vs, h1, h2, h3⟩ := h; exact ⟨vs, h1, h2.below hb, fun i v l hv hl => (h3 i v l hv hl).below hb⟩
theorem RbL.at {A : Option Addr} {ls : List (List UInt8)} (h : RbL w A ls) (k : Nat) (hk : k < ls.length) : ∃ b off v, A = some ⟨b, off, none⟩ ∧ w.cell? ⟨b, off + k * 1, none⟩ = some v ∧ Rb w v ls[k] := by
  obtain ⟨vs, h1, h2, h3⟩ := h
  have hv : vs[k]? = some (vs[k]'(by omega)) := List.getElem?_eq_getElem _
  obtain ⟨ad, rfl, hc⟩ := h2 0 (vs[0]'(by omega)) (List.getElem?_eq_getElem _)
  have hsp : ad.spot = none := by
    have := addr_cell_spot hc
    simpa [Addr.add] using this
  obtain ⟨b, off, sp⟩ := ad
  simp at hsp; subst hsp
  refine ⟨b, off, vs[k]'(by omega), rfl, ?_, h3 k _ _ hv (List.getElem?_eq_getElem hk)⟩
  rw [Nat.mul_one]; exact h2.at k hv
theorem Mem.mine (h : Mem w0 (fun _ => False) (Ls ++ R) w) {k : Nat} (hk : ownL Ls k) : w0.heap.size ≤ k := by
  obtain ⟨x, hx, hxk⟩ := hk
  obtain ⟨j, hj⟩ := List.mem_iff_getElem?.1 hx
  rcases h.base j x (by rw [List.getElem?_append_left (List.getElem?_eq_some_iff.1 hj).1]; exact hj) k hxk with h1 | h1
  · exact h1.elim
  · exact h1
/-- an own row that isn't empty begins at a block's head -/
theorem Mem.rowAt (h : Mem w0 B L w) {i : Nat} {v : Value} {E : TypeId} {sz n : Nat} {cs : List Value} (hi : L[i]? = some (.row v E sz n cs)) (hn : 0 < n) : ∃ g c, v = .slice (some ⟨g, 0, none⟩) n c ∧ n ≤ c ∧ c ≤ maxLen := by
  have hown : w.ownsRow 0 E sz v n cs := h.ok i _ hi
  rcases hown with ⟨_, ⟨_, h2⟩ | ⟨g, c, cur, h1, _, _, h2, h3, _⟩⟩
  · omega
  · exact ⟨g, c, h1, h2, h3⟩
theorem Mem.rdRowA (h : Mem w0 B L w) {i : Nat} {A : Option Addr} {n c : Nat} {E : TypeId} {sz : Nat} {cs : List Value} (hi : L[i]? = some (.row (.slice A n c) E sz n cs)) : Rd w A cs := by
  obtain ⟨A', c', e, _, _, hr⟩ := h.rdRow hi
  cases e; exact hr
end
end Go.Proofs.Ytohgmggdfmjgnaa
