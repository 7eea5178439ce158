/- Lists of sums: their cells, copies, and equality. -/
import Derived.Test.YtlgcfnbhnpnkiaaCall
set_option linter.unusedVariables false
set_option linter.unusedSimpArgs false
namespace Go.Proofs.Ytlgcfnbhnpnkiaa
open Go.RowKit

def z32 : List UInt8 := List.replicate 32 0
theorem z32_length : z32.length = 32 := by simp [z32]
/-- lists of 32 bytes -/
def S32 (l : List (List UInt8)) : Prop := ∀ x ∈ l, x.length = 32
theorem S32.nil : S32 [] := fun x hx => by cases hx
theorem S32.cons {x : List UInt8} {l : List (List UInt8)} (hx : x.length = 32) (h : S32 l) : S32 (x :: l) := fun y hy => by
  rcases List.mem_cons.1 hy with rfl | h1
  · exact hx
  · exact h y h1
theorem S32.tail {x : List UInt8} {l : List (List UInt8)} (h : S32 (x :: l)) : S32 l := fun y hy => h y (List.mem_cons_of_mem _ hy)
theorem S32.append {l m : List (List UInt8)} (h : S32 l) (h' : S32 m) : S32 (l ++ m) := fun y hy => by
  rcases List.mem_append.1 hy with h1 | h1
  · exact h y h1
  · exact h' y h1
theorem S32.take {l : List (List UInt8)} (h : S32 l) (k : Nat) : S32 (l.take k) := fun y hy => h y (List.mem_of_mem_take hy)
theorem S32.drop {l : List (List UInt8)} (h : S32 l) (k : Nat) : S32 (l.drop k) := fun y hy => h y (List.mem_of_mem_drop hy)
theorem S32.at {l : List (List UInt8)} (h : S32 l) {k : Nat} (hk : k < l.length) : l[k].length = 32 := h _ (List.getElem_mem hk)
theorem S32.set {l : List (List UInt8)} (h : S32 l) (k : Nat) {x : List UInt8} (hx : x.length = 32) : S32 (l.set k x) := fun y hy => by
  rcases List.mem_or_eq_of_mem_set hy with h1 | h1
  · exact h y h1
  · rw [h1]; exact hx
theorem flat_len {l : List (List UInt8)} (h : S32 l) : l.flatten.length = l.length * 32 := by
  induction l with
  | nil => rfl
  | cons x l ih => simp only [List.flatten_cons, List.length_append, List.length_cons, ih h.tail, h x (List.mem_cons_self ..)]; omega
theorem flat_split (l : List (List UInt8)) (k : Nat) : l.flatten = (l.take k).flatten ++ (l.drop k).flatten := by rw [← List.flatten_append, List.take_append_drop]
theorem flat_take {l : List (List UInt8)} (h : S32 l) (k : Nat) (hk : k ≤ l.length) : l.flatten.take (k * 32) = (l.take k).flatten := by
  have hl : (l.take k).flatten.length = k * 32 := by rw [flat_len (h.take k), List.length_take, Nat.min_eq_left hk]
  rw [flat_split l k, List.take_left' hl]
theorem flat_drop {l : List (List UInt8)} (h : S32 l) (k : Nat) (hk : k ≤ l.length) : l.flatten.drop (k * 32) = (l.drop k).flatten := by
  have hl : (l.take k).flatten.length = k * 32 := by rw [flat_len (h.take k), List.length_take, Nat.min_eq_left hk]
  rw [flat_split l k, List.drop_left' hl]
theorem flat_at {l : List (List UInt8)} (h : S32 l) {k : Nat} (hk : k < l.length) : (l.flatten.drop (k * 32)).take 32 = l[k] := by
  rw [flat_drop h k (by omega), List.drop_eq_getElem_cons hk, List.flatten_cons, List.take_left' (h.at hk)]
theorem flat_set {l : List (List UInt8)} (h : S32 l) {k : Nat} (hk : k < l.length) {x : List UInt8} (hx : x.length = 32) : l.flatten.take (k * 32) ++ x ++ l.flatten.drop (k * 32 + 32) = (l.set k x).flatten := by
  rw [flat_take h k (by omega), show k * 32 + 32 = (k + 1) * 32 by omega, flat_drop h (k + 1) (by omega), List.set_eq_take_append_cons_drop, if_pos hk]
  simp
/-- the same with more behind -/
theorem junk_at {l : List (List UInt8)} (h : S32 l) (J : List Value) {k : Nat} (hk : k < l.length) : ((by8 l.flatten ++ J).drop (k * 32)).take 32 = by8 l[k] := by
  have hl := flat_len h
  have hx := h.at hk
  rw [List.drop_append_of_le_length (by rw [by8_length]; omega), List.take_append_of_le_length (by rw [List.length_drop, by8_length]; omega), by8_drop, by8_take, flat_at h hk]
theorem junk_set {l : List (List UInt8)} (h : S32 l) (J : List Value) {k : Nat} (hk : k < l.length) {x : List UInt8} (hx : x.length = 32) : (by8 l.flatten ++ J).take (k * 32) ++ by8 x ++ (by8 l.flatten ++ J).drop (k * 32 + 32) = by8 (l.set k x).flatten ++ J := by
  have hl := flat_len h
  rw [List.take_append_of_le_length (by rw [by8_length]; omega), List.drop_append_of_le_length (by rw [by8_length]; omega), ← flat_set h hk hx, by8_append, by8_append, ← by8_take, ← by8_drop]
  simp
section
variable {P : Program} {ops : Array Oper} {Q : Exit → Act → World → Prop} {rest : List Oper} {o : Oper} {N d : Nat} {w0 w w' : World} {B : Nat → Prop} {ρ : Slots} {L L' : List Ch} {a : Act} {v : Value}
theorem Rd.range {b o : Nat} {cs : List Value} (h : Rd w (some ⟨b, o, none⟩) cs) (j n : Nat) : w.rangeAt b (o + j) ((cs.drop j).take n) := fun i v hv => by
  rw [List.getElem?_take] at hv
  split at hv
  · rw [List.getElem?_drop] at hv
    have := h.at (j + i) hv
    rwa [show o + (j + i) = o + j + i by omega] at this
  · cases hv
/-- element k of what can be read -/
theorem Rd.sum {b o : Nat} {l : List (List UInt8)} (hl : S32 l) (h : Rd w (some ⟨b, o, none⟩) (by8 l.flatten)) {k : Nat} (hk : k < l.length) : w.rangeAt b (o + k * 32) (by8 l[k]) := by
  have := h.range (k * 32) 32
  rwa [by8_drop, by8_take, flat_at hl hk] at this
/-- what can be read and isn't empty lies in a block -/
theorem Rd.addr {A : Option Addr} {cs : List Value} (h : Rd w A cs) (hc : 0 < cs.length) : ∃ b off, A = some ⟨b, off, none⟩ := by
  obtain ⟨ad, rfl, hc⟩ := h 0 (cs[0]'hc) (List.getElem?_eq_getElem _)
  have hsp : ad.spot = none := by
    have := addr_cell_spot hc
    simpa [Addr.add] using this
  obtain ⟨b, off, sp⟩ := ad
  simp at hsp; subst hsp
  exact ⟨b, off, rfl⟩
/-- a full own row as a block -/
theorem Mem.asBox (h : Mem w0 B L w) {i g : Nat} {E : TypeId} {sz n : Nat} {cs : List Value} (hi : L[i]? = some (.row (.slice (some ⟨g, 0, none⟩) n n) E sz n cs)) : Mem w0 B (L.set i (.box g E cs)) w := by
  have hown : w.ownsRow 0 E sz (.slice (some ⟨g, 0, none⟩) n n) n cs := h.ok i _ hi
  refine h.write hi (x := .row (.slice (some ⟨g, 0, none⟩) n n) E sz n cs) (Chg.refl w _) (x' := .box g E cs) ?_ (fun k hk => .inl (by have : g = k := hk.symm; subst this; rfl))
  rcases hown.2 with ⟨h2, _⟩ | ⟨g', cap, cur, h2, hb, hgb, hnc, hcm, hcs, htake⟩
  · cases h2
  · cases h2
    show w.heap[g]? = some (.cells cs.toArray E (0, 0))
    rw [List.take_of_length_le (by simp [hcs])] at htake
    rw [hgb, ← htake]
/-- copy of elements of many cells into a block -/
theorem run_copy_sz (w : World) (dT sT ty elem : TypeId) (g o dLen dCap : Nat) (a : Addr) (sLen sCap : Nat) (cur : Array Value) (t : TypeId) (cs : List Value) (sz m : Nat)
    (hu : P.underlying dT = some (.slice elem)) (hs : (P.info? elem).map (·.size) = some sz)
    (hg : w.heap[g]? = some (.cells cur t (0, 0))) (hm : m = Nat.min sLen dLen) (hn : cs.length = m * sz)
    (hsrc : ∀ j v, cs[j]? = some v → w.cell? (a.add j) = some v) (hfit : o + cs.length ≤ cur.size) (h1 : ∀ v ∈ cs, v.oneCell' = true) :
    (Builtin.copy_ #[dT, sT] ty #[.slice (some ⟨g, o, none⟩) dLen dCap, .slice (some a) sLen sCap]).run P w =
      .ok (goInt m) (w.setRow g (cur.toList.take o ++ cs ++ cur.toList.drop (o + cs.length)).toArray) := by
  have hl := run_loadCells_list (P := P) w a cs hsrc
  have hst := run_storeCells_at P g o t cs 0 cur w hg (by simpa using hfit) h1
  rw [hn] at hl
  cases hq : P.info? elem with
  | none => simp [hq] at hs
  | some i =>
    have hi : i.size = sz := by simpa [hq] using hs
    simp [Builtin.copy_, run_underlying hu, Builtin.lenOf, Builtin.firstCells, sizeOf, typeInfo, hq, hi, ← hm, hl, hst]
theorem s_copyS (h : St N w0 B ρ L a w) (hg : o.guard = none) {x y : Operand} {dT sT : TypeId} (ho : o.op = .call { callee := .builtin .copy, args := #[x, y], argTypes := #[dT, sT] }) (hd : o.dst = some d) (hN : d < N) {e : TypeId} (ht : P.underlying dT = some (.slice e)) {sz : Nat} (hsz : (P.info? e).map (·.size) = some sz)
    {ad : Addr} {g dLen dCap sLen sCap off : Nat} (hx : ev ρ x = some (.slice (some ⟨g, off, none⟩) dLen dCap)) (hy : ev ρ y = some (.slice (some ad) sLen sCap)) (i : Nat) {T : TypeId} {cs : List Value} (hi : L[i]? = some (.box g T cs)) (news : List Value) (m : Nat) (hm : m = Nat.min sLen dLen) (hn : news.length = m * sz)
    (hr : Rd w (some ad) news) (hfit : off + news.length ≤ cs.length) (h1 : ∀ v ∈ news, v.oneCell' = true)
    (k : ∀ a' w', St N w0 B ((d, .int .i64 (m : Int)) :: ρ) (L.set i (.box g T (splice cs off news))) a' w' → wpList P ops Q rest a' w') : wpList P ops Q (o :: rest) a w := by
  have hgb : w.heap[g]? = some (.cells cs.toArray T (0, 0)) := h.m.ok i _ hi
  have hrun := run_copy_sz (P := P) w dT sT o.type e g off dLen dCap ad sLen sCap cs.toArray T news sz m ht hsz hgb hm hn (fun j v hv => by obtain ⟨ad', e', h'⟩ := hr j v hv; cases e'; exact h') (by simpa using hfit) h1
  refine wpList_plain hg fun K hK => ?_
  unfold Oper.wp
  simp [execOp, ho, resolve, invoke, builtin, h.k.eval hx, h.k.eval hy, hrun, Result.andThen]
  refine hK _ _ (k _ _ ⟨by rw [hd]; exact h.k.put hN, ?_⟩)
  refine h.m.write hi (x := .box g T cs) ⟨rfl, rfl, rfl, by simp [World.setRow], fun k hk hne => setRow_other w g k _ (fun e => hne e)⟩ ?_ (fun k hk => .inl hk)
  show _ = _
  simpa [splice] using setRow_heap w g _ _ T _ hgb
/-- equality of arrays of bytes -/
theorem s_eqA (h : St N w0 B ρ L a w) (hg : o.guard = none) {x y : Operand} {t t' : TypeId} (ho : o.op = .binOp .eql t x y t') (hd : o.dst = some d) (hN : d < N) {n : Nat} {e : TypeId} (ht : P.underlying t = some (.array n e)) (he : P.underlying e = some (.int .u8)) (hs : (P.info? e).map (·.size) = some 1) (hq : P.eqGuardType P.depth t = false)
    {xs ys : List UInt8} (hx : ev ρ x = some (.agg (by8 xs).toArray)) (hy : ev ρ y = some (.agg (by8 ys).toArray)) (hlx : xs.length = n) (hly : ys.length = n)
    (k : ∀ a', St N w0 B ((d, .bool (decide (xs = ys))) :: ρ) L a' w → wpList P ops Q rest a' w) : wpList P ops Q (o :: rest) a w := by
  refine eql_op hg t t' x y ho _ _ (h.k.eval hx) (h.k.eval hy) hq (decide (xs = ys)) ?_ (k _ (s_put h hd hN))
  have := eq_arr_bytes w 9998 n ht he hs xs ys hlx hly
  rwa [show (xs == ys) = decide (xs = ys) by rw [Bool.eq_iff_iff]; simp] at this
theorem s_neA (h : St N w0 B ρ L a w) (hg : o.guard = none) {x y : Operand} {t t' : TypeId} (ho : o.op = .binOp .neq t x y t') (hd : o.dst = some d) (hN : d < N) {n : Nat} {e : TypeId} (ht : P.underlying t = some (.array n e)) (he : P.underlying e = some (.int .u8)) (hs : (P.info? e).map (·.size) = some 1) (hq : P.eqGuardType P.depth t = false)
    {xs ys : List UInt8} (hx : ev ρ x = some (.agg (by8 xs).toArray)) (hy : ev ρ y = some (.agg (by8 ys).toArray)) (hlx : xs.length = n) (hly : ys.length = n)
    (k : ∀ a', St N w0 B ((d, .bool (!decide (xs = ys))) :: ρ) L a' w → wpList P ops Q rest a' w) : wpList P ops Q (o :: rest) a w := by
  refine neq_op hg t t' x y ho _ _ (h.k.eval hx) (h.k.eval hy) hq (decide (xs = ys)) ?_ (k _ (s_put h hd hN))
  have := eq_arr_bytes w 9998 n ht he hs xs ys hlx hly
  rwa [show (xs == ys) = decide (xs = ys) by rw [Bool.eq_iff_iff]; simp] at this
/-- a new row of elements of many cells -/
def NewS (w w' : World) (e : TypeId) (sz : Nat) (v : Value) (n : Nat) (xs : List Value) : Prop := Below w.heap.size w w' ∧ w'.ownsRow w.heap.size e sz v n xs
theorem Mem.newRowS (h : Mem w0 (fun _ => False) L w) {i : Nat} {v : Value} {E : TypeId} {sz n : Nat} {cs : List Value} (hi : L[i]? = some (.row v E sz n cs)) : NewS w0 w E sz v n cs := by
  have hown : w.ownsRow 0 E sz v n cs := h.ok i _ hi
  refine ⟨⟨h.chg.os, h.chg.tape, h.chg.output, h.chg.size, fun k hk => h.chg.block k hk (fun h => h)⟩, hown.1, ?_⟩
  rcases hown.2 with h2 | ⟨g, cap, cur, hv, hb, r⟩
  · exact .inl h2
  · refine .inr ⟨g, cap, cur, hv, ?_, r⟩
    rcases h.base i _ hi g (by rw [hv]; rfl) with h3 | h3
    · exact h3.elim
    · exact h3
theorem Mem.addNewS (h : Mem w0 B L w) {E : TypeId} {sz n : Nat} {cs : List Value} (hn : NewS w w' E sz v n cs) : Mem w0 B (.row v E sz n cs :: L) w' :=
  h.new hn.1 (x := .row v E sz n cs) (own_lower hn.2 (Nat.zero_le _)) (fun k hk => own_base hn.2 k hk)
theorem s_callNS (h : St N w0 B ρ L a w) (hg : o.guard = none) {f : FuncId} {xs : Array Operand} {ats : Array TypeId} (ho : o.op = .call { callee := .value (.func f), args := xs, argTypes := ats }) (hd : o.dst = some d) (hN : d < N) {fn : Func} (hf : P.funcs[f]? = some fn) (hb : fn.body.isNone = false) (hn : (fn.name == "runtime.NumGoroutine") = false) {vs : List Value} (hx : xs.toList.map (ev ρ) = vs.map some) {E : TypeId} {sz n : Nat} {cs : List Value}
    (hc : Calls P f vs.toArray w fun e w' => ∃ v, e = .returned v ∧ NewS w w' E sz v n cs) (k : ∀ a' w' v, Below w.heap.size w w' → St N w0 B ((d, v) :: ρ) (.row v E sz n cs :: L) a' w' → wpList P ops Q rest a' w') : wpList P ops Q (o :: rest) a w :=
  s_call h hg ho hd hN hf hb hn hx hc (fun e w' ⟨v, he, hn⟩ => ⟨v, he, fun a' hk => k a' w' v hn.1 ⟨hk, h.m.addNewS hn⟩⟩)
/-- an own row that isn't empty, as a block -/
theorem Mem.rowBox (h : Mem w0 B L w) {i : Nat} {v : Value} {E : TypeId} {sz n : Nat} {cs : List Value} (hi : L[i]? = some (.row v E sz n cs)) (hn : 0 < n) : ∃ g c J, v = .slice (some ⟨g, 0, none⟩) n c ∧ n ≤ c ∧ c ≤ maxLen ∧ Mem w0 B (L.set i (.box g E (cs ++ J))) w := by
  have hown : w.ownsRow 0 E sz v n cs := h.ok i _ hi
  rcases hown.2 with ⟨_, h2⟩ | ⟨g, cap, cur, h2, hb, hgb, hnc, hcm, hcs, htake⟩
  · omega
  · subst h2
    refine ⟨g, cap, cur.toList.drop (n * sz), rfl, hnc, hcm, h.write hi (x := .row (.slice (some ⟨g, 0, none⟩) n cap) E sz n cs) (Chg.refl w _) (x' := .box g E (cs ++ cur.toList.drop (n * sz))) ?_ (fun k hk => .inl (by have : g = k := hk.symm; subst this; rfl))⟩
    show w.heap[g]? = some (.cells _ E (0, 0))
    rw [hgb, ← htake, List.take_append_drop]
theorem madeCells_rep (z : Value) (k n : Nat) (hk : 0 < k) : (madeCells (List.replicate k z).toArray n).toList = List.replicate n z := by
  apply List.ext_getElem
  · simp [size_madeCells]
  · intro i h1 h2
    simp [madeCells]
    rw [getElem!_pos _ _ (by simp; exact Nat.mod_lt _ hk)]
    simp
theorem x_build (h : Knows N ρ a) {t : TypeId} {ps : Array (Nat × Operand)} (ho : o.op = .build t ps) (parts : List (Nat × Value)) (hp : ps.toList.map (fun p => (p.1, ev ρ p.2)) = parts.map (fun p => (p.1, some p.2))) (es : List Value) (hb : P.built t parts = some es.toArray) : (execOp a.eval o).run P w = .ok (.value (.agg es.toArray)) w := by
  have key : ∀ (l : List (Nat × Operand)) (m : List (Nat × Value)), l.map (fun p => (p.1, ev ρ p.2)) = m.map (fun p => (p.1, some p.2)) → l.map (fun p => (p.1, a.eval p.2)) = m := by
    intro l
    induction l with
    | nil => intro m hm; cases m <;> simp_all
    | cons p l ih =>
      intro m hm
      cases m with
      | nil => simp at hm
      | cons q m =>
        simp only [List.map_cons, List.cons.injEq, Prod.mk.injEq] at hm ⊢
        refine ⟨?_, ih m hm.2⟩
        rw [hm.1.1, h.eval hm.1.2]
  have hp' : (ps.map fun (i, x) => (i, a.eval x)).toList = parts := by rw [Array.toList_map]; exact key _ _ hp
  unfold execOp
  simp only [ho, Sem.run_bind, run_build w t _ es.toArray (by rw [hp']; exact hb), Result.andThen_ok]
  rfl
theorem Mem.range0 (h : Mem w0 B L w) {i g : Nat} {T : TypeId} {cs : List Value} (hi : L[i]? = some (.box g T cs)) : w.rangeAt g 0 cs := fun j v hv => by
  rw [h.cell hi, Nat.zero_add]; exact hv
theorem x_eqA (h : Knows N ρ a) {x y : Operand} {t t' : TypeId} (ho : o.op = .binOp .eql t x y t') {n : Nat} {e : TypeId} (ht : P.underlying t = some (.array n e)) (he : P.underlying e = some (.int .u8)) (hs : (P.info? e).map (·.size) = some 1) (hq : P.eqGuardType P.depth t = false)
    {xs ys : List UInt8} (hx : ev ρ x = some (.agg (by8 xs).toArray)) (hy : ev ρ y = some (.agg (by8 ys).toArray)) (hlx : xs.length = n) (hly : ys.length = n) : (execOp a.eval o).run P w = .ok (.value (.bool (decide (xs = ys)))) w := by
  have hb := eq_arr_bytes w 9998 n ht he hs xs ys hlx hly
  rw [show (xs == ys) = decide (xs = ys) by rw [Bool.eq_iff_iff]; simp] at hb
  unfold execOp
  simp only [ho, h.eval hx, h.eval hy, Sem.run_bind, run_eqGuard_agg w .eql t x y _ _ hq, Result.andThen_ok, run_eql_struct]
  unfold aB at hb
  simp only [Nat.reduceAdd] at hb
  simp only [hb]
  rfl
theorem x_neA (h : Knows N ρ a) {x y : Operand} {t t' : TypeId} (ho : o.op = .binOp .neq t x y t') {n : Nat} {e : TypeId} (ht : P.underlying t = some (.array n e)) (he : P.underlying e = some (.int .u8)) (hs : (P.info? e).map (·.size) = some 1) (hq : P.eqGuardType P.depth t = false)
    {xs ys : List UInt8} (hx : ev ρ x = some (.agg (by8 xs).toArray)) (hy : ev ρ y = some (.agg (by8 ys).toArray)) (hlx : xs.length = n) (hly : ys.length = n) : (execOp a.eval o).run P w = .ok (.value (.bool (!decide (xs = ys)))) w := by
  have hb := eq_arr_bytes w 9998 n ht he hs xs ys hlx hly
  rw [show (xs == ys) = decide (xs = ys) by rw [Bool.eq_iff_iff]; simp] at hb
  unfold execOp
  simp only [ho, h.eval hx, h.eval hy, Sem.run_bind, run_eqGuard_agg w .neq t x y _ _ hq, Result.andThen_ok, run_neq_struct]
  unfold aB at hb
  simp only [Nat.reduceAdd] at hb
  simp only [hb]
  rfl
end
end Go.Proofs.Ytlgcfnbhnpnkiaa
