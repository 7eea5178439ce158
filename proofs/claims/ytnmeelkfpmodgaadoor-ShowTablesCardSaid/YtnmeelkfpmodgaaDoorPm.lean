/- Maps and parts of slices, told plainly. -/
import Derived.Test.YtnmeelkfpmodgaaDoorPx
import Derived.Test.YtnmeelkfpmodgaaDoorMap2
import Derived.DeepKeys3
import Derived.DataBytes
set_option linter.unusedVariables false
set_option linter.unusedSimpArgs false
set_option linter.unusedSectionVars false
namespace Go.Proofs.YtnmeelkfpmodgaaDoor
open Go.RowKit
section
variable {κ α : Type} [DecidableEq κ]
def aget (x : κ) : List (κ × α) → Option α
  | [] => none
  | p :: ps => if p.1 = x then some p.2 else aget x ps
def aset (x : κ) (v : α) : List (κ × α) → List (κ × α)
  | [] => [(x, v)]
  | p :: ps => if p.1 = x then (x, v) :: ps else p :: aset x v ps
theorem aget_aset (x y : κ) (v : α) (ps : List (κ × α)) : aget y (aset x v ps) = if x = y then some v else aget y ps := by
  induction ps with
  | nil => simp [aset, aget]
  | cons p ps ih =>
    unfold aset
    by_cases h : p.1 = x
    · rw [if_pos h]
      simp only [aget, h]
      by_cases h2 : x = y <;> simp [h2]
    · rw [if_neg h]
      simp only [aget, ih]
      by_cases h2 : x = y
      · subst h2; simp [h]
      · simp [h2]
/-- a value, of one cell or a row -/
def vr (T : Ty α) (row : Bool) (S : Snap) (v : Value) (x : α) : Prop := match row with
  | true => ∃ cs, v = .agg cs.toArray ∧ T.rep S cs x
  | false => T.rep S [v] x
theorem vr.mono {T : Ty α} {row : Bool} {S S' : Snap} {v : Value} {x : α} (h : S.le S') (k : vr T row S v x) : vr T row S' v x := by
  cases row
  · exact T.mono h k
  · obtain ⟨cs, e, k⟩ := k; exact ⟨cs, e, T.mono h k⟩
def R2 (T : Ty α) (row : Bool) (S : Snap) : List (κ × Value) → List (κ × α) → Prop
  | [], [] => True
  | q :: vs, p :: ps => q.1 = p.1 ∧ vr T row S q.2 p.2 ∧ R2 T row S vs ps
  | _, _ => False
theorem R2.mono {T : Ty α} {row : Bool} {S S' : Snap} (h : S.le S') : ∀ {vs : List (κ × Value)} {ps : List (κ × α)}, R2 T row S vs ps → R2 T row S' vs ps
  | [], [], _ => trivial
  | [], _ :: _, k => k.elim
  | _ :: _, [], k => k.elim
  | _ :: _, _ :: _, ⟨k1, k2, k3⟩ => ⟨k1, k2.mono h, k3.mono h⟩
theorem R2.set {T : Ty α} {row : Bool} {S : Snap} {x : κ} {u : Value} {q : α} (hu : vr T row S u q) : ∀ {vs : List (κ × Value)} {ps : List (κ × α)}, R2 T row S vs ps → R2 T row S (setP x u vs) (aset x q ps)
  | [], [], _ => ⟨rfl, hu, trivial⟩
  | [], _ :: _, k => k.elim
  | _ :: _, [], k => k.elim
  | a :: vs, p :: ps, ⟨k1, k2, k3⟩ => by
    unfold setP aset
    rw [k1]
    split
    · exact ⟨rfl, hu, k3⟩
    · exact ⟨k1, k2, k3.set hu⟩
theorem R2.get {T : Ty α} {row : Bool} {S : Snap} (x : κ) : ∀ {vs : List (κ × Value)} {ps : List (κ × α)}, R2 T row S vs ps → (getP x vs = none ∧ aget x ps = none) ∨ ∃ u q, getP x vs = some u ∧ aget x ps = some q ∧ vr T row S u q
  | [], [], _ => .inl ⟨rfl, rfl⟩
  | [], _ :: _, k => k.elim
  | _ :: _, [], k => k.elim
  | a :: vs, p :: ps, ⟨k1, k2, k3⟩ => by
    unfold getP aget
    rw [k1]
    split
    · exact .inr ⟨_, _, rfl, rfl, k2⟩
    · exact k3.get x
theorem R2.len {T : Ty α} {row : Bool} {S : Snap} : ∀ {vs : List (κ × Value)} {ps : List (κ × α)}, R2 T row S vs ps → vs.length = ps.length
  | [], [], _ => rfl
  | [], _ :: _, k => k.elim
  | _ :: _, [], k => k.elim
  | _ :: _, _ :: _, ⟨_, _, k3⟩ => by simp [k3.len]
variable {P : Program} {k : TypeId}
/-- a map's entries hold these pairs -/
def bornOK (es : Array MapEntry) (cl : Nat) : Prop := (∀ e ∈ es.toList, e.born < cl) ∧ (es.toList.map (·.born)).Nodup
def mpS (D : KeyD P k κ) (T : Ty α) (row : Bool) (S : Snap) (es : Array MapEntry) (cl : Nat) (ps : List (κ × α)) : Prop := bornOK es cl ∧ ∃ vs : List (κ × Value), D.Is es.toList vs ∧ R2 T row S vs ps
theorem mpS.nil (D : KeyD P k κ) (T : Ty α) (row : Bool) (S : Snap) : mpS D T row S #[] 0 [] := ⟨⟨fun e he => by simp at he, by simp⟩, [], ⟨rfl, fun p hp => by cases hp⟩, trivial⟩
theorem mpS.mono {D : KeyD P k κ} {T : Ty α} {row : Bool} {S S' : Snap} {es : Array MapEntry} {cl : Nat} {ps : List (κ × α)} (h : S.le S') (m : mpS D T row S es cl ps) : mpS D T row S' es cl ps := by obtain ⟨h0, vs, h1, h2⟩ := m; exact ⟨h0, vs, h1, h2.mono h⟩
/-- a map that stays, or none -/
def mpF (D : KeyD P k κ) (T : Ty α) (row : Bool) (S : Snap) (m : Option Nat) (ps : List (κ × α)) : Prop := (m = none ∧ ps = []) ∨ ∃ g es cl, m = some g ∧ (∀ w, SnapOK S w → w.heap[g]? = some (.map es cl)) ∧ mpS D T row S es cl ps
theorem mpF.nil (D : KeyD P k κ) (T : Ty α) (row : Bool) (S : Snap) : mpF D T row S none [] := .inl ⟨rfl, rfl⟩
theorem mpF.mono {D : KeyD P k κ} {T : Ty α} {row : Bool} {S S' : Snap} {m : Option Nat} {ps : List (κ × α)} (h : S.le S') (f : mpF D T row S m ps) : mpF D T row S' m ps := by
  rcases f with f | ⟨g, es, cl, h1, h2, h3⟩
  · exact .inl f
  · exact .inr ⟨g, es, cl, h1, fun w hw => h2 w (hw.le h), h3.mono h⟩
/-- what a look-up yields -/
def lkd (D : KeyD P k κ) (z : Value) (x : κ) (es : Array MapEntry) (u : Value) (b : Bool) : Prop := ∃ vs : List (κ × Value), D.Is es.toList vs ∧ (getP x vs).getD z = u ∧ (getP x vs).isSome = b
theorem mpS.look {D : KeyD P k κ} {T : Ty α} {row : Bool} {S : Snap} {es : Array MapEntry} {cl : Nat} {ps : List (κ × α)} (m : mpS D T row S es cl ps) (x : κ) {z : Value} {z0 : α} (hz : vr T row S z z0) : ∃ u, vr T row S u ((aget x ps).getD z0) ∧ lkd D z x es u (aget x ps).isSome := by
  obtain ⟨_, vs, h1, h2⟩ := m
  rcases h2.get x with ⟨e1, e2⟩ | ⟨u, q, e1, e2, e3⟩
  · exact ⟨z, by rw [e2]; exact hz, vs, h1, by rw [e1]; rfl, by rw [e1, e2]; rfl⟩
  · exact ⟨u, by rw [e2]; exact e3, vs, h1, by rw [e1]; rfl, by rw [e1, e2]; rfl⟩
variable {ops : Array Oper} {Q : Exit → Act → World → Prop} {rest : List Oper} {o : Oper} {N d : Nat} {w0 w w' : World} {B : Nat → Prop} {ρ : Slots} {L L' R : List Ch} {a : Act} {v : Value} {T : Ty α} {S S0 S' : Snap} {row : Bool}
theorem x_lookE (h : Knows N ρ a) {m y : Operand} {t : TypeId} {ok : Bool} (ho : o.op = .lookup t m y ok) {e : TypeId} (ht : P.underlying t = some (.map k e)) {g : Nat} (hm : ev ρ m = some (.map (some g))) {es : Array MapEntry} {cl : Nat} (hb : w.heap[g]? = some (.map es cl)) {D : KeyD P k κ} {z : Value} {x : κ} {u : Value} {b : Bool} (hl : lkd D z x es u b)
    (hx : D.ok x) (hy : ev ρ y = some (D.kv x)) (hz : (zeroValue e).run P w = .ok z w) : (execOp a.eval o).run P w = .ok (.value (if ok then .tuple #[u, .bool b] else u)) w := by
  obtain ⟨vs, h1, h2, h3⟩ := hl
  have := x_look h ho ht hm hb D h1 hx hy hz
  rw [this]
  unfold lookV
  rw [h2, h3]
/-- in a map that stays, or in none -/
def lkF (D : KeyD P k κ) (z : Value) (x : κ) (S : Snap) (m : Option Nat) (u : Value) (b : Bool) : Prop := (m = none ∧ u = z ∧ b = false) ∨ ∃ g es cl, m = some g ∧ (∀ w, SnapOK S w → w.heap[g]? = some (.map es cl)) ∧ lkd D z x es u b
theorem mpF.look {D : KeyD P k κ} {m : Option Nat} {ps : List (κ × α)} (f : mpF D T row S m ps) (x : κ) {z : Value} {z0 : α} (hz : vr T row S z z0) : ∃ u, vr T row S u ((aget x ps).getD z0) ∧ lkF D z x S m u (aget x ps).isSome := by
  rcases f with ⟨rfl, rfl⟩ | ⟨g, es, cl, h1, h2, h3⟩
  · exact ⟨z, hz, .inl ⟨rfl, rfl, rfl⟩⟩
  · obtain ⟨u, hu, hl⟩ := h3.look x hz
    exact ⟨u, hu, .inr ⟨g, es, cl, h1, h2, hl⟩⟩
theorem bornOK.push {es : Array MapEntry} {cl : Nat} (h : bornOK es cl) (ky v : Value) : bornOK (es.push { key := ky, val := v, born := cl }) (cl + 1) := by
  refine ⟨fun e he => ?_, ?_⟩
  · simp only [Array.toList_push, List.mem_append, List.mem_singleton] at he
    rcases he with he | rfl
    · have := h.1 e he; omega
    · simp
  · rw [Array.toList_push, List.map_append, List.nodup_append]
    refine ⟨h.2, by simp, fun a ha b hb => ?_⟩
    obtain ⟨e, he, rfl⟩ := List.mem_map.1 ha
    simp at hb
    subst hb
    have := h.1 e he; omega
theorem bornOK.modify {es : Array MapEntry} {cl j : Nat} {f : MapEntry → MapEntry} (hf : ∀ e, (f e).born = e.born) (h : bornOK es cl) : bornOK (es.modify j f) cl := by
  have e1 : (es.modify j f).toList.map (·.born) = es.toList.map (·.born) := by
    apply List.ext_getElem?
    intro i
    simp only [Array.toList_modify, List.getElem?_map, List.getElem?_modify]
    by_cases hq : j = i
    · subst hq; cases es.toList[j]? <;> simp [hf]
    · simp [hq]
  refine ⟨fun e he => ?_, by rw [e1]; exact h.2⟩
  have : e.born ∈ (es.modify j f).toList.map (·.born) := List.mem_map.2 ⟨e, he, rfl⟩
  rw [e1] at this
  obtain ⟨e', he', h2⟩ := List.mem_map.1 this
  have := h.1 e' he'; omega
theorem map_write (h : Mem w0 B L w) {i g : Nat} {es : Array MapEntry} {cl : Nat} (hi : L[i]? = some (.obj g (.map es cl))) (o' : Obj) : Mem w0 B (L.set i (.obj g o')) { w with heap := w.heap.setIfInBounds g o' } := by
  have hb : w.heap[g]? = some (.map es cl) := h.ok i _ hi
  have hgl : g < w.heap.size := (Array.getElem?_eq_some_iff.1 hb).1
  refine h.write hi (x := .obj g (.map es cl)) (x' := .obj g o') ⟨rfl, rfl, rfl, by simp, fun j hj hne => ?_⟩ ?_ (fun j hj => .inl hj)
  · have : ¬ g = j := fun e => hne e.symm
    simp [Array.getElem?_setIfInBounds, this]
  · show (w.heap.setIfInBounds g o')[g]? = some o'
    simp [hgl]
theorem setP_ok {D : KeyD P k κ} {es : List MapEntry} {vs : List (κ × Value)} (hD : D.Is es vs) {x : κ} (hx : D.ok x) (v : Value) : ∀ p ∈ setP x v vs, D.ok p.1 := by
  intro p hp
  have h1 : p.1 ∈ (setP x v vs).map (·.1) := List.mem_map.2 ⟨p, hp, rfl⟩
  rw [setP_keys] at h1
  have key : ∀ q ∈ vs.map (·.1), D.ok q := fun q hq => by obtain ⟨r, hr, rfl⟩ := List.mem_map.1 hq; exact hD.2 r hr
  split at h1
  · exact key _ h1
  · rcases List.mem_append.1 h1 with h2 | h2
    · exact key _ h2
    · rw [List.mem_singleton.1 h2]; exact hx
theorem is_push {D : KeyD P k κ} {es : Array MapEntry} {vs : List (κ × Value)} (hD : D.Is es.toList vs) {x : κ} (hx : D.ok x) {v : Value} (h2 : setP x v vs = vs ++ [(x, v)]) (cl : Nat) : D.Is (es.push { key := D.kv x, val := v, born := cl }).toList (setP x v vs) := ⟨by rw [h2]; simp [hD.1], setP_ok hD hx v⟩
theorem is_mod {D : KeyD P k κ} {es : Array MapEntry} {vs : List (κ × Value)} (hD : D.Is es.toList vs) {x : κ} (hx : D.ok x) {v : Value} {j : Nat} {e0 : MapEntry} (h2 : es[j]? = some e0) (h4 : setP x v vs = vs.set j (x, v)) : D.Is (es.modify j fun e => { e with key := D.kv x, val := v }).toList (setP x v vs) := by
  refine ⟨?_, setP_ok hD hx v⟩
  rw [h4, List.map_set, ← hD.1]
  apply List.ext_getElem?
  intro q
  have h2' : es.toList[j]? = some e0 := by simpa using h2
  have hj : j < es.toList.length := (List.getElem?_eq_some_iff.1 h2').1
  simp only [Array.toList_modify, List.getElem?_map, List.getElem?_modify, List.getElem?_set, List.length_map]
  by_cases hq : j = q
  · subst hq
    have hj' : j < es.size := by simpa using hj
    simp [h2', hj', h2]
  · simp [hq]
theorem q_mapSet (h : St N w0 B ρ L a w) (hg : o.guard = none) {m y u : Operand} {t : TypeId} (ho : o.op = .mapUpdate t m y u) (hd : o.dst = none) {e : TypeId} (ht : P.underlying t = some (.map k e)) {g : Nat} (hm : ev ρ m = some (.map (some g))) (i : Nat) {es : Array MapEntry} {cl : Nat} (hi : L[i]? = some (.obj g (.map es cl))) (D : KeyD P k κ) {ps : List (κ × α)} (hD : mpS D T row S es cl ps)
    {x : κ} (hx : D.ok x) (hy : ev ρ y = some (D.kv x)) {v : Value} {q : α} (hu : ev ρ u = some v) (hq : vr T row S v q)
    (kk : ∀ a' w' es' cl', mpS D T row S es' cl' (aset x q ps) → St N w0 B ρ (L.set i (.obj g (.map es' cl'))) a' w' → wpList P ops Q rest a' w') : wpList P ops Q (o :: rest) a w := by
  obtain ⟨h0, vs, hI, hR⟩ := hD
  have hb : w.heap[g]? = some (.map es cl) := h.m.ok i _ hi
  rcases D.ask w hx v es.toList vs 0 hI with ⟨h1, h2⟩ | ⟨j, e0, h1, h2, h3, h4⟩
  · refine s_of0 h hg hd (w' := { w with heap := w.heap.setIfInBounds g (.map (es.push { key := D.kv x, val := v, born := cl }) (cl + 1)) }) ?_ (fun a' hk => kk a' _ _ _ ⟨h0.push _ _, _, is_push hI hx h2 cl, hR.set hq⟩ ⟨hk, map_write h.m hi _⟩)
    simp [execOp, ho, h.k.eval hm, h.k.eval hy, h.k.eval hu, Instr.mapUpdate, run_underlying ht, MapKept.run_getObj_map hb, D.check w false hx, D.find, h1, MapKept.run_setObj_map _ hb, Result.andThen]
  · have hst : (Instr.keyThatStays (D.kv x) (D.kv x)).run P w = .ok (D.kv x) w := by unfold Instr.keyThatStays; rw [if_pos (D.same hx)]; rfl
    have h2' : es[j]? = some e0 := by simpa using h2
    rw [Nat.zero_add] at h1
    refine s_of0 h hg hd (w' := { w with heap := w.heap.setIfInBounds g (.map (es.modify j fun e => { e with key := D.kv x, val := v }) cl) }) ?_ (fun a' hk => kk a' _ _ _ ⟨h0.modify (f := fun e => { e with key := D.kv x, val := v }) (fun _ => rfl), _, is_mod hI hx h2' h4, hR.set hq⟩ ⟨hk, map_write h.m hi _⟩)
    simp [execOp, ho, h.k.eval hm, h.k.eval hy, h.k.eval hu, Instr.mapUpdate, run_underlying ht, MapKept.run_getObj_map hb, D.check w false hx, D.find, h1, h2', h3, hst, MapKept.run_setObj_map _ hb, Result.andThen]
/-- an entry that waits for its value -/
def mpE (D : KeyD P k κ) (T : Ty α) (row : Bool) (S : Snap) (es : Array MapEntry) (cl : Nat) (x : κ) (b : Nat) (ps : List (κ × α)) : Prop := bornOK es cl ∧ ∃ (vs : List (κ × Value)) (v0 : Value) (j : Nat) (e : MapEntry), D.Is es.toList (setP x v0 vs) ∧ R2 T row S vs ps ∧ (∀ u, setP x u vs = (setP x v0 vs).set j (x, u)) ∧ es[j]? = some e ∧ e.born = b ∧ e.key = D.kv x ∧ D.ok x
theorem mpE.mono {D : KeyD P k κ} {es : Array MapEntry} {cl : Nat} {x : κ} {b : Nat} {ps : List (κ × α)} (h : S.le S') (m : mpE D T row S es cl x b ps) : mpE D T row S' es cl x b ps := by
  obtain ⟨h0, vs, v0, j, e, h1, h2, h3⟩ := m
  exact ⟨h0, vs, v0, j, e, h1, h2.mono h, h3⟩
end
/-- a variable that stays -/
def ptS {α : Type} (T : Ty α) (S : Snap) (g : Nat) (x : α) : Prop := ∃ cs, (∀ w, SnapOK S w → w.rangeAt g 0 cs) ∧ T.rep S cs x
theorem ptS.mono {α : Type} {T : Ty α} {S S' : Snap} {g : Nat} {x : α} (h : S.le S') (k : ptS T S g x) : ptS T S' g x := by obtain ⟨cs, k1, k2⟩ := k; exact ⟨cs, fun w hw => k1 w (hw.le h), T.mono h k2⟩
theorem _root_.Go.World.rangeAt.sub {w : World} {b off : Nat} {cs : List Value} (h : w.rangeAt b off cs) (fo n : Nat) : w.rangeAt b (off + fo) ((cs.drop fo).take n) := fun j v hv => by
  rw [List.getElem?_take] at hv
  split at hv
  · rw [List.getElem?_drop] at hv
    have := h (fo + j) v hv
    rwa [← Nat.add_assoc] at this
  · cases hv
/-! ### a slice of a slice -/
def sA (A : Option Addr) (c l sz : Nat) : Option Addr := if c = l then A else A.map (·.add (l * sz))
section
variable {α : Type} {T : Ty α} {S : Snap} {P : Program} {o : Oper} {a : Act} {w : World} {N : Nat} {ρ : Slots}
theorem slS.sub {A : Option Addr} {c : Nat} {xs r : List α} (k : slS T S A c xs) {m n c' : Nat} (h1 : m ≤ n) (h2 : n ≤ xs.length) (h3 : n ≤ c') (h4 : c' ≤ c) (hr : r = (xs.take n).drop m) : slS T S (sA A c' m T.sz) (c' - m) r := by
  subst hr
  exact (k.take n c' h2 h3 h4).drop m (by rw [List.length_take]; omega)
end
theorem zro {P : Program} {t : TypeId} {z : Value} {n : Nat} (h : (P.info? t).map (fun i => (i.zero, i.size)) = some (some z, n)) (w : World) : (zeroValue t).run P w = .ok z w := by
  cases hq : P.info? t with
  | none => simp [hq] at h
  | some i =>
    simp only [hq, Option.map_some, Option.some.injEq, Prod.mk.injEq] at h
    simp [zeroValue, typeInfo, hq, h.1]
section
variable {P : Program} {o : Oper} {a : Act} {w : World} {N : Nat} {ρ : Slots} {x y : Operand} {t t' : TypeId}
theorem x_eqlB (h : Knows N ρ a) (ho : o.op = .binOp .eql t x y t') (ht : P.underlying t = some .bool) {p q : Bool} (hx : ev ρ x = some (.bool p)) (hy : ev ρ y = some (.bool q)) : (execOp a.eval o).run P w = .ok (.value (.bool (p == q))) w := by
  have he : (eqGuard .eql t x y (.bool p) (.bool q)).run P w = .ok () w := rfl
  have hq : (Op.equal t (.bool p) (.bool q)).run P w = .ok (p == q) w := run_equalIn_bool' (w := w) 9999 _ _ _ ht
  simp [execOp, ho, h.eval hx, h.eval hy, he, binOp, hq, Result.andThen]
end
/-! ### keys -/
theorem eq_int (w : World) (x y : Int) : (Op.equalIn 10000 3 (.int .i64 x) (.int .i64 y)).run Tryd.prog w = .ok (decide (x = y)) w := by
  have e : (x == y) = decide (x = y) := by rw [Bool.eq_iff_iff]; simp
  rw [← e]
  exact run_equalIn_int w 9999 _ .i64 .i64 _ _ Tryd.underlying3
theorem ask_int (w : World) (x : Int) : ∀ (es : List MapEntry) (i : Nat) (r : Option (Nat × Value)), Instr.findNow (.int .i64) (.int .i64 x) es i = some r → (Instr.findAsking 3 (.int .i64 x) es i).run Tryd.prog w = .ok r w
  | [], i, r, h => by
    simp only [Instr.findNow, Option.some.injEq] at h
    subst h; rfl
  | e :: es, i, r, h => by
    obtain ⟨k, v, b⟩ := e
    unfold Instr.findNow at h
    cases k with
    | int kk y =>
      simp only [Instr.sameNow] at h
      by_cases hk : IntKind.i64 = kk
      · subst hk
        rw [if_pos rfl] at h
        have he : (Op.equal 3 (.int .i64 x) (.int .i64 y)).run Tryd.prog w = .ok (x == y) w := run_equalIn_int w 9999 _ .i64 .i64 _ _ Tryd.underlying3
        by_cases hxy : x = y
        · have e : (x == y) = true := by simpa using hxy
          rw [e] at h he
          simp only [Option.some.injEq] at h
          subst h
          simp [Instr.findAsking, he, Result.andThen]
        · have e : (x == y) = false := by simpa using hxy
          rw [e] at h he
          simp only at h
          simp [Instr.findAsking, he, Result.andThen, ask_int w x es (i + 1) r h]
      · rw [if_neg hk] at h; cases h
    | _ => simp [Instr.sameNow] at h
def keyI : KeyD Tryd.prog 3 Int where
  kv n := .int .i64 n
  ok n := r64 n
  eq w x y _ _ := eq_int w x y
  check w b x hx := by
    have hw : (Lit.int .i64 x).wf = true := by
      unfold r64 at hx
      simp [Lit.wf, IntKind.min, IntKind.max, IntKind.signed, IntKind.bits]
      omega
    exact run_checkKey_deep b 9998 2 3 (by kernel_rfl) w 2 (.int .i64 x) [Lit.int .i64 x] (by simp [Value.formed, Tryd.underlying3]) (by simp [Program.keyLits, Tryd.underlying3, Value.cells, hw])
  same _ := by simp [Instr.sameBits]
  find w x es := by
    unfold Instr.findKey
    simp only [Sem.run_bind, run_underlying Tryd.underlying3, Result.andThen_ok]
    cases hf : Instr.findNow (.int .i64) (.int .i64 x) es 0 with
    | none => rfl
    | some r => exact (ask_int w x es 0 r hf).symm
end Go.Proofs.YtnmeelkfpmodgaaDoor
