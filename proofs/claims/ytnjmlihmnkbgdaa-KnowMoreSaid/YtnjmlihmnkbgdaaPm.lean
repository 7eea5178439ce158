/- Maps and parts of slices, told plainly. -/
import Derived.Test.YtnjmlihmnkbgdaaPx
import Derived.Test.YtnjmlihmnkbgdaaMap2
import Derived.DeepKeys3
import Derived.DataBytes
set_option linter.unusedVariables false
set_option linter.unusedSimpArgs false
set_option linter.unusedSectionVars false
namespace Go.Proofs.Ytnjmlihmnkbgdaa
open Go.RowKit
section
variable {κ α : Type} [DecidableEq κ]
def aget (x : κ) : List (κ × α) → Option α
  | [] => none
  | p :: ps => if p.1 = x then some p.2 else aget x ps
def aset (x : κ) (v : α) : List (κ × α) → List (κ × α)
  | [] => [(x, v)]
  | p :: ps => if p.1 = x then (x, v) :: ps else p :: aset x v ps
theorem aget_aset (x y : κ) (v : α) (ps : List (κ × α)) : aget y (aset x v ps) = if x = y then some v else aget y ps := by
  induction ps with
  | nil => simp [aset, aget]
  | cons p ps ih =>
    unfold aset
    by_cases h : p.1 = x
    · rw [if_pos h]
      simp only [aget, h]
      by_cases h2 : x = y <;> simp [h2]
    · rw [if_neg h]
      simp only [aget, ih]
      by_cases h2 : x = y
      · subst h2; simp [h]
      · simp [h2]
/-- a value, of one cell or a row -/
def vr (T : Ty α) (row : Bool) (S : Snap) (v : Value) (x : α) : Prop := match row with
  | true => ∃ cs, v = .agg cs.toArray ∧ T.rep S cs x
  | false => T.rep S [v] x
theorem vr.mono {T : Ty α} {row : Bool} {S S' : Snap} {v : Value} {x : α} (h : S.le S') (k : vr T row S v x) : vr T row S' v x := by
  cases row
  · exact T.mono h k
  · obtain ⟨cs, e, k⟩ := k; exact ⟨cs, e, T.mono h k⟩
def R2 (T : Ty α) (row : Bool) (S : Snap) : List (κ × Value) → List (κ × α) → Prop
  | [], [] => True
  | q :: vs, p :: ps => q.1 = p.1 ∧ vr T row S q.2 p.2 ∧ R2 T row S vs ps
  | _, _ => False
theorem R2.mono {T : Ty α} {row : Bool} {S S' : Snap} (h : S.le S') : ∀ {vs : List (κ × Value)} {ps : List (κ × α)}, R2 T row S vs ps → R2 T row S' vs ps
  | [], [], _ => trivial
  | [], _ :: _, k => k.elim
  | _ :: _, [], k => k.elim
  | _ :: _, _ :: _, ⟨k1, k2, k3⟩ => ⟨k1, k2.mono h, k3.mono h⟩
theorem R2.set {T : Ty α} {row : Bool} {S : Snap} {x : κ} {u : Value} {q : α} (hu : vr T row S u q) : ∀ {vs : List (κ × Value)} {ps : List (κ × α)}, R2 T row S vs ps → R2 T row S (setP x u vs) (aset x q ps)
  | [], [], _ => ⟨rfl, hu, trivial⟩
  | [], _ :: _, k => k.elim
  | _ :: _, [], k => k.elim
  | a :: vs, p :: ps, ⟨k1, k2, k3⟩ => by
    unfold setP aset
    rw [k1]
    split
    · exact ⟨rfl, hu, k3⟩
    · exact ⟨k1, k2, k3.set hu⟩
theorem R2.get {T : Ty α} {row : Bool} {S : Snap} (x : κ) : ∀ {vs : List (κ × Value)} {ps : List (κ × α)}, R2 T row S vs ps → (getP x vs = none ∧ aget x ps = none) ∨ ∃ u q, getP x vs = some u ∧ aget x ps = some q ∧ vr T row S u q
  | [], [], _ => .inl ⟨rfl, rfl⟩
  | [], _ :: _, k => k.elim
  | _ :: _, [], k => k.elim
  | a :: vs, p :: ps, ⟨k1, k2, k3⟩ => by
    unfold getP aget
    rw [k1]
    split
    · exact .inr ⟨_, _, rfl, rfl, k2⟩
    · exact k3.get x
theorem R2.len {T : Ty α} {row : Bool} {S : Snap} : ∀ {vs : List (κ × Value)} {ps : List (κ × α)}, R2 T row S vs ps → vs.length = ps.length
  | [], [], _ => rfl
  | [], _ :: _, k => k.elim
  | _ :: _, [], k => k.elim
  | _ :: _, _ :: _, ⟨_, _, k3⟩ => by simp [k3.len]
variable {P : Program} {k : TypeId}
/-- a map's entries hold these pairs -/
def bornOK (es : Array MapEntry) (cl : Nat) : Prop := (∀ e ∈ es.toList, e.born < cl) ∧ (es.toList.map (·.born)).Nodup
def mpS (D : KeyD P k κ) (T : Ty α) (row : Bool) (S : Snap) (es : Array MapEntry) (cl : Nat) (ps : List (κ × α)) : Prop := bornOK es cl ∧ ∃ vs : List (κ × Value), D.Is es.toList vs ∧ R2 T row S vs ps
theorem mpS.nil (D : KeyD P k κ) (T : Ty α) (row : Bool) (S : Snap) : mpS D T row S #[] 0 [] := ⟨⟨fun e he => by simp at he, by simp⟩, [], ⟨rfl, fun p hp => by cases hp⟩, trivial⟩
theorem mpS.mono {D : KeyD P k κ} {T : Ty α} {row : Bool} {S S' : Snap} {es : Array MapEntry} {cl : Nat} {ps : List (κ × α)} (h : S.le S') (m : mpS D T row S es cl ps) : mpS D T row S' es cl ps := by obtain ⟨h0, vs, h1, h2⟩ := m; exact ⟨h0, vs, h1, h2.mono h⟩
/-- a map that stays, or none -/
def mpF (D : KeyD P k κ) (T : Ty α) (row : Bool) (S : Snap) (m : Option Nat) (ps : List (κ × α)) : Prop := (m = none ∧ ps = []) ∨ ∃ g es cl, m = some g ∧ (∀ w, SnapOK S w → w.heap[g]? = some (.map es cl)) ∧ mpS D T row S es cl ps
theorem mpF.nil (D : KeyD P k κ) (T : Ty α) (row : Bool) (S : Snap) : mpF D T row S none [] := .inl ⟨rfl, rfl⟩
theorem mpF.mono {D : KeyD P k κ} {T : Ty α} {row : Bool} {S S' : Snap} {m : Option Nat} {ps : List (κ × α)} (h : S.le S') (f : mpF D T row S m ps) : mpF D T row S' m ps := by
  rcases f with f | ⟨g, es, cl, h1, h2, h3⟩
  · exact .inl f
  · exact .inr ⟨g, es, cl, h1, fun w hw => h2 w (hw.le h), h3.mono h⟩
/-- what a look-up yields -/
def lkd (D : KeyD P k κ) (z : Value) (x : κ) (es : Array MapEntry) (u : Value) (b : Bool) : Prop := ∃ vs : List (κ × Value), D.Is es.toList vs ∧ (getP x vs).getD z = u ∧ (getP x vs).isSome = b
theorem mpS.look {D : KeyD P k κ} {T : Ty α} {row : Bool} {S : Snap} {es : Array MapEntry} {cl : Nat} {ps : List (κ × α)} (m : mpS D T row S es cl ps) (x : κ) {z : Value} {z0 : α} (hz : vr T row S z z0) : ∃ u, vr T row S u ((aget x ps).getD z0) ∧ lkd D z x es u (aget x ps).isSome := by
  obtain ⟨_, vs, h1, h2⟩ := m
  rcases h2.get x with ⟨e1, e2⟩ | ⟨u, q, e1, e2, e3⟩
  · exact ⟨z, by rw [e2]; exact hz, vs, h1, by rw [e1]; rfl, by rw [e1, e2]; rfl⟩
  · exact ⟨u, by rw [e2]; exact e3, vs, h1, by rw [e1]; rfl, by rw [e1, e2]; rfl⟩
variable {ops : Array Oper} {Q : Exit → Act → World → Prop} {rest : List Oper} {o : Oper} {N d : Nat} {w0 w w' : World} {B : Nat → Prop} {ρ : Slots} {L L' R : List Ch} {a : Act} {v : Value} {T : Ty α} {S S0 S' : Snap} {row : Bool}
theorem x_lookE (h : Knows N ρ a) {m y : Operand} {t : TypeId} {ok : Bool} (ho : o.op = .lookup t m y ok) {e : TypeId} (ht : P.underlying t = some (.map k e)) {g : Nat} (hm : ev ρ m = some (.map (some g))) {es : Array MapEntry} {cl : Nat} (hb : w.heap[g]? = some (.map es cl)) {D : KeyD P k κ} {z : Value} {x : κ} {u : Value} {b : Bool} (hl : lkd D z x es u b)
    (hx : D.ok x) (hy : ev ρ y = some (D.kv x)) (hz : (zeroValue e).run P w = .ok z w) : (execOp a.eval o).run P w = .ok (.value (if ok then .tuple #[u, .bool b] else u)) w := by
  obtain ⟨vs, h1, h2, h3⟩ := hl
  have := x_look h ho ht hm hb D h1 hx hy hz
  rw [this]
  unfold lookV
  rw [h2, h3]
/-- in a map that stays, or in none -/
def lkF (D : KeyD P k κ) (z : Value) (x : κ) (S : Snap) (m : Option Nat) (u : Value) (b : Bool) : Prop := (m = none ∧ u = z ∧ b = false) ∨ ∃ g es cl, m = some g ∧ (∀ w, SnapOK S w → w.heap[g]? = some (.map es cl)) ∧ lkd D z x es u b
theorem mpF.look {D : KeyD P k κ} {m : Option Nat} {ps : List (κ × α)} (f : mpF D T row S m ps) (x : κ) {z : Value} {z0 : α} (hz : vr T row S z z0) : ∃ u, vr T row S u ((aget x ps).getD z0) ∧ lkF D z x S m u (aget x ps).isSome := by
  rcases f with ⟨rfl, rfl⟩ | ⟨g, es, cl, h1, h2, h3⟩
  · exact ⟨z, hz, .inl ⟨rfl, rfl, rfl⟩⟩
  · obtain ⟨u, hu, hl⟩ := h3.look x hz
    exact ⟨u, hu, .inr ⟨g, es, cl, h1, h2, hl⟩⟩
theorem bornOK.push {es : Array MapEntry} {cl : Nat} (h : bornOK es cl) (ky v : Value) : bornOK (es.push { key := ky, val := v, born := cl }) (cl + 1) := by
  refine ⟨fun e he => ?_, ?_⟩
  · simp only [Array.toList_push, List.mem_append, List.mem_singleton] at he
    rcases he with he | rfl
    · have := h.1 e he; omega
    · simp
  · rw [Array.toList_push, List.map_append, List.nodup_append]
    refine ⟨h.2, by simp, fun a ha b hb => ?_⟩
    obtain ⟨e, he, rfl⟩ := List.mem_map.1 ha
    simp at hb
    subst hb
    have := h.1 e he; omega
theorem bornOK.modify {es : Array MapEntry} {cl j : Nat} {f : MapEntry → MapEntry} (hf : ∀ e, (f e).born = e.born) (h : bornOK es cl) : bornOK (es.modify j f) cl := by
  have e1 : (es.modify j f).toList.map (·.born) = es.toList.map (·.born) := by
    apply List.ext_getElem?
    intro i
    simp only [Array.toList_modify, List.getElem?_map, List.getElem?_modify]
    by_cases hq : j = i
    · subst hq; cases es.toList[j]? <;> simp [hf]
    · simp [hq]
  refine ⟨fun e he => ?_, by rw [e1]; exact h.2⟩
  have : e.born ∈ (es.modify j f).toList.map (·.born) := List.mem_map.2 ⟨e, he, rfl⟩
  rw [e1] at this
  obtain ⟨e', he', h2⟩ := List.mem_map.1 this
  have := h.1 e' he'; omega
theorem map_write (h : Mem w0 B L w) {i g : Nat} {es : Array MapEntry} {cl : Nat} (hi : L[i]? = some (.obj g (.map es cl))) (o' : Obj) : Mem w0 B (L.set i (.obj g o')) { w with heap := w.heap.setIfInBounds g o' } := by
  have hb : w.heap[g]? = some (.map es cl) := h.ok i _ hi
  have hgl : g < w.heap.size := (Array.getElem?_eq_some_iff.1 hb).1
  refine h.write hi (x := .obj g (.map es cl)) (x' := .obj g o') ⟨rfl, rfl, rfl, by simp, fun j hj hne => ?_⟩ ?_ (fun j hj => .inl hj)
  · have : ¬ g = j := fun e => hne e.symm
    simp [Array.getElem?_setIfInBounds, this]
  · show (w.heap.setIfInBounds g o')[g]? = some o'
    simp [hgl]
theorem setP_ok {D : KeyD P k κ} {es : List MapEntry} {vs : List (κ × Value)} (hD : D.Is es vs) {x : κ} (hx : D.ok x) (v : Value) : ∀ p ∈ setP x v vs, D.ok p.1 := by
  intro p hp
  have h1 : p.1 ∈ (setP x v vs).map (·.1) := List.mem_map.2 ⟨p, hp, rfl⟩
  rw [setP_keys] at h1
  have key : ∀ q ∈ vs.map (·.1), D.ok q := fun q hq => by obtain ⟨r, hr, rfl⟩ := List.mem_map.1 hq; exact hD.2 r hr
  split at h1
  · exact key _ h1
  · rcases List.mem_append.1 h1 with h2 | h2
    · exact key _ h2
    · rw [List.mem_singleton.1 h2]; exact hx
theorem is_push {D : KeyD P k κ} {es : Array MapEntry} {vs : List (κ × Value)} (hD : D.Is es.toList vs) {x : κ} (hx : D.ok x) {v : Value} (h2 : setP x v vs = vs ++ [(x, v)]) (cl : Nat) : D.Is (es.push { key := D.kv x, val := v, born := cl }).toList (setP x v vs) := ⟨by rw [h2]; simp [hD.1], setP_ok hD hx v⟩
theorem is_mod {D : KeyD P k κ} {es : Array MapEntry} {vs : List (κ × Value)} (hD : D.Is es.toList vs) {x : κ} (hx : D.ok x) {v : Value} {j : Nat} {e0 : MapEntry} (h2 : es[j]? = some e0) (h4 : setP x v vs = vs.set j (x, v)) : D.Is (es.modify j fun e => { e with key := D.kv x, val := v }).toList (setP x v vs) := by
  refine ⟨?_, setP_ok hD hx v⟩
  rw [h4, List.map_set, ← hD.1]
  apply List.ext_getElem?
  intro q
  have h2' : es.toList[j]? = some e0 := by simpa using h2
  have hj : j < es.toList.length := (List.getElem?_eq_some_iff.1 h2').1
  simp only [Array.toList_modify, List.getElem?_map, List.getElem?_modify, List.getElem?_set, List.length_map]
  by_cases hq : j = q
  · subst hq
    have hj' : j < es.size := by simpa using hj
    simp [h2', hj', h2]
  · simp [hq]
theorem q_mapSet (h : St N w0 B ρ L a w) (hg : o.guard = none) {m y u : Operand} {t : TypeId} (ho : o.op = .mapUpdate t m y u) (hd : o.dst = none) {e : TypeId} (ht : P.underlying t = some (.map k e)) {g : Nat} (hm : ev ρ m = some (.map (some g))) (i : Nat) {es : Array MapEntry} {cl : Nat} (hi : L[i]? = some (.obj g (.map es cl))) (D : KeyD P k κ) {ps : List (κ × α)} (hD : mpS D T row S es cl ps)
    {x : κ} (hx : D.ok x) (hy : ev ρ y = some (D.kv x)) {v : Value} {q : α} (hu : ev ρ u = some v) (hq : vr T row S v q)
    (kk : ∀ a' w' es' cl', mpS D T row S es' cl' (aset x q ps) → St N w0 B ρ (L.set i (.obj g (.map es' cl'))) a' w' → wpList P ops Q rest a' w') : wpList P ops Q (o :: rest) a w := by
  obtain ⟨h0, vs, hI, hR⟩ := hD
  have hb : w.heap[g]? = some (.map es cl) := h.m.ok i _ hi
  rcases D.ask w hx v es.toList vs 0 hI with ⟨h1, h2⟩ | ⟨j, e0, h1, h2, h3, h4⟩
  · refine s_of0 h hg hd (w' := { w with heap := w.heap.setIfInBounds g (.map (es.push { key := D.kv x, val := v, born := cl }) (cl + 1)) }) ?_ (fun a' hk => kk a' _ _ _ ⟨h0.push _ _, _, is_push hI hx h2 cl, hR.set hq⟩ ⟨hk, map_write h.m hi _⟩)
    simp [execOp, ho, h.k.eval hm, h.k.eval hy, h.k.eval hu, Instr.mapUpdate, run_underlying ht, MapKept.run_getObj_map hb, D.check w false hx, D.find, h1, MapKept.run_setObj_map _ hb, Result.andThen]
  · have hst : (Instr.keyThatStays (D.kv x) (D.kv x)).run P w = .ok (D.kv x) w := by unfold Instr.keyThatStays; rw [if_pos (D.same hx)]; rfl
    have h2' : es[j]? = some e0 := by simpa using h2
    rw [Nat.zero_add] at h1
    refine s_of0 h hg hd (w' := { w with heap := w.heap.setIfInBounds g (.map (es.modify j fun e => { e with key := D.kv x, val := v }) cl) }) ?_ (fun a' hk => kk a' _ _ _ ⟨h0.modify (f := fun e => { e with key := D.kv x, val := v }) (fun _ => rfl), _, is_mod hI hx h2' h4, hR.set hq⟩ ⟨hk, map_write h.m hi _⟩)
    simp [execOp, ho, h.k.eval hm, h.k.eval hy, h.k.eval hu, Instr.mapUpdate, run_underlying ht, MapKept.run_getObj_map hb, D.check w false hx, D.find, h1, h2', h3, hst, MapKept.run_setObj_map _ hb, Result.andThen]
/-- an entry that waits for its value -/
def mpE (D : KeyD P k κ) (T : Ty α) (row : Bool) (S : Snap) (es : Array MapEntry) (cl : Nat) (x : κ) (b : Nat) (ps : List (κ × α)) : Prop := bornOK es cl ∧ ∃ (vs : List (κ × Value)) (v0 : Value) (j : Nat) (e : MapEntry), D.Is es.toList (setP x v0 vs) ∧ R2 T row S vs ps ∧ (∀ u, setP x u vs = (setP x v0 vs).set j (x, u)) ∧ es[j]? = some e ∧ e.born = b ∧ e.key = D.kv x ∧ D.ok x
theorem mpE.mono {D : KeyD P k κ} {es : Array MapEntry} {cl : Nat} {x : κ} {b : Nat} {ps : List (κ × α)} (h : S.le S') (m : mpE D T row S es cl x b ps) : mpE D T row S' es cl x b ps := by
  obtain ⟨h0, vs, v0, j, e, h1, h2, h3⟩ := m
  exact ⟨h0, vs, v0, j, e, h1, h2.mono h, h3⟩
theorem KeyD.ask2 (D : KeyD P k κ) (w : World) {x : κ} (hx : D.ok x) : ∀ (es : List MapEntry) (ps : List (κ × Value)) (i : Nat), D.Is es ps →
    ((Instr.findAsking k (D.kv x) es i).run P w = .ok none w ∧ ∀ v, setP x v ps = ps ++ [(x, v)]) ∨ (∃ j e, (Instr.findAsking k (D.kv x) es i).run P w = .ok (some (i + j, e.val)) w ∧ es[j]? = some e ∧ e.key = D.kv x ∧ ∀ v, setP x v ps = ps.set j (x, v))
  | [], [], i, _ => .inl ⟨rfl, fun _ => rfl⟩
  | [], p :: ps, i, h => by have := congrArg List.length h.1; simp at this
  | e :: es, [], i, h => by have := congrArg List.length h.1; simp at this
  | e :: es, p :: ps, i, h => by
    obtain ⟨h1, h2⟩ := h
    simp only [List.map_cons, List.cons.injEq, Prod.mk.injEq] at h1
    have hp := h2 p (List.mem_cons_self ..)
    have he : (Op.equal k (D.kv x) e.key).run P w = .ok (decide (x = p.1)) w := by rw [h1.1.1]; exact D.eq w hx hp
    by_cases hxp : x = p.1
    · have he' : (Op.equal k (D.kv x) e.key).run P w = .ok true w := by rw [he, decide_eq_true hxp]
      refine .inr ⟨0, e, ?_, rfl, by rw [h1.1.1, hxp], fun v => ?_⟩
      · simp [Instr.findAsking, he', Result.andThen]
      · unfold setP; rw [if_pos hxp.symm]; rfl
    · have hs : ∀ v, setP x v (p :: ps) = p :: setP x v ps := fun v => by rw [setP, if_neg (fun e => hxp e.symm)]
      rcases D.ask2 w hx es ps (i + 1) ⟨h1.2, fun q hq => h2 q (List.mem_cons_of_mem _ hq)⟩ with ⟨a1, a2⟩ | ⟨j, e0, a1, a2, a3, a4⟩
      · refine .inl ⟨?_, fun v => by rw [hs, a2]; rfl⟩
        simp [Instr.findAsking, he, hxp, Result.andThen, a1]
      · refine .inr ⟨j + 1, e0, ?_, by simpa using a2, a3, fun v => by rw [hs, a4]; rfl⟩
        rw [show i + (j + 1) = i + 1 + j by omega]
        simp [Instr.findAsking, he, hxp, Result.andThen, a1]
theorem q_mapEntry (h : St N w0 B ρ L a w) (hg : o.guard = none) {m y : Operand} {t : TypeId} (ho : o.op = .mapEntry t m y) (hd : o.dst = some d) (hN : d < N) {e : TypeId} (ht : P.underlying t = some (.map k e)) {g : Nat} (hm : ev ρ m = some (.map (some g))) (i : Nat) {es : Array MapEntry} {cl : Nat} (hi : L[i]? = some (.obj g (.map es cl))) (D : KeyD P k κ) {ps : List (κ × α)} (hD : mpS D T row S es cl ps)
    {x : κ} (hx : D.ok x) (hy : ev ρ y = some (D.kv x)) {z : Value} (hz : (zeroValue e).run P w = .ok z w)
    (kk : ∀ a' w' es' cl' b v0, mpE D T row S es' cl' x b ps → St N w0 B ((d, .tuple #[v0, .int .i64 (b : Int)]) :: ρ) (L.set i (.obj g (.map es' cl'))) a' w' → wpList P ops Q rest a' w') : wpList P ops Q (o :: rest) a w := by
  obtain ⟨h0, vs, hI, hR⟩ := hD
  have hb : w.heap[g]? = some (.map es cl) := h.m.ok i _ hi
  rcases D.ask2 w hx es.toList vs 0 hI with ⟨h1, h2⟩ | ⟨j, e0, h1, h2, h3, h4⟩
  · have hlen : es.size = vs.length := by have := congrArg List.length hI.1; simpa using this
    refine s_of h hg hd hN (v := .tuple #[z, .int .i64 (cl : Int)]) (w' := { w with heap := w.heap.setIfInBounds g (.map (es.push { key := D.kv x, val := z, born := cl }) (cl + 1)) }) ?_ (fun a' hk => kk a' _ _ _ cl z ⟨h0.push _ _, vs, z, vs.length, { key := D.kv x, val := z, born := cl }, is_push hI hx (h2 z) cl, hR, fun u => ?_, by rw [← hlen]; simp, rfl, rfl, hx⟩ ⟨hk, map_write h.m hi _⟩)
    · simp [execOp, ho, h.k.eval hm, h.k.eval hy, Instr.mapEntry, run_underlying ht, MapKept.run_getObj_map hb, D.check w false hx, D.find, h1, hz, MapKept.run_setObj_map _ hb, Result.andThen, goInt]
    · rw [h2, h2]; simp [List.set_append]
  · have hst : (Instr.keyThatStays (D.kv x) (D.kv x)).run P w = .ok (D.kv x) w := by unfold Instr.keyThatStays; rw [if_pos (D.same hx)]; rfl
    have h2' : es[j]? = some e0 := by simpa using h2
    have hj : j < es.size := (Array.getElem?_eq_some_iff.1 h2').1
    rw [Nat.zero_add] at h1
    have hself : es.modify j (fun e => { e with key := D.kv x }) = es.modify j fun e => { e with key := D.kv x, val := e0.val } := by
      apply Array.ext'
      apply List.ext_getElem?
      intro q
      simp only [Array.toList_modify, List.getElem?_modify]
      by_cases hq : j = q
      · subst hq; rw [h2]; simp
      · simp [hq]
    refine s_of h hg hd hN (v := .tuple #[e0.val, .int .i64 (e0.born : Int)]) (w' := { w with heap := w.heap.setIfInBounds g (.map (es.modify j fun e => { e with key := D.kv x, val := e0.val }) cl) }) ?_ (fun a' hk => kk a' _ _ _ e0.born e0.val ⟨h0.modify (f := fun e => { e with key := D.kv x, val := e0.val }) (fun _ => rfl), vs, e0.val, j, { e0 with key := D.kv x }, is_mod hI hx h2' (h4 _), hR, fun u => by rw [h4, h4, List.set_set], by simp [Array.getElem?_modify, h2'], rfl, rfl, hx⟩ ⟨hk, map_write h.m hi _⟩)
    rw [← hself]
    simp [execOp, ho, h.k.eval hm, h.k.eval hy, Instr.mapEntry, run_underlying ht, MapKept.run_getObj_map hb, D.check w false hx, D.find, h1, h2', h3, hst, MapKept.run_setObj_map _ hb, Result.andThen, goInt]
theorem q_entryStore (h : St N w0 B ρ L a w) (hg : o.guard = none) {m y u : Operand} {t : TypeId} (ho : o.op = .entryStore t m y u) (hd : o.dst = none) {g : Nat} (hm : ev ρ m = some (.map (some g))) (i : Nat) {es : Array MapEntry} {cl b : Nat} (hi : L[i]? = some (.obj g (.map es cl))) (hy : ev ρ y = some (.int .i64 (b : Int))) {D : KeyD P k κ} {ps : List (κ × α)} {x : κ} (hD : mpE D T row S es cl x b ps)
    {v : Value} {q : α} (hu : ev ρ u = some v) (hq : vr T row S v q)
    (kk : ∀ a' w' es' cl', mpS D T row S es' cl' (aset x q ps) → St N w0 B ρ (L.set i (.obj g (.map es' cl'))) a' w' → wpList P ops Q rest a' w') : wpList P ops Q (o :: rest) a w := by
  obtain ⟨h0, vs, v0, j, e, hI, hR, h1, h2, h3, h4, h5⟩ := hD
  have hb : w.heap[g]? = some (.map es cl) := h.m.ok i _ hi
  have hj : j < es.size := (Array.getElem?_eq_some_iff.1 h2).1
  have hf : es.findIdx? (fun e => (e.born : Int) == (b : Int)) = some j := by
    rw [Array.findIdx?_eq_some_iff_getElem]
    refine ⟨hj, ?_, fun q hq => ?_⟩
    · have := (Array.getElem?_eq_some_iff.1 h2).2
      rw [this, h3]; simp
    · simp only [Bool.not_eq_true, beq_eq_false_iff_ne, ne_eq]
      intro hc
      have hn := h0.2
      have hjl : j < (es.toList.map (·.born)).length := by simpa using hj
      have hql : q < (es.toList.map (·.born)).length := by simp; omega
      have := (List.getElem_inj (h₀ := hql) (h₁ := hjl) hn).1 (by
        simp only [List.getElem_map, Array.getElem_toList]
        have e2 := (Array.getElem?_eq_some_iff.1 h2).2
        rw [e2, h3]; omega)
      omega
  refine s_of0 h hg hd (w' := { w with heap := w.heap.setIfInBounds g (.map (es.modify j fun e => { e with val := v }) cl) }) ?_ (fun a' hk => kk a' _ _ _ ⟨h0.modify (f := fun e => { e with val := v }) (fun _ => rfl), setP x v vs, ?_, hR.set hq⟩ ⟨hk, map_write h.m hi _⟩)
  · simp [execOp, ho, h.k.eval hm, h.k.eval hy, h.k.eval hu, Instr.entryStore, MapKept.run_getObj_map hb, asInt, asIntOf, hf, MapKept.run_setObj_map _ hb, Result.andThen]
  · refine ⟨?_, fun p hp => ?_⟩
    · rw [h1, List.map_set, ← hI.1]
      apply List.ext_getElem?
      intro q
      have h2' : es.toList[j]? = some e := by simpa using h2
      simp only [Array.toList_modify, List.getElem?_map, List.getElem?_modify, List.getElem?_set, List.length_map]
      by_cases hq : j = q
      · subst hq; simp [h2', hj, h2, (Array.getElem?_eq_some_iff.1 h2).2, h4]
      · simp [hq]
    · rw [h1] at hp
      rcases List.mem_or_eq_of_mem_set hp with hp | rfl
      · exact hI.2 p hp
      · exact h5
theorem Mem.mapAll (h : Mem w0 B L w) {i j g cl : Nat} {es : Array MapEntry} (hi : L[i]? = some (.obj g (.map es cl))) (hj : L[j]? = some (.sn S)) {D : KeyD P k κ} {ps : List (κ × α)} (hD : mpS D T row S es cl ps) : mpF D T row (snapAll w) (some g) ps :=
  .inr ⟨g, es, cl, rfl, fun w' hw' => hw' g _ (h.ok i _ hi), hD.mono (h.leAll hj)⟩
end
/-- a map as data -/
def tyM {P : Program} {k : TypeId} {κ α : Type} [DecidableEq κ] (D : KeyD P k κ) (T : Ty α) (row : Bool) : Ty (List (κ × α)) := ⟨1, fun S cs ps => ∃ g, cs = [.map (some g)] ∧ mpF D T row S (some g) ps, fun h ⟨m, e, k⟩ => ⟨m, e, k.mono h⟩, fun ⟨m, e, k⟩ => by rw [e]; rfl, fun ⟨m, e, k⟩ u hu => by rw [e] at hu; simp at hu; subst hu; rfl⟩
/-- a variable that stays -/
def ptS {α : Type} (T : Ty α) (S : Snap) (g : Nat) (x : α) : Prop := ∃ cs, (∀ w, SnapOK S w → w.rangeAt g 0 cs) ∧ T.rep S cs x
theorem ptS.mono {α : Type} {T : Ty α} {S S' : Snap} {g : Nat} {x : α} (h : S.le S') (k : ptS T S g x) : ptS T S' g x := by obtain ⟨cs, k1, k2⟩ := k; exact ⟨cs, fun w hw => k1 w (hw.le h), T.mono h k2⟩
theorem _root_.Go.World.rangeAt.sub {w : World} {b off : Nat} {cs : List Value} (h : w.rangeAt b off cs) (fo n : Nat) : w.rangeAt b (off + fo) ((cs.drop fo).take n) := fun j v hv => by
  rw [List.getElem?_take] at hv
  split at hv
  · rw [List.getElem?_drop] at hv
    have := h (fo + j) v hv
    rwa [← Nat.add_assoc] at this
  · cases hv
theorem Mem.rowLen {w0 w : World} {B : Nat → Prop} {L : List Ch} (h : Mem w0 B L w) {i : Nat} {A : Option Addr} {n c : Nat} {E : TypeId} {sz : Nat} {cs : List Value} (hi : L[i]? = some (.row (.slice A n c) E sz n cs)) : n ≤ maxLen := by
  obtain ⟨A', c', e, h1, h2, _⟩ := h.rdRow hi
  cases e; exact Nat.le_trans h1 h2
theorem Mem.boxAll {w0 w : World} {B : Nat → Prop} {L : List Ch} (h : Mem w0 B L w) {i g : Nat} {E : TypeId} {cs : List Value} (hi : L[i]? = some (.box g E cs)) : ∀ w', SnapOK (snapAll w) w' → w'.rangeAt g 0 cs := fun w' hw' j v hv => by
  have h1 := h.range0 hi j v hv
  refine (World.cell?_of_block (w := w) ?_).trans h1
  exact (hw' g _ (h.ok i _ hi)).trans (h.ok i _ hi).symm
/-! ### a slice of a slice -/
def sA (A : Option Addr) (c l sz : Nat) : Option Addr := if c = l then A else A.map (·.add (l * sz))
section
variable {α : Type} {T : Ty α} {S : Snap} {P : Program} {o : Oper} {a : Act} {w : World} {N : Nat} {ρ : Slots}
theorem slS.sub {A : Option Addr} {c : Nat} {xs r : List α} (k : slS T S A c xs) {m n c' : Nat} (h1 : m ≤ n) (h2 : n ≤ xs.length) (h3 : n ≤ c') (h4 : c' ≤ c) (hr : r = (xs.take n).drop m) : slS T S (sA A c' m T.sz) (c' - m) r := by
  subst hr
  exact (k.take n c' h2 h3 h4).drop m (by rw [List.length_take]; omega)
end
theorem zro {P : Program} {t : TypeId} {z : Value} {n : Nat} (h : (P.info? t).map (fun i => (i.zero, i.size)) = some (some z, n)) (w : World) : (zeroValue t).run P w = .ok z w := by
  cases hq : P.info? t with
  | none => simp [hq] at h
  | some i =>
    simp only [hq, Option.map_some, Option.some.injEq, Prod.mk.injEq] at h
    simp [zeroValue, typeInfo, hq, h.1]
section
variable {P : Program} {o : Oper} {a : Act} {w : World} {N : Nat} {ρ : Slots} {x y : Operand} {t t' : TypeId}
theorem x_neq_pn (h : Knows N ρ a) (ho : o.op = .binOp .neq t x y t') {e : TypeId} (ht : P.underlying t = some (.pointer e)) {p : Addr} (hx : ev ρ x = some (.pointer (some p))) (hy : ev ρ y = some (.pointer none)) : (execOp a.eval o).run P w = .ok (.value (.bool true)) w := by
  have hp : P.underlying t = some (.pointer (P.pointee t)) := by simp [Program.pointee, ht]
  have he : (eqGuard .neq t x y (.pointer (some p)) (.pointer none)).run P w = .ok () w := rfl
  simp [execOp, ho, h.eval hx, h.eval hy, he, run_neq_pointer_nil w t (some p) hp, Result.andThen]
theorem x_eql_pn (h : Knows N ρ a) (ho : o.op = .binOp .eql t x y t') {e : TypeId} (ht : P.underlying t = some (.pointer e)) {p : Addr} (hx : ev ρ x = some (.pointer (some p))) (hy : ev ρ y = some (.pointer none)) : (execOp a.eval o).run P w = .ok (.value (.bool false)) w := by
  have hp : P.underlying t = some (.pointer (P.pointee t)) := by simp [Program.pointee, ht]
  have he : (eqGuard .eql t x y (.pointer (some p)) (.pointer none)).run P w = .ok () w := rfl
  simp [execOp, ho, h.eval hx, h.eval hy, he, run_eql_pointer_nil w t (some p) hp, Result.andThen]
theorem x_neq_nn (h : Knows N ρ a) (ho : o.op = .binOp .neq t x y t') {e : TypeId} (ht : P.underlying t = some (.pointer e)) (hx : ev ρ x = some (.pointer none)) (hy : ev ρ y = some (.pointer none)) : (execOp a.eval o).run P w = .ok (.value (.bool false)) w := by
  have hp : P.underlying t = some (.pointer (P.pointee t)) := by simp [Program.pointee, ht]
  have he : (eqGuard .neq t x y (.pointer none) (.pointer none)).run P w = .ok () w := rfl
  simp [execOp, ho, h.eval hx, h.eval hy, he, run_neq_pointer_nil w t none hp, Result.andThen]
theorem x_eql_nn (h : Knows N ρ a) (ho : o.op = .binOp .eql t x y t') {e : TypeId} (ht : P.underlying t = some (.pointer e)) (hx : ev ρ x = some (.pointer none)) (hy : ev ρ y = some (.pointer none)) : (execOp a.eval o).run P w = .ok (.value (.bool true)) w := by
  have hp : P.underlying t = some (.pointer (P.pointee t)) := by simp [Program.pointee, ht]
  have he : (eqGuard .eql t x y (.pointer none) (.pointer none)).run P w = .ok () w := rfl
  simp [execOp, ho, h.eval hx, h.eval hy, he, run_eql_pointer_nil w t none hp, Result.andThen]
theorem x_neq_mn (h : Knows N ρ a) (ho : o.op = .binOp .neq t x y t') {k e : TypeId} (ht : P.underlying t = some (.map k e)) {g : Nat} (hx : ev ρ x = some (.map (some g))) (hy : ev ρ y = some (.map none)) : (execOp a.eval o).run P w = .ok (.value (.bool true)) w := by
  have hq : (Op.equal t (.map (some g)) (.map none)).run P w = .ok false w := run_equalIn_map_nil w 9999 t k e (some g) ht
  have he : (eqGuard .neq t x y (.map (some g)) (.map none)).run P w = .ok () w := rfl
  simp [execOp, ho, h.eval hx, h.eval hy, he, binOp, hq, Result.andThen]
end
theorem d_three {P : Program} {ops : Array Oper} {Q : Exit → Act → World → Prop} {S : World → Prop} {wr fuel : Nat} {listed : Array Bool} {a : Act} {w : World} (i j l : Nat) (hr : Region.ready .any ops listed = [i, j, l]) (h1 : wpOp P ops Q i (fun a' w' => (i ≠ wr → listed.getD wr false = false → S w') ∧ AnyW P ops Q S wr fuel (listed.setIfInBounds i true) a' w') a w)
    (h2 : wpOp P ops Q j (fun a' w' => (j ≠ wr → listed.getD wr false = false → S w') ∧ AnyW P ops Q S wr fuel (listed.setIfInBounds j true) a' w') a w) (h3 : wpOp P ops Q l (fun a' w' => (l ≠ wr → listed.getD wr false = false → S w') ∧ AnyW P ops Q S wr fuel (listed.setIfInBounds l true) a' w') a w) : AnyW P ops Q S wr (fuel + 1) listed a w :=
  ⟨fun h0 => (by rw [hr] at h0; cases h0), fun q hq => by
    rw [hr] at hq
    simp at hq
    rcases hq with rfl | rfl | rfl
    · exact h1
    · exact h2
    · exact h3⟩
/-! ### keys -/
theorem eq_int (w : World) (x y : Int) : (Op.equalIn 10000 3 (.int .i64 x) (.int .i64 y)).run Try.prog w = .ok (decide (x = y)) w := by
  have e : (x == y) = decide (x = y) := by rw [Bool.eq_iff_iff]; simp
  rw [← e]
  exact run_equalIn_int w 9999 _ .i64 .i64 _ _ Try.underlying3
theorem ask_int (w : World) (x : Int) : ∀ (es : List MapEntry) (i : Nat) (r : Option (Nat × Value)), Instr.findNow (.int .i64) (.int .i64 x) es i = some r → (Instr.findAsking 3 (.int .i64 x) es i).run Try.prog w = .ok r w
  | [], i, r, h => by
    simp only [Instr.findNow, Option.some.injEq] at h
    subst h; rfl
  | e :: es, i, r, h => by
    obtain ⟨k, v, b⟩ := e
    unfold Instr.findNow at h
    cases k with
    | int kk y =>
      simp only [Instr.sameNow] at h
      by_cases hk : IntKind.i64 = kk
      · subst hk
        rw [if_pos rfl] at h
        have he : (Op.equal 3 (.int .i64 x) (.int .i64 y)).run Try.prog w = .ok (x == y) w := run_equalIn_int w 9999 _ .i64 .i64 _ _ Try.underlying3
        by_cases hxy : x = y
        · have e : (x == y) = true := by simpa using hxy
          rw [e] at h he
          simp only [Option.some.injEq] at h
          subst h
          simp [Instr.findAsking, he, Result.andThen]
        · have e : (x == y) = false := by simpa using hxy
          rw [e] at h he
          simp only at h
          simp [Instr.findAsking, he, Result.andThen, ask_int w x es (i + 1) r h]
      · rw [if_neg hk] at h; cases h
    | _ => simp [Instr.sameNow] at h
def keyI : KeyD Try.prog 3 Int where
  kv n := .int .i64 n
  ok n := r64 n
  eq w x y _ _ := eq_int w x y
  check w b x hx := by
    have hw : (Lit.int .i64 x).wf = true := by
      unfold r64 at hx
      simp [Lit.wf, IntKind.min, IntKind.max, IntKind.signed, IntKind.bits]
      omega
    exact run_checkKey_deep b 9998 2 3 (by kernel_rfl) w 2 (.int .i64 x) [Lit.int .i64 x] (by simp [Value.formed, Try.underlying3]) (by simp [Program.keyLits, Try.underlying3, Value.cells, hw])
  same _ := by simp [Instr.sameBits]
  find w x es := by
    unfold Instr.findKey
    simp only [Sem.run_bind, run_underlying Try.underlying3, Result.andThen_ok]
    cases hf : Instr.findNow (.int .i64) (.int .i64 x) es 0 with
    | none => rfl
    | some r => exact (ask_int w x es 0 r hf).symm
end Go.Proofs.Ytnjmlihmnkbgdaa
