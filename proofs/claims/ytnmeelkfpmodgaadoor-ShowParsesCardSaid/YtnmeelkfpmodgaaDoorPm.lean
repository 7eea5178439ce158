/- Maps and parts of slices, told plainly. -/
import Derived.Test.YtnmeelkfpmodgaaDoorPx
import Derived.Test.YtnmeelkfpmodgaaDoorMap2
import Derived.DeepKeys3
import Derived.DataBytes
set_option linter.unusedVariables false
set_option linter.unusedSimpArgs false
set_option linter.unusedSectionVars false
namespace Go.Proofs.YtnmeelkfpmodgaaDoor
open Go.RowKit
section
variable {κ α : Type} [DecidableEq κ]
def aget (x : κ) : List (κ × α) → Option α
  | [] => none
  | p :: ps => if p.1 = x then some p.2 else aget x ps
def aset (x : κ) (v : α) : List (κ × α) → List (κ × α)
  | [] => [(x, v)]
  | p :: ps => if p.1 = x then (x, v) :: ps else p :: aset x v ps
/-- a value, of one cell or a row -/
def vr (T : Ty α) (row : Bool) (S : Snap) (v : Value) (x : α) : Prop := match row with
  | true => ∃ cs, v = .agg cs.toArray ∧ T.rep S cs x
  | false => T.rep S [v] x
theorem vr.mono {T : Ty α} {row : Bool} {S S' : Snap} {v : Value} {x : α} (h : S.le S') (k : vr T row S v x) : vr T row S' v x := by
  cases row
  · exact T.mono h k
  · obtain ⟨cs, e, k⟩ := k; exact ⟨cs, e, T.mono h k⟩
def R2 (T : Ty α) (row : Bool) (S : Snap) : List (κ × Value) → List (κ × α) → Prop
  | [], [] => True
  | q :: vs, p :: ps => q.1 = p.1 ∧ vr T row S q.2 p.2 ∧ R2 T row S vs ps
  | _, _ => False
theorem R2.mono {T : Ty α} {row : Bool} {S S' : Snap} (h : S.le S') : ∀ {vs : List (κ × Value)} {ps : List (κ × α)}, R2 T row S vs ps → R2 T row S' vs ps
  | [], [], _ => trivial
  | [], _ :: _, k => k.elim
  | _ :: _, [], k => k.elim
  | _ :: _, _ :: _, ⟨k1, k2, k3⟩ => ⟨k1, k2.mono h, k3.mono h⟩
theorem R2.set {T : Ty α} {row : Bool} {S : Snap} {x : κ} {u : Value} {q : α} (hu : vr T row S u q) : ∀ {vs : List (κ × Value)} {ps : List (κ × α)}, R2 T row S vs ps → R2 T row S (setP x u vs) (aset x q ps)
  | [], [], _ => ⟨rfl, hu, trivial⟩
  | [], _ :: _, k => k.elim
  | _ :: _, [], k => k.elim
  | a :: vs, p :: ps, ⟨k1, k2, k3⟩ => by
    unfold setP aset
    rw [k1]
    split
    · exact ⟨rfl, hu, k3⟩
    · exact ⟨k1, k2, k3.set hu⟩
theorem R2.get {T : Ty α} {row : Bool} {S : Snap} (x : κ) : ∀ {vs : List (κ × Value)} {ps : List (κ × α)}, R2 T row S vs ps → (getP x vs = none ∧ aget x ps = none) ∨ ∃ u q, getP x vs = some u ∧ aget x ps = some q ∧ vr T row S u q
  | [], [], _ => .inl ⟨rfl, rfl⟩
  | [], _ :: _, k => k.elim
  | _ :: _, [], k => k.elim
  | a :: vs, p :: ps, ⟨k1, k2, k3⟩ => by
    unfold getP aget
    rw [k1]
    split
    · exact .inr ⟨_, _, rfl, rfl, k2⟩
    · exact k3.get x
theorem R2.len {T : Ty α} {row : Bool} {S : Snap} : ∀ {vs : List (κ × Value)} {ps : List (κ × α)}, R2 T row S vs ps → vs.length = ps.length
  | [], [], _ => rfl
  | [], _ :: _, k => k.elim
  | _ :: _, [], k => k.elim
  | _ :: _, _ :: _, ⟨_, _, k3⟩ => by simp [k3.len]
variable {P : Program} {k : TypeId}
/-- a map's entries hold these pairs -/
def bornOK (es : Array MapEntry) (cl : Nat) : Prop := (∀ e ∈ es.toList, e.born < cl) ∧ (es.toList.map (·.born)).Nodup
def mpS (D : KeyD P k κ) (T : Ty α) (row : Bool) (S : Snap) (es : Array MapEntry) (cl : Nat) (ps : List (κ × α)) : Prop := bornOK es cl ∧ ∃ vs : List (κ × Value), D.Is es.toList vs ∧ R2 T row S vs ps
theorem mpS.nil (D : KeyD P k κ) (T : Ty α) (row : Bool) (S : Snap) : mpS D T row S #[] 0 [] := ⟨⟨fun e he => by simp at he, by simp⟩, [], ⟨rfl, fun p hp => by cases hp⟩, trivial⟩
theorem mpS.mono {D : KeyD P k κ} {T : Ty α} {row : Bool} {S S' : Snap} {es : Array MapEntry} {cl : Nat} {ps : List (κ × α)} (h : S.le S') (m : mpS D T row S es cl ps) : mpS D T row S' es cl ps := by obtain ⟨h0, vs, h1, h2⟩ := m; exact ⟨h0, vs, h1, h2.mono h⟩
/-- a map that stays, or none -/
def mpF (D : KeyD P k κ) (T : Ty α) (row : Bool) (S : Snap) (m : Option Nat) (ps : List (κ × α)) : Prop := (m = none ∧ ps = []) ∨ ∃ g es cl, m = some g ∧ (∀ w, SnapOK S w → w.heap[g]? = some (.map es cl)) ∧ mpS D T row S es cl ps
theorem mpF.nil (D : KeyD P k κ) (T : Ty α) (row : Bool) (S : Snap) : mpF D T row S none [] := .inl ⟨rfl, rfl⟩
theorem mpF.mono {D : KeyD P k κ} {T : Ty α} {row : Bool} {S S' : Snap} {m : Option Nat} {ps : List (κ × α)} (h : S.le S') (f : mpF D T row S m ps) : mpF D T row S' m ps := by
  rcases f with f | ⟨g, es, cl, h1, h2, h3⟩
  · exact .inl f
  · exact .inr ⟨g, es, cl, h1, fun w hw => h2 w (hw.le h), h3.mono h⟩
/-- what a look-up yields -/
def lkd (D : KeyD P k κ) (z : Value) (x : κ) (es : Array MapEntry) (u : Value) (b : Bool) : Prop := ∃ vs : List (κ × Value), D.Is es.toList vs ∧ (getP x vs).getD z = u ∧ (getP x vs).isSome = b
theorem mpS.look {D : KeyD P k κ} {T : Ty α} {row : Bool} {S : Snap} {es : Array MapEntry} {cl : Nat} {ps : List (κ × α)} (m : mpS D T row S es cl ps) (x : κ) {z : Value} {z0 : α} (hz : vr T row S z z0) : ∃ u, vr T row S u ((aget x ps).getD z0) ∧ lkd D z x es u (aget x ps).isSome := by
  obtain ⟨_, vs, h1, h2⟩ := m
  rcases h2.get x with ⟨e1, e2⟩ | ⟨u, q, e1, e2, e3⟩
  · exact ⟨z, by rw [e2]; exact hz, vs, h1, by rw [e1]; rfl, by rw [e1, e2]; rfl⟩
  · exact ⟨u, by rw [e2]; exact e3, vs, h1, by rw [e1]; rfl, by rw [e1, e2]; rfl⟩
variable {ops : Array Oper} {Q : Exit → Act → World → Prop} {rest : List Oper} {o : Oper} {N d : Nat} {w0 w w' : World} {B : Nat → Prop} {ρ : Slots} {L L' R : List Ch} {a : Act} {v : Value} {T : Ty α} {S S0 S' : Snap} {row : Bool}
/-- in a map that stays, or in none -/
def lkF (D : KeyD P k κ) (z : Value) (x : κ) (S : Snap) (m : Option Nat) (u : Value) (b : Bool) : Prop := (m = none ∧ u = z ∧ b = false) ∨ ∃ g es cl, m = some g ∧ (∀ w, SnapOK S w → w.heap[g]? = some (.map es cl)) ∧ lkd D z x es u b
theorem mpF.look {D : KeyD P k κ} {m : Option Nat} {ps : List (κ × α)} (f : mpF D T row S m ps) (x : κ) {z : Value} {z0 : α} (hz : vr T row S z z0) : ∃ u, vr T row S u ((aget x ps).getD z0) ∧ lkF D z x S m u (aget x ps).isSome := by
  rcases f with ⟨rfl, rfl⟩ | ⟨g, es, cl, h1, h2, h3⟩
  · exact ⟨z, hz, .inl ⟨rfl, rfl, rfl⟩⟩
  · obtain ⟨u, hu, hl⟩ := h3.look x hz
    exact ⟨u, hu, .inr ⟨g, es, cl, h1, h2, hl⟩⟩
theorem bornOK.push {es : Array MapEntry} {cl : Nat} (h : bornOK es cl) (ky v : Value) : bornOK (es.push { key := ky, val := v, born := cl }) (cl + 1) := by
  refine ⟨fun e he => ?_, ?_⟩
  · simp only [Array.toList_push, List.mem_append, List.mem_singleton] at he
    rcases he with he | rfl
    · have := h.1 e he; omega
    · simp
  · rw [Array.toList_push, List.map_append, List.nodup_append]
    refine ⟨h.2, by simp, fun a ha b hb => ?_⟩
    obtain ⟨e, he, rfl⟩ := List.mem_map.1 ha
    simp at hb
    subst hb
    have := h.1 e he; omega
theorem bornOK.modify {es : Array MapEntry} {cl j : Nat} {f : MapEntry → MapEntry} (hf : ∀ e, (f e).born = e.born) (h : bornOK es cl) : bornOK (es.modify j f) cl := by
  have e1 : (es.modify j f).toList.map (·.born) = es.toList.map (·.born) := by
    apply List.ext_getElem?
    intro i
    simp only [Array.toList_modify, List.getElem?_map, List.getElem?_modify]
    by_cases hq : j = i
    · subst hq; cases es.toList[j]? <;> simp [hf]
    · simp [hq]
  refine ⟨fun e he => ?_, by rw [e1]; exact h.2⟩
  have : e.born ∈ (es.modify j f).toList.map (·.born) := List.mem_map.2 ⟨e, he, rfl⟩
  rw [e1] at this
  obtain ⟨e', he', h2⟩ := List.mem_map.1 this
  have := h.1 e' he'; omega
/-- an entry that waits for its value -/
def mpE (D : KeyD P k κ) (T : Ty α) (row : Bool) (S : Snap) (es : Array MapEntry) (cl : Nat) (x : κ) (b : Nat) (ps : List (κ × α)) : Prop := bornOK es cl ∧ ∃ (vs : List (κ × Value)) (v0 : Value) (j : Nat) (e : MapEntry), D.Is es.toList (setP x v0 vs) ∧ R2 T row S vs ps ∧ (∀ u, setP x u vs = (setP x v0 vs).set j (x, u)) ∧ es[j]? = some e ∧ e.born = b ∧ e.key = D.kv x ∧ D.ok x
theorem mpE.mono {D : KeyD P k κ} {es : Array MapEntry} {cl : Nat} {x : κ} {b : Nat} {ps : List (κ × α)} (h : S.le S') (m : mpE D T row S es cl x b ps) : mpE D T row S' es cl x b ps := by
  obtain ⟨h0, vs, v0, j, e, h1, h2, h3⟩ := m
  exact ⟨h0, vs, v0, j, e, h1, h2.mono h, h3⟩
end
/-- a variable that stays -/
def ptS {α : Type} (T : Ty α) (S : Snap) (g : Nat) (x : α) : Prop := ∃ cs, (∀ w, SnapOK S w → w.rangeAt g 0 cs) ∧ T.rep S cs x
theorem ptS.mono {α : Type} {T : Ty α} {S S' : Snap} {g : Nat} {x : α} (h : S.le S') (k : ptS T S g x) : ptS T S' g x := by obtain ⟨cs, k1, k2⟩ := k; exact ⟨cs, fun w hw => k1 w (hw.le h), T.mono h k2⟩
theorem _root_.Go.World.rangeAt.sub {w : World} {b off : Nat} {cs : List Value} (h : w.rangeAt b off cs) (fo n : Nat) : w.rangeAt b (off + fo) ((cs.drop fo).take n) := fun j v hv => by
  rw [List.getElem?_take] at hv
  split at hv
  · rw [List.getElem?_drop] at hv
    have := h (fo + j) v hv
    rwa [← Nat.add_assoc] at this
  · cases hv
theorem Mem.rowLen {w0 w : World} {B : Nat → Prop} {L : List Ch} (h : Mem w0 B L w) {i : Nat} {A : Option Addr} {n c : Nat} {E : TypeId} {sz : Nat} {cs : List Value} (hi : L[i]? = some (.row (.slice A n c) E sz n cs)) : n ≤ maxLen := by
  obtain ⟨A', c', e, h1, h2, _⟩ := h.rdRow hi
  cases e; exact Nat.le_trans h1 h2
/-! ### a slice of a slice -/
def sA (A : Option Addr) (c l sz : Nat) : Option Addr := if c = l then A else A.map (·.add (l * sz))
section
variable {α : Type} {T : Ty α} {S : Snap} {P : Program} {o : Oper} {a : Act} {w : World} {N : Nat} {ρ : Slots}
theorem bd_none {dflt n : Nat} (h : n = dflt) : Bd ρ none dflt n := h
theorem bd_some {x : Operand} {k : IntKind} {j : Int} {dflt n : Nat} (h : ev ρ x = some (.int k j)) (e : j = (n : Int)) : Bd ρ (some x) dflt n := ⟨k, j, h, e⟩
theorem slS.sub {A : Option Addr} {c : Nat} {xs r : List α} (k : slS T S A c xs) {m n c' : Nat} (h1 : m ≤ n) (h2 : n ≤ xs.length) (h3 : n ≤ c') (h4 : c' ≤ c) (hr : r = (xs.take n).drop m) : slS T S (sA A c' m T.sz) (c' - m) r := by
  subst hr
  exact (k.take n c' h2 h3 h4).drop m (by rw [List.length_take]; omega)
end
section
variable {P : Program} {o : Oper} {a : Act} {w : World} {N : Nat} {ρ : Slots} {x y : Operand} {t t' : TypeId}
end
/-! ### keys -/
end Go.Proofs.YtnmeelkfpmodgaaDoor
