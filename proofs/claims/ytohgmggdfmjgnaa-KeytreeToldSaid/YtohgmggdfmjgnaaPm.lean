/- Texts put together. -/
import Derived.Test.YtohgmggdfmjgnaaCall
import Derived.MapKept
import Derived.Test.YtohgmggdfmjgnaaPx
import Derived.DeepKeys3
import Derived.DataBytes
set_option linter.unusedVariables false
set_option linter.unusedSimpArgs false
set_option linter.unusedSectionVars false
namespace Go.Proofs.Ytohgmggdfmjgnaa
open Go.RowKit
section
section

/-- keys that are compared by what they hold -/
structure KeyD (P : Program) (k : TypeId) (κ : Type) [DecidableEq κ] where
  kv : κ → Value
  ok : κ → Prop
  eq : ∀ (w : World) {x y : κ}, ok x → ok y → (Op.equal k (kv x) (kv y)).run P w = .ok (decide (x = y)) w
  check : ∀ (w : World) (b : Bool) {x : κ}, ok x → (Instr.checkKey b 10000 k (kv x)).run P w = .ok () w
  same : ∀ {x : κ}, ok x → Instr.sameBits 10000 (kv x) (kv x) = true
  find : ∀ (w : World) (x : κ) (es : List MapEntry), (Instr.findKey k (kv x) es).run P w = (Instr.findAsking k (kv x) es).run P w
section
variable {κ : Type} [DecidableEq κ]
/-- a pair is set -/
def setP (x : κ) (v : Value) : List (κ × Value) → List (κ × Value)
  | [] => [(x, v)]
  | p :: ps => if p.1 = x then (x, v) :: ps else p :: setP x v ps
variable {P : Program} {k : TypeId}
/-- a map's entries hold these pairs -/
def KeyD.Is (D : KeyD P k κ) (es : List MapEntry) (ps : List (κ × Value)) : Prop := es.map (fun e => (e.key, e.val)) = ps.map (fun p => (D.kv p.1, p.2)) ∧ ∀ p ∈ ps, D.ok p.1
variable {ops : Array Oper} {Q : Exit → Act → World → Prop} {rest : List Oper} {o : Oper} {N d : Nat} {w0 w w' : World} {B : Nat → Prop} {ρ : Slots} {L L' : List Ch} {a : Act} {v : Value}
end
end
section
section
variable {κ : Type} [DecidableEq κ]
/-- what stands under a key -/
def getP (x : κ) : List (κ × Value) → Option Value
  | [] => none
  | p :: ps => if p.1 = x then some p.2 else getP x ps
variable {P : Program} {k : TypeId}
theorem KeyD.get (D : KeyD P k κ) (w : World) {x : κ} (hx : D.ok x) : ∀ (es : List MapEntry) (ps : List (κ × Value)) (i : Nat), D.Is es ps →
    (getP x ps = none ∧ (Instr.findAsking k (D.kv x) es i).run P w = .ok none w) ∨ (∃ j v, getP x ps = some v ∧ (Instr.findAsking k (D.kv x) es i).run P w = .ok (some (j, v)) w)
  | [], [], i, _ => .inl ⟨rfl, rfl⟩
  | [], p :: ps, i, h => by have := congrArg List.length h.1; simp at this
  | e :: es, [], i, h => by have := congrArg List.length h.1; simp at this
  | e :: es, p :: ps, i, h => by
    obtain ⟨h1, h2⟩ := h
    simp only [List.map_cons, List.cons.injEq, Prod.mk.injEq] at h1
    have hp := h2 p (List.mem_cons_self ..)
    have he : (Op.equal k (D.kv x) e.key).run P w = .ok (decide (x = p.1)) w := by rw [h1.1.1]; exact D.eq w hx hp
    by_cases hxp : x = p.1
    · have he' : (Op.equal k (D.kv x) e.key).run P w = .ok true w := by rw [he, decide_eq_true hxp]
      refine .inr ⟨i, p.2, by unfold getP; rw [if_pos hxp.symm], ?_⟩
      simp [Instr.findAsking, he', Result.andThen, h1.1.2]
    · have he' : (Op.equal k (D.kv x) e.key).run P w = .ok false w := by rw [he, decide_eq_false hxp]
      have hg : getP x (p :: ps) = getP x ps := by rw [getP, if_neg (fun e => hxp e.symm)]
      rcases D.get w hx es ps (i + 1) ⟨h1.2, fun q hq => h2 q (List.mem_cons_of_mem _ hq)⟩ with ⟨a1, a2⟩ | ⟨j, v, a1, a2⟩
      · exact .inl ⟨by rw [hg, a1], by simp [Instr.findAsking, he', Result.andThen, a2]⟩
      · exact .inr ⟨j, v, by rw [hg, a1], by simp [Instr.findAsking, he', Result.andThen, a2]⟩
variable {ops : Array Oper} {Q : Exit → Act → World → Prop} {rest : List Oper} {o : Oper} {N d : Nat} {w0 w w' : World} {B : Nat → Prop} {ρ : Slots} {L L' : List Ch} {a : Act} {v : Value}
end
end
end
section
section
variable {κ α : Type} [DecidableEq κ]
def aget (x : κ) : List (κ × α) → Option α
  | [] => none
  | p :: ps => if p.1 = x then some p.2 else aget x ps
def aset (x : κ) (v : α) : List (κ × α) → List (κ × α)
  | [] => [(x, v)]
  | p :: ps => if p.1 = x then (x, v) :: ps else p :: aset x v ps
/-- a value, of one cell or a row -/
def vr (T : Ty α) (row : Bool) (S : Snap) (v : Value) (x : α) : Prop := match row with
  | true => ∃ cs, v = .agg cs.toArray ∧ T.rep S cs x
  | false => T.rep S [v] x
theorem vr.mono {T : Ty α} {row : Bool} {S S' : Snap} {v : Value} {x : α} (h : S.le S') (k : vr T row S v x) : vr T row S' v x := by
  cases row
  · exact T.mono h k
  · obtain ⟨cs, e, k⟩ := k; exact ⟨cs, e, T.mono h k⟩
def R2 (T : Ty α) (row : Bool) (S : Snap) : List (κ × Value) → List (κ × α) → Prop
  | [], [] => True
  | q :: vs, p :: ps => q.1 = p.1 ∧ vr T row S q.2 p.2 ∧ R2 T row S vs ps
  | _, _ => False
theorem R2.mono {T : Ty α} {row : Bool} {S S' : Snap} (h : S.le S') : ∀ {vs : List (κ × Value)} {ps : List (κ × α)}, R2 T row S vs ps → R2 T row S' vs ps
  | [], [], _ => trivial
  | [], _ :: _, k => k.elim
  | _ :: _, [], k => k.elim
  | _ :: _, _ :: _, ⟨k1, k2, k3⟩ => ⟨k1, k2.mono h, k3.mono h⟩
theorem R2.set {T : Ty α} {row : Bool} {S : Snap} {x : κ} {u : Value} {q : α} (hu : vr T row S u q) : ∀ {vs : List (κ × Value)} {ps : List (κ × α)}, R2 T row S vs ps → R2 T row S (setP x u vs) (aset x q ps)
  | [], [], _ => ⟨rfl, hu, trivial⟩
  | [], _ :: _, k => k.elim
  | _ :: _, [], k => k.elim
  | a :: vs, p :: ps, ⟨k1, k2, k3⟩ => by
    unfold setP aset
    rw [k1]
    split
    · exact ⟨rfl, hu, k3⟩
    · exact ⟨k1, k2, k3.set hu⟩
theorem R2.get {T : Ty α} {row : Bool} {S : Snap} (x : κ) : ∀ {vs : List (κ × Value)} {ps : List (κ × α)}, R2 T row S vs ps → (getP x vs = none ∧ aget x ps = none) ∨ ∃ u q, getP x vs = some u ∧ aget x ps = some q ∧ vr T row S u q
  | [], [], _ => .inl ⟨rfl, rfl⟩
  | [], _ :: _, k => k.elim
  | _ :: _, [], k => k.elim
  | a :: vs, p :: ps, ⟨k1, k2, k3⟩ => by
    unfold getP aget
    rw [k1]
    split
    · exact .inr ⟨_, _, rfl, rfl, k2⟩
    · exact k3.get x
theorem R2.len {T : Ty α} {row : Bool} {S : Snap} : ∀ {vs : List (κ × Value)} {ps : List (κ × α)}, R2 T row S vs ps → vs.length = ps.length
  | [], [], _ => rfl
  | [], _ :: _, k => k.elim
  | _ :: _, [], k => k.elim
  | _ :: _, _ :: _, ⟨_, _, k3⟩ => by simp [k3.len]
variable {P : Program} {k : TypeId}
/-- a map's entries hold these pairs -/
def bornOK (es : Array MapEntry) (cl : Nat) : Prop := (∀ e ∈ es.toList, e.born < cl) ∧ (es.toList.map (·.born)).Nodup
def mpS (D : KeyD P k κ) (T : Ty α) (row : Bool) (S : Snap) (es : Array MapEntry) (cl : Nat) (ps : List (κ × α)) : Prop := bornOK es cl ∧ ∃ vs : List (κ × Value), D.Is es.toList vs ∧ R2 T row S vs ps
theorem mpS.nil (D : KeyD P k κ) (T : Ty α) (row : Bool) (S : Snap) : mpS D T row S #[] 0 [] := ⟨⟨fun e he => by simp at he, by simp⟩, [], ⟨rfl, fun p hp => by cases hp⟩, trivial⟩
theorem mpS.mono {D : KeyD P k κ} {T : Ty α} {row : Bool} {S S' : Snap} {es : Array MapEntry} {cl : Nat} {ps : List (κ × α)} (h : S.le S') (m : mpS D T row S es cl ps) : mpS D T row S' es cl ps := by obtain ⟨h0, vs, h1, h2⟩ := m; exact ⟨h0, vs, h1, h2.mono h⟩
/-- a map that stays, or none -/
def mpF (D : KeyD P k κ) (T : Ty α) (row : Bool) (S : Snap) (m : Option Nat) (ps : List (κ × α)) : Prop := (m = none ∧ ps = []) ∨ ∃ g es cl, m = some g ∧ (∀ w, SnapOK S w → w.heap[g]? = some (.map es cl)) ∧ mpS D T row S es cl ps
theorem mpF.nil (D : KeyD P k κ) (T : Ty α) (row : Bool) (S : Snap) : mpF D T row S none [] := .inl ⟨rfl, rfl⟩
theorem mpF.mono {D : KeyD P k κ} {T : Ty α} {row : Bool} {S S' : Snap} {m : Option Nat} {ps : List (κ × α)} (h : S.le S') (f : mpF D T row S m ps) : mpF D T row S' m ps := by
  rcases f with f | ⟨g, es, cl, h1, h2, h3⟩
  · exact .inl f
  · exact .inr ⟨g, es, cl, h1, fun w hw => h2 w (hw.le h), h3.mono h⟩
/-- what a look-up yields -/
def lkd (D : KeyD P k κ) (z : Value) (x : κ) (es : Array MapEntry) (u : Value) (b : Bool) : Prop := ∃ vs : List (κ × Value), D.Is es.toList vs ∧ (getP x vs).getD z = u ∧ (getP x vs).isSome = b
theorem mpS.look {D : KeyD P k κ} {T : Ty α} {row : Bool} {S : Snap} {es : Array MapEntry} {cl : Nat} {ps : List (κ × α)} (m : mpS D T row S es cl ps) (x : κ) {z : Value} {z0 : α} (hz : vr T row S z z0) : ∃ u, vr T row S u ((aget x ps).getD z0) ∧ lkd D z x es u (aget x ps).isSome := by
  obtain ⟨_, vs, h1, h2⟩ := m
  rcases h2.get x with ⟨e1, e2⟩ | ⟨u, q, e1, e2, e3⟩
  · exact ⟨z, by rw [e2]; exact hz, vs, h1, by rw [e1]; rfl, by rw [e1, e2]; rfl⟩
  · exact ⟨u, by rw [e2]; exact e3, vs, h1, by rw [e1]; rfl, by rw [e1, e2]; rfl⟩
variable {ops : Array Oper} {Q : Exit → Act → World → Prop} {rest : List Oper} {o : Oper} {N d : Nat} {w0 w w' : World} {B : Nat → Prop} {ρ : Slots} {L L' R : List Ch} {a : Act} {v : Value} {T : Ty α} {S S0 S' : Snap} {row : Bool}
/-- in a map that stays, or in none -/
def lkF (D : KeyD P k κ) (z : Value) (x : κ) (S : Snap) (m : Option Nat) (u : Value) (b : Bool) : Prop := (m = none ∧ u = z ∧ b = false) ∨ ∃ g es cl, m = some g ∧ (∀ w, SnapOK S w → w.heap[g]? = some (.map es cl)) ∧ lkd D z x es u b
theorem mpF.look {D : KeyD P k κ} {m : Option Nat} {ps : List (κ × α)} (f : mpF D T row S m ps) (x : κ) {z : Value} {z0 : α} (hz : vr T row S z z0) : ∃ u, vr T row S u ((aget x ps).getD z0) ∧ lkF D z x S m u (aget x ps).isSome := by
  rcases f with ⟨rfl, rfl⟩ | ⟨g, es, cl, h1, h2, h3⟩
  · exact ⟨z, hz, .inl ⟨rfl, rfl, rfl⟩⟩
  · obtain ⟨u, hu, hl⟩ := h3.look x hz
    exact ⟨u, hu, .inr ⟨g, es, cl, h1, h2, hl⟩⟩
theorem bornOK.push {es : Array MapEntry} {cl : Nat} (h : bornOK es cl) (ky v : Value) : bornOK (es.push { key := ky, val := v, born := cl }) (cl + 1) := by
  refine ⟨fun e he => ?_, ?_⟩
  · simp only [Array.toList_push, List.mem_append, List.mem_singleton] at he
    rcases he with he | rfl
    · have := h.1 e he; omega
    · simp
  · rw [Array.toList_push, List.map_append, List.nodup_append]
    refine ⟨h.2, by simp, fun a ha b hb => ?_⟩
    obtain ⟨e, he, rfl⟩ := List.mem_map.1 ha
    simp at hb
    subst hb
    have := h.1 e he; omega
/-- an entry that waits for its value -/
def mpE (D : KeyD P k κ) (T : Ty α) (row : Bool) (S : Snap) (es : Array MapEntry) (cl : Nat) (x : κ) (b : Nat) (ps : List (κ × α)) : Prop := bornOK es cl ∧ ∃ (vs : List (κ × Value)) (v0 : Value) (j : Nat) (e : MapEntry), D.Is es.toList (setP x v0 vs) ∧ R2 T row S vs ps ∧ (∀ u, setP x u vs = (setP x v0 vs).set j (x, u)) ∧ es[j]? = some e ∧ e.born = b ∧ e.key = D.kv x ∧ D.ok x
theorem mpE.mono {D : KeyD P k κ} {es : Array MapEntry} {cl : Nat} {x : κ} {b : Nat} {ps : List (κ × α)} (h : S.le S') (m : mpE D T row S es cl x b ps) : mpE D T row S' es cl x b ps := by
  obtain ⟨h0, vs, v0, j, e, h1, h2, h3⟩ := m
  exact ⟨h0, vs, v0, j, e, h1, h2.mono h, h3⟩
end
/-- a variable that stays -/
def ptS {α : Type} (T : Ty α) (S : Snap) (g : Nat) (x : α) : Prop := ∃ cs, (∀ w, SnapOK S w → w.rangeAt g 0 cs) ∧ T.rep S cs x
theorem ptS.mono {α : Type} {T : Ty α} {S S' : Snap} {g : Nat} {x : α} (h : S.le S') (k : ptS T S g x) : ptS T S' g x := by obtain ⟨cs, k1, k2⟩ := k; exact ⟨cs, fun w hw => k1 w (hw.le h), T.mono h k2⟩
theorem _root_.Go.World.rangeAt.sub {w : World} {b off : Nat} {cs : List Value} (h : w.rangeAt b off cs) (fo n : Nat) : w.rangeAt b (off + fo) ((cs.drop fo).take n) := fun j v hv => by
  rw [List.getElem?_take] at hv
  split at hv
  · rw [List.getElem?_drop] at hv
    have := h (fo + j) v hv
    rwa [← Nat.add_assoc] at this
  · cases hv
theorem Mem.rowLen {w0 w : World} {B : Nat → Prop} {L : List Ch} (h : Mem w0 B L w) {i : Nat} {A : Option Addr} {n c : Nat} {E : TypeId} {sz : Nat} {cs : List Value} (hi : L[i]? = some (.row (.slice A n c) E sz n cs)) : n ≤ maxLen := by
  obtain ⟨A', c', e, h1, h2, _⟩ := h.rdRow hi
  cases e; exact Nat.le_trans h1 h2
/-! ### a slice of a slice -/
def sA (A : Option Addr) (c l sz : Nat) : Option Addr := if c = l then A else A.map (·.add (l * sz))
section
variable {α : Type} {T : Ty α} {S : Snap} {P : Program} {o : Oper} {a : Act} {w : World} {N : Nat} {ρ : Slots}
theorem bd_none {dflt n : Nat} (h : n = dflt) : Bd ρ none dflt n := h
theorem bd_some {x : Operand} {k : IntKind} {j : Int} {dflt n : Nat} (h : ev ρ x = some (.int k j)) (e : j = (n : Int)) : Bd ρ (some x) dflt n := ⟨k, j, h, e⟩
theorem slS.sub {A : Option Addr} {c : Nat} {xs r : List α} (k : slS T S A c xs) {m n c' : Nat} (h1 : m ≤ n) (h2 : n ≤ xs.length) (h3 : n ≤ c') (h4 : c' ≤ c) (hr : r = (xs.take n).drop m) : slS T S (sA A c' m T.sz) (c' - m) r := by
  subst hr
  exact (k.take n c' h2 h3 h4).drop m (by rw [List.length_take]; omega)
theorem x_sliceE (h : Knows N ρ a) {t : TypeId} {x : Operand} {lo hi mx : Option Operand} (ho : o.op = .slice t x lo hi mx) {e : TypeId} (ht : P.underlying t = some (.slice e)) {sz : Nat} (hs : (P.info? e).map (·.size) = some sz)
    {A : Option Addr} {c : Nat} {xs r : List α} (hx : ev ρ x = some (.slice A xs.length c)) {l g : Nat} (m : Nat) (hr : r = (xs.take g).drop l) (hlo : Bd ρ lo 0 l) (hhi : Bd ρ hi xs.length g) (hmx : Bd ρ mx c m) (hnone : hi = none → mx = none) (h1 : l ≤ g) (h2 : g ≤ xs.length) (h3 : g ≤ m) (h4 : m ≤ c) :
    (execOp a.eval o).run P w = .ok (.value (.slice (sA A m l sz) r.length (m - l))) w := by
  have e : r.length = g - l := by rw [hr, List.length_drop, List.length_take, Nat.min_eq_left h2]
  rw [e]
  exact x_slice h ho ht hs hx l g m hlo hhi hmx hnone h1 h3 h4
end
section
variable {P : Program} {o : Oper} {a : Act} {w : World} {N : Nat} {ρ : Slots} {x y : Operand} {t t' : TypeId}
theorem x_neq_pn (h : Knows N ρ a) (ho : o.op = .binOp .neq t x y t') {e : TypeId} (ht : P.underlying t = some (.pointer e)) {p : Addr} (hx : ev ρ x = some (.pointer (some p))) (hy : ev ρ y = some (.pointer none)) : (execOp a.eval o).run P w = .ok (.value (.bool true)) w := by
  have hp : P.underlying t = some (.pointer (P.pointee t)) := by simp [Program.pointee, ht]
  have he : (eqGuard .neq t x y (.pointer (some p)) (.pointer none)).run P w = .ok () w := rfl
  simp [execOp, ho, h.eval hx, h.eval hy, he, run_neq_pointer_nil w t (some p) hp, Result.andThen]
theorem x_neq_nn (h : Knows N ρ a) (ho : o.op = .binOp .neq t x y t') {e : TypeId} (ht : P.underlying t = some (.pointer e)) (hx : ev ρ x = some (.pointer none)) (hy : ev ρ y = some (.pointer none)) : (execOp a.eval o).run P w = .ok (.value (.bool false)) w := by
  have hp : P.underlying t = some (.pointer (P.pointee t)) := by simp [Program.pointee, ht]
  have he : (eqGuard .neq t x y (.pointer none) (.pointer none)).run P w = .ok () w := rfl
  simp [execOp, ho, h.eval hx, h.eval hy, he, run_neq_pointer_nil w t none hp, Result.andThen]
theorem x_neqB (h : Knows N ρ a) (ho : o.op = .binOp .neq t x y t') (ht : P.underlying t = some .bool) {p q : Bool} (hx : ev ρ x = some (.bool p)) (hy : ev ρ y = some (.bool q)) : (execOp a.eval o).run P w = .ok (.value (.bool (!(p == q)))) w := by
  have he : (eqGuard .neq t x y (.bool p) (.bool q)).run P w = .ok () w := rfl
  have hq : (Op.equal t (.bool p) (.bool q)).run P w = .ok (p == q) w := run_equalIn_bool' (w := w) 9999 _ _ _ ht
  simp [execOp, ho, h.eval hx, h.eval hy, he, binOp, hq, Result.andThen]
end
/-! ### keys -/
end
end Go.Proofs.Ytohgmggdfmjgnaa
