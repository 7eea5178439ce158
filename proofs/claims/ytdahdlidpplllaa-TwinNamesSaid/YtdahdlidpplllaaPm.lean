/- Maps and parts of slices, told plainly. -/
import Derived.Test.YtdahdlidpplllaaPx
import Derived.Test.YtdahdlidpplllaaMap2
import Derived.DeepKeys3
import Derived.DataBytes
set_option linter.unusedVariables false
set_option linter.unusedSimpArgs false
set_option linter.unusedSectionVars false
namespace Go.Proofs.Ytdahdlidpplllaa
open Go.RowKit
section
variable {κ α : Type} [DecidableEq κ]
def aget (x : κ) : List (κ × α) → Option α
  | [] => none
  | p :: ps => if p.1 = x then some p.2 else aget x ps
def aset (x : κ) (v : α) : List (κ × α) → List (κ × α)
  | [] => [(x, v)]
  | p :: ps => if p.1 = x then (x, v) :: ps else p :: aset x v ps
theorem aget_aset (x y : κ) (v : α) (ps : List (κ × α)) : aget y (aset x v ps) = if x = y then some v else aget y ps := by
  induction ps with
  | nil => simp [aset, aget]
  | cons p ps ih =>
    unfold aset
    by_cases h : p.1 = x
    · rw [if_pos h]
      simp only [aget, h]
      by_cases h2 : x = y <;> simp [h2]
    · rw [if_neg h]
      simp only [aget, ih]
      by_cases h2 : x = y
      · subst h2; simp [h]
      · simp [h2]
/-- a value, of one cell or a row -/
def vr (T : Ty α) (row : Bool) (S : Snap) (v : Value) (x : α) : Prop := match row with
  | true => ∃ cs, v = .agg cs.toArray ∧ T.rep S cs x
  | false => T.rep S [v] x
theorem vr.mono {T : Ty α} {row : Bool} {S S' : Snap} {v : Value} {x : α} (h : S.le S') (k : vr T row S v x) : vr T row S' v x := by
  cases row
  · exact T.mono h k
  · obtain ⟨cs, e, k⟩ := k; exact ⟨cs, e, T.mono h k⟩
def R2 (T : Ty α) (row : Bool) (S : Snap) : List (κ × Value) → List (κ × α) → Prop
  | [], [] => True
  | q :: vs, p :: ps => q.1 = p.1 ∧ vr T row S q.2 p.2 ∧ R2 T row S vs ps
  | _, _ => False
theorem R2.mono {T : Ty α} {row : Bool} {S S' : Snap} (h : S.le S') : ∀ {vs : List (κ × Value)} {ps : List (κ × α)}, R2 T row S vs ps → R2 T row S' vs ps
  | [], [], _ => trivial
  | [], _ :: _, k => k.elim
  | _ :: _, [], k => k.elim
  | _ :: _, _ :: _, ⟨k1, k2, k3⟩ => ⟨k1, k2.mono h, k3.mono h⟩
theorem R2.set {T : Ty α} {row : Bool} {S : Snap} {x : κ} {u : Value} {q : α} (hu : vr T row S u q) : ∀ {vs : List (κ × Value)} {ps : List (κ × α)}, R2 T row S vs ps → R2 T row S (setP x u vs) (aset x q ps)
  | [], [], _ => ⟨rfl, hu, trivial⟩
  | [], _ :: _, k => k.elim
  | _ :: _, [], k => k.elim
  | a :: vs, p :: ps, ⟨k1, k2, k3⟩ => by
    unfold setP aset
    rw [k1]
    split
    · exact ⟨rfl, hu, k3⟩
    · exact ⟨k1, k2, k3.set hu⟩
theorem R2.get {T : Ty α} {row : Bool} {S : Snap} (x : κ) : ∀ {vs : List (κ × Value)} {ps : List (κ × α)}, R2 T row S vs ps → (getP x vs = none ∧ aget x ps = none) ∨ ∃ u q, getP x vs = some u ∧ aget x ps = some q ∧ vr T row S u q
  | [], [], _ => .inl ⟨rfl, rfl⟩
  | [], _ :: _, k => k.elim
  | _ :: _, [], k => k.elim
  | a :: vs, p :: ps, ⟨k1, k2, k3⟩ => by
    unfold getP aget
    rw [k1]
    split
    · exact .inr ⟨_, _, rfl, rfl, k2⟩
    · exact k3.get x
theorem R2.len {T : Ty α} {row : Bool} {S : Snap} : ∀ {vs : List (κ × Value)} {ps : List (κ × α)}, R2 T row S vs ps → vs.length = ps.length
  | [], [], _ => rfl
  | [], _ :: _, k => k.elim
  | _ :: _, [], k => k.elim
  | _ :: _, _ :: _, ⟨_, _, k3⟩ => by simp [k3.len]
variable {P : Program} {k : TypeId}
/-- a map's entries hold these pairs -/
def mpS (D : KeyD P k κ) (T : Ty α) (row : Bool) (S : Snap) (es : Array MapEntry) (ps : List (κ × α)) : Prop := ∃ vs : List (κ × Value), D.Is es.toList vs ∧ R2 T row S vs ps
theorem mpS.nil (D : KeyD P k κ) (T : Ty α) (row : Bool) (S : Snap) : mpS D T row S #[] [] := ⟨[], ⟨rfl, fun p hp => by cases hp⟩, trivial⟩
theorem mpS.mono {D : KeyD P k κ} {T : Ty α} {row : Bool} {S S' : Snap} {es : Array MapEntry} {ps : List (κ × α)} (h : S.le S') (m : mpS D T row S es ps) : mpS D T row S' es ps := by obtain ⟨vs, h1, h2⟩ := m; exact ⟨vs, h1, h2.mono h⟩
/-- a map that stays, or none -/
def mpF (D : KeyD P k κ) (T : Ty α) (row : Bool) (S : Snap) (m : Option Nat) (ps : List (κ × α)) : Prop := (m = none ∧ ps = []) ∨ ∃ g es cl, m = some g ∧ (∀ w, SnapOK S w → w.heap[g]? = some (.map es cl)) ∧ mpS D T row S es ps
theorem mpF.nil (D : KeyD P k κ) (T : Ty α) (row : Bool) (S : Snap) : mpF D T row S none [] := .inl ⟨rfl, rfl⟩
theorem mpF.mono {D : KeyD P k κ} {T : Ty α} {row : Bool} {S S' : Snap} {m : Option Nat} {ps : List (κ × α)} (h : S.le S') (f : mpF D T row S m ps) : mpF D T row S' m ps := by
  rcases f with f | ⟨g, es, cl, h1, h2, h3⟩
  · exact .inl f
  · exact .inr ⟨g, es, cl, h1, fun w hw => h2 w (hw.le h), h3.mono h⟩
/-- what a look-up yields -/
def lkd (D : KeyD P k κ) (z : Value) (x : κ) (es : Array MapEntry) (u : Value) (b : Bool) : Prop := ∃ vs : List (κ × Value), D.Is es.toList vs ∧ (getP x vs).getD z = u ∧ (getP x vs).isSome = b
theorem mpS.look {D : KeyD P k κ} {T : Ty α} {row : Bool} {S : Snap} {es : Array MapEntry} {ps : List (κ × α)} (m : mpS D T row S es ps) (x : κ) {z : Value} {z0 : α} (hz : vr T row S z z0) : ∃ u, vr T row S u ((aget x ps).getD z0) ∧ lkd D z x es u (aget x ps).isSome := by
  obtain ⟨vs, h1, h2⟩ := m
  rcases h2.get x with ⟨e1, e2⟩ | ⟨u, q, e1, e2, e3⟩
  · exact ⟨z, by rw [e2]; exact hz, vs, h1, by rw [e1]; rfl, by rw [e1, e2]; rfl⟩
  · exact ⟨u, by rw [e2]; exact e3, vs, h1, by rw [e1]; rfl, by rw [e1, e2]; rfl⟩
variable {ops : Array Oper} {Q : Exit → Act → World → Prop} {rest : List Oper} {o : Oper} {N d : Nat} {w0 w w' : World} {B : Nat → Prop} {ρ : Slots} {L L' R : List Ch} {a : Act} {v : Value} {T : Ty α} {S S0 S' : Snap} {row : Bool}
theorem x_lookE (h : Knows N ρ a) {m y : Operand} {t : TypeId} {ok : Bool} (ho : o.op = .lookup t m y ok) {e : TypeId} (ht : P.underlying t = some (.map k e)) {g : Nat} (hm : ev ρ m = some (.map (some g))) {es : Array MapEntry} {cl : Nat} (hb : w.heap[g]? = some (.map es cl)) {D : KeyD P k κ} {z : Value} {x : κ} {u : Value} {b : Bool} (hl : lkd D z x es u b)
    (hx : D.ok x) (hy : ev ρ y = some (D.kv x)) (hz : (zeroValue e).run P w = .ok z w) : (execOp a.eval o).run P w = .ok (.value (if ok then .tuple #[u, .bool b] else u)) w := by
  obtain ⟨vs, h1, h2, h3⟩ := hl
  have := x_look h ho ht hm hb D h1 hx hy hz
  rw [this]
  unfold lookV
  rw [h2, h3]
/-- in a map that stays, or in none -/
def lkF (D : KeyD P k κ) (z : Value) (x : κ) (S : Snap) (m : Option Nat) (u : Value) (b : Bool) : Prop := (m = none ∧ u = z ∧ b = false) ∨ ∃ g es cl, m = some g ∧ (∀ w, SnapOK S w → w.heap[g]? = some (.map es cl)) ∧ lkd D z x es u b
theorem mpF.look {D : KeyD P k κ} {m : Option Nat} {ps : List (κ × α)} (f : mpF D T row S m ps) (x : κ) {z : Value} {z0 : α} (hz : vr T row S z z0) : ∃ u, vr T row S u ((aget x ps).getD z0) ∧ lkF D z x S m u (aget x ps).isSome := by
  rcases f with ⟨rfl, rfl⟩ | ⟨g, es, cl, h1, h2, h3⟩
  · exact ⟨z, hz, .inl ⟨rfl, rfl, rfl⟩⟩
  · obtain ⟨u, hu, hl⟩ := h3.look x hz
    exact ⟨u, hu, .inr ⟨g, es, cl, h1, h2, hl⟩⟩
theorem x_lookF (h : Knows N ρ a) {m y : Operand} {t : TypeId} {ok : Bool} (ho : o.op = .lookup t m y ok) {e : TypeId} (ht : P.underlying t = some (.map k e)) {mm : Option Nat} (hm : ev ρ m = some (.map mm)) (hS : SnapOK S w) {D : KeyD P k κ} {z : Value} {x : κ} {u : Value} {b : Bool} (hl : lkF D z x S mm u b)
    (hx : D.ok x) (hy : ev ρ y = some (D.kv x)) (hz : (zeroValue e).run P w = .ok z w) : (execOp a.eval o).run P w = .ok (.value (if ok then .tuple #[u, .bool b] else u)) w := by
  rcases hl with ⟨rfl, rfl, rfl⟩ | ⟨g, es, cl, rfl, h2, h3⟩
  · have := x_lookNil h ho ht hm D hx hy hz
    rw [this]; rfl
  · exact x_lookE h ho ht hm (h2 w hS) h3 hx hy hz
theorem q_mapSet (h : St N w0 B ρ L a w) (hg : o.guard = none) {m y u : Operand} {t : TypeId} (ho : o.op = .mapUpdate t m y u) (hd : o.dst = none) {e : TypeId} (ht : P.underlying t = some (.map k e)) {g : Nat} (hm : ev ρ m = some (.map (some g))) (i : Nat) {es : Array MapEntry} {cl : Nat} (hi : L[i]? = some (.obj g (.map es cl))) (D : KeyD P k κ) {ps : List (κ × α)} (hD : mpS D T row S es ps)
    {x : κ} (hx : D.ok x) (hy : ev ρ y = some (D.kv x)) {v : Value} {q : α} (hu : ev ρ u = some v) (hq : vr T row S v q)
    (kk : ∀ a' w' es' cl', mpS D T row S es' (aset x q ps) → St N w0 B ρ (L.set i (.obj g (.map es' cl'))) a' w' → wpList P ops Q rest a' w') : wpList P ops Q (o :: rest) a w := by
  obtain ⟨vs, h1, h2⟩ := hD
  exact s_mapSet h hg ho hd ht hm i hi D h1 hx hy hu (fun a' w' es' cl' h3 h => kk a' w' es' cl' ⟨_, h3, h2.set hq⟩ h)
theorem x_mapLen (h : Knows N ρ a) {x : Operand} {t : TypeId} (ho : o.op = .call { callee := .builtin .len, args := #[x], argTypes := #[t] }) {e : TypeId} (ht : P.underlying t = some (.map k e)) {g : Nat} (hx : ev ρ x = some (.map (some g))) {es : Array MapEntry} {cl : Nat} (hb : w.heap[g]? = some (.map es cl)) {D : KeyD P k κ} {ps : List (κ × α)} (hD : mpS D T row S es ps) : (execOp a.eval o).run P w = .ok (.value (.int .i64 (ps.length : Int))) w := by
  obtain ⟨vs, h1, h2⟩ := hD
  have hl : es.size = ps.length := by have := congrArg List.length h1.1; rw [← h2.len]; simpa using this
  simp [execOp, ho, resolve, invoke, builtin, h.eval hx, Builtin.len_, run_underlying ht, MapKept.run_getObj_map hb, goInt, Result.andThen, hl]
theorem Mem.mapAll (h : Mem w0 B L w) {i j g cl : Nat} {es : Array MapEntry} (hi : L[i]? = some (.obj g (.map es cl))) (hj : L[j]? = some (.sn S)) {D : KeyD P k κ} {ps : List (κ × α)} (hD : mpS D T row S es ps) : mpF D T row (snapAll w) (some g) ps :=
  .inr ⟨g, es, cl, rfl, fun w' hw' => hw' g _ (h.ok i _ hi), hD.mono (h.leAll hj)⟩
theorem q_freezeM {g cl : Nat} {es : Array MapEntry} (h : St N w0 B ρ (.obj g (.map es cl) :: .sn S :: R) a w) (hu : Up B w0 S0 S) {D : KeyD P k κ} {ps : List (κ × α)} (hD : mpS D T row S es ps) : ∃ S', S.le S' ∧ Up B w0 S0 S' ∧ mpF D T row S' (some g) ps ∧ St N w0 B ρ (.sn S' :: R) a w := by
  obtain ⟨S', h1, h2, h3, h4, h5⟩ := h.m.freeze (fun _ hk => hk)
  refine ⟨S', h1, hu.trans ⟨h1, h2⟩, .inr ⟨g, es, cl, rfl, fun w' hw' => ?_, hD.mono h1⟩, h.k, h5⟩
  have h6 : w.heap[g]? = some (.map es cl) := h.m.ok 0 _ rfl
  exact hw' g _ ((h4 g rfl).trans h6)
end
/-! ### a slice of a slice -/
def sA (A : Option Addr) (c l sz : Nat) : Option Addr := if c = l then A else A.map (·.add (l * sz))
section
variable {α : Type} {T : Ty α} {S : Snap} {P : Program} {o : Oper} {a : Act} {w : World} {N : Nat} {ρ : Slots}
theorem bd_none {dflt n : Nat} (h : n = dflt) : Bd ρ none dflt n := h
theorem bd_some {x : Operand} {k : IntKind} {j : Int} {dflt n : Nat} (h : ev ρ x = some (.int k j)) (e : j = (n : Int)) : Bd ρ (some x) dflt n := ⟨k, j, h, e⟩
theorem slS.sub {A : Option Addr} {c : Nat} {xs r : List α} (k : slS T S A c xs) {m n c' : Nat} (h1 : m ≤ n) (h2 : n ≤ xs.length) (h3 : n ≤ c') (h4 : c' ≤ c) (hr : r = (xs.take n).drop m) : slS T S (sA A c' m T.sz) (c' - m) r := by
  subst hr
  exact (k.take n c' h2 h3 h4).drop m (by rw [List.length_take]; omega)
theorem x_sliceE (h : Knows N ρ a) {t : TypeId} {x : Operand} {lo hi mx : Option Operand} (ho : o.op = .slice t x lo hi mx) {e : TypeId} (ht : P.underlying t = some (.slice e)) {sz : Nat} (hs : (P.info? e).map (·.size) = some sz)
    {A : Option Addr} {c : Nat} {xs r : List α} (hx : ev ρ x = some (.slice A xs.length c)) {l g : Nat} (m : Nat) (hr : r = (xs.take g).drop l) (hlo : Bd ρ lo 0 l) (hhi : Bd ρ hi xs.length g) (hmx : Bd ρ mx c m) (hnone : hi = none → mx = none) (h1 : l ≤ g) (h2 : g ≤ xs.length) (h3 : g ≤ m) (h4 : m ≤ c) :
    (execOp a.eval o).run P w = .ok (.value (.slice (sA A m l sz) r.length (m - l))) w := by
  have e : r.length = g - l := by rw [hr, List.length_drop, List.length_take, Nat.min_eq_left h2]
  rw [e]
  exact x_slice h ho ht hs hx l g m hlo hhi hmx hnone h1 h3 h4
end
theorem zro {P : Program} {t : TypeId} {z : Value} {n : Nat} (h : (P.info? t).map (fun i => (i.zero, i.size)) = some (some z, n)) (w : World) : (zeroValue t).run P w = .ok z w := by
  cases hq : P.info? t with
  | none => simp [hq] at h
  | some i =>
    simp only [hq, Option.map_some, Option.some.injEq, Prod.mk.injEq] at h
    simp [zeroValue, typeInfo, hq, h.1]
section
variable {P : Program} {o : Oper} {a : Act} {w : World} {N : Nat} {ρ : Slots} {x y : Operand} {t t' : TypeId}
theorem x_eqlB (h : Knows N ρ a) (ho : o.op = .binOp .eql t x y t') (ht : P.underlying t = some .bool) {p q : Bool} (hx : ev ρ x = some (.bool p)) (hy : ev ρ y = some (.bool q)) : (execOp a.eval o).run P w = .ok (.value (.bool (p == q))) w := by
  have he : (eqGuard .eql t x y (.bool p) (.bool q)).run P w = .ok () w := rfl
  have hq : (Op.equal t (.bool p) (.bool q)).run P w = .ok (p == q) w := run_equalIn_bool' (w := w) 9999 _ _ _ ht
  simp [execOp, ho, h.eval hx, h.eval hy, he, binOp, hq, Result.andThen]
theorem x_neqB (h : Knows N ρ a) (ho : o.op = .binOp .neq t x y t') (ht : P.underlying t = some .bool) {p q : Bool} (hx : ev ρ x = some (.bool p)) (hy : ev ρ y = some (.bool q)) : (execOp a.eval o).run P w = .ok (.value (.bool (!(p == q)))) w := by
  have he : (eqGuard .neq t x y (.bool p) (.bool q)).run P w = .ok () w := rfl
  have hq : (Op.equal t (.bool p) (.bool q)).run P w = .ok (p == q) w := run_equalIn_bool' (w := w) 9999 _ _ _ ht
  simp [execOp, ho, h.eval hx, h.eval hy, he, binOp, hq, Result.andThen]
end
/-! ### keys -/
theorem eq_int (w : World) (x y : Int) : (Op.equalIn 10000 3 (.int .i64 x) (.int .i64 y)).run Try.prog w = .ok (decide (x = y)) w := by
  have e : (x == y) = decide (x = y) := by rw [Bool.eq_iff_iff]; simp
  rw [← e]
  exact run_equalIn_int w 9999 _ .i64 .i64 _ _ Try.underlying3
theorem ask_int (w : World) (x : Int) : ∀ (es : List MapEntry) (i : Nat) (r : Option (Nat × Value)), Instr.findNow (.int .i64) (.int .i64 x) es i = some r → (Instr.findAsking 3 (.int .i64 x) es i).run Try.prog w = .ok r w
  | [], i, r, h => by
    simp only [Instr.findNow, Option.some.injEq] at h
    subst h; rfl
  | e :: es, i, r, h => by
    obtain ⟨k, v, b⟩ := e
    unfold Instr.findNow at h
    cases k with
    | int kk y =>
      simp only [Instr.sameNow] at h
      by_cases hk : IntKind.i64 = kk
      · subst hk
        rw [if_pos rfl] at h
        have he : (Op.equal 3 (.int .i64 x) (.int .i64 y)).run Try.prog w = .ok (x == y) w := run_equalIn_int w 9999 _ .i64 .i64 _ _ Try.underlying3
        by_cases hxy : x = y
        · have e : (x == y) = true := by simpa using hxy
          rw [e] at h he
          simp only [Option.some.injEq] at h
          subst h
          simp [Instr.findAsking, he, Result.andThen]
        · have e : (x == y) = false := by simpa using hxy
          rw [e] at h he
          simp only at h
          simp [Instr.findAsking, he, Result.andThen, ask_int w x es (i + 1) r h]
      · rw [if_neg hk] at h; cases h
    | _ => simp [Instr.sameNow] at h
def keyI : KeyD Try.prog 3 Int where
  kv n := .int .i64 n
  ok n := r64 n
  eq w x y _ _ := eq_int w x y
  check w b x hx := by
    have hw : (Lit.int .i64 x).wf = true := by
      unfold r64 at hx
      simp [Lit.wf, IntKind.min, IntKind.max, IntKind.signed, IntKind.bits]
      omega
    exact run_checkKey_deep b 9998 2 3 (by kernel_rfl) w 2 (.int .i64 x) [Lit.int .i64 x] (by simp [Value.formed, Try.underlying3]) (by simp [Program.keyLits, Try.underlying3, Value.cells, hw])
  same _ := by simp [Instr.sameBits]
  find w x es := by
    unfold Instr.findKey
    simp only [Sem.run_bind, run_underlying Try.underlying3, Result.andThen_ok]
    cases hf : Instr.findNow (.int .i64) (.int .i64 x) es 0 with
    | none => rfl
    | some r => exact (ask_int w x es 0 r hf).symm
end Go.Proofs.Ytdahdlidpplllaa
