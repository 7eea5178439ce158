/- Arrays and structs by value: operations by laws, with no unrolling; arrays of bytes. -/
import Derived.Test.YtlgcfnbhnpnkiaaWord2
import Derived.Test.YtlgcfnbhnpnkiaaObj
import Derived.Deep.MidRow
import Derived.Deep.RegionHeld3
import Derived.Laws.StructEq
set_option linter.unusedVariables false
set_option linter.unusedSimpArgs false
namespace Go.Proofs.Ytlgcfnbhnpnkiaa
open Go.RowKit
section
variable {P : Program}
/-- an array of bytes, by value -/
def aB (l : List UInt8) : Array Value := (by8 l).toArray
theorem aB_size (l : List UInt8) : (aB l).size = l.length := by simp [aB, by8_length]
theorem aB_get (l : List UInt8) (i : Nat) (h : i < l.length) : (aB l)[i]? = some (.int .u8 (l[i].toNat : Int)) := by
  simp [aB, by8, h, byc]
theorem run_part_u8 (w : World) {e : TypeId} (he : P.underlying e = some (.int .u8)) (l : List UInt8) (i : Nat) (h : i < l.length) :
    (part e (aB l) (i * 1)).run P w = .ok (.int .u8 (l[i].toNat : Int)) w := by
  have hag : (isAgg e).run P w = .ok false w := by
    unfold isAgg
    rw [Sem.run_bind, run_underlying he w]; rfl
  unfold part
  rw [Sem.run_bind, hag]
  simp [aB_get l i h]
theorem eq_arr_bytes (w : World) (d n : Nat) {t e : TypeId} (ht : P.underlying t = some (.array n e)) (he : P.underlying e = some (.int .u8)) (hs : (P.info? e).map (·.size) = some 1) (xs ys : List UInt8) (hx : xs.length = n) (hy : ys.length = n) :
    (Op.equalIn (d + 2) t (.agg (aB xs)) (.agg (aB ys))).run P w = .ok (xs == ys) w := by
  have hsz : (sizeOf e).run P w = .ok 1 w := by
    cases hq : P.info? e with
    | none => simp [hq] at hs
    | some i => 
      have : i.size = 1 := by simpa [hq] using hs
      simp [sizeOf, typeInfo, hq, this]
  rw [Op.equalIn]
  simp only [Sem.run_bind, run_underlying ht, Result.andThen_ok, hsz]
  rw [Std.Legacy.Range.forIn_eq_forIn_range']
  have hn : (n - 0 + 1 - 1) / 1 = n := by simp
  simp only [Std.Legacy.Range.size, hn]
  have key : ∀ k i, i + k = n → (forIn (m := Sem) (List.range' i k) (none, ()) fun i (__s : Option Bool × Unit) => do
            let __do_lift ← part e (aB xs) (i * 1)
            let __do_lift_1 ← part e (aB ys) (i * 1)
            let __do_lift ← Op.equalIn (d + 1) e __do_lift __do_lift_1
            if (!__do_lift) = true then pure (ForInStep.done (some false, ())) else pure (ForInStep.yield (none, ()))).run P w = .ok (if xs.drop i = ys.drop i then (none, ()) else (some false, ())) w := by
    intro k
    induction k with
    | zero =>
      intro i hi
      simp [List.drop_eq_nil_of_le (show xs.length ≤ i by omega), List.drop_eq_nil_of_le (show ys.length ≤ i by omega)]
    | succ k ih =>
      intro i hi
      have h1 : i < xs.length := by omega
      have h2 : i < ys.length := by omega
      rw [List.range'_succ, List.forIn_cons]
      simp only [Sem.run_bind, run_part_u8 w he xs i h1, run_part_u8 w he ys i h2, Result.andThen_ok, run_equalIn_int w d e .u8 .u8 _ _ he]
      rw [List.drop_eq_getElem_cons h1, List.drop_eq_getElem_cons h2]
      by_cases hh : xs[i] = ys[i]
      · have : ((xs[i].toNat : Int) == (ys[i].toNat : Int)) = true := by simp [hh]
        rw [this]
        simp only [Bool.not_true, Bool.false_eq_true, if_false, Sem.run_pure, Result.andThen_ok]
        rw [ih (i + 1) (by omega)]
        simp only [hh, List.cons.injEq, true_and]
      · have : ((xs[i].toNat : Int) == (ys[i].toNat : Int)) = false := by
          simp; intro h'; exact hh (UInt8.toNat_inj.1 (by exact_mod_cast h'))
        rw [this]
        simp only [Bool.not_false, if_true, Sem.run_pure, Result.andThen_ok]
        simp only [List.cons.injEq, hh, false_and, if_false]
  rw [key n 0 (by omega)]
  simp only [List.drop_zero]
  by_cases h : xs = ys
  · simp [h]
  · simp [h]
/-- one part of a value that is built -/
theorem fill_mid {place : Nat → Option (Nat × Nat)} {i : Nat} {v : Value} {rest : List (Nat × Value)} {off n : Nat} {X Y Z : List Value} (hp : place i = some (off, n)) (hX : X.length = off) (hY : Y.length = n) (hv : v.cells.size = n) :
    Instr.fill place (X ++ Y ++ Z).toArray ((i, v) :: rest) = Instr.fill place (X ++ v.cells.toList ++ Z).toArray rest := by
  have key : ∀ (ys : List Value) (j : Nat) (X Y Z : List Value), Y.length = ys.length → X.length = off + j →
      ((ys.zipIdx j).foldl (fun (cs : Array Value) (p : Value × Nat) => cs.setIfInBounds (off + p.2) p.1) (X ++ Y ++ Z).toArray) = (X ++ ys ++ Z).toArray := by
    intro ys
    induction ys with
    | nil => intro j X Y Z h1 h2; simp at h1; subst h1; simp
    | cons y ys ih =>
      intro j X Y Z h1 h2
      obtain ⟨y0, Y', rfl⟩ : ∃ y0 Y', Y = y0 :: Y' := by cases Y with
        | nil => simp at h1
        | cons a b => exact ⟨a, b, rfl⟩
      simp only [List.zipIdx_cons, List.foldl_cons]
      have hset : (X ++ (y0 :: Y') ++ Z).toArray.setIfInBounds (off + j) y = ((X ++ [y]) ++ Y' ++ Z).toArray := by
        simp only [List.setIfInBounds_toArray]
        congr 1
        rw [← h2]; simp
      rw [hset, ih (j + 1) (X ++ [y]) Y' Z (by simpa using h1) (by simp; omega)]
      simp
  rw [Instr.fill]
  simp only [hp]
  rw [if_neg (by simp; omega)]
  congr 1
  have hcl : v.cells.zipIdx = (v.cells.toList.zipIdx 0).toArray := by
    apply Array.ext'
    rw [Array.toList_zipIdx]
  have := key v.cells.toList 0 X Y Z (by simp; omega) (by omega)
  rw [hcl]
  simpa using this
/-- the row of a type whose values are many cells -/
def Agg (P : Program) (t : TypeId) (n : Nat) : Prop := ∃ d, P.underlying t = some d ∧ d.isRow = true ∧ (P.info? t).map (·.size) = some n
section
variable {ops : Array Oper} {rest : List Oper} {o : Oper} {a : Act} {w : World} {Q : Exit → Act → World → Prop}
/-- load: cells in order -/
theorem ld_op (hg : o.guard = none) (t : TypeId) (x : Operand) (ho : o.op = .load t x) (b off : Nat) (hx : a.eval x = .pointer (some ⟨b, off, none⟩)) {n : Nat} (ht : Agg P t n) (cs : List Value) (hn : cs.length = n) (hc : w.rangeAt b off cs)
    (h : wpList P ops Q rest (a.put o.dst (.agg cs.toArray)) w) : wpList P ops Q (o :: rest) a w := by
  obtain ⟨d, h1, h2, h3⟩ := ht
  exact wpList_load_mid hg t x ho b off hx cs d hc h1 h2 (by rw [h3, hn]) h
/-- load: an array of bytes -/
theorem ldb_op (hg : o.guard = none) (t : TypeId) (x : Operand) (ho : o.op = .load t x) (b off : Nat) (hx : a.eval x = .pointer (some ⟨b, off, none⟩)) {n : Nat} (ht : Agg P t n) (l : List UInt8) (hn : l.length = n) (hc : w.rangeAt b off (by8 l))
    (h : wpList P ops Q rest (a.put o.dst (.agg (aB l))) w) : wpList P ops Q (o :: rest) a w := ld_op hg t x ho b off hx ht (by8 l) (by rw [by8_length, hn]) hc h
/-- store: cells in order -/
theorem st_op (hg : o.guard = none) (t : TypeId) (x y : Operand) (ho : o.op = .store t x y) (b off : Nat) (cs : List Value) (hx : a.eval x = .pointer (some ⟨b, off, none⟩)) (hy : a.eval y = .agg cs.toArray) {n : Nat} (ht : Agg P t n) (hn : cs.length = n)
    (h1 : ∀ v ∈ cs, v.oneCell' = true) (hth : w.there b off n) (h : wpList P ops Q rest (a.put o.dst undef) (w.setCells b off cs)) : wpList P ops Q (o :: rest) a w := by
  obtain ⟨d, _, _, h3⟩ := ht
  refine wpList_store_mid hg t x y ho b off cs.toArray hx hy (by simpa [hn] using hth) (by rw [h3]; simp [hn]) (all_oneCell_toArray h1) ?_
  simpa using h
/-- build: a value of many cells -/
theorem bld_op (hg : o.guard = none) (t : TypeId) (ps : Array (Nat × Operand)) (ho : o.op = .build t ps) (parts : List (Nat × Value)) (hp : ps.toList.map (fun p => (p.1, a.eval p.2)) = parts) (C : Array Value) (hb : P.built t parts = some C)
    (h : wpList P ops Q rest (a.put o.dst (.agg C)) w) : wpList P ops Q (o :: rest) a w :=
  have hp' : (ps.map fun (i, x) => (i, a.eval x)).toList = parts := by rw [Array.toList_map]; exact hp
  wpList_build hg t ps ho (by rw [hp', hb]; rfl) (by rw [hp', hb]; exact h)
/-- == -/
theorem eql_op (hg : o.guard = none) (t t' : TypeId) (x y : Operand) (ho : o.op = .binOp .eql t x y t') (X Y : Array Value) (hx : a.eval x = .agg X) (hy : a.eval y = .agg Y) (hq : P.eqGuardType P.depth t = false) (b : Bool)
    (hb : (Op.equalIn 10000 t (.agg X) (.agg Y)).run P w = .ok b w) (h : wpList P ops Q rest (a.put o.dst (.bool b)) w) : wpList P ops Q (o :: rest) a w :=
  wpList_plain hg fun _ hK => by
    unfold Oper.wp execOp
    simp only [ho, hx, hy, Sem.run_bind, run_eqGuard_agg w .eql t x y X Y hq, Result.andThen_ok, run_eql_struct, hb]
    exact hK _ _ h
theorem neq_op (hg : o.guard = none) (t t' : TypeId) (x y : Operand) (ho : o.op = .binOp .neq t x y t') (X Y : Array Value) (hx : a.eval x = .agg X) (hy : a.eval y = .agg Y) (hq : P.eqGuardType P.depth t = false) (b : Bool)
    (hb : (Op.equalIn 10000 t (.agg X) (.agg Y)).run P w = .ok b w) (h : wpList P ops Q rest (a.put o.dst (.bool (!b))) w) : wpList P ops Q (o :: rest) a w :=
  wpList_plain hg fun _ hK => by
    unfold Oper.wp execOp
    simp only [ho, hx, hy, Sem.run_bind, run_eqGuard_agg w .neq t x y X Y hq, Result.andThen_ok, run_neq_struct, hb]
    exact hK _ _ h
end
/-- a value of many cells is built: what it yields in whatever world -/
theorem yields_build {ops : Array Oper} {S : World → Prop} {o : Oper} {a : Act} (hw : Region.wanted o (yielded ops a.tmps) = true) (t : TypeId) (ps : Array (Nat × Operand)) (ho : o.op = .build t ps) (parts : List (Nat × Value)) (hp : ps.toList.map (fun p => (p.1, a.eval p.2)) = parts) (C : Array Value) (hb : P.built t parts = some C) : YieldsIf P ops S o (.agg C) a :=
  .inl ⟨hw, fun w' hw' => by
    have hp' : (ps.map fun (i, x) => (i, a.eval x)).toList = parts := by rw [Array.toList_map]; exact hp
    unfold execOp
    simp only [ho, Sem.run_bind, run_build w' t _ C (by rw [hp']; exact hb), Result.andThen_ok]
    rfl⟩
theorem yields_neq {ops : Array Oper} {S : World → Prop} {o : Oper} {a : Act} (hw : Region.wanted o (yielded ops a.tmps) = true) (t t' : TypeId) (x y : Operand) (ho : o.op = .binOp .neq t x y t') (X Y : Array Value) (hx : a.eval x = .agg X) (hy : a.eval y = .agg Y) (hq : P.eqGuardType P.depth t = false) (b : Bool)
    (hb : ∀ w, (Op.equalIn 10000 t (.agg X) (.agg Y)).run P w = .ok b w) : YieldsIf P ops S o (.bool (!b)) a :=
  .inl ⟨hw, fun w' _ => by
    unfold execOp
    simp only [ho, hx, hy, Sem.run_bind, run_eqGuard_agg w' .neq t x y X Y hq, Result.andThen_ok, run_neq_struct, hb w']
    rfl⟩
/-- a result of many cells -/
theorem results_agg {fn : Func} {p : Tmp} {ty : TypeId} (h : fn.results = #[.cell p ty]) (tmps : Array Value) (w : World) (b off : Nat) (hp : tmps.getD p undef = .pointer (some ⟨b, off, none⟩)) {n : Nat} (ht : Agg P ty n) (cs : List Value) (hn : cs.length = n) (hc : w.rangeAt b off cs) :
    (results fn tmps).run P w = .ok (.agg cs.toArray) w := by
  have hp' : tmps[p]?.getD undef = .pointer (some ⟨b, off, none⟩) := by simpa using hp
  obtain ⟨d, h1, h2, h3⟩ := ht
  simp [results, h, hp', asAddr, run_loadVar_mid w b off ty cs d hc h1 h2 (by rw [h3, hn])]
/-- what has just been laid -/
theorem range_new (w : World) (C : List Value) (t : TypeId) : (w.alloc (.cells C.toArray t)).rangeAt w.heap.size 0 C := fun j v hv => by
  rw [Nat.zero_add, cell_of_row _ _ j C.toArray t (0, 0) (heap_alloc_new w _)]
  simpa using hv
theorem there_new (w : World) (C : List Value) (t : TypeId) : (w.alloc (.cells C.toArray t)).there w.heap.size 0 C.length := fun j hj => by
  rw [Nat.zero_add]
  refine ⟨?_, frozen_of_row _ _ j C.toArray t (heap_alloc_new w _)⟩
  rw [cell_of_row _ _ j C.toArray t (0, 0) (heap_alloc_new w _)]
  simp [hj]
theorem range_part {w : World} {b off : Nat} {X Y Z : List Value} (h : w.rangeAt b off (X ++ Y ++ Z)) : w.rangeAt b (off + X.length) Y := fun j v hv => by
  have hj : j < Y.length := (List.getElem?_eq_some_iff.1 hv).1
  have := h (X.length + j) v (by rw [List.append_assoc, List.getElem?_append_right (by omega), List.getElem?_append_left (by omega), show X.length + j - X.length = j by omega]; exact hv)
  rwa [← Nat.add_assoc] at this
theorem range_chg {w w' : World} {F : Nat → Prop} {b off : Nat} {cs : List Value} (h : w.rangeAt b off cs) (k : Chg w w' F) (hb : ¬ F b) : w'.rangeAt b off cs := fun j v hv => k.cell (h j v hv) hb
theorem range_below {w w' : World} {b off : Nat} {cs : List Value} (h : w.rangeAt b off cs) (k : Below w.heap.size w w') : w'.rangeAt b off cs := range_chg h (Chg.of_below k (fun _ => False)) (fun h => h)
theorem there_chg {w w' : World} {F : Nat → Prop} {b off n : Nat} (h : w.there b off n) (k : Chg w w' F) (hb : ¬ F b) : w'.there b off n := fun j hj => by
  obtain ⟨h1, h2⟩ := h j hj
  obtain ⟨u, hu⟩ := Option.isSome_iff_exists.1 h1
  have e := k.block b (World.block_lt_of_cell? w _ hu) hb
  refine ⟨by rw [k.cell hu hb]; rfl, ?_⟩
  rw [← h2]; simp only [World.frozen?, e]
theorem there_below {w w' : World} {b off n : Nat} (h : w.there b off n) (k : Below w.heap.size w w') : w'.there b off n := there_chg h (Chg.of_below k (fun _ => False)) (fun h => h)
theorem Chg.setCells {w w' : World} {F : Nat → Prop} (h : Chg w w' F) {b : Nat} (hp : F b ∨ w.heap.size ≤ b) : ∀ (cs : List Value) (off : Nat), Chg w (w'.setCells b off cs) F := by
  intro cs
  induction cs generalizing w' with
  | nil => intro off; exact h
  | cons c cs ih => intro off; rw [World.setCells]; exact ih (h.setCell hp c) (off + 1)
/-- A region that draws its order, walked by hand: the post behind it is a letter, and what it asks of a panic is paid once. -/
theorem rstart {id : Nat} {ops : Array Oper} {a : Act} {w : World} {Q : Exit → Act → World → Prop} (S : World → Prop) (n : Nat) (hn : ops.size = n) (hm : P.follows .mixedOrders = true) (hS : S w.drew)
    (hQ : ∀ c (a : Act) (d : Nat) v w, Q (.panic c) (a.put (some d) v) w → Q (.panic c) a w)
    (h : ∀ Q' : Exit → Act → World → Prop, Hid (∀ a w, Q .normal a w → Q' .normal a w) → Hid (∀ c (a : Act) (d : Nat) v w, Q' (.panic c) (a.put (some d) v) w → Q' (.panic c) a w) → Hid (S w.drew) → wpAnyH P .any ops Q' S n (Array.replicate n false) a w.drew) :
    (Code.region id ops true).wp P Q a w :=
  wp_region_held_drew (S := S) hm hS (fun hs => by subst hn; exact h Q (hid fun _ _ h => h) (hid hQ) (hid hs))
theorem rtake {ops : Array Oper} {Q : Exit → Act → World → Prop} {md : Region.Mode} {S : World → Prop} {fuel : Nat} {listed : Array Bool} {a : Act} {w : World} (i : Nat) {oi : Oper} (v : Value) (hi : ops[i]? = some oi) (hs : Region.noSelect ops = true) (hf : Region.free md ops listed i = true) (hr : (Region.ready md ops listed).contains i = true)
    (hQ : Hid (∀ c (a : Act) (d : Nat) v w, Q (.panic c) (a.put (some d) v) w → Q (.panic c) a w)) (hS : Hid (S w)) (hy : YieldsIf P ops S oi v a) {d : Nat} (hd : oi.dst = some d) {a' : Act} (ha : a.put (some d) v = a') (h : wpAnyH P md ops Q S fuel (listed.setIfInBounds i true) a' w) : wpAnyH P md ops Q S (fuel + 1) listed a w := by
  subst ha
  refine wpAnyH_take hi hs hf hr (fun c a w h => ?_) hy hS.out (by rw [hd]; exact h)
  rw [hd] at h
  exact hQ.out c a d _ w h
/-- one operation comes up alone, and runs -/
theorem ralone {ops : Array Oper} {Q : Exit → Act → World → Prop} {md : Region.Mode} {S : World → Prop} {fuel : Nat} {listed : Array Bool} {a : Act} {w : World} (i : Nat) {o : Oper} (ho : ops[i]? = some o) (hr : Region.ready md ops listed = [i]) (hw : Region.wanted o (yielded ops a.tmps) = true)
    (h : ∀ K : Act → World → Prop, Hid (∀ a w, S w → (Hid (S w) → wpAnyH P md ops Q S fuel (listed.setIfInBounds i true) a w) → K a w) → Oper.wp P o a w K Q) : wpAnyH P md ops Q S (fuel + 1) listed a w :=
  wpAnyH_ready (rs := [i]) hr (by simp) (AllReadyH.cons ho (fun K hK => by rw [if_pos hw]; exact h K (hid fun a w h1 h2 => hK.out a w h1 (fun h3 => h2 (hid h3)))) AllReadyH.nil)
end
end Go.Proofs.Ytlgcfnbhnpnkiaa
