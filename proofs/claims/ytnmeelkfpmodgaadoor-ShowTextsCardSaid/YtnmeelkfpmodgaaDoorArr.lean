/- Texts put together. -/
import Derived.Test.YtnmeelkfpmodgaaDoorK
import Derived.Test.YtnmeelkfpmodgaaDoorSpec
import Derived.Test.YtnmeelkfpmodgaaDoorObj
import Derived.Deep.MidRow
import Derived.Deep.RegionHeld3
import Derived.Laws.StructEq
set_option linter.unusedVariables false
set_option linter.unusedSimpArgs false
namespace Go.Proofs.YtnmeelkfpmodgaaDoor
open Go.RowKit
section
section

/-! ### Same: are two lists of bytes one? -/
/-! ### Put -/
end
section

end
end
section
section
variable {P : Program}
/-- an array of bytes, by value -/
def aB (l : List UInt8) : Array Value := (by8 l).toArray
theorem aB_get (l : List UInt8) (i : Nat) (h : i < l.length) : (aB l)[i]? = some (.int .u8 (l[i].toNat : Int)) := by
  simp [aB, by8, h, byc]
theorem run_part_u8 (w : World) {e : TypeId} (he : P.underlying e = some (.int .u8)) (l : List UInt8) (i : Nat) (h : i < l.length) :
    (part e (aB l) (i * 1)).run P w = .ok (.int .u8 (l[i].toNat : Int)) w := by
  have hag : (isAgg e).run P w = .ok false w := by
    unfold isAgg
    rw [Sem.run_bind, run_underlying he w]; rfl
  unfold part
  rw [Sem.run_bind, hag]
  simp [aB_get l i h]
theorem eq_arr_bytes (w : World) (d n : Nat) {t e : TypeId} (ht : P.underlying t = some (.array n e)) (he : P.underlying e = some (.int .u8)) (hs : (P.info? e).map (·.size) = some 1) (xs ys : List UInt8) (hx : xs.length = n) (hy : ys.length = n) :
    (Op.equalIn (d + 2) t (.agg (aB xs)) (.agg (aB ys))).run P w = .ok (xs == ys) w := by
  have hsz : (sizeOf e).run P w = .ok 1 w := by
    cases hq : P.info? e with
    | none => simp [hq] at hs
    | some i => 
      have : i.size = 1 := by simpa [hq] using hs
      simp [sizeOf, typeInfo, hq, this]
  rw [Op.equalIn]
  simp only [Sem.run_bind, run_underlying ht, Result.andThen_ok, hsz]
  rw [Std.Legacy.Range.forIn_eq_forIn_range']
  have hn : (n - 0 + 1 - 1) / 1 = n := by simp
  simp only [Std.Legacy.Range.size, hn]
  have key : ∀ k i, i + k = n → (forIn (m := Sem) (List.range' i k) (none, ()) fun i (__s : Option Bool × Unit) => do
            let __do_lift ← part e (aB xs) (i * 1)
            let __do_lift_1 ← part e (aB ys) (i * 1)
            let __do_lift ← Op.equalIn (d + 1) e __do_lift __do_lift_1
            if (!__do_lift) = true then pure (ForInStep.done (some false, ())) else pure (ForInStep.yield (none, ()))).run P w = .ok (if xs.drop i = ys.drop i then (none, ()) else (some false, ())) w := by
    intro k
    induction k with
    | zero =>
      intro i hi
      simp [List.drop_eq_nil_of_le (show xs.length ≤ i by omega), List.drop_eq_nil_of_le (show ys.length ≤ i by omega)]
    | succ k ih =>
      intro i hi
      have h1 : i < xs.length := by omega
      have h2 : i < ys.length := by omega
      rw [List.range'_succ, List.forIn_cons]
      simp only [Sem.run_bind, run_part_u8 w he xs i h1, run_part_u8 w he ys i h2, Result.andThen_ok, run_equalIn_int w d e .u8 .u8 _ _ he]
      rw [List.drop_eq_getElem_cons h1, List.drop_eq_getElem_cons h2]
      by_cases hh : xs[i] = ys[i]
      · have : ((xs[i].toNat : Int) == (ys[i].toNat : Int)) = true := by simp [hh]
        rw [this]
        simp only [Bool.not_true, Bool.false_eq_true, if_false, Sem.run_pure, Result.andThen_ok]
        rw [ih (i + 1) (by omega)]
        simp only [hh, List.cons.injEq, true_and]
      · have : ((xs[i].toNat : Int) == (ys[i].toNat : Int)) = false := by
          simp; intro h'; exact hh (UInt8.toNat_inj.1 (by exact_mod_cast h'))
        rw [this]
        simp only [Bool.not_false, if_true, Sem.run_pure, Result.andThen_ok]
        simp only [List.cons.injEq, hh, false_and, if_false]
  rw [key n 0 (by omega)]
  simp only [List.drop_zero]
  by_cases h : xs = ys
  · simp [h]
  · simp [h]
/-- one part of a value that is built -/
theorem fill_mid {place : Nat → Option (Nat × Nat)} {i : Nat} {v : Value} {rest : List (Nat × Value)} {off n : Nat} {X Y Z : List Value} (hp : place i = some (off, n)) (hX : X.length = off) (hY : Y.length = n) (hv : v.cells.size = n) :
    Instr.fill place (X ++ Y ++ Z).toArray ((i, v) :: rest) = Instr.fill place (X ++ v.cells.toList ++ Z).toArray rest := by
  have key : ∀ (ys : List Value) (j : Nat) (X Y Z : List Value), Y.length = ys.length → X.length = off + j →
      ((ys.zipIdx j).foldl (fun (cs : Array Value) (p : Value × Nat) => cs.setIfInBounds (off + p.2) p.1) (X ++ Y ++ Z).toArray) = (X ++ ys ++ Z).toArray := by
    intro ys
    induction ys with
    | nil => intro j X Y Z h1 h2; simp at h1; subst h1; simp
    | cons y ys ih =>
      intro j X Y Z h1 h2
      obtain ⟨y0, Y', rfl⟩ : ∃ y0 Y', Y = y0 :: Y' := by cases Y with
        | nil => simp at h1
        | cons a b => exact ⟨a, b, rfl⟩
      simp only [List.zipIdx_cons, List.foldl_cons]
      have hset : (X ++ (y0 :: Y') ++ Z).toArray.setIfInBounds (off + j) y = ((X ++ [y]) ++ Y' ++ Z).toArray := by
        simp only [List.setIfInBounds_toArray]
        congr 1
        rw [← h2]; simp
      rw [hset, ih (j + 1) (X ++ [y]) Y' Z (by simpa using h1) (by simp; omega)]
      simp
  rw [Instr.fill]
  simp only [hp]
  rw [if_neg (by simp; omega)]
  congr 1
  have hcl : v.cells.zipIdx = (v.cells.toList.zipIdx 0).toArray := by
    apply Array.ext'
    rw [Array.toList_zipIdx]
  have := key v.cells.toList 0 X Y Z (by simp; omega) (by omega)
  rw [hcl]
  simpa using this
/-- the row of a type whose values are many cells -/
def Agg (P : Program) (t : TypeId) (n : Nat) : Prop := ∃ d, P.underlying t = some d ∧ d.isRow = true ∧ (P.info? t).map (·.size) = some n
section
variable {ops : Array Oper} {rest : List Oper} {o : Oper} {a : Act} {w : World} {Q : Exit → Act → World → Prop}
/-- store: cells in order -/
theorem st_op (hg : o.guard = none) (t : TypeId) (x y : Operand) (ho : o.op = .store t x y) (b off : Nat) (cs : List Value) (hx : a.eval x = .pointer (some ⟨b, off, none⟩)) (hy : a.eval y = .agg cs.toArray) {n : Nat} (ht : Agg P t n) (hn : cs.length = n)
    (h1 : ∀ v ∈ cs, v.oneCell' = true) (hth : w.there b off n) (h : wpList P ops Q rest (a.put o.dst undef) (w.setCells b off cs)) : wpList P ops Q (o :: rest) a w := by
  obtain ⟨d, _, _, h3⟩ := ht
  refine wpList_store_mid hg t x y ho b off cs.toArray hx hy (by simpa [hn] using hth) (by rw [h3]; simp [hn]) (all_oneCell_toArray h1) ?_
  simpa using h
end
theorem Chg.setCells {w w' : World} {F : Nat → Prop} (h : Chg w w' F) {b : Nat} (hp : F b ∨ w.heap.size ≤ b) : ∀ (cs : List Value) (off : Nat), Chg w (w'.setCells b off cs) F := by
  intro cs
  induction cs generalizing w' with
  | nil => intro off; exact h
  | cons c cs ih => intro off; rw [World.setCells]; exact ih (h.setCell hp c) (off + 1)
end
end
end Go.Proofs.YtnmeelkfpmodgaaDoor
