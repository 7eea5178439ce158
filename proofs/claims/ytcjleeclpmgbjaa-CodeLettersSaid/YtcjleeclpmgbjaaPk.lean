/- Texts put together. -/
import Derived.Test.YtcjleeclpmgbjaaPm
import Derived.Laws.BitsAllLaws
import Derived.WalkMore
set_option linter.unusedVariables false
set_option linter.unusedSimpArgs false
namespace Go.Proofs.Ytcjleeclpmgbjaa
open Go.RowKit
section
/-- a number as one of this kind -/
def u8I (n : Int) : UInt8 := UInt8.ofNat (n % 256).toNat
theorem u8I_wrap (n : Int) : IntKind.u8.wrap n = ((u8I n).toNat : Int) := by rw [IntKind.wrap_u8]; unfold u8I; rw [UInt8.toNat_ofNat']; omega
/-- a number as one of this kind -/
def u64I (n : Int) : UInt64 := UInt64.ofNat (n % 18446744073709551616).toNat
theorem u64I_wrap (n : Int) : IntKind.u64.wrap n = ((u64I n).toNat : Int) := by rw [IntKind.wrap_u64]; unfold u64I; rw [UInt64.toNat_ofNat']; omega
def i64_and (x y : Int) : Int := bits .and .i64 x y
theorem i64_and_r (x y : Int) : r64 (i64_and x y) := by unfold i64_and bits; exact w64_r _
def i64_or (x y : Int) : Int := bits .or .i64 x y
theorem i64_and_nat (a b : Nat) (ha : a < 9223372036854775808) (hb : b < 9223372036854775808) : i64_and (a : Int) (b : Int) = ((a &&& b : Nat) : Int) := by
  show IntKind.i64.wrap ((BitVec.ofInt 64 (a : Int) &&& BitVec.ofInt 64 (b : Int)).toNat : Int) = _
  rw [BitVec.ofInt_natCast, BitVec.ofInt_natCast, BitVec.toNat_and, BitVec.toNat_ofNat, BitVec.toNat_ofNat, Nat.mod_eq_of_lt (by omega), Nat.mod_eq_of_lt (by omega)]
  have h : (a &&& b) < 9223372036854775808 := Nat.lt_of_le_of_lt Nat.and_le_left ha
  rw [IntKind.wrap_i64]; omega
def i64_shl (x : Int) (n : Nat) : Int := w64 (x * 2 ^ (min n 64))
def i64_shr (x : Int) (n : Nat) : Int := x / 2 ^ (min n 64)
theorem ib_shl_i64 (x : Int) {k2 : IntKind} (n : Nat) : IB .shl .i64 x k2 (n : Int) (.int .i64 (i64_shl x n)) := ib_shl (by omega) rfl
theorem ib_shr_i64 (x : Int) {k2 : IntKind} (n : Nat) : IB .shr .i64 x k2 (n : Int) (.int .i64 (i64_shr x n)) := ib_shr (by omega) rfl
section
variable {P : Program} {o : Oper} {a : Act} {w : World} {N : Nat} {ρ : Slots} {x y : Operand} {t t' : TypeId}
end
end
section
section
section
variable {P : Program} {ops : Array Oper} {rest : List Oper} {o : Oper} {Q : Exit → Act → World → Prop} {N : Nat} {w0 w w' : World} {B : Nat → Prop} {ρ ρ' : Slots} {L L' Ls R : List Ch} {a a' : Act} {d : Nat} {u v : Value} {S S0 S' : Snap} {α : Type} {T : Ty α}
/-- '[]T{}' -/
theorem q_bslice0 (h : St N w0 B ρ L a w) (hg : o.guard = none) {t : TypeId} (ho : o.op = .buildSlice t 0 #[]) (hd : o.dst = some d) (hN : d < N) {e : TypeId} (ht : P.underlying t = some (.slice e)) {sz : Nat} (hs : (P.info? e).map (·.size) = some sz)
    (k : ∀ a' w' A, St N w0 B ((d, .slice A 0 0) :: ρ) (.row (.slice A 0 0) e sz 0 [] :: L) a' w' → wpList P ops Q rest a' w') : wpList P ops Q (o :: rest) a w := by
  refine s_of h hg hd hN (v := .slice (some ⟨w.heap.size, 0, none⟩) 0 0) (w' := w.alloc (.cells #[] e)) ?_ (fun a' hk => k a' _ _ ⟨hk, (h.m.alloc (.cells #[] e)).asRow (i := 0) (g := w.heap.size) (E := e) (cs := []) rfl 0 sz (by simp) (by simp [maxLen])⟩)
  simp [execOp, ho, Instr.buildSlice, run_underlying ht, run_size hs, Instr.fill, newRow, newObj, Sem.run]
  have : ((Array.range 0).map (fun (_ : Nat) => (default : Value))) = #[] := by simp [Array.range]
  rw [this]
end
/-! ### left from within -/
section
variable {P : Program} {Q : Exit → Act → World → Prop} {a : Act} {w : World} {R R2 : Act → World → Prop} {id i : Nat}
end
end
section
section
variable {α : Type} {T : Ty α} {S S' : Snap}
theorem reps.cut {xs : List α} {cs : List Value} (h1 : T.sz = 1) (hr : reps T S cs xs) (l g : Nat) : reps T S ((cs.take g).drop l) ((xs.take g).drop l) := by
  have := (hr.take g).drop l
  rwa [h1, Nat.mul_one, Nat.mul_one] at this
end
section
variable {P : Program} {ops : Array Oper} {rest : List Oper} {o : Oper} {Q : Exit → Act → World → Prop} {N : Nat} {w0 w w' : World} {B : Nat → Prop} {ρ ρ' : Slots} {L L' Ls R : List Ch} {a a' : Act} {d : Nat} {u v : Value} {S S0 S' : Snap} {α : Type} {T : Ty α}
theorem Rd.sA {A : Option Addr} {c l g sz : Nat} {cs : List Value} (h : Rd w A cs) (h1 : sz = 1) (hg : g ≤ c) : Rd w (sA A c l sz) ((cs.take g).drop l) := by
  have k := (h.take g).tail l c (by rw [List.length_take]; omega)
  subst h1
  unfold Go.Proofs.Ytcjleeclpmgbjaa.sA
  rw [Nat.mul_one]
  exact k
end
end
end
end Go.Proofs.Ytcjleeclpmgbjaa
