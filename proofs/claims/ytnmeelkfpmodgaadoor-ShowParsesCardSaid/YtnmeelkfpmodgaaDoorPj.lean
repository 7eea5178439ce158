/- Texts put together. -/
import Derived.Test.YtnmeelkfpmodgaaDoorPm
import Derived.Laws.BitsAllLaws
import Derived.WalkMore
set_option linter.unusedVariables false
set_option linter.unusedSimpArgs false
namespace Go.Proofs.YtnmeelkfpmodgaaDoor
open Go.RowKit
section
theorem u8_lt (x : UInt8) : x.toNat < 256 := x.toNat_lt
theorem u8_w (n : Nat) (h : n < 256) : IntKind.u8.wrap (n : Int) = (n : Int) := by rw [IntKind.wrap_u8]; omega
theorem u8_bv (x : UInt8) : BitVec.ofInt 8 (x.toNat : Int) = x.toBitVec := by apply BitVec.eq_of_toNat_eq; rw [BitVec.ofInt_natCast, BitVec.toNat_ofNat]; exact Nat.mod_eq_of_lt x.toNat_lt
theorem u8_and_ (x y : UInt8) : bits .and .u8 (x.toNat : Int) (y.toNat : Int) = ((x &&& y).toNat : Int) := by
  show IntKind.u8.wrap ((BitVec.ofInt 8 (x.toNat : Int) &&& BitVec.ofInt 8 (y.toNat : Int)).toNat : Int) = _
  rw [u8_bv, u8_bv]; exact u8_w _ (x &&& y).toNat_lt
def u8_shr (x : UInt8) (n : Nat) : UInt8 := UInt8.ofNat (x.toNat / 2 ^ (min n 8))
theorem u8_shr_ (x : UInt8) (n : Nat) : ((x.toNat : Int) / 2 ^ (min ((n : Int)).toNat IntKind.u8.bits)) = ((u8_shr x n).toNat : Int) := by
  show ((x.toNat : Int) / 2 ^ (min n 8)) = _
  have h := u8_lt x; have h2 : x.toNat / 2 ^ (min n 8) ≤ x.toNat := Nat.div_le_self ..
  rw [show ((x.toNat : Int) / 2 ^ (min n 8)) = ((x.toNat / 2 ^ (min n 8) : Nat) : Int) by push_cast; rfl]; unfold u8_shr; rw [UInt8.toNat_ofNat', Nat.mod_eq_of_lt (Nat.lt_of_le_of_lt h2 h)]
theorem ib_shr_u8 (x : UInt8) {k2 : IntKind} (n : Nat) : IB .shr .u8 (x.toNat : Int) k2 (n : Int) (.int .u8 ((u8_shr x n).toNat : Int)) := ib_shr (by omega) (u8_shr_ x n)
abbrev w32I (n : Int) : Int := IntKind.i32.wrap n
theorem w32I_r (x : Int) : r32 (w32I x) := by unfold r32; show _ ≤ IntKind.i32.wrap x ∧ IntKind.i32.wrap x ≤ _; rw [IntKind.wrap_i32]; omega
theorem w32I_of {x : Int} (h : r32 x) : w32I x = x := by unfold r32 at h; show IntKind.i32.wrap x = x; rw [IntKind.wrap_i32]; omega
theorem r32_64 {x : Int} (h : r32 x) : r64 x := by unfold r32 at h; unfold r64; omega
section
variable {P : Program} {o : Oper} {a : Act} {w : World} {N : Nat} {ρ : Slots} {x y : Operand} {t t' : TypeId}
theorem x_neg (h : Knows N ρ a) (ho : o.op = .unOp .neg t x) {k : IntKind} {n r : Int} (hx : ev ρ x = some (.int k n)) (e : k.wrap (0 - n) = r) : (execOp a.eval o).run P w = .ok (.value (.int k r)) w := by
  subst e; simp [execOp, ho, h.eval hx, Op.unary, Op.intArith]
end
end
section
section
variable {P : Program} {ops : Array Oper} {rest : List Oper} {o : Oper} {Q : Exit → Act → World → Prop} {N : Nat} {w0 w w' : World} {B : Nat → Prop} {ρ ρ' : Slots} {L L' Ls R : List Ch} {a a' : Act} {d : Nat} {u v : Value} {S S0 S' : Snap} {α : Type} {T : Ty α}
/-- a variable that is written no more -/
theorem q_freezeBox {g : Nat} {E : TypeId} {cs : List Value} (h : St N w0 B ρ (.box g E cs :: .sn S :: R) a w) (hu : Up B w0 S0 S) : ∃ S', S.le S' ∧ Up B w0 S0 S' ∧ (∀ w', SnapOK S' w' → w'.rangeAt g 0 cs) ∧ St N w0 B ρ (.sn S' :: R) a w := by
  have hb : w.heap[g]? = some (.cells cs.toArray E (0, 0)) := h.m.ok 0 _ rfl
  obtain ⟨S', h1, h2, h3, h4, h5⟩ := h.m.freeze (fun _ hk => hk)
  refine ⟨S', h1, hu.trans ⟨h1, h2⟩, fun w' hw' j v hv => ?_, h.k, h5⟩
  have := hw' g _ ((h4 g rfl).trans hb)
  simp [World.cell?, this, hv]
end
/-! ### left from within -/
section
variable {P : Program} {Q : Exit → Act → World → Prop} {a : Act} {w : World} {R R2 : Act → World → Prop} {id i : Nat}
end
end
end Go.Proofs.YtnmeelkfpmodgaaDoor
