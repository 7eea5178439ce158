/- Texts put together. -/
import Derived.Test.YtohgmggdfmjgnaaPm
import Derived.Laws.BitsAllLaws
import Derived.WalkMore
set_option linter.unusedVariables false
set_option linter.unusedSimpArgs false
namespace Go.Proofs.Ytohgmggdfmjgnaa
open Go.RowKit
section
theorem u8_lt (x : UInt8) : x.toNat < 256 := x.toNat_lt
theorem u8_w (n : Nat) (h : n < 256) : IntKind.u8.wrap (n : Int) = (n : Int) := by rw [IntKind.wrap_u8]; omega
theorem u8_add (x y : UInt8) : IntKind.u8.wrap ((x.toNat : Int) + (y.toNat : Int)) = ((x + y).toNat : Int) := by rw [IntKind.wrap_u8, UInt8.toNat_add]; omega
theorem u8_neg (x : UInt8) : IntKind.u8.wrap (0 - (x.toNat : Int)) = ((-x).toNat : Int) := by have h := u8_lt x; rw [IntKind.wrap_u8, UInt8.toNat_neg, show UInt8.size = 256 from rfl]; omega
theorem u8_bv (x : UInt8) : BitVec.ofInt 8 (x.toNat : Int) = x.toBitVec := by apply BitVec.eq_of_toNat_eq; rw [BitVec.ofInt_natCast, BitVec.toNat_ofNat]; exact Nat.mod_eq_of_lt x.toNat_lt
theorem u8_and_ (x y : UInt8) : bits .and .u8 (x.toNat : Int) (y.toNat : Int) = ((x &&& y).toNat : Int) := by
  show IntKind.u8.wrap ((BitVec.ofInt 8 (x.toNat : Int) &&& BitVec.ofInt 8 (y.toNat : Int)).toNat : Int) = _
  rw [u8_bv, u8_bv]; exact u8_w _ (x &&& y).toNat_lt
theorem u8_or_ (x y : UInt8) : bits .or .u8 (x.toNat : Int) (y.toNat : Int) = ((x ||| y).toNat : Int) := by
  show IntKind.u8.wrap ((BitVec.ofInt 8 (x.toNat : Int) ||| BitVec.ofInt 8 (y.toNat : Int)).toNat : Int) = _
  rw [u8_bv, u8_bv]; exact u8_w _ (x ||| y).toNat_lt
theorem u8_xor_ (x y : UInt8) : bits .xor .u8 (x.toNat : Int) (y.toNat : Int) = ((x ^^^ y).toNat : Int) := by
  show IntKind.u8.wrap ((BitVec.ofInt 8 (x.toNat : Int) ^^^ BitVec.ofInt 8 (y.toNat : Int)).toNat : Int) = _
  rw [u8_bv, u8_bv]; exact u8_w _ (x ^^^ y).toNat_lt
/-- to the left, to the right, by any number of places -/
def u8_shl (x : UInt8) (n : Nat) : UInt8 := UInt8.ofNat (x.toNat * 2 ^ (min n 8))
def u8_shr (x : UInt8) (n : Nat) : UInt8 := UInt8.ofNat (x.toNat / 2 ^ (min n 8))
theorem u8_shl_ (x : UInt8) (n : Nat) : IntKind.u8.wrap ((x.toNat : Int) * 2 ^ (min ((n : Int)).toNat IntKind.u8.bits)) = ((u8_shl x n).toNat : Int) := by
  show IntKind.u8.wrap ((x.toNat : Int) * 2 ^ (min n 8)) = _
  rw [show ((x.toNat : Int) * 2 ^ (min n 8)) = ((x.toNat * 2 ^ (min n 8) : Nat) : Int) by push_cast; rfl, IntKind.wrap_u8]; unfold u8_shl; rw [UInt8.toNat_ofNat']; omega
theorem u8_shr_ (x : UInt8) (n : Nat) : ((x.toNat : Int) / 2 ^ (min ((n : Int)).toNat IntKind.u8.bits)) = ((u8_shr x n).toNat : Int) := by
  show ((x.toNat : Int) / 2 ^ (min n 8)) = _
  have h := u8_lt x; have h2 : x.toNat / 2 ^ (min n 8) ≤ x.toNat := Nat.div_le_self ..
  rw [show ((x.toNat : Int) / 2 ^ (min n 8)) = ((x.toNat / 2 ^ (min n 8) : Nat) : Int) by push_cast; rfl]; unfold u8_shr; rw [UInt8.toNat_ofNat', Nat.mod_eq_of_lt (Nat.lt_of_le_of_lt h2 h)]
theorem ib_shl_u8 (x : UInt8) {k2 : IntKind} (n : Nat) : IB .shl .u8 (x.toNat : Int) k2 (n : Int) (.int .u8 ((u8_shl x n).toNat : Int)) := ib_shl (by omega) (u8_shl_ x n)
theorem ib_shr_u8 (x : UInt8) {k2 : IntKind} (n : Nat) : IB .shr .u8 (x.toNat : Int) k2 (n : Int) (.int .u8 ((u8_shr x n).toNat : Int)) := ib_shr (by omega) (u8_shr_ x n)
theorem u8_to_u32 (x : UInt8) : IntKind.u32.wrap (x.toNat : Int) = ((UInt32.ofNat x.toNat).toNat : Int) := by rw [IntKind.wrap_u32, UInt32.toNat_ofNat']; omega
theorem u32_lt (x : UInt32) : x.toNat < 4294967296 := x.toNat_lt
theorem u32_w (n : Nat) (h : n < 4294967296) : IntKind.u32.wrap (n : Int) = (n : Int) := by rw [IntKind.wrap_u32]; omega
theorem u32_neg (x : UInt32) : IntKind.u32.wrap (0 - (x.toNat : Int)) = ((-x).toNat : Int) := by have h := u32_lt x; rw [IntKind.wrap_u32, UInt32.toNat_neg, show UInt32.size = 4294967296 from rfl]; omega
theorem u32_bv (x : UInt32) : BitVec.ofInt 32 (x.toNat : Int) = x.toBitVec := by apply BitVec.eq_of_toNat_eq; rw [BitVec.ofInt_natCast, BitVec.toNat_ofNat]; exact Nat.mod_eq_of_lt x.toNat_lt
theorem u32_and_ (x y : UInt32) : bits .and .u32 (x.toNat : Int) (y.toNat : Int) = ((x &&& y).toNat : Int) := by
  show IntKind.u32.wrap ((BitVec.ofInt 32 (x.toNat : Int) &&& BitVec.ofInt 32 (y.toNat : Int)).toNat : Int) = _
  rw [u32_bv, u32_bv]; exact u32_w _ (x &&& y).toNat_lt
theorem u32_or_ (x y : UInt32) : bits .or .u32 (x.toNat : Int) (y.toNat : Int) = ((x ||| y).toNat : Int) := by
  show IntKind.u32.wrap ((BitVec.ofInt 32 (x.toNat : Int) ||| BitVec.ofInt 32 (y.toNat : Int)).toNat : Int) = _
  rw [u32_bv, u32_bv]; exact u32_w _ (x ||| y).toNat_lt
theorem u32_xor_ (x y : UInt32) : bits .xor .u32 (x.toNat : Int) (y.toNat : Int) = ((x ^^^ y).toNat : Int) := by
  show IntKind.u32.wrap ((BitVec.ofInt 32 (x.toNat : Int) ^^^ BitVec.ofInt 32 (y.toNat : Int)).toNat : Int) = _
  rw [u32_bv, u32_bv]; exact u32_w _ (x ^^^ y).toNat_lt
/-- to the left, to the right, by any number of places -/
def u32_shl (x : UInt32) (n : Nat) : UInt32 := UInt32.ofNat (x.toNat * 2 ^ (min n 32))
def u32_shr (x : UInt32) (n : Nat) : UInt32 := UInt32.ofNat (x.toNat / 2 ^ (min n 32))
theorem u32_shl_ (x : UInt32) (n : Nat) : IntKind.u32.wrap ((x.toNat : Int) * 2 ^ (min ((n : Int)).toNat IntKind.u32.bits)) = ((u32_shl x n).toNat : Int) := by
  show IntKind.u32.wrap ((x.toNat : Int) * 2 ^ (min n 32)) = _
  rw [show ((x.toNat : Int) * 2 ^ (min n 32)) = ((x.toNat * 2 ^ (min n 32) : Nat) : Int) by push_cast; rfl, IntKind.wrap_u32]; unfold u32_shl; rw [UInt32.toNat_ofNat']; omega
theorem u32_shr_ (x : UInt32) (n : Nat) : ((x.toNat : Int) / 2 ^ (min ((n : Int)).toNat IntKind.u32.bits)) = ((u32_shr x n).toNat : Int) := by
  show ((x.toNat : Int) / 2 ^ (min n 32)) = _
  have h := u32_lt x; have h2 : x.toNat / 2 ^ (min n 32) ≤ x.toNat := Nat.div_le_self ..
  rw [show ((x.toNat : Int) / 2 ^ (min n 32)) = ((x.toNat / 2 ^ (min n 32) : Nat) : Int) by push_cast; rfl]; unfold u32_shr; rw [UInt32.toNat_ofNat', Nat.mod_eq_of_lt (Nat.lt_of_le_of_lt h2 h)]
theorem ib_shl_u32 (x : UInt32) {k2 : IntKind} (n : Nat) : IB .shl .u32 (x.toNat : Int) k2 (n : Int) (.int .u32 ((u32_shl x n).toNat : Int)) := ib_shl (by omega) (u32_shl_ x n)
theorem ib_shr_u32 (x : UInt32) {k2 : IntKind} (n : Nat) : IB .shr .u32 (x.toNat : Int) k2 (n : Int) (.int .u32 ((u32_shr x n).toNat : Int)) := ib_shr (by omega) (u32_shr_ x n)
theorem u32_to_u8 (x : UInt32) : IntKind.u8.wrap (x.toNat : Int) = ((UInt8.ofNat x.toNat).toNat : Int) := by rw [IntKind.wrap_u8, UInt8.toNat_ofNat']; omega
theorem u64_lt (x : UInt64) : x.toNat < 18446744073709551616 := x.toNat_lt
theorem u64_w (n : Nat) (h : n < 18446744073709551616) : IntKind.u64.wrap (n : Int) = (n : Int) := by rw [IntKind.wrap_u64]; omega
theorem u64_sub (x y : UInt64) : IntKind.u64.wrap ((x.toNat : Int) - (y.toNat : Int)) = ((x - y).toNat : Int) := by have := u64_lt x; have := u64_lt y; rw [IntKind.wrap_u64, UInt64.toNat_sub]; omega
theorem u64_bv (x : UInt64) : BitVec.ofInt 64 (x.toNat : Int) = x.toBitVec := by apply BitVec.eq_of_toNat_eq; rw [BitVec.ofInt_natCast, BitVec.toNat_ofNat]; exact Nat.mod_eq_of_lt x.toNat_lt
theorem u64_and_ (x y : UInt64) : bits .and .u64 (x.toNat : Int) (y.toNat : Int) = ((x &&& y).toNat : Int) := by
  show IntKind.u64.wrap ((BitVec.ofInt 64 (x.toNat : Int) &&& BitVec.ofInt 64 (y.toNat : Int)).toNat : Int) = _
  rw [u64_bv, u64_bv]; exact u64_w _ (x &&& y).toNat_lt
def u64_shr (x : UInt64) (n : Nat) : UInt64 := UInt64.ofNat (x.toNat / 2 ^ (min n 64))
theorem u64_shr_ (x : UInt64) (n : Nat) : ((x.toNat : Int) / 2 ^ (min ((n : Int)).toNat IntKind.u64.bits)) = ((u64_shr x n).toNat : Int) := by
  show ((x.toNat : Int) / 2 ^ (min n 64)) = _
  have h := u64_lt x; have h2 : x.toNat / 2 ^ (min n 64) ≤ x.toNat := Nat.div_le_self ..
  rw [show ((x.toNat : Int) / 2 ^ (min n 64)) = ((x.toNat / 2 ^ (min n 64) : Nat) : Int) by push_cast; rfl]; unfold u64_shr; rw [UInt64.toNat_ofNat', Nat.mod_eq_of_lt (Nat.lt_of_le_of_lt h2 h)]
def u64_quo (x y : UInt64) : Option UInt64 := if y = 0 then none else some (x / y)
def u64_rem (x y : UInt64) : Option UInt64 := if y = 0 then none else some (x % y)
theorem u64_div_ (x y : UInt64) : IntKind.u64.wrap (Int.tdiv (x.toNat : Int) (y.toNat : Int)) = ((x / y).toNat : Int) := by
  have h := u64_lt (x / y); rw [← Int.ofNat_tdiv, ← UInt64.toNat_div]; exact u64_w _ h
theorem u64_mod_ (x y : UInt64) : Int.tmod (x.toNat : Int) (y.toNat : Int) = ((x % y).toNat : Int) := by rw [← Int.ofNat_tmod, ← UInt64.toNat_mod]
theorem u64_nz {y : UInt64} (h : y ≠ 0) : (y.toNat : Int) ≠ 0 := by intro e; apply h; apply UInt64.toNat_inj.1; simpa using e
theorem ib_quo_u64 {x y r : UInt64} (h : u64_quo x y = some r) : IB .quo .u64 (x.toNat : Int) .u64 (y.toNat : Int) (.int .u64 (r.toNat : Int)) := by
  unfold u64_quo at h; split at h
  · cases h
  · next hn => cases h; rw [← u64_div_]; exact ib_quow (u64_nz hn)
theorem ib_rem_u64 {x y r : UInt64} (h : u64_rem x y = some r) : IB .rem .u64 (x.toNat : Int) .u64 (y.toNat : Int) (.int .u64 (r.toNat : Int)) := by
  unfold u64_rem at h; split at h
  · cases h
  · next hn => cases h; rw [← u64_mod_]; exact ib_remw (u64_nz hn)
theorem ib_shr_u64 (x : UInt64) {k2 : IntKind} (n : Nat) : IB .shr .u64 (x.toNat : Int) k2 (n : Int) (.int .u64 ((u64_shr x n).toNat : Int)) := ib_shr (by omega) (u64_shr_ x n)
/-- a number as one of this kind -/
def u64I (n : Int) : UInt64 := UInt64.ofNat (n % 18446744073709551616).toNat
theorem u64I_wrap (n : Int) : IntKind.u64.wrap n = ((u64I n).toNat : Int) := by rw [IntKind.wrap_u64]; unfold u64I; rw [UInt64.toNat_ofNat']; omega
theorem u64_to_u8 (x : UInt64) : IntKind.u8.wrap (x.toNat : Int) = ((UInt8.ofNat x.toNat).toNat : Int) := by rw [IntKind.wrap_u8, UInt8.toNat_ofNat']; omega
theorem u64_to_u32 (x : UInt64) : IntKind.u32.wrap (x.toNat : Int) = ((UInt32.ofNat x.toNat).toNat : Int) := by rw [IntKind.wrap_u32, UInt32.toNat_ofNat']; omega
def i64_and (x y : Int) : Int := bits .and .i64 x y
def i64_shr (x : Int) (n : Nat) : Int := x / 2 ^ (min n 64)
theorem ib_shr_i64 (x : Int) {k2 : IntKind} (n : Nat) : IB .shr .i64 x k2 (n : Int) (.int .i64 (i64_shr x n)) := ib_shr (by omega) rfl
section
variable {P : Program} {o : Oper} {a : Act} {w : World} {N : Nat} {ρ : Slots} {x y : Operand} {t t' : TypeId}
theorem x_neg (h : Knows N ρ a) (ho : o.op = .unOp .neg t x) {k : IntKind} {n r : Int} (hx : ev ρ x = some (.int k n)) (e : k.wrap (0 - n) = r) : (execOp a.eval o).run P w = .ok (.value (.int k r)) w := by
  subst e; simp [execOp, ho, h.eval hx, Op.unary, Op.intArith]
end
end
section
theorem run_eqlIn_SN {P : Program} (w : World) (d : Nat) (t e : TypeId) (a : Option Addr) (n c : Nat) (h : P.underlying t = some (.slice e)) : (Op.equalIn (d + 1) t (.slice a n c) (.slice none 0 0)).run P w = .ok a.isNone w := by
  cases a <;> simp [Op.equalIn, run_underlying h]
theorem hsn {S S' : Snap} {w : World} (h : S.le S') (k : SnapOK S' w) : SnapOK S w := k.le h
section
variable {P : Program} {ops : Array Oper} {rest : List Oper} {o : Oper} {Q : Exit → Act → World → Prop} {N : Nat} {w0 w w' : World} {B : Nat → Prop} {ρ ρ' : Slots} {L L' Ls R : List Ch} {a a' : Act} {d : Nat} {u v : Value} {S S0 S' : Snap} {α : Type} {T : Ty α}
/-- a value of many cells is stored into a part of a variable -/
theorem s_stP (h : St N w0 B ρ L a w) (hg : o.guard = none) {x y : Operand} {t : TypeId} (ho : o.op = .store t x y) (hd : o.dst = none) {n : Nat} (ht : Agg P t n)
    {g off : Nat} (hx : ev ρ x = some (.pointer (some ⟨g, off, none⟩))) {es : List Value} (hy : ev ρ y = some (.agg es.toArray)) (hn : es.length = n) (h1 : ∀ v ∈ es, v.oneCell' = true) (i : Nat) {T : TypeId} {cs : List Value} (hi : L[i]? = some (.box g T cs)) (X Y Z : List Value) (hcs : cs = X ++ (Y ++ Z)) (hX : X.length = off) (hY : Y.length = n)
    (k : ∀ a' w', St N w0 B ρ (L.set i (.box g T (X ++ (es ++ Z)))) a' w' → wpList P ops Q rest a' w') : wpList P ops Q (o :: rest) a w := by
  subst hcs hX
  refine s_stA h hg ho hd ht hx hy hn h1 i hi (by simp; omega) (fun a' w' h => k a' w' (h.parts ?_))
  rw [List.take_left, ← List.drop_drop, List.drop_left, List.drop_left' hY, List.append_assoc]
/-- a variable that is written no more -/
theorem q_freezeBox {g : Nat} {E : TypeId} {cs : List Value} (h : St N w0 B ρ (.box g E cs :: .sn S :: R) a w) (hu : Up B w0 S0 S) : ∃ S', S.le S' ∧ Up B w0 S0 S' ∧ (∀ w', SnapOK S' w' → w'.rangeAt g 0 cs) ∧ St N w0 B ρ (.sn S' :: R) a w := by
  have hb : w.heap[g]? = some (.cells cs.toArray E (0, 0)) := h.m.ok 0 _ rfl
  obtain ⟨S', h1, h2, h3, h4, h5⟩ := h.m.freeze (fun _ hk => hk)
  refine ⟨S', h1, hu.trans ⟨h1, h2⟩, fun w' hw' j v hv => ?_, h.k, h5⟩
  have := hw' g _ ((h4 g rfl).trans hb)
  simp [World.cell?, this, hv]
theorem slS.none_nil {c : Nat} {xs : List α} (k : slS T S none c xs) (hw : SnapOK S w) (hs : 0 < T.sz) : xs = [] := by
  obtain ⟨_, _, vs, h1, h2⟩ := k
  have hl := h2.len
  cases xs with
  | nil => rfl
  | cons x xs =>
    rw [List.length_cons, Nat.add_mul] at hl
    obtain ⟨ad, e, _⟩ := h1 w hw 0 vs[0] (List.getElem?_eq_getElem (by omega))
    cases e
theorem x_eqlSN (h : Knows N ρ a) {x y : Operand} {t t' : TypeId} (ho : o.op = .binOp .eql t x y t') {e : TypeId} (ht : P.underlying t = some (.slice e)) {A : Option Addr} {n c : Nat} (hx : ev ρ x = some (.slice A n c)) (hy : ev ρ y = some (.slice none 0 0)) : (execOp a.eval o).run P w = .ok (.value (.bool A.isNone)) w := by
  have he : (eqGuard .eql t x y (.slice A n c) (.slice none 0 0)).run P w = .ok () w := rfl
  have hq : (Op.equal t (.slice A n c) (.slice none 0 0)).run P w = .ok A.isNone w := by
    exact run_eqlIn_SN w 9999 t e A n c ht
  simp [execOp, ho, h.eval hx, h.eval hy, he, binOp, hq, Result.andThen]
theorem x_eqlSNn (h : Knows N ρ a) {x y : Operand} {t t' : TypeId} (ho : o.op = .binOp .eql t x y t') {e : TypeId} (ht : P.underlying t = some (.slice e)) {n c : Nat} (hx : ev ρ x = some (.slice none n c)) (hy : ev ρ y = some (.slice none 0 0)) : (execOp a.eval o).run P w = .ok (.value (.bool true)) w := x_eqlSN h ho ht hx hy
theorem x_eqlSNs (h : Knows N ρ a) {x y : Operand} {t t' : TypeId} (ho : o.op = .binOp .eql t x y t') {e : TypeId} (ht : P.underlying t = some (.slice e)) {ad : Addr} {n c : Nat} (hx : ev ρ x = some (.slice (some ad) n c)) (hy : ev ρ y = some (.slice none 0 0)) : (execOp a.eval o).run P w = .ok (.value (.bool false)) w := x_eqlSN h ho ht hx hy
/-- '[]T{}' -/
theorem q_bslice0 (h : St N w0 B ρ L a w) (hg : o.guard = none) {t : TypeId} (ho : o.op = .buildSlice t 0 #[]) (hd : o.dst = some d) (hN : d < N) {e : TypeId} (ht : P.underlying t = some (.slice e)) {sz : Nat} (hs : (P.info? e).map (·.size) = some sz)
    (k : ∀ a' w' A, St N w0 B ((d, .slice A 0 0) :: ρ) (.row (.slice A 0 0) e sz 0 [] :: L) a' w' → wpList P ops Q rest a' w') : wpList P ops Q (o :: rest) a w := by
  refine s_of h hg hd hN (v := .slice (some ⟨w.heap.size, 0, none⟩) 0 0) (w' := w.alloc (.cells #[] e)) ?_ (fun a' hk => k a' _ _ ⟨hk, (h.m.alloc (.cells #[] e)).asRow (i := 0) (g := w.heap.size) (E := e) (cs := []) rfl 0 sz (by simp) (by simp [maxLen])⟩)
  simp [execOp, ho, Instr.buildSlice, run_underlying ht, run_size hs, Instr.fill, newRow, newObj, Sem.run]
  have : ((Array.range 0).map (fun (_ : Nat) => (default : Value))) = #[] := by simp [Array.range]
  rw [this]
end
/-! ### left from within -/
section
variable {P : Program} {Q : Exit → Act → World → Prop} {a : Act} {w : World} {R R2 : Act → World → Prop} {id i : Nat}
end
end
end Go.Proofs.Ytohgmggdfmjgnaa
