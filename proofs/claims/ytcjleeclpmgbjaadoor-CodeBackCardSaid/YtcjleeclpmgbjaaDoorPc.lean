/- Texts put together. -/
import Derived.Test.YtcjleeclpmgbjaaDoorPm
import Derived.Laws.BitsAllLaws
import Derived.WalkMore
import Derived.RangeFuncRecord
import Derived.RangeFuncCalls
import Derived.Laws.RangeString
import Derived.ScopeJumps
set_option linter.unusedVariables false
set_option linter.unusedSimpArgs false
namespace Go.Proofs.YtcjleeclpmgbjaaDoor
open Go.RowKit
section
section
theorem u8_lt (x : UInt8) : x.toNat < 256 := x.toNat_lt
theorem u8_add (x y : UInt8) : IntKind.u8.wrap ((x.toNat : Int) + (y.toNat : Int)) = ((x + y).toNat : Int) := by rw [IntKind.wrap_u8, UInt8.toNat_add]; omega
theorem u8_sub (x y : UInt8) : IntKind.u8.wrap ((x.toNat : Int) - (y.toNat : Int)) = ((x - y).toNat : Int) := by have := u8_lt x; have := u8_lt y; rw [IntKind.wrap_u8, UInt8.toNat_sub]; omega
/-- a number as one of this kind -/
def u8I (n : Int) : UInt8 := UInt8.ofNat (n % 256).toNat
theorem u8I_wrap (n : Int) : IntKind.u8.wrap n = ((u8I n).toNat : Int) := by rw [IntKind.wrap_u8]; unfold u8I; rw [UInt8.toNat_ofNat']; omega
/-- a number as one of this kind -/
def u64I (n : Int) : UInt64 := UInt64.ofNat (n % 18446744073709551616).toNat
theorem u64I_wrap (n : Int) : IntKind.u64.wrap n = ((u64I n).toNat : Int) := by rw [IntKind.wrap_u64]; unfold u64I; rw [UInt64.toNat_ofNat']; omega
theorem u8_r32 (x : UInt8) : r32 (x.toNat : Int) := by have := x.toNat_lt; unfold r32; omega
abbrev w32I (n : Int) : Int := IntKind.i32.wrap n
theorem w32I_r (x : Int) : r32 (w32I x) := by unfold r32; show _ ≤ IntKind.i32.wrap x ∧ IntKind.i32.wrap x ≤ _; rw [IntKind.wrap_i32]; omega
theorem w32I_of {x : Int} (h : r32 x) : w32I x = x := by unfold r32 at h; show IntKind.i32.wrap x = x; rw [IntKind.wrap_i32]; omega
def i64_and (x y : Int) : Int := bits .and .i64 x y
theorem i64_and_r (x y : Int) : r64 (i64_and x y) := by unfold i64_and bits; exact w64_r _
def i64_or (x y : Int) : Int := bits .or .i64 x y
theorem i64_and_nat (a b : Nat) (ha : a < 9223372036854775808) (hb : b < 9223372036854775808) : i64_and (a : Int) (b : Int) = ((a &&& b : Nat) : Int) := by
  show IntKind.i64.wrap ((BitVec.ofInt 64 (a : Int) &&& BitVec.ofInt 64 (b : Int)).toNat : Int) = _
  rw [BitVec.ofInt_natCast, BitVec.ofInt_natCast, BitVec.toNat_and, BitVec.toNat_ofNat, BitVec.toNat_ofNat, Nat.mod_eq_of_lt (by omega), Nat.mod_eq_of_lt (by omega)]
  have h : (a &&& b) < 9223372036854775808 := Nat.lt_of_le_of_lt Nat.and_le_left ha
  rw [IntKind.wrap_i64]; omega
def i64_shl (x : Int) (n : Nat) : Int := w64 (x * 2 ^ (min n 64))
def i64_shr (x : Int) (n : Nat) : Int := x / 2 ^ (min n 64)
theorem ib_shl_i64 (x : Int) {k2 : IntKind} (n : Nat) : IB .shl .i64 x k2 (n : Int) (.int .i64 (i64_shl x n)) := ib_shl (by omega) rfl
theorem ib_shr_i64 (x : Int) {k2 : IntKind} (n : Nat) : IB .shr .i64 x k2 (n : Int) (.int .i64 (i64_shr x n)) := ib_shr (by omega) rfl
section
variable {P : Program} {o : Oper} {a : Act} {w : World} {N : Nat} {ρ : Slots} {x y : Operand} {t t' : TypeId}
end
end
section
section
section
variable {P : Program} {ops : Array Oper} {rest : List Oper} {o : Oper} {Q : Exit → Act → World → Prop} {N : Nat} {w0 w w' : World} {B : Nat → Prop} {ρ ρ' : Slots} {L L' Ls R : List Ch} {a a' : Act} {d : Nat} {u v : Value} {S S0 S' : Snap} {α : Type} {T : Ty α}
/-- '[]T{}' -/
theorem q_bslice0 (h : St N w0 B ρ L a w) (hg : o.guard = none) {t : TypeId} (ho : o.op = .buildSlice t 0 #[]) (hd : o.dst = some d) (hN : d < N) {e : TypeId} (ht : P.underlying t = some (.slice e)) {sz : Nat} (hs : (P.info? e).map (·.size) = some sz)
    (k : ∀ a' w' A, St N w0 B ((d, .slice A 0 0) :: ρ) (.row (.slice A 0 0) e sz 0 [] :: L) a' w' → wpList P ops Q rest a' w') : wpList P ops Q (o :: rest) a w := by
  refine s_of h hg hd hN (v := .slice (some ⟨w.heap.size, 0, none⟩) 0 0) (w' := w.alloc (.cells #[] e)) ?_ (fun a' hk => k a' _ _ ⟨hk, (h.m.alloc (.cells #[] e)).asRow (i := 0) (g := w.heap.size) (E := e) (cs := []) rfl 0 sz (by simp) (by simp [maxLen])⟩)
  simp [execOp, ho, Instr.buildSlice, run_underlying ht, run_size hs, Instr.fill, newRow, newObj, Sem.run]
  have : ((Array.range 0).map (fun (_ : Nat) => (default : Value))) = #[] := by simp [Array.range]
  rw [this]
end
/-! ### left from within -/
section
variable {P : Program} {Q : Exit → Act → World → Prop} {a : Act} {w : World} {R R2 : Act → World → Prop} {id i : Nat}
end
end
section
section
variable {α : Type} {T : Ty α} {S S' : Snap}
theorem reps.cut {xs : List α} {cs : List Value} (h1 : T.sz = 1) (hr : reps T S cs xs) (l g : Nat) : reps T S ((cs.take g).drop l) ((xs.take g).drop l) := by
  have := (hr.take g).drop l
  rwa [h1, Nat.mul_one, Nat.mul_one] at this
end
section
variable {P : Program} {ops : Array Oper} {rest : List Oper} {o : Oper} {Q : Exit → Act → World → Prop} {N : Nat} {w0 w w' : World} {B : Nat → Prop} {ρ ρ' : Slots} {L L' Ls R : List Ch} {a a' : Act} {d : Nat} {u v : Value} {S S0 S' : Snap} {α : Type} {T : Ty α}
theorem Rd.sA {A : Option Addr} {c l g sz : Nat} {cs : List Value} (h : Rd w A cs) (h1 : sz = 1) (hg : g ≤ c) : Rd w (sA A c l sz) ((cs.take g).drop l) := by
  have k := (h.take g).tail l c (by rw [List.length_take]; omega)
  subst h1
  unfold Go.Proofs.YtcjleeclpmgbjaaDoor.sA
  rw [Nat.mul_one]
  exact k
end
end
end
end
section
section
section
variable {P : Program} {ops : Array Oper} {Q Q' : Exit → Act → World → Prop} {a : Act} {w : World} {o : Oper}
def NoOut (Q : Exit → Act → World → Prop) : Prop := ∀ a w, ¬ Q .outgrown a w
theorem NoOut.out (h : NoOut Q) : ¬ LetsOut Q := fun ⟨a, w, q⟩ => h a w q
def plusD (a : Act) (D : List Deferred) : Act := { a with defers := a.defers ++ D }
/-- where code stands: in a round; behind a loop over a function -/
inductive Md where
  | round (l n : Nat)
  | tail (D : List Deferred)
def Md.go (P : Program) : Md → Code → (Exit → Act → World → Prop) → Act → World → Prop
  | .round l n, c, Q, a, w => NoOut Q → c.wpIn (Fence.wide.inRound l) n P Q a w
  | .tail D, c, Q, a, w => NoOut Q → c.wp P (fun e a' w' => ∃ a0, a' = plusD a0 D ∧ Q e a0 w') (plusD a D) w
theorem Md.mono {M : Md} {c : Code} (h : M.go P c Q a w) (hq : ∀ e a w, Q e a w → Q' e a w) (ho : NoOut Q' → NoOut Q) : M.go P c Q' a w := by
  cases M with
  | round l n => exact fun hQ => wpIn_mono (h (ho hQ)) hq
  | tail D => exact fun hQ => wp_mono (h (ho hQ)) (fun e a' w' ⟨a0, e0, h0⟩ => ⟨a0, e0, hq _ _ _ h0⟩)
variable {M : Md}
section
variable {N : Nat} {w0 : World} {B : Nat → Prop} {ρ : Slots} {L : List Ch}
/-! ### a loop over a function -/
/-- an iterator's value: handed a loop's yield it hands it these, one by one, till there are no more or it is told so; of memory it reads what stays -/
def IterV {α : Type} (P : Program) (encs : α → Array Value) (v : Value) (xs : List α) (S : Snap) : Prop :=
  ∃ (g : FuncId) (lb : Array Value), v = .func (.func g) #[] lb ∧ (∀ args w, (callFunc g args).run P w = .ok (.enter g args) w) ∧
    ∀ (l : Nat) (J : List α → World → Prop) (Jx : World → Prop) (W : World),
      (∀ k W, J k W → SnapOK S W) → (∀ k W W', J k W → Below W.heap.size W W' → J k W') → (∀ W W', Jx W → Below W.heap.size W W' → Jx W') →
      (∀ pre x rest W1, xs = pre ++ x :: rest → J pre W1 → YieldAt Fence.wide 0 P l (encs x) W1 fun e W' => (e = .returned (.bool true) ∧ J (pre ++ [x]) W') ∨ (e = .returned (.bool false) ∧ Jx W')) →
      J [] W → Calls P g (#[.func (.yield l) #[] #[]] ++ lb) W fun e W' => (∃ v, e = .returned v) ∧ (J xs W' ∨ Jx W')
theorem IterV.mono {α : Type} {encs : α → Array Value} {v : Value} {xs : List α} {S S' : Snap} (h : IterV P encs v xs S) (hS : S.le S') : IterV P encs v xs S' := by
  obtain ⟨g, lb, e, hc, hh⟩ := h
  exact ⟨g, lb, e, hc, fun l J Jx W h1 h2 h3 h4 h5 => hh l J Jx W (fun k W hk b o hb => h1 k W hk b o (hS b o hb)) h2 h3 h4 h5⟩
/-- how a round may be left -/
def RPost (w0 : World) (B : Nat → Prop) (l D : Nat) (o o' : Obj) (I Ix : List Ch → Prop) : Exit → Act → World → Prop
  | .normal, _, w => ∃ L, I L ∧ Mem w0 B (.obj l o :: .obj D o' :: L) w
  | .ret, _, w => ∃ L, Ix L ∧ Mem w0 B (.obj l o :: .obj D o' :: L) w
  | _, _, _ => False
theorem Mem.pickL {x y z : Ch} (h : Mem w0 B (x :: y :: z :: L) w) : Mem w0 B (y :: z :: x :: L) w := by
  refine h.pick ([1, 2, 0] ++ List.range' 3 L.length) _ ?_ ?_
  · rw [List.nodup_append]
    refine ⟨by decide, List.nodup_range', fun a ha b hb => ?_⟩
    rw [List.mem_range'_1] at hb
    simp only [List.mem_cons, List.not_mem_nil, or_false] at ha
    omega
  · rw [List.map_append]
    refine congrArg (fun l : List (Option Ch) => some y :: some z :: some x :: l) (List.ext_getElem? fun i => ?_)
    show (List.map (fun i => (x :: y :: z :: L)[i]?) (List.range' 3 L.length))[i]? = _
    rw [List.getElem?_map, List.getElem?_map]
    by_cases hi : i < L.length
    · rw [List.getElem?_range' hi, List.getElem?_eq_getElem hi]
      show some ((x :: y :: z :: L)[3 + 1 * i]?) = some (some L[i])
      rw [show 3 + 1 * i = i + 1 + 1 + 1 by omega, List.getElem?_cons_succ, List.getElem?_cons_succ, List.getElem?_cons_succ, List.getElem?_eq_getElem hi]
    · rw [List.getElem?_eq_none (by rw [List.length_range']; omega), List.getElem?_eq_none (by omega)]; rfl
theorem St.pickL {x y z : Ch} (h : St N w0 B ρ (x :: y :: z :: L) a w) : St N w0 B ρ (y :: z :: x :: L) a w := ⟨h.k, h.m.pickL⟩
/-! ### a function that holds such a loop -/
/-! ### an iterator -/
theorem St.fresh {S : Snap} (h : Knows N ρ a) (hS : SnapOK S w) : St N w (ownL [.sn S]) ρ [.sn S] a w := ⟨h, Mem.startS hS⟩
theorem RPost.n {l D : Nat} {o o' : Obj} {I Ix : List Ch → Prop} (L : List Ch) (h : I L) (m : Mem w0 B (.obj l o :: .obj D o' :: L) w) : RPost w0 B l D o o' I Ix .normal a w := ⟨L, h, m⟩
theorem RPost.r {l D : Nat} {o o' : Obj} {I Ix : List Ch → Prop} (L : List Ch) (h : Ix L) (m : Mem w0 B (.obj l o :: .obj D o' :: L) w) : RPost w0 B l D o o' I Ix .ret a w := ⟨L, h, m⟩
end
end
end
section
section
/-- the next rune of a text, and the place behind it -/
def rnx (p : List UInt8) (i : Nat) : Sum Unit (Int × Nat) := if i < p.length then .inr (((Utf8.decode (sb p) i).1 : Int), i + (Utf8.decode (sb p) i).2) else .inl ()
section
variable {P : Program} {ops : Array Oper} {rest : List Oper} {o : Oper} {Q : Exit → Act → World → Prop} {N : Nat} {w0 w w' : World} {B : Nat → Prop} {ρ : Slots} {L : List Ch} {a : Act} {d : Nat}
theorem s_range (h : St N w0 B ρ L a w) (hg : o.guard = none) {t : TypeId} {x : Operand} (ho : o.op = .range t x) (hd : o.dst = some d) (hN : d < N) (ht : P.underlying t = some .string) {p : List UInt8} (hx : ev ρ x = some (.string (sb p)))
    (k : ∀ a' w' g, St N w0 B ((d, .pointer (some ⟨g, 0, none⟩)) :: ρ) (.obj g (.stringIter (sb p) 0) :: L) a' w' → wpList P ops Q rest a' w') : wpList P ops Q (o :: rest) a w := by
  refine s_of h hg hd hN (v := .pointer (some ⟨w.heap.size, 0, none⟩)) (w' := w.alloc (.stringIter (sb p) 0)) ?_ (fun a' hk => k a' _ _ ⟨hk, h.m.alloc _⟩)
  simp [execOp, ho, h.k.eval hx, run_range_string w t (sb p) ht, World.iter]
theorem run_next_at (w : World) (g : Nat) (s : ByteArray) (pos : Nat) (ty : TypeId) (hg : w.heap[g]? = some (.stringIter s pos)) (h : pos < s.size) :
    (Instr.next (.pointer (some ⟨g, 0, none⟩)) true ty).run P w = .ok (.tuple #[.bool true, .int .i64 pos, .int .i32 (Utf8.decode s pos).1]) (w.putObj g (.stringIter s (pos + (Utf8.decode s pos).2))) := by
  simp [Instr.next, getObj, setObj, Sem.run, hg, h, goInt, World.putObj]
theorem run_next_fin (w : World) (g : Nat) (s : ByteArray) (pos : Nat) (ty : TypeId) (hg : w.heap[g]? = some (.stringIter s pos)) (h : ¬ pos < s.size) :
    (Instr.next (.pointer (some ⟨g, 0, none⟩)) true ty).run P w = .ok (.tuple #[.bool false]) w := by
  simp [Instr.next, getObj, Sem.run, hg, h]
theorem s_next (h : St N w0 B ρ L a w) (hg : o.guard = none) {x : Operand} (ho : o.op = .next x true) (hd : o.dst = some d) (hN : d < N) {g : Nat} (hx : ev ρ x = some (.pointer (some ⟨g, 0, none⟩))) {p : List UInt8} {pos : Nat} (i : Nat) (hi : L[i]? = some (.obj g (.stringIter (sb p) pos)))
    (k0 : rnx p pos = .inl () → ∀ a', St N w0 B ((d, .tuple #[.bool false]) :: ρ) L a' w → wpList P ops Q rest a' w)
    (k1 : ∀ y : Int × Nat, rnx p pos = .inr y → ∀ a' w', St N w0 B ((d, .tuple #[.bool true, .int .i64 (pos : Int), .int .i32 y.1]) :: ρ) (L.set i (.obj g (.stringIter (sb p) y.2))) a' w' → wpList P ops Q rest a' w') : wpList P ops Q (o :: rest) a w := by
  have hb : w.heap[g]? = some (.stringIter (sb p) pos) := h.m.ok i _ hi
  by_cases hp : pos < p.length
  · refine s_of h hg hd hN (v := .tuple #[.bool true, .int .i64 (pos : Int), .int .i32 (Utf8.decode (sb p) pos).1]) (w' := w.putObj g (.stringIter (sb p) (pos + (Utf8.decode (sb p) pos).2))) ?_ (fun a' hk => k1 (((Utf8.decode (sb p) pos).1 : Int), pos + (Utf8.decode (sb p) pos).2) (by unfold rnx; rw [if_pos hp]) a' _ ⟨hk, ?_⟩)
    · simp [execOp, ho, h.k.eval hx, run_next_at w g (sb p) pos _ hb (by exact hp)]
    · have hlt := (Array.getElem?_eq_some_iff.1 hb).1
      exact h.m.write hi ⟨rfl, rfl, rfl, by simp, fun k hk hn => World.putObj_heap_other (fun e => hn e)⟩ (World.putObj_heap_same hlt) (fun k hk => .inl hk)
  · refine s_of h hg hd hN (v := .tuple #[.bool false]) (w' := w) ?_ (fun a' hk => k0 (by unfold rnx; rw [if_neg hp]) a' ⟨hk, h.m⟩)
    simp [execOp, ho, h.k.eval hx, run_next_fin w g (sb p) pos _ hb (by exact hp)]
end
theorem rnx_ascii {p : List UInt8} {i : Nat} {c : UInt8} (h : p[i]? = some c) (hc : c.toNat < 128) : rnx p i = .inr ((c.toNat : Int), i + 1) := by
  obtain ⟨hi, rfl⟩ := List.getElem?_eq_some_iff.1 h
  unfold rnx
  rw [if_pos hi]
  have e : (sb p)[i]'(by exact hi) = p[i] := rfl
  rw [decode_ascii (sb p) i (by exact hi) (by rw [e]; exact hc), e]
end
section
section
variable {P : Program} {ops : Array Oper} {rest : List Oper} {o : Oper} {Q : Exit → Act → World → Prop} {N : Nat} {w0 w w' : World} {B : Nat → Prop} {ρ ρ' : Slots} {L L' Ls R : List Ch} {a a' : Act} {d : Nat} {u v : Value} {S S0 S' : Snap}
theorem reps8 {S : Snap} : ∀ {xs : List UInt8} {cs : List Value}, reps ty8 S cs xs → cs = by8 xs
  | [], cs, h => h
  | x :: xs, cs, h => by
    obtain ⟨c, ds, e, h1, h2⟩ := h
    subst e
    rw [reps8 h2, show c = _ from h1]
    rfl
end
end
end
end
end Go.Proofs.YtcjleeclpmgbjaaDoor
