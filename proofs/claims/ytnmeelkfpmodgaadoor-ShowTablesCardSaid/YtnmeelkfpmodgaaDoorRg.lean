/- Steps: a range over a string. -/
import Derived.Test.YtnmeelkfpmodgaaDoorPk
import Derived.Test.YtnmeelkfpmodgaaDoorPr
import Derived.Laws.RangeString
set_option linter.unusedVariables false
set_option linter.unusedSimpArgs false
namespace Go.Proofs.YtnmeelkfpmodgaaDoor
open Go.RowKit
/-- the next rune of a text, and the place behind it -/
def rnx (p : List UInt8) (i : Nat) : Sum Unit (Int × Nat) := if i < p.length then .inr (((Utf8.decode (sb p) i).1 : Int), i + (Utf8.decode (sb p) i).2) else .inl ()
section
variable {P : Program} {ops : Array Oper} {rest : List Oper} {o : Oper} {Q : Exit → Act → World → Prop} {N : Nat} {w0 w w' : World} {B : Nat → Prop} {ρ : Slots} {L : List Ch} {a : Act} {d : Nat}
theorem s_range (h : St N w0 B ρ L a w) (hg : o.guard = none) {t : TypeId} {x : Operand} (ho : o.op = .range t x) (hd : o.dst = some d) (hN : d < N) (ht : P.underlying t = some .string) {p : List UInt8} (hx : ev ρ x = some (.string (sb p)))
    (k : ∀ a' w' g, St N w0 B ((d, .pointer (some ⟨g, 0, none⟩)) :: ρ) (.obj g (.stringIter (sb p) 0) :: L) a' w' → wpList P ops Q rest a' w') : wpList P ops Q (o :: rest) a w := by
  refine s_of h hg hd hN (v := .pointer (some ⟨w.heap.size, 0, none⟩)) (w' := w.alloc (.stringIter (sb p) 0)) ?_ (fun a' hk => k a' _ _ ⟨hk, h.m.alloc _⟩)
  simp [execOp, ho, h.k.eval hx, run_range_string w t (sb p) ht, World.iter]
theorem run_next_at (w : World) (g : Nat) (s : ByteArray) (pos : Nat) (ty : TypeId) (hg : w.heap[g]? = some (.stringIter s pos)) (h : pos < s.size) :
    (Instr.next (.pointer (some ⟨g, 0, none⟩)) true ty).run P w = .ok (.tuple #[.bool true, .int .i64 pos, .int .i32 (Utf8.decode s pos).1]) (w.putObj g (.stringIter s (pos + (Utf8.decode s pos).2))) := by
  simp [Instr.next, getObj, setObj, Sem.run, hg, h, goInt, World.putObj]
theorem run_next_fin (w : World) (g : Nat) (s : ByteArray) (pos : Nat) (ty : TypeId) (hg : w.heap[g]? = some (.stringIter s pos)) (h : ¬ pos < s.size) :
    (Instr.next (.pointer (some ⟨g, 0, none⟩)) true ty).run P w = .ok (.tuple #[.bool false]) w := by
  simp [Instr.next, getObj, Sem.run, hg, h]
theorem s_next (h : St N w0 B ρ L a w) (hg : o.guard = none) {x : Operand} (ho : o.op = .next x true) (hd : o.dst = some d) (hN : d < N) {g : Nat} (hx : ev ρ x = some (.pointer (some ⟨g, 0, none⟩))) {p : List UInt8} {pos : Nat} (i : Nat) (hi : L[i]? = some (.obj g (.stringIter (sb p) pos)))
    (k0 : rnx p pos = .inl () → ∀ a', St N w0 B ((d, .tuple #[.bool false]) :: ρ) L a' w → wpList P ops Q rest a' w)
    (k1 : ∀ y : Int × Nat, rnx p pos = .inr y → ∀ a' w', St N w0 B ((d, .tuple #[.bool true, .int .i64 (pos : Int), .int .i32 y.1]) :: ρ) (L.set i (.obj g (.stringIter (sb p) y.2))) a' w' → wpList P ops Q rest a' w') : wpList P ops Q (o :: rest) a w := by
  have hb : w.heap[g]? = some (.stringIter (sb p) pos) := h.m.ok i _ hi
  by_cases hp : pos < p.length
  · refine s_of h hg hd hN (v := .tuple #[.bool true, .int .i64 (pos : Int), .int .i32 (Utf8.decode (sb p) pos).1]) (w' := w.putObj g (.stringIter (sb p) (pos + (Utf8.decode (sb p) pos).2))) ?_ (fun a' hk => k1 (((Utf8.decode (sb p) pos).1 : Int), pos + (Utf8.decode (sb p) pos).2) (by unfold rnx; rw [if_pos hp]) a' _ ⟨hk, ?_⟩)
    · simp [execOp, ho, h.k.eval hx, run_next_at w g (sb p) pos _ hb (by exact hp)]
    · have hlt := (Array.getElem?_eq_some_iff.1 hb).1
      exact h.m.write hi ⟨rfl, rfl, rfl, by simp, fun k hk hn => World.putObj_heap_other (fun e => hn e)⟩ (World.putObj_heap_same hlt) (fun k hk => .inl hk)
  · refine s_of h hg hd hN (v := .tuple #[.bool false]) (w' := w) ?_ (fun a' hk => k0 (by unfold rnx; rw [if_neg hp]) a' ⟨hk, h.m⟩)
    simp [execOp, ho, h.k.eval hx, run_next_fin w g (sb p) pos _ hb (by exact hp)]
end
theorem rnx_ascii {p : List UInt8} {i : Nat} {c : UInt8} (h : p[i]? = some c) (hc : c.toNat < 128) : rnx p i = .inr ((c.toNat : Int), i + 1) := by
  obtain ⟨hi, rfl⟩ := List.getElem?_eq_some_iff.1 h
  unfold rnx
  rw [if_pos hi]
  have e : (sb p)[i]'(by exact hi) = p[i] := rfl
  rw [decode_ascii (sb p) i (by exact hi) (by rw [e]; exact hc), e]
theorem dec_lt (s : ByteArray) (i : Nat) : (Utf8.decode s i).1 < 2097152 := by
  have h0 : (s.get! (i + 0)).toNat < 256 := UInt8.toNat_lt _
  unfold Utf8.decode
  simp only []
  repeat' split
  all_goals (simp only [Utf8.runeError]; try omega)
theorem rnx_r32 {p : List UInt8} {i : Nat} {y : Int × Nat} (h : rnx p i = .inr y) : r32 y.1 := by
  unfold rnx at h
  split at h
  · obtain rfl := Sum.inr.inj h
    have := dec_lt (sb p) i
    unfold r32
    dsimp only
    omega
  · cases h
theorem rnx_r64 {p : List UInt8} {i : Nat} {y : Int × Nat} (h : rnx p i = .inr y) (hp : p.length ≤ maxLen) : r64 (i : Int) := by
  unfold rnx at h
  split at h
  · unfold r64; unfold maxLen at hp; omega
  · cases h
end Go.Proofs.YtnmeelkfpmodgaaDoor
