/- Lists of sums: an empty list, one sum, and a place's sibling. -/
import Derived.Test.YtlgcfnbhnpnkiaaBig
set_option linter.unusedVariables false
set_option linter.unusedSimpArgs false
namespace Go.Proofs.Ytlgcfnbhnpnkiaa
open Go.RowKit
/-- the other of two -/
def sib (i : Nat) : Nat := if i % 2 = 0 then i + 1 else i - 1
set_option maxRecDepth 100000 in
theorem xor_one (i : Nat) (h : i < 4096) : bits .xor .i64 (i : Int) 1 = ((sib i : Nat) : Int) := by
  have key : ∀ n : Fin 4096, bits .xor .i64 ((n : Nat) : Int) 1 = ((sib n : Nat) : Int) := by decide +kernel
  exact key ⟨i, h⟩
theorem sib_lt (i e : Nat) (h : i < 2 ^ (e + 1)) : sib i < 2 ^ (e + 1) := by rw [Nat.pow_succ] at h ⊢; unfold sib; split <;> omega
section
variable {P : Program} {ops : Array Oper} {Q : Exit → Act → World → Prop} {rest : List Oper} {o : Oper} {N d : Nat} {w0 w w' : World} {B : Nat → Prop} {ρ : Slots} {L L' : List Ch} {a : Act} {v : Value}
theorem s_bslice0 (h : St N w0 B ρ L a w) (hg : o.guard = none) {t : TypeId} (ho : o.op = .buildSlice t 0 #[]) (hd : o.dst = some d) (hN : d < N) {e : TypeId} (ht : P.underlying t = some (.slice e)) {sz : Nat} (hs : (P.info? e).map (·.size) = some sz)
    (k : ∀ a' w' g, St N w0 B ((d, .slice (some ⟨g, 0, none⟩) 0 0) :: ρ) (.row (.slice (some ⟨g, 0, none⟩) 0 0) e sz 0 [] :: L) a' w' → wpList P ops Q rest a' w') : wpList P ops Q (o :: rest) a w := by
  refine s_of h hg hd hN (v := .slice (some ⟨w.heap.size, 0, none⟩) 0 0) (w' := w.alloc (.cells #[] e)) ?_ (fun a' hk => k a' _ _ ⟨hk, (h.m.alloc (.cells #[] e)).asRow (i := 0) (g := w.heap.size) (E := e) (cs := []) rfl 0 sz (by simp) (by simp [maxLen])⟩)
  simp [execOp, ho, Instr.buildSlice, run_underlying ht, run_size hs, Instr.fill, newRow, newObj, Sem.run]
  have : ((Array.range 0).map (fun (_ : Nat) => (default : Value))) = #[] := by simp [Array.range]
  rw [this]
theorem fill1 {z : Value} {x : List UInt8} (hx : x.length = 32) : Instr.fill (fun i => some (i * 32, 32)) ((Array.range (1 * 32)).map (z.cells[· % z.cells.size]!)) [(0, .agg (by8 x).toArray)] = some (by8 x).toArray := by
  have h := fill_mid (place := fun i => some (i * 32, 32)) (i := 0) (v := .agg (by8 x).toArray) (rest := []) (off := 0) (n := 32) (X := []) (Y := ((Array.range (1 * 32)).map (z.cells[· % z.cells.size]!)).toList) (Z := []) rfl rfl (by simp) (by simp [Value.cells, by8_length, hx])
  simp only [List.nil_append, List.append_nil, Array.toArray_toList] at h
  rw [h]
  simp [Instr.fill, Value.cells]
theorem s_bsliceS (h : St N w0 B ρ L a w) (hg : o.guard = none) {t : TypeId} {y : Operand} (ho : o.op = .buildSlice t 1 #[(0, y)]) (hd : o.dst = some d) (hN : d < N) {e : TypeId} (ht : P.underlying t = some (.slice e)) {z : Value} (hz : (P.info? e).map (fun i => (i.zero, i.size)) = some (some z, 32))
    {x : List UInt8} (hy : ev ρ y = some (.agg (by8 x).toArray)) (hx : x.length = 32)
    (k : ∀ a' w' g, St N w0 B ((d, .slice (some ⟨g, 0, none⟩) 1 1) :: ρ) (.box g e (by8 x) :: L) a' w' → wpList P ops Q rest a' w') : wpList P ops Q (o :: rest) a w :=
  s_bslice h hg ho hd hN ht hz [(0, .agg (by8 x).toArray)] (by simp [hy]) (by decide) (by decide) (by8 x) (fill1 hx) k
/-- store: a value of many cells, into row i -/
theorem s_stRA (h : St N w0 B ρ L a w) (hg : o.guard = none) {x y : Operand} {t : TypeId} (ho : o.op = .store t x y) (hd : o.dst = none) {n : Nat} (ht : Agg P t n)
    {g off : Nat} (hx : ev ρ x = some (.pointer (some ⟨g, off, none⟩))) {es : List Value} (hy : ev ρ y = some (.agg es.toArray)) (hn : es.length = n) (h1 : ∀ v ∈ es, v.oneCell' = true) (i : Nat) {T : TypeId} {sz m : Nat} {cs : List Value} (hi : L[i]? = some (.row (.slice (some ⟨g, 0, none⟩) m m) T sz m cs)) (hc : off + n ≤ cs.length)
    (k : ∀ a' w', St N w0 B ρ ((L.set i (.box g T cs)).set i (.box g T (cs.take off ++ es ++ cs.drop (off + n)))) a' w' → wpList P ops Q rest a' w') : wpList P ops Q (o :: rest) a w :=
  s_stA (h.mem (h.m.asBox hi)) hg ho hd ht hx hy hn h1 i (by rw [List.getElem?_set_self (List.getElem?_eq_some_iff.1 hi).1]) hc k
end
end Go.Proofs.Ytlgcfnbhnpnkiaa
