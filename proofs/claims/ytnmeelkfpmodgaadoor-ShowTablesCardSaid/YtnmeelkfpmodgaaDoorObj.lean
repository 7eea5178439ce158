/- Small words for memory that a call writes: what may change (Chg), and what stays. -/
import Derived.Test.YtnmeelkfpmodgaaDoorK
set_option linter.unusedVariables false
set_option linter.unusedSimpArgs false
namespace Go.Proofs.YtnmeelkfpmodgaaDoor
open Go.RowKit

/-- w' is w, but for new blocks and those of which F tells -/
structure Chg (w w' : World) (F : Nat → Prop) : Prop where
  os : w'.os = w.os
  tape : w'.tape = w.tape
  output : w'.output = w.output
  size : w.heap.size ≤ w'.heap.size
  block : ∀ k, k < w.heap.size → ¬ F k → w'.heap[k]? = w.heap[k]?
theorem Chg.refl (w : World) (F : Nat → Prop) : Chg w w F := ⟨rfl, rfl, rfl, Nat.le_refl _, fun _ _ _ => rfl⟩
theorem Chg.of_below {w w' : World} (h : Below w.heap.size w w') (F : Nat → Prop) : Chg w w' F := ⟨h.os, h.tape, h.output, h.size, fun k hk _ => h.block k hk⟩
theorem Chg.mono {w w' : World} {F G : Nat → Prop} (h : Chg w w' F) (hG : ∀ k, k < w.heap.size → F k → G k) : Chg w w' G := ⟨h.os, h.tape, h.output, h.size, fun k hk hn => h.block k hk (fun hf => hn (hG k hk hf))⟩
/-- two steps; the second may write what is new, too -/
theorem Chg.trans {w w1 w2 : World} {F G : Nat → Prop} (h : Chg w w1 F) (k : Chg w1 w2 G) (hG : ∀ k, G k → F k ∨ w.heap.size ≤ k) : Chg w w2 F :=
  ⟨k.os.trans h.os, k.tape.trans h.tape, k.output.trans h.output, Nat.le_trans h.size k.size, fun i hi hn => by
    rw [k.block i (Nat.lt_of_lt_of_le hi h.size) (fun hg => by rcases hG i hg with h1 | h1; exact hn h1; omega), h.block i hi hn]⟩
theorem Chg.grown {w w' : World} {row : Option Nat} (hg : w.grownBy w' row) (F : Nat → Prop) (hF : ∀ k, row = some k → F k) : Chg w w' F :=
  ⟨hg.os, hg.tape, hg.output, hg.size, fun k hk hn => hg.block k hk (fun e => hn (hF k e.symm))⟩
theorem Chg.setCell {w w' : World} {F : Nat → Prop} (h : Chg w w' F) {p : Addr} (hp : F p.block ∨ w.heap.size ≤ p.block) (u : Value) : Chg w (w'.setCell p u) F :=
  ⟨h.os, h.tape, h.output, by simp [World.setCell]; exact h.size, fun k hk hn => by
    rw [Below.heap_setCell _ _ _ _ (by rintro rfl; rcases hp with hp | hp; exact hn hp; omega), h.block k hk hn]⟩
theorem Chg.alloc {w w' : World} {F : Nat → Prop} (h : Chg w w' F) (o : Obj) : Chg w (w'.alloc o) F :=
  ⟨h.os, h.tape, h.output, le_alloc h.size, fun k hk hn => by
    rw [Below.heap_alloc _ _ _ (Nat.lt_of_lt_of_le hk h.size), h.block k hk hn]⟩
theorem Chg.drewN {w w' : World} {F : Nat → Prop} (h : Chg w w' F) (n : Nat) : Chg w (w'.drewN n) F := ⟨h.os, h.tape, h.output, h.size, h.block⟩
theorem Chg.cell {w w' : World} {F : Nat → Prop} (h : Chg w w' F) {p : Addr} {v : Value} (hc : w.cell? p = some v) (hp : ¬ F p.block) : w'.cell? p = some v :=
  (World.cell?_of_block (w := w) (h.block p.block (World.block_lt_of_cell? w p hc) hp)).trans hc
/-- a block that is known whole -/
theorem blk_cell {w : World} {g : Nat} {t : TypeId} {cs : Array Value} (h : w.heap[g]? = some (.cells cs t (0, 0))) (i : Nat) : w.cell? ⟨g, i, none⟩ = cs[i]? := cell_of_row w g i cs t (0, 0) h
theorem blk_frozen {w : World} {g : Nat} {t : TypeId} {cs : Array Value} (h : w.heap[g]? = some (.cells cs t (0, 0))) (i : Nat) : w.frozen? ⟨g, i, none⟩ = false := frozen_of_row w g i cs t h
theorem blk_lt {w : World} {g : Nat} {o : Obj} (h : w.heap[g]? = some o) : g < w.heap.size := (Array.getElem?_eq_some_iff.1 h).1
theorem blk_set {w : World} {g : Nat} {t : TypeId} {cs : Array Value} (h : w.heap[g]? = some (.cells cs t (0, 0))) (i : Nat) (u : Value) : (w.setCell ⟨g, i, none⟩ u).heap[g]? = some (.cells (cs.setIfInBounds i u) t (0, 0)) := heap_setCell_same w g i cs t u h
end Go.Proofs.YtnmeelkfpmodgaaDoor
