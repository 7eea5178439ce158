/- Texts put together. -/
import Derived.Test.YtohgmggdfmjgnaaK
set_option linter.unusedVariables false
set_option linter.unusedSimpArgs false
namespace Go.Proofs.Ytohgmggdfmjgnaa
open Go.RowKit
section

/-- w' is w, but for new blocks and those of which F tells -/
structure Chg (w w' : World) (F : Nat → Prop) : Prop where
  os : w'.os = w.os
  tape : w'.tape = w.tape
  output : w'.output = w.output
  size : w.heap.size ≤ w'.heap.size
  block : ∀ k, k < w.heap.size → ¬ F k → w'.heap[k]? = w.heap[k]?
theorem Chg.refl (w : World) (F : Nat → Prop) : Chg w w F := ⟨rfl, rfl, rfl, Nat.le_refl _, fun _ _ _ => rfl⟩
theorem Chg.of_below {w w' : World} (h : Below w.heap.size w w') (F : Nat → Prop) : Chg w w' F := ⟨h.os, h.tape, h.output, h.size, fun k hk _ => h.block k hk⟩
theorem Chg.mono {w w' : World} {F G : Nat → Prop} (h : Chg w w' F) (hG : ∀ k, k < w.heap.size → F k → G k) : Chg w w' G := ⟨h.os, h.tape, h.output, h.size, fun k hk hn => h.block k hk (fun hf => hn (hG k hk hf))⟩
/-- two steps; the second may write what is new, too -/
theorem Chg.trans {w w1 w2 : World} {F G : Nat → Prop} (h : Chg w w1 F) (k : Chg w1 w2 G) (hG : ∀ k, G k → F k ∨ w.heap.size ≤ k) : Chg w w2 F :=
  ⟨k.os.trans h.os, k.tape.trans h.tape, k.output.trans h.output, Nat.le_trans h.size k.size, fun i hi hn => by
    rw [k.block i (Nat.lt_of_lt_of_le hi h.size) (fun hg => by rcases hG i hg with h1 | h1; exact hn h1; omega), h.block i hi hn]⟩
theorem Chg.grown {w w' : World} {row : Option Nat} (hg : w.grownBy w' row) (F : Nat → Prop) (hF : ∀ k, row = some k → F k) : Chg w w' F :=
  ⟨hg.os, hg.tape, hg.output, hg.size, fun k hk hn => hg.block k hk (fun e => hn (hF k e.symm))⟩
theorem Chg.setCell {w w' : World} {F : Nat → Prop} (h : Chg w w' F) {p : Addr} (hp : F p.block ∨ w.heap.size ≤ p.block) (u : Value) : Chg w (w'.setCell p u) F :=
  ⟨h.os, h.tape, h.output, by simp [World.setCell]; exact h.size, fun k hk hn => by
    rw [Below.heap_setCell _ _ _ _ (by rintro rfl; rcases hp with hp | hp; exact hn hp; omega), h.block k hk hn]⟩
theorem Chg.alloc {w w' : World} {F : Nat → Prop} (h : Chg w w' F) (o : Obj) : Chg w (w'.alloc o) F :=
  ⟨h.os, h.tape, h.output, le_alloc h.size, fun k hk hn => by
    rw [Below.heap_alloc _ _ _ (Nat.lt_of_lt_of_le hk h.size), h.block k hk hn]⟩
theorem Chg.drewN {w w' : World} {F : Nat → Prop} (h : Chg w w' F) (n : Nat) : Chg w (w'.drewN n) F := ⟨h.os, h.tape, h.output, h.size, h.block⟩
theorem Chg.cell {w w' : World} {F : Nat → Prop} (h : Chg w w' F) {p : Addr} {v : Value} (hc : w.cell? p = some v) (hp : ¬ F p.block) : w'.cell? p = some v :=
  (World.cell?_of_block (w := w) (h.block p.block (World.block_lt_of_cell? w p hc) hp)).trans hc
/-- what can be read lies in memory -/
theorem rd_lt {w : World} {A : Option Addr} {cs : List Value} (h : Rd w A cs) : ∀ a, A = some a → cs ≠ [] → a.block < w.heap.size := by
  intro a ha hne
  obtain ⟨c, hc⟩ : ∃ c, cs[0]? = some c := ⟨cs[0]'(List.length_pos_iff.2 hne), List.getElem?_eq_getElem _⟩
  obtain ⟨ad, e, h1⟩ := h 0 c hc
  rw [ha] at e; cases e
  have := World.block_lt_of_cell? w _ h1
  simpa [Addr.add] using this
/-- a block that is known whole -/
theorem blk_cell {w : World} {g : Nat} {t : TypeId} {cs : Array Value} (h : w.heap[g]? = some (.cells cs t (0, 0))) (i : Nat) : w.cell? ⟨g, i, none⟩ = cs[i]? := cell_of_row w g i cs t (0, 0) h
theorem blk_frozen {w : World} {g : Nat} {t : TypeId} {cs : Array Value} (h : w.heap[g]? = some (.cells cs t (0, 0))) (i : Nat) : w.frozen? ⟨g, i, none⟩ = false := frozen_of_row w g i cs t h
theorem blk_lt {w : World} {g : Nat} {o : Obj} (h : w.heap[g]? = some o) : g < w.heap.size := (Array.getElem?_eq_some_iff.1 h).1
theorem blk_set {w : World} {g : Nat} {t : TypeId} {cs : Array Value} (h : w.heap[g]? = some (.cells cs t (0, 0))) (i : Nat) (u : Value) : (w.setCell ⟨g, i, none⟩ u).heap[g]? = some (.cells (cs.setIfInBounds i u) t (0, 0)) := heap_setCell_same w g i cs t u h
end
section

/-- something that is read, and never written: it depends on the blocks 'use' alone -/
structure RP where
  use : Nat → Prop
  p : World → Prop
  loc : ∀ w w' : World, w.heap.size ≤ w'.heap.size → (∀ k, use k → k < w.heap.size → w'.heap[k]? = w.heap[k]?) → p w → p w'
  lt : ∀ w, p w → ∀ k, use k → k < w.heap.size
/-- a part of memory -/
inductive Ch where
  | obj (g : Nat) (o : Obj)
  | row (v : Value) (E : TypeId) (sz n : Nat) (cs : List Value)
  | ro (r : RP)
  | gen (r : RP)
/-- a variable's block -/
abbrev Ch.box (g : Nat) (T : TypeId) (cs : List Value) : Ch := .obj g (.cells cs.toArray T (0, 0))
def Ch.ok (w : World) : Ch → Prop
  | .obj g o => w.heap[g]? = some o
  | .row v E sz n cs => w.ownsRow 0 E sz v n cs
  | .ro r => r.p w
  | .gen r => r.p w
def Ch.own : Ch → Nat → Prop
  | .obj g _, k => k = g
  | .row v _ _ _ _, k => v.ownBlock = some k
  | .ro _, _ => False
  | .gen r, k => r.use k
def Ch.use : Ch → Nat → Prop
  | .ro r, k => r.use k
  | x, k => x.own k
theorem Ch.own_use {x : Ch} {k : Nat} (h : x.own k) : x.use k := by cases x <;> first | exact h | exact h.elim
theorem Ch.lt {w : World} {x : Ch} (h : x.ok w) {k : Nat} (hk : x.use k) : k < w.heap.size := by
  cases x with
  | obj g o => obtain rfl : k = g := hk; exact blk_lt h
  | row v E sz n cs => exact (World.ownsRow.lt h k hk).2
  | ro r => exact r.lt w h k hk
  | gen r => exact r.lt w h k hk
theorem Ch.keep {w w' : World} {x : Ch} (h : x.ok w) (hs : w.heap.size ≤ w'.heap.size) (hb : ∀ k, x.use k → k < w.heap.size → w'.heap[k]? = w.heap[k]?) : x.ok w' := by
  cases x with
  | obj g o => exact (hb g rfl (blk_lt h)).trans h
  | row v E sz n cs =>
    refine ⟨h.1, ?_⟩
    rcases h.2 with h2 | ⟨g, cap, cur, hv', hg, hh, r⟩
    · exact .inl h2
    · exact .inr ⟨g, cap, cur, hv', hg, by rw [hb g (by subst hv'; rfl) (blk_lt hh)]; exact hh, r⟩
  | ro r => exact r.loc w w' hs hb h
  | gen r => exact r.loc w w' hs hb h
/-- what one part has the other does not use -/
def Ch.apart (x y : Ch) : Prop := ∀ k, ¬ (x.own k ∧ y.use k) ∧ ¬ (y.own k ∧ x.use k)
theorem Ch.apart.symm {x y : Ch} (h : x.apart y) : y.apart x := fun k => ⟨(h k).2, (h k).1⟩
/-- memory: since w0 blocks of B and new ones have changed alone; these parts lie there -/
structure Mem (w0 : World) (B : Nat → Prop) (L : List Ch) (w : World) : Prop where
  chg : Chg w0 w B
  ok : ∀ (i : Nat) (x : Ch), L[i]? = some x → x.ok w
  apart : ∀ (i j : Nat) (x y : Ch), i ≠ j → L[i]? = some x → L[j]? = some y → x.apart y
  base : ∀ (i : Nat) (x : Ch), L[i]? = some x → ∀ k, x.own k → B k ∨ w0.heap.size ≤ k
variable {w0 w w' : World} {B : Nat → Prop} {L : List Ch}
theorem Mem.start (w : World) (B : Nat → Prop) : Mem w B [] w := ⟨Chg.refl w B, fun i x h => by simp at h, fun i j x y _ h => by simp at h, fun i x h => by simp at h⟩
/-- nothing that was there has changed -/
theorem Mem.ext (h : Mem w0 B L w) (k : Below w.heap.size w w') : Mem w0 B L w' :=
  ⟨h.chg.trans (Chg.of_below k (fun _ => False)) (fun _ h => h.elim), fun i x hx => Ch.keep (h.ok i x hx) k.size (fun j _ hj => k.block j hj), h.apart, h.base⟩
theorem Mem.drewN (h : Mem w0 B L w) (n : Nat) : Mem w0 B L (w.drewN n) := h.ext ⟨rfl, rfl, rfl, Nat.le_refl _, fun _ _ => rfl⟩
theorem Mem.drew (h : Mem w0 B L w) : Mem w0 B L w.drew := h.ext ⟨rfl, rfl, rfl, Nat.le_refl _, fun _ _ => rfl⟩
theorem Mem.size (h : Mem w0 B L w) : w0.heap.size ≤ w.heap.size := h.chg.size
/-- a part more -/
theorem Mem.add (h : Mem w0 B L w) {x : Ch} (hx : x.ok w) (hb : ∀ k, x.own k → B k ∨ w0.heap.size ≤ k) (ha : ∀ (i : Nat) (y : Ch), L[i]? = some y → x.apart y) : Mem w0 B (x :: L) w := by
  refine ⟨h.chg, fun i y hy => ?_, fun i j y z hne hy hz => ?_, fun i y hy => ?_⟩
  · cases i with
    | zero => simp at hy; subst hy; exact hx
    | succ i => exact h.ok i y (by simpa using hy)
  · cases i with
    | zero =>
      cases j with
      | zero => exact absurd rfl hne
      | succ j => simp at hy hz; subst hy; exact ha j z hz
    | succ i =>
      cases j with
      | zero => simp at hy hz; subst hz; exact (ha i y hy).symm
      | succ j => exact h.apart i j y z (by omega) (by simpa using hy) (by simpa using hz)
  · cases i with
    | zero => simp at hy; subst hy; exact hb
    | succ i => exact h.base i y (by simpa using hy)
/-- new memory -/
theorem Mem.new (h : Mem w0 B L w) (k : Below w.heap.size w w') {x : Ch} (hx : x.ok w') (hn : ∀ k, x.use k → w.heap.size ≤ k) : Mem w0 B (x :: L) w' := by
  refine (h.ext k).add hx (fun j hj => .inr (Nat.le_trans h.size (hn j (Ch.own_use hj)))) (fun i y hy j => ⟨fun ⟨h1, h2⟩ => ?_, fun ⟨h1, h2⟩ => ?_⟩)
  · have := Ch.lt (h.ok i y hy) h2; have := hn j (Ch.own_use h1); omega
  · have := Ch.lt (h.ok i y hy) (Ch.own_use h1); have := hn j h2; omega
theorem Mem.alloc (h : Mem w0 B L w) (o : Obj) : Mem w0 B (.obj w.heap.size o :: L) (w.alloc o) :=
  h.new (below_alloc (Below.refl _ _) _) (heap_alloc_new w o) (fun k hk => by obtain rfl : k = w.heap.size := hk; exact Nat.le_refl _)
/-- something that is only read: new, or of what lies apart from all that is owned -/
theorem Mem.read (h : Mem w0 B L w) (r : RP) (hr : r.p w) (hu : ∀ k, r.use k → ∀ (i : Nat) (y : Ch), L[i]? = some y → ¬ y.own k) : Mem w0 B (.ro r :: L) w :=
  h.add (x := .ro r) hr (fun _ h => h.elim) (fun i y hy k => ⟨fun h => h.1.elim, fun ⟨h1, h2⟩ => hu k h2 i y hy h1⟩)
/-- parts left out, or in another order -/
theorem Mem.pick (h : Mem w0 B L w) (is : List Nat) (L' : List Ch) (hn : is.Nodup) (hL : is.map (fun i => L[i]?) = L'.map some) : Mem w0 B L' w := by
  have key : ∀ (i : Nat) (x : Ch), L'[i]? = some x → ∃ j, is[i]? = some j ∧ L[j]? = some x := by
    intro i x hx
    have h1 : (L'.map some)[i]? = some (some x) := by rw [List.getElem?_map, hx]; rfl
    rw [← hL, List.getElem?_map] at h1
    cases hj : is[i]? with
    | none => rw [hj] at h1; cases h1
    | some j => rw [hj] at h1; exact ⟨j, rfl, by simpa using h1⟩
  refine ⟨h.chg, fun i x hx => ?_, fun i j x y hne hx hy => ?_, fun i x hx => ?_⟩
  · obtain ⟨j, _, hj⟩ := key i x hx; exact h.ok j x hj
  · obtain ⟨a, ha, ha'⟩ := key i x hx
    obtain ⟨b, hb, hb'⟩ := key j y hy
    refine h.apart a b x y (fun e => hne ?_) ha' hb'
    subst e
    obtain ⟨hi, e1⟩ := List.getElem?_eq_some_iff.1 ha
    obtain ⟨hj, e2⟩ := List.getElem?_eq_some_iff.1 hb
    exact (List.getElem_inj hn).1 (e1.trans e2.symm)
  · obtain ⟨j, _, hj⟩ := key i x hx; exact h.base j x hj
/-- a part is written -/
theorem Mem.write (h : Mem w0 B L w) {i : Nat} {x x' : Ch} (hi : L[i]? = some x) (k : Chg w w' x.own) (hx : x'.ok w') (ho : ∀ k, x'.use k → x.own k ∨ w.heap.size ≤ k) : Mem w0 B (L.set i x') w' := by
  have hlt : i < L.length := (List.getElem?_eq_some_iff.1 hi).1
  have keep : ∀ (j : Nat) (y : Ch), j ≠ i → L[j]? = some y → y.ok w' := fun j y hj hy => Ch.keep (h.ok j y hy) k.size (fun b hb hb2 => k.block b hb2 (fun hown => (h.apart i j x y (Ne.symm hj) hi hy b).1 ⟨hown, hb⟩))
  have sep : ∀ (j : Nat) (y : Ch), j ≠ i → L[j]? = some y → x'.apart y := fun j y hj hy b => by
    have ha := h.apart i j x y (Ne.symm hj) hi hy b
    refine ⟨fun ⟨h1, h2⟩ => ?_, fun ⟨h1, h2⟩ => ?_⟩
    · rcases ho b (Ch.own_use h1) with h3 | h3
      · exact ha.1 ⟨h3, h2⟩
      · have := Ch.lt (h.ok j y hy) h2; omega
    · rcases ho b h2 with h3 | h3
      · exact ha.1 ⟨h3, Ch.own_use h1⟩
      · have := Ch.lt (h.ok j y hy) (Ch.own_use h1); omega
  have at_ : ∀ (j : Nat) (y : Ch), (L.set i x')[j]? = some y → (j = i ∧ y = x') ∨ (j ≠ i ∧ L[j]? = some y) := by
    intro j y hy
    by_cases e : j = i
    · subst e; rw [List.getElem?_set_self hlt] at hy; exact .inl ⟨rfl, by cases hy; rfl⟩
    · rw [List.getElem?_set_ne (Ne.symm e)] at hy; exact .inr ⟨e, hy⟩
  refine ⟨h.chg.trans k (fun b hb => h.base i x hi b hb), fun j y hy => ?_, fun j l y z hne hy hz => ?_, fun j y hy b hb => ?_⟩
  · rcases at_ j y hy with ⟨_, rfl⟩ | ⟨hj, hy'⟩
    · exact hx
    · exact keep j y hj hy'
  · rcases at_ j y hy with ⟨e1, rfl⟩ | ⟨hj, hy'⟩
    · rcases at_ l z hz with ⟨e2, rfl⟩ | ⟨hl, hz'⟩
      · exact absurd (e1.trans e2.symm) hne
      · exact sep l z hl hz'
    · rcases at_ l z hz with ⟨e2, rfl⟩ | ⟨hl, hz'⟩
      · exact (sep j y hj hy').symm
      · exact h.apart j l y z hne hy' hz'
  · rcases at_ j y hy with ⟨_, rfl⟩ | ⟨hj, hy'⟩
    · rcases ho b (Ch.own_use hb) with h3 | h3
      · exact h.base i x hi b h3
      · exact .inr (Nat.le_trans h.size h3)
    · exact h.base j y hy' b hb
/-! ### cells -/
theorem Mem.cell (h : Mem w0 B L w) {i g : Nat} {T : TypeId} {cs : List Value} (hi : L[i]? = some (.box g T cs)) (j : Nat) : w.cell? ⟨g, j, none⟩ = cs[j]? := by
  rw [blk_cell (h.ok i _ hi)]; simp
theorem Mem.frozen (h : Mem w0 B L w) {i g : Nat} {T : TypeId} {cs : List Value} (hi : L[i]? = some (.box g T cs)) (j : Nat) : w.frozen? ⟨g, j, none⟩ = false := blk_frozen (h.ok i _ hi) j
theorem Mem.set (h : Mem w0 B L w) {i g : Nat} {T : TypeId} {cs : List Value} (hi : L[i]? = some (.box g T cs)) (j : Nat) (u : Value) : Mem w0 B (L.set i (.box g T (cs.set j u))) (w.setCell ⟨g, j, none⟩ u) :=
  h.write hi (x := .box g T cs) ((Chg.refl w (Ch.box g T cs).own).setCell (p := ⟨g, j, none⟩) (.inl rfl) u) (by have := blk_set (h.ok i _ hi) j u; simpa [Ch.ok] using this) (fun k hk => .inl hk)
end
end Go.Proofs.Ytohgmggdfmjgnaa
