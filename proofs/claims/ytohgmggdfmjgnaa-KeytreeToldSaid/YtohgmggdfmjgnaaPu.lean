/- Data that stays: a snapshot of blocks, and how values read in it (Ty); contracts whose answers are plain functions. -/
import Derived.Test.YtohgmggdfmjgnaaOpen
set_option linter.unusedVariables false
set_option linter.unusedSimpArgs false
namespace Go.Proofs.Ytohgmggdfmjgnaa
open Go.RowKit

/-- blocks that are not written any more -/
abbrev Snap := Nat → Option Obj
def Snap.le (S S' : Snap) : Prop := ∀ k o, S k = some o → S' k = some o
theorem Snap.le.refl (S : Snap) : S.le S := fun _ _ h => h
theorem Snap.le.trans {S S' S'' : Snap} (h : S.le S') (h' : S'.le S'') : S.le S'' := fun k o hk => h' k o (h k o hk)
def SnapOK (S : Snap) (w : World) : Prop := ∀ k o, S k = some o → w.heap[k]? = some o
def snapAll (w : World) : Snap := fun k => w.heap[k]?
theorem snapAll_ok (w : World) : SnapOK (snapAll w) w := fun _ _ h => h
def snapP (S : Snap) : RP where
  use k := ∃ o, S k = some o
  p w := SnapOK S w
  loc w w' hs hb h := fun k o hk => by
    have h1 := h k o hk
    rw [hb k ⟨o, hk⟩ (blk_lt h1)]; exact h1
  lt w h k := fun ⟨o, hk⟩ => blk_lt (h k o hk)
abbrev Ch.sn (S : Snap) : Ch := .ro (snapP S)
theorem SnapOK.le {S S' : Snap} {w : World} (h : S.le S') (k : SnapOK S' w) : SnapOK S w := fun i o hi => k i o (h i o hi)
/-- these cells stay -/
def RdS (S : Snap) (A : Option Addr) (cs : List Value) : Prop := ∀ w, SnapOK S w → Rd w A cs
theorem RdS.mono {S S' : Snap} {A : Option Addr} {cs : List Value} (h : S.le S') (k : RdS S A cs) : RdS S' A cs := fun w hw => k w (hw.le h)
theorem RdS.nil (S : Snap) (A : Option Addr) : RdS S A [] := fun w _ => Rd.nil w A
theorem RdS.all {w : World} {A : Option Addr} {cs : List Value} (h : Rd w A cs) : RdS (snapAll w) A cs := fun w' hw i c hc => by
  obtain ⟨ad, rfl, h1⟩ := h i c hc
  have hlt := World.block_lt_of_cell? w _ h1
  refine ⟨ad, rfl, (World.cell?_of_block (w := w) ?_).trans h1⟩
  cases hq : w.heap[(ad.add i).block]? with
  | none => exact absurd hlt (by have := Array.getElem?_eq_none_iff.1 hq; omega)
  | some o => exact hw _ o hq
theorem RdS.tail {S : Snap} {A : Option Addr} {cs : List Value} (h : RdS S A cs) (n c : Nat) (hc : cs.length ≤ c) : RdS S (if c = n then A else A.map (·.add n)) (cs.drop n) := fun w hw => (h w hw).tail n c hc
theorem RdS.take {S : Snap} {A : Option Addr} {cs : List Value} (h : RdS S A cs) (n : Nat) : RdS S A (cs.take n) := fun w hw => (h w hw).take n
/-- how data of one kind reads: its cells -/
structure Ty (α : Type) where
  sz : Nat
  rep : Snap → List Value → α → Prop
  mono : ∀ {S S' : Snap} {cs : List Value} {x : α}, S.le S' → rep S cs x → rep S' cs x
  len : ∀ {S : Snap} {cs : List Value} {x : α}, rep S cs x → cs.length = sz
  one : ∀ {S : Snap} {cs : List Value} {x : α}, rep S cs x → ∀ u ∈ cs, u.oneCell' = true
variable {α β : Type}
def reps (a : Ty α) (S : Snap) : List Value → List α → Prop
  | vs, [] => vs = []
  | vs, x :: xs => ∃ c1 c2, vs = c1 ++ c2 ∧ a.rep S c1 x ∧ reps a S c2 xs
section
variable {a : Ty α} {S S' : Snap}
theorem reps.mono (h : S.le S') : ∀ {xs : List α} {vs : List Value}, reps a S vs xs → reps a S' vs xs
  | [], _, k => k
  | _ :: _, _, ⟨c1, c2, e, k1, k2⟩ => ⟨c1, c2, e, a.mono h k1, reps.mono h k2⟩
theorem reps.len : ∀ {xs : List α} {vs : List Value}, reps a S vs xs → vs.length = xs.length * a.sz
  | [], _, k => by rw [show _ = _ from k]; simp
  | x :: xs, _, ⟨c1, c2, e, k1, k2⟩ => by rw [e, List.length_append, a.len k1, k2.len, List.length_cons, Nat.add_mul]; omega
theorem reps.one : ∀ {xs : List α} {vs : List Value}, reps a S vs xs → ∀ u ∈ vs, u.oneCell' = true
  | [], _, k => fun u hu => by rw [show _ = _ from k] at hu; simp at hu
  | x :: xs, _, ⟨c1, c2, e, k1, k2⟩ => fun u hu => by
    rw [e] at hu
    rcases List.mem_append.1 hu with h | h
    · exact a.one k1 u h
    · exact k2.one u h
theorem reps.append : ∀ {xs ys : List α} {vs us : List Value}, reps a S vs xs → reps a S us ys → reps a S (vs ++ us) (xs ++ ys)
  | [], _, _, _, k, k' => by rw [show _ = _ from k]; exact k'
  | x :: xs, ys, _, us, ⟨c1, c2, e, k1, k2⟩, k' => ⟨c1, c2 ++ us, by rw [e, List.append_assoc], k1, k2.append k'⟩
theorem reps.at : ∀ {xs : List α} {vs : List Value} {m : Nat} {x : α}, reps a S vs xs → xs[m]? = some x → a.rep S ((vs.drop (m * a.sz)).take a.sz) x
  | [], _, _, _, _, h => by simp at h
  | y :: ys, _, 0, x, ⟨c1, c2, e, k1, k2⟩, h => by
    simp at h; subst h
    rw [e, Nat.zero_mul, List.drop_zero, List.take_left' (a.len k1)]; exact k1
  | y :: ys, _, m + 1, x, ⟨c1, c2, e, k1, k2⟩, h => by
    have := k2.at (m := m) (x := x) (by simpa using h)
    rw [e, Nat.add_mul, Nat.one_mul, Nat.add_comm, ← List.drop_drop, List.drop_left' (a.len k1)]; exact this
theorem reps.take : ∀ {xs : List α} {vs : List Value} (n : Nat), reps a S vs xs → reps a S (vs.take (n * a.sz)) (xs.take n)
  | [], _, n, k => by rw [show _ = _ from k]; simp [reps]
  | y :: ys, _, 0, k => by simp [reps]
  | y :: ys, _, n + 1, ⟨c1, c2, e, k1, k2⟩ => ⟨c1, c2.take (n * a.sz), by
      rw [e, List.take_append, List.take_of_length_le (by rw [a.len k1, Nat.add_mul]; omega), a.len k1, show (n + 1) * a.sz - a.sz = n * a.sz by rw [Nat.add_mul]; omega], k1, k2.take n⟩
theorem reps.drop : ∀ {xs : List α} {vs : List Value} (n : Nat), reps a S vs xs → reps a S (vs.drop (n * a.sz)) (xs.drop n)
  | [], _, n, k => by rw [show _ = _ from k]; simp [reps]
  | y :: ys, _, 0, k => by simpa using k
  | y :: ys, _, n + 1, ⟨c1, c2, e, k1, k2⟩ => by
    rw [e, Nat.add_mul, Nat.one_mul, Nat.add_comm, ← List.drop_drop, List.drop_left' (a.len k1)]
    exact k2.drop n
theorem reps.set : ∀ {xs : List α} {vs : List Value} {m : Nat} {y : α} {c : List Value}, reps a S vs xs → m < xs.length → a.rep S c y → reps a S (vs.take (m * a.sz) ++ c ++ vs.drop (m * a.sz + a.sz)) (xs.set m y)
  | [], _, _, _, _, _, h, _ => by simp at h
  | x :: xs, _, 0, y, c, ⟨c1, c2, e, k1, k2⟩, _, hc => ⟨c, c2, by rw [e]; simp [List.drop_left' (a.len k1)], hc, k2⟩
  | x :: xs, _, m + 1, y, c, ⟨c1, c2, e, k1, k2⟩, h, hc => ⟨c1, _, by
      rw [e, List.take_append, List.take_of_length_le (by rw [a.len k1, Nat.add_mul]; omega), a.len k1, show (m + 1) * a.sz - a.sz = m * a.sz by rw [Nat.add_mul]; omega,
        show (m + 1) * a.sz + a.sz = a.sz + (m * a.sz + a.sz) by rw [Nat.add_mul]; omega, ← List.drop_drop, List.drop_left' (a.len k1)]
      simp only [List.append_assoc], k1, reps.set k2 (by simpa using h) hc⟩
/-- elements of one cell -/
theorem reps.cell {xs : List α} {vs : List Value} {m : Nat} {x : α} (h1 : a.sz = 1) (h : reps a S vs xs) (hx : xs[m]? = some x) : ∃ u, vs[m]? = some u ∧ a.rep S [u] x := by
  have h2 := h.at hx
  have hl := h.len
  have hm := (List.getElem?_eq_some_iff.1 hx).1
  rw [h1, Nat.mul_one] at h2
  have hmv : m < vs.length := by rw [hl, h1]; omega
  refine ⟨vs[m], List.getElem?_eq_getElem hmv, ?_⟩
  rw [List.drop_eq_getElem_cons hmv, List.take_succ_cons, List.take_zero] at h2
  exact h2
theorem reps.set1 {xs : List α} {vs : List Value} {m : Nat} {y : α} {u : Value} (h1 : a.sz = 1) (h : reps a S vs xs) (hm : m < xs.length) (hu : a.rep S [u] y) : reps a S (vs.set m u) (xs.set m y) := by
  have := h.set hm hu
  have hl := h.len
  rw [h1, Nat.mul_one] at this
  have e : vs.set m u = vs.take m ++ [u] ++ vs.drop (m + 1) := by
    rw [List.set_eq_take_append_cons_drop, if_pos (by rw [hl, h1]; omega)]; simp
  rw [e]; exact this
theorem reps.map {f : α → Value} (hf : ∀ {c : List Value} {x : α}, a.rep S c x → c = [f x]) : ∀ {xs : List α} {vs : List Value}, reps a S vs xs → vs = xs.map f
  | [], _, k => k
  | x :: xs, _, ⟨c1, c2, e, k1, k2⟩ => by rw [e, hf k1, k2.map hf]; rfl
theorem reps.rep {n : Nat} {c : List Value} {x : α} (h : a.rep S c x) : reps a S (List.replicate n c).flatten (List.replicate n x) := by
  induction n with
  | zero => simp [reps]
  | succ n ih => rw [List.replicate_succ, List.replicate_succ, List.flatten_cons]; exact ⟨c, _, rfl, h, ih⟩
end
/-! ### kinds -/
def r64 (n : Int) : Prop := -9223372036854775808 ≤ n ∧ n ≤ 9223372036854775807
def tyI : Ty Int := ⟨1, fun _ cs n => cs = [.int .i64 n] ∧ r64 n, fun _ h => h, fun h => by rw [h.1]; rfl, fun h u hu => by rw [h.1] at hu; simp at hu; subst hu; rfl⟩
def ty8 : Ty UInt8 := ⟨1, fun _ cs n => cs = [.int .u8 (n.toNat : Int)], fun _ h => h, fun h => by rw [h]; rfl, fun h u hu => by rw [h] at hu; simp at hu; subst hu; rfl⟩
def ty32 : Ty UInt32 := ⟨1, fun _ cs n => cs = [.int .u32 (n.toNat : Int)], fun _ h => h, fun h => by rw [h]; rfl, fun h u hu => by rw [h] at hu; simp at hu; subst hu; rfl⟩
def ty64 : Ty UInt64 := ⟨1, fun _ cs n => cs = [.int .u64 (n.toNat : Int)], fun _ h => h, fun h => by rw [h]; rfl, fun h u hu => by rw [h] at hu; simp at hu; subst hu; rfl⟩
def tyB : Ty Bool := ⟨1, fun _ cs b => cs = [.bool b], fun _ h => h, fun h => by rw [h]; rfl, fun h u hu => by rw [h] at hu; simp at hu; subst hu; rfl⟩
def sb (l : List UInt8) : ByteArray := ⟨l.toArray⟩
def tyP (a : Ty α) (b : Ty β) : Ty (α × β) := ⟨a.sz + b.sz, fun S cs x => ∃ c1 c2, cs = c1 ++ c2 ∧ a.rep S c1 x.1 ∧ b.rep S c2 x.2,
  fun h ⟨c1, c2, e, k1, k2⟩ => ⟨c1, c2, e, a.mono h k1, b.mono h k2⟩, fun ⟨c1, c2, e, k1, k2⟩ => by rw [e, List.length_append, a.len k1, b.len k2],
  fun ⟨c1, c2, e, k1, k2⟩ u hu => by
    rw [e] at hu
    rcases List.mem_append.1 hu with h | h
    · exact a.one k1 u h
    · exact b.one k2 u h⟩
def tyA (n : Nat) (a : Ty α) : Ty (List α) := ⟨n * a.sz, fun S cs l => reps a S cs l ∧ l.length = n, fun h k => ⟨k.1.mono h, k.2⟩, fun h => by rw [h.1.len, h.2], fun h => h.1.one⟩
/-- a slice's content -/
def slS (a : Ty α) (S : Snap) (A : Option Addr) (c : Nat) (xs : List α) : Prop := xs.length ≤ c ∧ c ≤ maxLen ∧ ∃ vs, RdS S A vs ∧ reps a S vs xs
theorem slS.mono {a : Ty α} {S S' : Snap} {A : Option Addr} {c : Nat} {xs : List α} (h : S.le S') (k : slS a S A c xs) : slS a S' A c xs := ⟨k.1, k.2.1, by obtain ⟨vs, k1, k2⟩ := k.2.2; exact ⟨vs, k1.mono h, k2.mono h⟩⟩
theorem slS.len {a : Ty α} {S : Snap} {A : Option Addr} {c : Nat} {xs : List α} (k : slS a S A c xs) : xs.length ≤ maxLen := Nat.le_trans k.1 k.2.1
theorem slS.nil (a : Ty α) (S : Snap) : slS a S none 0 [] := ⟨Nat.le_refl _, Nat.zero_le _, [], RdS.nil _ _, rfl⟩
theorem slS.take {a : Ty α} {S : Snap} {A : Option Addr} {c : Nat} {xs : List α} (k : slS a S A c xs) (n m : Nat) (h1 : n ≤ xs.length) (h2 : n ≤ m) (h3 : m ≤ c) : slS a S A m (xs.take n) := ⟨by rw [List.length_take]; omega, Nat.le_trans h3 k.2.1, by obtain ⟨vs, k1, k2⟩ := k.2.2; exact ⟨_, k1.take _, k2.take n⟩⟩
theorem slS.drop {a : Ty α} {S : Snap} {A : Option Addr} {c : Nat} {xs : List α} (k : slS a S A c xs) (n : Nat) (h1 : n ≤ xs.length) : slS a S (if c = n then A else A.map (·.add (n * a.sz))) (c - n) (xs.drop n) := ⟨by rw [List.length_drop]; have := k.1; omega, by have := k.2.1; omega, by
  obtain ⟨vs, k1, k2⟩ := k.2.2
  refine ⟨_, ?_, k2.drop n⟩
  by_cases e : c = n
  · have : vs.drop (n * a.sz) = [] := List.drop_of_length_le (by rw [k2.len]; exact Nat.mul_le_mul_right _ (by have := k.1; omega))
    rw [this]; exact RdS.nil _ _
  · rw [if_neg e]; exact fun w hw => (k1 w hw).drop _⟩
/-- an element: where it lies, and its cells -/
theorem slS.at {a : Ty α} {S : Snap} {A : Option Addr} {c : Nat} {xs : List α} (hs : 0 < a.sz) (k : slS a S A c xs) {m : Nat} {x : α} (hx : xs[m]? = some x) {w : World} (hw : SnapOK S w) : ∃ b off cs, A = some ⟨b, off, none⟩ ∧ a.rep S cs x ∧ ∀ w, SnapOK S w → w.rangeAt b (off + m * a.sz) cs := by
  obtain ⟨h1, h2, vs, h3, h4⟩ := k
  have hc := h4.at hx
  have hl := a.len hc
  have hm := (List.getElem?_eq_some_iff.1 hx).1
  have hvl := h4.len
  have hsp : ∃ b off, A = some ⟨b, off, none⟩ := by
    have h0 : 0 < vs.length := by rw [hvl]; exact Nat.mul_pos (by omega) hs
    obtain ⟨ad, rfl, hcell⟩ := h3 w hw 0 _ (List.getElem?_eq_getElem h0)
    have : ad.spot = none := by have := addr_cell_spot hcell; simpa [Addr.add] using this
    obtain ⟨b, off, sp⟩ := ad
    simp at this; subst this
    exact ⟨b, off, rfl⟩
  obtain ⟨b, off, rfl⟩ := hsp
  exact ⟨b, off, _, rfl, hc, fun w' hw' => (h3 w' hw').range (m * a.sz) a.sz⟩
theorem slS.at1 {a : Ty α} {S : Snap} {A : Option Addr} {c : Nat} {xs : List α} (hs : a.sz = 1) (k : slS a S A c xs) {m : Nat} {x : α} (hx : xs[m]? = some x) {w : World} (hw : SnapOK S w) : ∃ b off u, A = some ⟨b, off, none⟩ ∧ a.rep S [u] x ∧ ∀ w, SnapOK S w → w.cell? ⟨b, off + m * 1, none⟩ = some u := by
  obtain ⟨b, off, cs, h1, h2, h3⟩ := k.at (by omega) hx hw
  have hl := a.len h2
  rw [hs] at hl h3
  obtain ⟨u, rfl⟩ := List.length_eq_one_iff.1 hl
  exact ⟨b, off, u, h1, h2, fun w hw => by have := h3 w hw 0 u rfl; simpa using this⟩
def tyL (a : Ty α) : Ty (List α) := ⟨1, fun S cs xs => ∃ A c, cs = [.slice A xs.length c] ∧ slS a S A c xs, fun h ⟨A, c, e, k⟩ => ⟨A, c, e, k.mono h⟩, fun ⟨A, c, e, k⟩ => by rw [e]; rfl,
  fun ⟨A, c, e, k⟩ u hu => by rw [e] at hu; simp at hu; subst hu; rfl⟩
/-- what doesn't lean on memory -/
def Ty.Fl (a : Ty α) : Prop := ∀ {S S' : Snap} {cs : List Value} {x : α}, a.rep S cs x → a.rep S' cs x
theorem fl_I : tyI.Fl := fun h => h
theorem fl_8 : ty8.Fl := fun h => h
theorem reps.fl {a : Ty α} {S S' : Snap} (hf : a.Fl) : ∀ {xs : List α} {vs : List Value}, reps a S vs xs → reps a S' vs xs
  | [], _, k => k
  | _ :: _, _, ⟨c1, c2, e, k1, k2⟩ => ⟨c1, c2, e, hf k1, reps.fl hf k2⟩
/-! ### memory with a snapshot -/
section
variable {w0 w w' : World} {B : Nat → Prop} {S S' : Snap} {L L' Ls R : List Ch}
theorem Mem.startS (hS : SnapOK S w) : Mem w (ownL [.sn S]) [.sn S] w :=
  (Mem.start w _).add (x := .sn S) hS (fun _ h => h.elim) (fun i y hy => by simp at hy)
theorem Mem.snOK (h : Mem w0 B L w) {i : Nat} (hi : L[i]? = some (.sn S)) : SnapOK S w := h.ok i _ hi
/-- what a call has made of the first parts and of the snapshot; the others stay -/
theorem Mem.frameS (h : Mem w0 B (Ls ++ R) w) (hc : Mem w (ownL Ls) L' w') (hu : ∀ x ∈ L', ∀ k, x.use k → ownL Ls k ∨ w.heap.size ≤ k ∨ ∃ z ∈ Ls, z.use k) : Mem w0 B (L' ++ R) w' := by
  have at_ : ∀ (i : Nat) (x : Ch), (L' ++ R)[i]? = some x → (i < L'.length ∧ L'[i]? = some x) ∨ (L'.length ≤ i ∧ R[i - L'.length]? = some x) := by
    intro i x hx
    rcases Nat.lt_or_ge i L'.length with hi | hi
    · exact .inl ⟨hi, by rwa [List.getElem?_append_left hi] at hx⟩
    · exact .inr ⟨hi, by rwa [List.getElem?_append_right hi] at hx⟩
  have inR : ∀ (i : Nat) (x : Ch), R[i]? = some x → (Ls ++ R)[Ls.length + i]? = some x := by
    intro i x hx; rw [List.getElem?_append_right (by omega)]; simpa using hx
  have inL : ∀ (z : Ch), z ∈ Ls → ∃ j, j < Ls.length ∧ (Ls ++ R)[j]? = some z := by
    intro z hz
    obtain ⟨j, hj⟩ := List.mem_iff_getElem?.1 hz
    have hjl := (List.getElem?_eq_some_iff.1 hj).1
    exact ⟨j, hjl, by rw [List.getElem?_append_left hjl]; exact hj⟩
  have sepR : ∀ (i : Nat) (y : Ch), R[i]? = some y → ∀ k, y.use k → ¬ ownL Ls k := by
    rintro i y hy k hk ⟨x, hx, hxk⟩
    obtain ⟨j, hjl, hj⟩ := inL x hx
    exact (h.apart j (Ls.length + i) x y (by omega) hj (inR i y hy) k).1 ⟨hxk, hk⟩
  have okR : ∀ (i : Nat) (y : Ch), R[i]? = some y → y.ok w := fun i y hy => h.ok _ _ (inR i y hy)
  have cross : ∀ (i j : Nat) (x y : Ch), L'[i]? = some x → R[j]? = some y → x.apart y := by
    intro i j x y hx hy k
    refine ⟨fun ⟨h1, h2⟩ => ?_, fun ⟨h1, h2⟩ => ?_⟩
    · rcases hc.base i x hx k h1 with h3 | h3
      · exact sepR j y hy k h2 h3
      · have := Ch.lt (okR j y hy) h2; omega
    · rcases hu x (List.mem_of_getElem? hx) k h2 with h3 | h3 | ⟨z, hz, hzk⟩
      · exact sepR j y hy k (Ch.own_use h1) h3
      · have := Ch.lt (okR j y hy) (Ch.own_use h1); omega
      · obtain ⟨q, hql, hq⟩ := inL z hz
        exact (h.apart q (Ls.length + j) z y (by omega) hq (inR j y hy) k).2 ⟨h1, hzk⟩
  refine ⟨h.chg.trans hc.chg (fun k ⟨x, hx, hk⟩ => ?_), fun i x hx => ?_, fun i j x y hne hx hy => ?_, fun i x hx k hk => ?_⟩
  · obtain ⟨j, hjl, hj⟩ := inL x hx
    exact h.base j x hj k hk
  · rcases at_ i x hx with ⟨hi, h1⟩ | ⟨hi, h1⟩
    · exact hc.ok i x h1
    · exact Ch.keep (okR _ x h1) hc.chg.size (fun k hk hlt => hc.chg.block k hlt (sepR _ x h1 k hk))
  · rcases at_ i x hx with ⟨hi, h1⟩ | ⟨hi, h1⟩
    · rcases at_ j y hy with ⟨hj, h2⟩ | ⟨hj, h2⟩
      · exact hc.apart i j x y hne h1 h2
      · exact cross _ _ x y h1 h2
    · rcases at_ j y hy with ⟨hj, h2⟩ | ⟨hj, h2⟩
      · exact (cross _ _ y x h2 h1).symm
      · exact h.apart _ _ x y (by omega) (inR _ x h1) (inR _ y h2)
  · rcases at_ i x hx with ⟨hi, h1⟩ | ⟨hi, h1⟩
    · rcases hc.base i x h1 k hk with ⟨y, hy, hyk⟩ | h3
      · obtain ⟨j, hjl, hj⟩ := inL y hy
        exact h.base j y hj k hyk
      · exact .inr (Nat.le_trans h.size h3)
    · exact h.base _ x (inR _ x h1) k hk
/-- what was one's own is written no more -/
theorem Mem.freeze {x : Ch} (h : Mem w0 B (x :: .sn S :: R) w) (hn : ∀ k, x.use k → x.own k) : ∃ S' : Snap, S.le S' ∧ (∀ k o, S' k = some o → S k = some o ∨ B k ∨ w0.heap.size ≤ k) ∧ (∀ w', SnapOK S' w' → w.heap.size ≤ w'.heap.size → x.ok w') ∧ (∀ k, x.own k → S' k = w.heap[k]?) ∧ Mem w0 B (.sn S' :: R) w := by
  classical
  have hx : x.ok w := h.ok 0 x rfl
  have hs : SnapOK S w := h.ok 1 (.sn S) rfl
  refine ⟨fun k => if x.own k then w.heap[k]? else S k, ?_, ?_, ?_, ?_, ?_⟩
  · intro k o hk
    simp only
    split
    · exact hs k o hk
    · exact hk
  · intro k o hk
    simp only at hk
    split at hk
    · next ho => exact .inr (h.base 0 x rfl k ho)
    · exact .inl hk
  · intro w' hw' hsz
    refine Ch.keep hx hsz (fun k hk hlt => ?_)
    have ho := hn k hk
    cases hq : w.heap[k]? with
    | none => have := Array.getElem?_eq_none_iff.1 hq; omega
    | some o => exact hw' k o (by simp only [if_pos ho]; exact hq)
  · intro k hk; simp only [if_pos hk]
  · refine ⟨h.chg, fun i y hy => ?_, fun i j y z hne hy hz => ?_, fun i y hy k hk => ?_⟩
    · cases i with
      | zero =>
        simp at hy; subst hy
        intro k o hk
        simp only at hk
        split at hk
        · exact hk
        · exact hs k o hk
      | succ i => exact h.ok (i + 2) y (by simpa using hy)
    · have key : ∀ (j : Nat) (z : Ch), R[j]? = some z → (Ch.sn fun k => if x.own k then w.heap[k]? else S k).apart z := by
        intro j z hz k
        refine ⟨fun hh => hh.1.elim, fun ⟨h1, o, h2⟩ => ?_⟩
        simp only at h2
        split at h2
        · next ho => exact (h.apart 0 (j + 2) x z (by omega) rfl (by simpa using hz) k).2 ⟨h1, Ch.own_use ho⟩
        · exact (h.apart 1 (j + 2) (.sn S) z (by omega) rfl (by simpa using hz) k).2 ⟨h1, ⟨o, h2⟩⟩
      cases i with
      | zero =>
        cases j with
        | zero => exact absurd rfl hne
        | succ j => simp at hy hz; subst hy; exact key j z hz
      | succ i =>
        cases j with
        | zero => simp at hy hz; subst hz; exact (key i y hy).symm
        | succ j => exact h.apart (i + 2) (j + 2) y z (by omega) (by simpa using hy) (by simpa using hz)
    · cases i with
      | zero => simp at hy; subst hy; exact hk.elim
      | succ i => exact h.base (i + 2) y (by simpa using hy) k hk
end
/-! ### contracts -/
/-- since S0 snapshots have grown by what is one's own -/
def Up (B : Nat → Prop) (w0 : World) (S0 S : Snap) : Prop := S0.le S ∧ ∀ k o, S k = some o → S0 k = some o ∨ B k ∨ w0.heap.size ≤ k
theorem Up.refl (B : Nat → Prop) (w0 : World) (S : Snap) : Up B w0 S S := ⟨Snap.le.refl S, fun k o h => .inl h⟩
theorem Up.trans {B : Nat → Prop} {w0 : World} {S S' S'' : Snap} (h : Up B w0 S S') (k : Up B w0 S' S'') : Up B w0 S S'' := ⟨h.1.trans k.1, fun i o hi => by
  rcases k.2 i o hi with h1 | h1
  · exact h.2 i o h1
  · exact .inr h1⟩
/-- what a call comes to: a value, parts of memory, and what reads them -/
def Ret (w : World) (S : Snap) (Ls : List Ch) (R : Value → List Ch → Snap → Prop) : Ending → World → Prop := fun e w' =>
  ∃ v L' S', e = .returned v ∧ R v L' S' ∧ noRo L' = true ∧ Up (ownL (Ls ++ [.sn S])) w S S' ∧ Mem w (ownL (Ls ++ [.sn S])) (L' ++ [.sn S']) w'
section
variable {P : Program} {ops : Array Oper} {rest : List Oper} {o : Oper} {Q : Exit → Act → World → Prop} {N : Nat} {w0 w w' : World} {B : Nat → Prop} {ρ ρ' : Slots} {L L' Ls R : List Ch} {a a' : Act} {d : Nat} {u v : Value} {S S0 S' : Snap}
theorem Mem.call (h : Mem w0 B (Ls ++ .sn S :: R) w) (hu : Up B w0 S0 S) (hn : noRo L' = true) (hU : Up (ownL (Ls ++ [.sn S])) w S S') (hm : Mem w (ownL (Ls ++ [.sn S])) (L' ++ [.sn S']) w') : Mem w0 B (L' ++ .sn S' :: R) w' ∧ Up B w0 S0 S' := by
  have h' : Mem w0 B ((Ls ++ [.sn S]) ++ R) w := by rw [List.append_assoc]; exact h
  refine ⟨?_, hu.trans ⟨hU.1, fun k o hk => ?_⟩⟩
  · have := h'.frameS hm (fun x hx k hk => ?_)
    · rwa [List.append_assoc] at this
    · rcases List.mem_append.1 hx with h1 | h1
      · obtain ⟨i, hi⟩ := List.mem_iff_getElem?.1 h1
        rcases hm.base i x (by rw [List.getElem?_append_left (List.getElem?_eq_some_iff.1 hi).1]; exact hi) k (noRo_use hn x h1 k hk) with h2 | h2
        · exact .inl h2
        · exact .inr (.inl h2)
      · rw [List.mem_singleton.1 h1] at hk
        obtain ⟨o, ho⟩ := hk
        rcases hU.2 k o ho with h2 | h2 | h2
        · exact .inr (.inr ⟨.sn S, by simp, ⟨o, h2⟩⟩)
        · exact .inl h2
        · exact .inr (.inl h2)
  · rcases hU.2 k o hk with h2 | ⟨x, hx, hxk⟩ | h2
    · exact .inl h2
    · obtain ⟨j, hj⟩ := List.mem_iff_getElem?.1 hx
      rcases h'.base j x (by rw [List.getElem?_append_left (List.getElem?_eq_some_iff.1 hj).1]; exact hj) k hxk with h3 | h3
      · exact .inr (.inl h3)
      · exact .inr (.inr h3)
    · exact .inr (.inr (Nat.le_trans h.size h2))
/-- a call -/
theorem q_call (h : St N w0 B ρ (Ls ++ .sn S :: R) a w) (hu : Up B w0 S0 S) (hg : o.guard = none) {f : FuncId} {xs : Array Operand} {ats : Array TypeId} (ho : o.op = .call { callee := .value (.func f), args := xs, argTypes := ats }) (hd : o.dst = some d) (hN : d < N) {fn : Func} (hf : P.funcs[f]? = some fn) (hb : fn.body.isNone = false) (hn : (fn.name == "runtime.NumGoroutine") = false) {vs : List Value} (hx : xs.toList.map (ev ρ) = vs.map some) {Rs : Value → List Ch → Snap → Prop}
    (hc : Mem w (ownL (Ls ++ [.sn S])) (Ls ++ [.sn S]) w → Calls P f vs.toArray w (Ret w S Ls Rs)) (k : ∀ a' w' v L' S', Rs v L' S' → S.le S' → Up B w0 S0 S' → St N w0 B ((d, v) :: ρ) (L' ++ .sn S' :: R) a' w' → wpList P ops Q rest a' w') : wpList P ops Q (o :: rest) a w := by
  have h' : Mem w0 B ((Ls ++ [.sn S]) ++ R) w := by rw [List.append_assoc]; exact h.m
  refine s_call h hg ho hd hN hf hb hn hx (hc h'.sub) (fun e w' ⟨v, L', S', he, hR, hn', hU, hm⟩ => ⟨v, he, fun a' hk => ?_⟩)
  have := h.m.call hu hn' hU hm
  exact k a' w' v L' S' hR hU.1 this.2 ⟨hk, this.1⟩
/-- a call that reads memory as it is, and yields new memory alone -/
theorem q_callB (h : St N w0 B ρ L a w) (hg : o.guard = none) {f : FuncId} {xs : Array Operand} {ats : Array TypeId} (ho : o.op = .call { callee := .value (.func f), args := xs, argTypes := ats }) (hd : o.dst = some d) (hN : d < N) {fn : Func} (hf : P.funcs[f]? = some fn) (hb : fn.body.isNone = false) (hn : (fn.name == "runtime.NumGoroutine") = false) {vs : List Value} (hx : xs.toList.map (ev ρ) = vs.map some) {Rs : Value → List Ch → Snap → Prop}
    (hc : Mem w (ownL ([] ++ [.sn (snapAll w)])) ([] ++ [.sn (snapAll w)]) w → Calls P f vs.toArray w (Ret w (snapAll w) [] Rs)) (k : ∀ a' w' v L' S', Rs v L' S' → Below w.heap.size w w' → St N w0 B ((d, v) :: ρ) (L' ++ L) a' w' → wpList P ops Q rest a' w') : wpList P ops Q (o :: rest) a w := by
  refine s_call h hg ho hd hN hf hb hn hx (hc (Mem.startS (snapAll_ok w))) (fun e w' ⟨v, L', S', he, hR, hn', hU, hm⟩ => ⟨v, he, fun a' hk => ?_⟩)
  have hno : ∀ k, ¬ ownL [.sn (snapAll w)] k := by rintro k ⟨x, hx, hxk⟩; rw [List.mem_singleton.1 hx] at hxk; exact hxk
  have hb : Below w.heap.size w w' := ⟨hm.chg.os, hm.chg.tape, hm.chg.output, hm.chg.size, fun k hk => hm.chg.block k hk (hno k)⟩
  have hm2 : Mem w (ownL []) L' w' := ⟨⟨hb.os, hb.tape, hb.output, hb.size, fun k hk _ => hb.block k hk⟩, fun i x hi => hm.ok i x (by rw [List.getElem?_append_left (List.getElem?_eq_some_iff.1 hi).1]; exact hi), fun i j x y hne hi hj => hm.apart i j x y hne (by rw [List.getElem?_append_left (List.getElem?_eq_some_iff.1 hi).1]; exact hi) (by rw [List.getElem?_append_left (List.getElem?_eq_some_iff.1 hj).1]; exact hj), fun i x hi k hk => by
    rcases hm.base i x (by rw [List.getElem?_append_left (List.getElem?_eq_some_iff.1 hi).1]; exact hi) k hk with h1 | h1
    · exact absurd h1 (hno k)
    · exact .inr h1⟩
  have hm3 : Mem w0 B (L' ++ L) w' := Mem.frameS (Ls := []) h.m hm2 (fun x hx k hk => by
    obtain ⟨i, hi⟩ := List.mem_iff_getElem?.1 hx
    rcases hm2.base i x hi k (noRo_use hn' x hx k hk) with h1 | h1
    · exact .inl h1
    · exact .inr (.inl h1))
  exact k a' w' v L' S' hR hb ⟨hk, hm3⟩
/-- a step that yields a value, in the world as it is -/
theorem s_x (h : St N w0 B ρ L a w) (hg : o.guard = none) (hd : o.dst = some d) (hN : d < N) (hr : (execOp a.eval o).run P w = .ok (.value v) w) (k : ∀ a', St N w0 B ((d, v) :: ρ) L a' w → wpList P ops Q rest a' w) : wpList P ops Q (o :: rest) a w :=
  s_of h hg hd hN hr (fun a' hk => k a' ⟨hk, h.m⟩)
theorem sX (h : St N w0 B ρ L a w) (hr : (execOp a.eval o).run P w = .ok (.value v) w) (k : ∀ a', St N w0 B ((d, v) :: ρ) L a' w → wpList P ops Q rest a' w) (hg : o.guard = none := by rfl) (hd : o.dst = some d := by rfl) (hN : d < N := by decide) : wpList P ops Q (o :: rest) a w := s_x h hg hd hN hr k
end
/-! ### plain side -/
theorem bsome {α β : Type} {o : Option α} {k : α → Option β} {r : β} (h : o.bind k = some r) : ∃ x, o = some x ∧ k x = some r := by
  cases o with
  | none => cases h
  | some x => exact ⟨x, rfl, h⟩
/-- element i -/
def idx {α : Type} (l : List α) (i : Int) : Option α := if 0 ≤ i then l[i.toNat]? else none
theorem idx_some {α : Type} {l : List α} {i : Int} {x : α} (h : idx l i = some x) : ∃ m : Nat, i = (m : Int) ∧ m < l.length ∧ l[m]? = some x := by
  unfold idx at h
  split at h
  · exact ⟨i.toNat, by omega, (List.getElem?_eq_some_iff.1 h).1, h⟩
  · cases h
theorem idx_nat {α : Type} (l : List α) (m : Nat) : idx l (m : Int) = l[m]? := by unfold idx; rw [if_pos (by omega)]; rfl
/-- elements added: b bytes each -/
def app {α : Type} (b : Nat) (l m : List α) : Option (List α) := if (l.length + m.length) * b ≤ 140737488355328 ∧ l.length + m.length ≤ maxLen then some (l ++ m) else none
theorem app_some {α : Type} {b : Nat} {l m r : List α} (h : app b l m = some r) : r = l ++ m ∧ (l.length + m.length) * b ≤ 140737488355328 ∧ l.length + m.length ≤ maxLen := by
  unfold app at h
  split at h
  · next hh => exact ⟨(Option.some.inj h).symm, hh⟩
  · cases h
def mkN (b : Nat) (i : Int) : Option Nat := if 0 ≤ i ∧ b * i.toNat ≤ 140737488355328 ∧ i.toNat ≤ maxLen then some i.toNat else none
theorem mkN_some {b : Nat} {i : Int} {n : Nat} (h : mkN b i = some n) : i = (n : Int) ∧ b * n ≤ 140737488355328 ∧ n ≤ maxLen := by
  unfold mkN at h
  split at h
  · next hh => obtain rfl := Option.some.inj h; exact ⟨by omega, hh.2⟩
  · cases h
/-- a part: from lo up to hi -/
def sub {α : Type} (l : List α) (lo hi : Int) : Option (List α) := if 0 ≤ lo ∧ lo ≤ hi ∧ hi ≤ (l.length : Int) then some ((l.take hi.toNat).drop lo.toNat) else none
theorem sub_some {α : Type} {l r : List α} {lo hi : Int} (h : sub l lo hi = some r) : ∃ m n : Nat, lo = (m : Int) ∧ hi = (n : Int) ∧ m ≤ n ∧ n ≤ l.length ∧ r = (l.take n).drop m := by
  unfold sub at h
  split at h
  · next hh => exact ⟨lo.toNat, hi.toNat, by omega, by omega, by omega, by omega, (Option.some.inj h).symm⟩
  · cases h
abbrev w64 (n : Int) : Int := IntKind.i64.wrap n
theorem w64_of {x : Int} (h : -9223372036854775808 ≤ x ∧ x ≤ 9223372036854775807) : w64 x = x := nw64 h
theorem w64_r (x : Int) : r64 (w64 x) := by unfold r64; show _ ≤ IntKind.i64.wrap x ∧ IntKind.i64.wrap x ≤ _; rw [IntKind.wrap_i64]; omega
end Go.Proofs.Ytohgmggdfmjgnaa
