/- Views: parts of arrays and of own rows, told lazily, copied from and to; arrays in variables and behind pointers, read and written at an index. -/
import Derived.Test.YtnmeelkfpmodgaaDoorPj
set_option linter.unusedVariables false
set_option linter.unusedSimpArgs false
namespace Go.Proofs.YtnmeelkfpmodgaaDoor
open Go.RowKit
def bnd (n : Nat) (lo hi : Int) : Option (Nat × Nat) := if 0 ≤ lo ∧ lo ≤ hi ∧ hi ≤ (n : Int) then some (lo.toNat, hi.toNat) else none
theorem bnd_some {n : Nat} {lo hi : Int} {y : Nat × Nat} (h : bnd n lo hi = some y) : lo = (y.1 : Int) ∧ hi = (y.2 : Int) ∧ y.1 ≤ y.2 ∧ y.2 ≤ n := by
  unfold bnd at h
  split at h
  · rename_i k; cases h; dsimp only; omega
  · cases h
theorem cut_len {α : Type} {xs : List α} {l g n : Nat} (h2 : g ≤ xs.length) (hn : g - l = n) : n = ((xs.take g).drop l).length := by
  simp only [List.length_take, List.length_drop]; omega
theorem cell_mid {X c Z : List Value} {off m : Nat} {u : Value} (hX : X.length = off) (h : c[m]? = some u) : (X ++ (c ++ Z))[off + m]? = some u := by
  subst hX
  have hm : m < c.length := (List.getElem?_eq_some_iff.1 h).1
  rw [List.getElem?_append_right (by omega), Nat.add_sub_cancel_left, List.getElem?_append_left hm]
  exact h
/-- where a view of a block's first cells begins -/
def vA (G m l : Nat) : Option Addr := some ⟨G, if m = l then 0 else 0 + l * 1, none⟩
section
variable {α : Type} {T : Ty α} {S S' : Snap}
theorem reps.cut {xs : List α} {cs : List Value} (h1 : T.sz = 1) (hr : reps T S cs xs) (l g : Nat) : reps T S ((cs.take g).drop l) ((xs.take g).drop l) := by
  have := (hr.take g).drop l
  rwa [h1, Nat.mul_one, Nat.mul_one] at this
end
section
variable {P : Program} {ops : Array Oper} {rest : List Oper} {o : Oper} {Q : Exit → Act → World → Prop} {N : Nat} {w0 w w' : World} {B : Nat → Prop} {ρ ρ' : Slots} {L L' Ls R : List Ch} {a a' : Act} {d : Nat} {u v : Value} {S S0 S' : Snap} {α : Type} {T : Ty α}
theorem Rd.vA {G m l g : Nat} {cs : List Value} (h : Rd w (some ⟨G, 0, none⟩) cs) (hg : g ≤ m) : Rd w (vA G m l) ((cs.take g).drop l) := by
  have k := (h.take g).tail l m (by rw [List.length_take]; omega)
  unfold Go.Proofs.YtnmeelkfpmodgaaDoor.vA
  by_cases hm : m = l
  · rw [if_pos hm] at k ⊢; exact k
  · rw [if_neg hm] at k ⊢; simpa [Addr.add_mid] using k
theorem Rd.sA {A : Option Addr} {c l g sz : Nat} {cs : List Value} (h : Rd w A cs) (h1 : sz = 1) (hg : g ≤ c) : Rd w (sA A c l sz) ((cs.take g).drop l) := by
  have k := (h.take g).tail l c (by rw [List.length_take]; omega)
  subst h1
  unfold Go.Proofs.YtnmeelkfpmodgaaDoor.sA
  rw [Nat.mul_one]
  exact k
/-- a view of an array, told of a snapshot -/
theorem slS_vA {G l g m : Nat} {cs : List Value} {xs : List α} (hc : ∀ w, SnapOK S w → w.rangeAt G 0 cs) (hr : reps T S cs xs) (h1 : T.sz = 1) (hl : xs.length = m) (hm : m ≤ maxLen) (hlg : l ≤ g) (hg : g ≤ m) : slS T S (vA G m l) (m - l) ((xs.take g).drop l) := by
  refine ⟨by rw [List.length_drop, List.length_take]; omega, by omega, (cs.take g).drop l, fun w hw => Rd.vA (fun i c hi => ⟨_, rfl, by rw [Addr.add_mid]; exact hc w hw i c hi⟩) hg, hr.cut h1 l g⟩
/-- a view of an array -/
theorem x_viewB (h : Knows N ρ a) {t : TypeId} {x : Operand} {lo hi : Option Operand} (ho : o.op = .slice t x lo hi none) {e : TypeId} {m : Nat} (ht : P.underlying t = some (.array m e)) (hs : (P.info? e).map (·.size) = some 1)
    {G : Nat} (hx : ev ρ x = some (.pointer (some ⟨G, 0, none⟩))) {l g : Nat} (hlo : Bd ρ lo 0 l) (hhi : Bd ρ hi m g) (hlg : l ≤ g) (hgm : g ≤ m) {n : Nat} (hn : g - l = n) :
    (execOp a.eval o).run P w = .ok (.value (.slice (vA G m l) n (m - l))) w := by
  subst hn
  exact x_sliceA h ho ht hs hx l g m hlo hhi rfl (fun _ => rfl) hlg hgm (Nat.le_refl _)
end
end Go.Proofs.YtnmeelkfpmodgaaDoor
