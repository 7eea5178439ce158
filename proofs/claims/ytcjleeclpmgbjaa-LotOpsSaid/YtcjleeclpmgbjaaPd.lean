/- A literal's row that is marked; operations under a guard that turn memory. -/
import Derived.Test.YtcjleeclpmgbjaaPc
import Derived.Test.YtcjleeclpmgbjaaPs
set_option linter.unusedVariables false
set_option linter.unusedSimpArgs false
namespace Go.Proofs.Ytcjleeclpmgbjaa
open Go.RowKit
section
variable {α : Type} {T : Ty α} {P : Program} {ops : Array Oper} {rest : List Oper} {o : Oper} {Q : Exit → Act → World → Prop} {N : Nat} {w0 w w' : World} {B : Nat → Prop} {ρ ρ' : Slots} {L L' Ls R : List Ch} {a a' : Act} {d : Nat} {u v : Value} {S S0 S' : Snap}
/-- 'x && y', 'x || y': what the operations leave is told by R -/
theorem q_grpR (h : St N w0 B ρ L a w) (n : Nat) {l : List Oper} {t : Nat} {b : Bool} (R : Act → World → Prop) (hb : ρ.lookup t = some (.bool b)) (h1 : b = true → wpList P ops (Exit.then R Q) (l.take n) a w) (h0 : b = false → wpList P ops (Exit.then R Q) (l.take n) a w) (k : ∀ a' w', R a' w' → wpList P ops Q (l.drop n) a' w') : wpList P ops Q l a w := by
  refine l_split n R ?_ k
  cases b
  · exact h0 rfl
  · exact h1 rfl
/-- '[]byte(..)' of a literal: the row is marked, and written no more -/
theorem q_convMark {A : Option Addr} {xs : List α} {c : Nat} {E : TypeId} {cs : List Value} (h : St N w0 B ρ (.row (.slice A xs.length c) E T.sz xs.length cs :: .sn S :: R) a w) (hu : Up B w0 S0 S) (hcs : reps T S cs xs) (hg : o.guard = none) {x : Operand} {t : TypeId} (ho : o.op = .convert t t x) (hd : o.dst = some d) (hN : d < N) (ht : P.underlying t = some (.slice E)) (he : P.underlying E = some (.int .u8)) (hx : ev ρ x = some (.slice A xs.length c)) (hp : 0 < xs.length)
    (k : ∀ a' w' S', S.le S' → Up B w0 S0 S' → slS T S' A c xs → St N w0 B ((d, .slice A xs.length c) :: ρ) (.sn S' :: R) a' w' → wpList P ops Q rest a' w') : wpList P ops Q (o :: rest) a w := by
  have hown : w.ownsRow 0 E T.sz (.slice A xs.length c) xs.length cs := h.m.ok 0 _ rfl
  rcases hown.2 with ⟨e, e2⟩ | ⟨g, cap, cur, e, hb, hgk, hn, hcm, hcs2, htk⟩
  · omega
  · cases e
    have hsh : w.shape? g = some (E, cur.size) := by unfold World.shape?; rw [hgk]
    have hf : (w.freeze ⟨g, cur.size, none⟩ 1).heap[g]? = some (.cells cur E (cur.size, cur.size + 1)) := by
      simp [World.freeze, Array.getElem?_modify, hgk]
    have hfo : ∀ j, j ≠ g → (w.freeze ⟨g, cur.size, none⟩ 1).heap[j]? = w.heap[j]? := fun j hj => by
      have : ¬ g = j := fun e => hj e.symm
      simp [World.freeze, Array.getElem?_modify, this]
    have hm2 : Mem w0 B (.obj g (.cells cur E (cur.size, cur.size + 1)) :: .sn S :: R) (w.freeze ⟨g, cur.size, none⟩ 1) := h.m.write (i := 0) (x' := .obj g (.cells cur E (cur.size, cur.size + 1))) rfl ⟨by simp [World.freeze], by simp [World.freeze], by simp [World.freeze], by simp [World.freeze], fun j hj hk => hfo j (fun e => hk (by subst e; rfl))⟩ hf (fun j hj => .inl (by obtain rfl : j = g := hj; rfl))
    obtain ⟨S', h1, h2, h3, h4, h5⟩ := hm2.freeze (fun _ hk => hk)
    refine s_of h hg hd hN (v := .slice (some ⟨g, 0, none⟩) xs.length c) (w' := w.freeze ⟨g, cur.size, none⟩ 1) ?_ (fun a' hk => k a' _ S' h1 (hu.trans ⟨h1, h2⟩) ?_ ⟨hk, h5⟩)
    · simp [execOp, ho, h.k.eval hx, convert, run_underlying ht, run_underlying he, markStringish, hsh, Result.andThen]
    · refine ⟨hn, hcm, cs, fun w' hw' j u hj => ?_, hcs.mono h1⟩
      have hs : S' g = some (.cells cur E (cur.size, cur.size + 1)) := (h4 g rfl).trans hf
      have hbk := hw' g _ hs
      refine ⟨_, rfl, ?_⟩
      have hadd : (⟨g, 0, none⟩ : Addr).add j = ⟨g, j, none⟩ := by rw [Addr.add_mid]; simp
      rw [hadd]
      have hcu : cur[j]? = some u := by
        rw [← htk, List.getElem?_take] at hj
        split at hj
        · simpa using hj
        · cases hj
      simp [World.cell?, hbk, hcu]
end
end Go.Proofs.Ytcjleeclpmgbjaa
