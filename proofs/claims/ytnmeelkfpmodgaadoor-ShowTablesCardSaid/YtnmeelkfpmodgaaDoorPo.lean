/- Texts put together. -/
import Derived.Test.YtnmeelkfpmodgaaDoorTy
import Derived.Test.YtnmeelkfpmodgaaDoorPe
import Derived.Test.YtnmeelkfpmodgaaDoorPs
import Derived.Test.YtnmeelkfpmodgaaDoorSa
import Derived.Test.YtnmeelkfpmodgaaDoorPm
set_option linter.unusedVariables false
set_option linter.unusedSimpArgs false
namespace Go.Proofs.YtnmeelkfpmodgaaDoor
open Go.RowKit
section

end
section
def KT {α β : Type} (k : Kn α) (T : Ty β) (f : α → β) : Prop := ∀ {w : World} {x : α} {cs : List Value}, k.K w x cs → T.rep (snapAll w) cs (f x)
theorem sb_list (s : ByteArray) : sb s.data.toList = s := by cases s; simp [sb]
theorem kt_str : KT Kn.str tyS (fun s => s.data.toList) := fun h => ⟨by rw [sb_list]; exact h.1, by have := h.2; simpa using this⟩
theorem reps_of {β : Type} {T : Ty β} {S : Snap} : ∀ {xs : List β} {C : List (List Value)}, C.length = xs.length → (∀ i (h : i < xs.length) (h' : i < C.length), T.rep S C[i] xs[i]) → reps T S C.flatten xs
  | [], [], _, _ => rfl
  | [], _ :: _, h, _ => by simp at h
  | _ :: _, [], h, _ => by simp at h
  | x :: xs, c :: C, h, k => ⟨c, C.flatten, rfl, k 0 (by simp) (by simp), reps_of (by simpa using h) (fun i hi hi' => k (i + 1) (by simpa using hi) (by simpa using hi'))⟩
theorem kt_at {α β : Type} {k : Kn α} {T : Ty β} {f : α → β} (h : KT k T f) (hs : k.sz = T.sz) (hz : 0 < k.sz) {w : World} {A : Option Addr} {l : List α} (ha : k.At w A l) : ∃ vs, RdS (snapAll w) A vs ∧ reps T (snapAll w) vs (l.map f) := by
  obtain ⟨C, hC, hp⟩ := list_of (n := l.length) (p := fun i cs => ∃ (hi : i < l.length) (b off : Nat), A = some ⟨b, off, none⟩ ∧ k.K w l[i] cs ∧ ∀ j c, cs[j]? = some c → w.cell? ⟨b, off + (i * k.sz + j), none⟩ = some c) (fun i hi => by
    obtain ⟨b, off, cs, h1, _, h3, h4⟩ := ha i hi
    exact ⟨cs, hi, b, off, h1, h3, h4⟩)
  refine ⟨C.flatten, RdS.all ?_, reps_of (by simpa using hC) (fun i hi hi' => ?_)⟩
  · intro q c hq
    have hlen : ∀ i (hi : i < C.length), C[i].length = k.sz := fun i hi => by obtain ⟨_, b, off, _, h3, _⟩ := hp i hi; exact k.len h3
    have key : ∀ (C : List (List Value)) (q : Nat), (∀ i (hi : i < C.length), C[i].length = k.sz) → C.flatten[q]? = some c → ∃ i j, ∃ hi : i < C.length, q = i * k.sz + j ∧ C[i][j]? = some c := by
      intro C
      induction C with
      | nil => intro q _ h; simp at h
      | cons a C ih =>
        intro q hl h
        rw [List.flatten_cons] at h
        by_cases hqa : q < a.length
        · rw [List.getElem?_append_left hqa] at h
          exact ⟨0, q, by simp, by simp, by simpa using h⟩
        · rw [List.getElem?_append_right (by omega)] at h
          obtain ⟨i, j, hi, e, h2⟩ := ih _ (fun i hi => hl (i + 1) (by simpa using hi)) h
          refine ⟨i + 1, j, by simpa using hi, ?_, by simpa using h2⟩
          have := hl 0 (by simp)
          simp at this
          rw [Nat.add_mul]; omega
    obtain ⟨i, j, hi, rfl, h2⟩ := key C q hlen hq
    obtain ⟨_, b, off, hA, _, h4⟩ := hp i hi
    subst hA
    refine ⟨_, rfl, ?_⟩
    have := h4 j c h2
    rw [Addr.add_mid]; exact this
  · obtain ⟨_, b, off, _, h3, _⟩ := hp i hi'
    have := h h3
    simpa using this
theorem kt_slice {α β : Type} {k : Kn α} {T : Ty β} {f : α → β} (h : KT k T f) (hs : k.sz = T.sz) (hz : 0 < k.sz) : KT k.slice (tyL T) (List.map f) := fun ⟨A, c, e, h1, h2, h3⟩ => ⟨A, c, by rw [e, List.length_map], by rw [List.length_map]; exact h1, h2, kt_at h hs hz h3⟩
/-- values of these data there can be -/
def Ty.has {α : Type} (T : Ty α) (x : α) : Prop := ∃ S cs, T.rep S cs x
theorem reps.has {α : Type} {T : Ty α} {S : Snap} : ∀ {xs : List α} {vs : List Value}, reps T S vs xs → ∀ x ∈ xs, T.has x
  | [], _, _ => fun x hx => by simp at hx
  | y :: ys, _, ⟨c1, c2, e, k1, k2⟩ => fun x hx => by
    rcases List.mem_cons.1 hx with rfl | hx
    · exact ⟨S, c1, k1⟩
    · exact k2.has x hx
theorem slS.has {α : Type} {T : Ty α} {S : Snap} {A : Option Addr} {c : Nat} {xs : List α} (h : slS T S A c xs) : ∀ x ∈ xs, T.has x := by obtain ⟨_, _, vs, _, h2⟩ := h; exact h2.has
/-- a law's answer -/
theorem law_yes {w w' : World} {e : Ending} (h : Ret w (snapAll w) [] (fun v L1 S1 => v = .bool true ∧ L1 = [] ∧ True) e w') : e = .returned (.bool true) ∧ Below w.heap.size w w' := by
  obtain ⟨v, L', S', rfl, ⟨rfl, rfl, _⟩, _, _, hm⟩ := h
  refine ⟨rfl, hm.chg.os, hm.chg.tape, hm.chg.output, hm.chg.size, fun k hk => hm.chg.block k hk ?_⟩
  rintro ⟨x, hx, hxk⟩
  rw [List.mem_singleton.1 hx] at hxk; exact hxk
end
end Go.Proofs.YtnmeelkfpmodgaaDoor
