/- The store of terms, told over lists (as E36A, without what is said of twins). -/
import Derived.Test.YtnjmlihmnkbgdaaEt
import Derived.Test.YtnjmlihmnkbgdaaPo
set_option linter.unusedVariables false
set_option linter.unusedSimpArgs false
namespace Go.Proofs.Ytnjmlihmnkbgdaa
open Go.RowKit
theorem w64_up (n : Nat) (h : n < 1000000) : w64 ((n : Int) + 1) = ((n + 1 : Nat) : Int) := by rw [w64_of (by omega)]; omega
/-! ### right terms -/
def okB (i : Int) (t : Tm) : Bool := (decide (t.1 = 1) && decide (1 ≤ t.2.1) && decide (t.2.1 ≤ 4) && decide (0 ≤ t.2.2)) || (decide (t.1 = 2) && decide (0 ≤ t.2.1) && decide (t.2.1 < i) && decide (0 ≤ t.2.2)) || (decide (t.1 = 3) && decide (0 ≤ t.2.1) && decide (t.2.1 < i) && decide (0 ≤ t.2.2) && decide (t.2.2 < i))
theorem app24 (l : List Tm) (x : Tm) (h : l.length < 1000000) : app 24 l [x] = some (l ++ [x]) := by
  unfold app; rw [if_pos]; simp only [List.length_singleton]; unfold maxLen; omega
abbrev Sto := List Tm × List (Tm × Int) × List (Int × Int)
def ctA (a : Int) (l : List Tm) : Nat := (l.filter fun t => decide (t.1 = 1) && decide (t.2.1 = a)).length
structure StO (s : Sto) : Prop where
  nd : ∀ (i j : Nat) (t : Tm), s.1[i]? = some t → s.1[j]? = some t → i = j
  pl : ∀ t : Tm, (∃ i : Nat, s.1[i]? = some t ∧ aget t s.2.1 = some (i : Int)) ∨ (t ∉ s.1 ∧ aget t s.2.1 = none)
  ct : ∀ a : Int, (aget a s.2.2).getD 0 = (ctA a s.1 : Int)
  ok : ∀ (i : Nat) (t : Tm), s.1[i]? = some t → okB i t = true
theorem StO.nil : StO ([], [], []) := by
  constructor
  · intro i j t h; simp at h
  · intro t; right; simp [aget]
  · intro a; simp [aget, ctA]
  · intro i t h; simp at h
theorem ctA_le (a : Int) (l : List Tm) : ctA a l ≤ l.length := List.length_filter_le _ _
theorem ctA_app (a : Int) (l : List Tm) (t : Tm) : ctA a (l ++ [t]) = ctA a l + if t.1 = 1 ∧ t.2.1 = a then 1 else 0 := by
  unfold ctA
  rw [List.filter_append, List.length_append]
  by_cases h1 : t.1 = 1 <;> by_cases h2 : t.2.1 = a <;> simp [h1, h2, List.filter]
theorem sMay (Fu : Nat) (s : Sto) (t : Tm) : term_Store_may Fu s t = some (okB s.1.length t) := by
  unfold term_Store_may term_Store_has term_sort okB
  by_cases h1 : t.1 = 1
  · simp [h1]
  · by_cases h2 : t.1 = 2
    · simp [h2]
    · by_cases h3 : t.1 = 3
      · simp [h3]
        by_cases h4 : 0 ≤ t.2.1 ∧ t.2.1 < (s.1.length : Int)
        · simp [h4]
        · rw [if_neg h4]
          simp
          intro h5 h6; exact absurd ⟨h5, h6⟩ h4
      · simp [h1, h2, h3]
theorem sPutT (Fu : Nat) (hf : 200 ≤ Fu) (s : Sto) (h : StO s) (hl : s.1.length ≤ 100) (t : Tm) :
    (okB s.1.length t = false ∧ term_Store_Put Fu s t = some (0, 2, s)) ∨
    (∃ i : Nat, okB s.1.length t = true ∧ s.1[i]? = some t ∧ term_Store_Put Fu s t = some ((i : Int), 0, s)) ∨
    (∃ s' : Sto, okB s.1.length t = true ∧ t ∉ s.1 ∧ StO s' ∧ s'.1 = s.1 ++ [t] ∧ term_Store_Put Fu s t = some ((s.1.length : Int), 0, s')) := by
  unfold term_Store_Put term_Store_is
  simp only [Option.bind_some]
  rw [sMay]
  simp only [Option.bind_some]
  cases hb : okB s.1.length t with
  | false => left; simp
  | true =>
    right
    simp only [Bool.not_true, Bool.false_eq_true, if_false]
    rcases h.pl t with ⟨i, h1, h2⟩ | ⟨h1, h2⟩
    · left
      refine ⟨i, trivial, h1, ?_⟩
      rw [h2]; simp
    · right
      have hap : app 24 s.1 [t] = some (s.1 ++ [t]) := by
        unfold app
        rw [if_pos]
        simp only [List.length_cons, List.length_nil]
        exact ⟨by omega, by unfold maxLen; omega⟩
      rw [h2, hap]
      rw [show (none : Option Int).isSome = false from rfl]
      simp only [Bool.false_eq_true, if_false]
      rw [if_neg (show ¬ (65536 : Int) ≤ (s.1.length : Int) by omega)]
      simp only [Option.bind_some]
      have hnd : ∀ (i j : Nat) (u : Tm), (s.1 ++ [t])[i]? = some u → (s.1 ++ [t])[j]? = some u → i = j := by
        intro i j u hi hj
        rw [List.getElem?_append] at hi hj
        by_cases li : i < s.1.length
        · rw [if_pos li] at hi
          by_cases lj : j < s.1.length
          · rw [if_pos lj] at hj; exact h.nd _ _ _ hi hj
          · rw [if_neg lj] at hj
            obtain ⟨h5, h6⟩ := List.getElem?_eq_some_iff.1 hj
            simp at h5 h6
            have e : u = t := by rw [← h6]
            subst e
            exact absurd (List.mem_of_getElem? hi) h1
        · rw [if_neg li] at hi
          obtain ⟨h5, h6⟩ := List.getElem?_eq_some_iff.1 hi
          simp at h5 h6
          have e : u = t := by rw [← h6]
          subst e
          by_cases lj : j < s.1.length
          · rw [if_pos lj] at hj
            exact absurd (List.mem_of_getElem? hj) h1
          · rw [if_neg lj] at hj
            obtain ⟨h7, h8⟩ := List.getElem?_eq_some_iff.1 hj
            simp at h7
            omega
      have hpl : ∀ u : Tm, (∃ i : Nat, (s.1 ++ [t])[i]? = some u ∧ aget u (aset t (s.1.length : Int) s.2.1) = some (i : Int)) ∨ (u ∉ s.1 ++ [t] ∧ aget u (aset t (s.1.length : Int) s.2.1) = none) := by
        intro u
        rw [aget_aset]
        by_cases e : t = u
        · left
          refine ⟨s.1.length, ?_, by rw [if_pos e]⟩
          rw [List.getElem?_append_right (Nat.le_refl _), e]; simp
        · rw [if_neg e]
          rcases h.pl u with ⟨i, h5, h6⟩ | ⟨h5, h6⟩
          · left
            refine ⟨i, ?_, h6⟩
            rw [List.getElem?_append_left (List.getElem?_eq_some_iff.1 h5).1]; exact h5
          · right
            refine ⟨?_, h6⟩
            simp only [List.mem_append, List.mem_singleton, not_or]
            exact ⟨h5, fun e' => e e'.symm⟩
      have hok : ∀ (i : Nat) (u : Tm), (s.1 ++ [t])[i]? = some u → okB i u = true := by
        intro i u hi
        rw [List.getElem?_append] at hi
        by_cases li : i < s.1.length
        · rw [if_pos li] at hi; exact h.ok _ _ hi
        · rw [if_neg li] at hi
          obtain ⟨h5, h6⟩ := List.getElem?_eq_some_iff.1 hi
          simp at h5 h6
          have e : u = t := by rw [← h6]
          have e2 : i = s.1.length := by omega
          rw [e, e2]; exact hb
      by_cases hk : t.1 = 1
      · have e : t = (1, t.2.1, t.2.2) := by rw [← hk]
        rw [if_pos e]
        simp only [Option.bind_some]
        refine ⟨_, trivial, h1, ⟨hnd, hpl, ?_, hok⟩, rfl, rfl⟩
        intro a
        rw [ctA_app, aget_aset, h.ct]
        have := ctA_le t.2.1 s.1
        by_cases e3 : t.2.1 = a
        · rw [if_pos e3, if_pos ⟨hk, e3⟩, w64_up _ (by omega), ← e3]; rfl
        · rw [if_neg e3, if_neg (fun x => e3 x.2), h.ct]; rfl
      · have e : ¬ t = (1, t.2.1, t.2.2) := fun e => hk (by rw [e])
        rw [if_neg e]
        simp only [Option.bind_some]
        refine ⟨_, trivial, h1, ⟨hnd, hpl, ?_, hok⟩, rfl, rfl⟩
        intro a
        rw [ctA_app, if_neg (fun x => hk x.1)]
        exact h.ct a
theorem sGet (Fu : Nat) (s : Sto) (i : Int) : (∃ (m : Nat) (t : Tm), i = (m : Int) ∧ m < s.1.length ∧ s.1[m]? = some t ∧ term_Store_Get Fu s i = some (t, true)) ∨ ((i < 0 ∨ (s.1.length : Int) ≤ i) ∧ term_Store_Get Fu s i = some ((0, 0, 0), false)) := by
  unfold term_Store_Get term_Store_is term_Store_has
  simp only [Option.bind_some]
  by_cases h : 0 ≤ i ∧ i < (s.1.length : Int)
  · left
    obtain ⟨m, rfl⟩ : ∃ m : Nat, i = (m : Int) := ⟨i.toNat, by omega⟩
    have hm : m < s.1.length := by omega
    refine ⟨m, s.1[m], rfl, hm, List.getElem?_eq_getElem hm, ?_⟩
    rw [if_neg (by simp; omega), idx_nat, List.getElem?_eq_getElem hm]; rfl
  · right
    refine ⟨by omega, ?_⟩
    rw [if_pos (by simp; omega)]
end Go.Proofs.Ytnjmlihmnkbgdaa
