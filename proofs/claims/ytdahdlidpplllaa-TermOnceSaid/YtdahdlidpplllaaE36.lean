/- The statements TermPuts and TermOnce, told over lists: the store of terms answers as the definition's list. -/
import Derived.Test.YtdahdlidpplllaaEu
import Derived.Test.YtdahdlidpplllaaE39
set_option linter.unusedVariables false
set_option linter.unusedSimpArgs false
namespace Go.Proofs.Ytdahdlidpplllaa
open Go.RowKit
abbrev Sto := List Tm × List (Tm × Int) × List (Int × Int)
def ctA (a : Int) (l : List Tm) : Nat := (l.filter fun t => decide (t.1 = 1) && decide (t.2.1 = a)).length
structure StO (s : Sto) : Prop where
  nd : ∀ (i j : Nat) (t : Tm), s.1[i]? = some t → s.1[j]? = some t → i = j
  pl : ∀ t : Tm, (∃ i : Nat, s.1[i]? = some t ∧ aget t s.2.1 = some (i : Int)) ∨ (t ∉ s.1 ∧ aget t s.2.1 = none)
  ct : ∀ a : Int, (aget a s.2.2).getD 0 = (ctA a s.1 : Int)
  ok : ∀ (i : Nat) (t : Tm), s.1[i]? = some t → okB i t = true
theorem StO.nil : StO ([], [], []) := by
  constructor
  · intro i j t h; simp at h
  · intro t; right; simp [aget]
  · intro a; simp [aget, ctA]
  · intro i t h; simp at h
theorem ctA_le (a : Int) (l : List Tm) : ctA a l ≤ l.length := List.length_filter_le _ _
theorem ctA_app (a : Int) (l : List Tm) (t : Tm) : ctA a (l ++ [t]) = ctA a l + if t.1 = 1 ∧ t.2.1 = a then 1 else 0 := by
  unfold ctA
  rw [List.filter_append, List.length_append]
  by_cases h1 : t.1 = 1 <;> by_cases h2 : t.2.1 = a <;> simp [h1, h2, List.filter]
/-! ### the definition's search -/
theorem sFind_l0 (Fu : Nat) (l : List Tm) (t : Tm) (hl : l.length < 1000000) : ∀ (d k i : Nat), i + d = l.length → d < k → (∃ j, i ≤ j ∧ l[j]? = some t ∧ chatelaineref36_Store_Find_l0 Fu l t k i = some (.inl (j : Int))) ∨ ((∀ j, i ≤ j → l[j]? ≠ some t) ∧ chatelaineref36_Store_Find_l0 Fu l t k i = some (.inr ())) := by
  intro d
  induction d with
  | zero =>
    intro k i hi hk
    obtain ⟨k, rfl⟩ : ∃ m, k = m + 1 := ⟨k - 1, by omega⟩
    right
    refine ⟨fun j hj => ?_, ?_⟩
    · rw [List.getElem?_eq_none (by omega)]; simp
    · rw [chatelaineref36_Store_Find_l0, if_neg (by omega)]
  | succ d ih =>
    intro k i hi hk
    obtain ⟨k, rfl⟩ : ∃ m, k = m + 1 := ⟨k - 1, by omega⟩
    rw [chatelaineref36_Store_Find_l0, if_pos (by omega), idx_nat, List.getElem?_eq_getElem (show i < l.length by omega)]
    simp only [Option.bind_some]
    by_cases h : l[i] = t
    · left
      refine ⟨i, Nat.le_refl _, ?_, ?_⟩
      · rw [List.getElem?_eq_getElem (show i < l.length by omega), h]
      · rw [if_pos h]
    · rw [if_neg h, w64_up i (by omega)]
      rcases ih k (i + 1) (by omega) (by omega) with ⟨j, h1, h2, h3⟩ | ⟨h1, h2⟩
      · exact .inl ⟨j, by omega, h2, h3⟩
      · refine .inr ⟨fun j hj => ?_, h2⟩
        by_cases e : j = i
        · subst e; rw [List.getElem?_eq_getElem (show j < l.length by omega)]; simpa using h
        · exact h1 j (by omega)
theorem sFind (Fu : Nat) (l : List Tm) (t : Tm) (hf : l.length < Fu) (hl : l.length < 1000000) : (∃ j : Nat, l[j]? = some t ∧ chatelaineref36_Store_Find Fu l t = some (j : Int)) ∨ (t ∉ l ∧ chatelaineref36_Store_Find Fu l t = some (-1)) := by
  unfold chatelaineref36_Store_Find
  rcases sFind_l0 Fu l t hl l.length Fu 0 (by omega) hf with ⟨j, h1, h2, h3⟩ | ⟨h1, h2⟩
  · rw [show ((0 : Nat) : Int) = 0 from rfl] at h3
    exact .inl ⟨j, h2, by rw [h3]; rfl⟩
  · rw [show ((0 : Nat) : Int) = 0 from rfl] at h2
    refine .inr ⟨fun h => ?_, by rw [h2]; rfl⟩
    obtain ⟨j, hj⟩ := List.getElem?_of_mem h
    exact h1 j (by omega) hj
theorem sMay (Fu : Nat) (s : Sto) (t : Tm) : term_Store_may Fu s t = some (okB s.1.length t) := by
  unfold term_Store_may term_Store_has term_sort okB
  by_cases h1 : t.1 = 1
  · simp [h1]
  · by_cases h2 : t.1 = 2
    · simp [h2]
    · by_cases h3 : t.1 = 3
      · simp [h3]
        by_cases h4 : 0 ≤ t.2.1 ∧ t.2.1 < (s.1.length : Int)
        · simp [h4]
        · rw [if_neg h4]
          simp
          intro h5 h6; exact absurd ⟨h5, h6⟩ h4
      · simp [h1, h2, h3]
theorem sPut (Fu : Nat) (hf : 200 ≤ Fu) (s : Sto) (h : StO s) (hl : s.1.length ≤ 100) (t : Tm) :
    (okB s.1.length t = false ∧ term_Store_Put Fu s t = some (0, 2, s) ∧ chatelaineref36_Store_Put Fu s.1 t = some (0, 2, s.1)) ∨
    (∃ i : Nat, okB s.1.length t = true ∧ s.1[i]? = some t ∧ term_Store_Put Fu s t = some ((i : Int), 0, s) ∧ chatelaineref36_Store_Put Fu s.1 t = some ((i : Int), 0, s.1)) ∨
    (∃ s' : Sto, okB s.1.length t = true ∧ t ∉ s.1 ∧ StO s' ∧ s'.1 = s.1 ++ [t] ∧ term_Store_Put Fu s t = some ((s.1.length : Int), 0, s') ∧ chatelaineref36_Store_Put Fu s.1 t = some ((s.1.length : Int), 0, s'.1)) := by
  have hr : chatelaineref36_Store_Put Fu s.1 t = if (!okB s.1.length t) = true then (some (0, 2, s.1)) else ((chatelaineref36_Store_Find Fu s.1 t).bind fun x39 => if 0 ≤ x39 then ((chatelaineref36_Store_Find Fu s.1 t).bind fun x43 => some (x43, 0, s.1)) else ((app 24 s.1 ([t])).bind fun x49 => some ((s.1.length : Int), 0, x49))) := rfl
  rw [hr]
  unfold term_Store_Put term_Store_is
  simp only [Option.bind_some]
  rw [sMay]
  simp only [Option.bind_some]
  cases hb : okB s.1.length t with
  | false => left; simp
  | true =>
    right
    simp only [Bool.not_true, Bool.false_eq_true, if_false]
    rcases h.pl t with ⟨i, h1, h2⟩ | ⟨h1, h2⟩
    · left
      refine ⟨i, trivial, h1, ?_, ?_⟩
      · rw [h2]; simp
      · rcases sFind Fu s.1 t (by omega) (by omega) with ⟨j, h3, h4⟩ | ⟨h3, h4⟩
        · rw [h4]
          have : j = i := h.nd _ _ _ h3 h1
          subst this
          simp only [Option.bind_some]
          rw [if_pos (by omega)]
        · exact absurd (List.mem_of_getElem? h1) h3
    · right
      have hap : app 24 s.1 [t] = some (s.1 ++ [t]) := by
        unfold app
        rw [if_pos]
        simp only [List.length_cons, List.length_nil]
        exact ⟨by omega, by unfold maxLen; omega⟩
      rw [h2, hap]
      rw [show (none : Option Int).isSome = false from rfl]
      simp only [Bool.false_eq_true, if_false]
      rw [if_neg (show ¬ (65536 : Int) ≤ (s.1.length : Int) by omega)]
      simp only [Option.bind_some]
      have hfi : chatelaineref36_Store_Find Fu s.1 t = some (-1) := by
        rcases sFind Fu s.1 t (by omega) (by omega) with ⟨j, h3, h4⟩ | ⟨h3, h4⟩
        · exact absurd (List.mem_of_getElem? h3) h1
        · exact h4
      rw [hfi]
      simp only [Option.bind_some]
      rw [if_neg (show ¬ (0 : Int) ≤ -1 by omega)]
      have hnd : ∀ (i j : Nat) (u : Tm), (s.1 ++ [t])[i]? = some u → (s.1 ++ [t])[j]? = some u → i = j := by
        intro i j u hi hj
        rw [List.getElem?_append] at hi hj
        by_cases li : i < s.1.length
        · rw [if_pos li] at hi
          by_cases lj : j < s.1.length
          · rw [if_pos lj] at hj; exact h.nd _ _ _ hi hj
          · rw [if_neg lj] at hj
            obtain ⟨h5, h6⟩ := List.getElem?_eq_some_iff.1 hj
            simp at h5 h6
            have e : u = t := by rw [← h6]
            subst e
            exact absurd (List.mem_of_getElem? hi) h1
        · rw [if_neg li] at hi
          obtain ⟨h5, h6⟩ := List.getElem?_eq_some_iff.1 hi
          simp at h5 h6
          have e : u = t := by rw [← h6]
          subst e
          by_cases lj : j < s.1.length
          · rw [if_pos lj] at hj
            exact absurd (List.mem_of_getElem? hj) h1
          · rw [if_neg lj] at hj
            obtain ⟨h7, h8⟩ := List.getElem?_eq_some_iff.1 hj
            simp at h7
            omega
      have hpl : ∀ u : Tm, (∃ i : Nat, (s.1 ++ [t])[i]? = some u ∧ aget u (aset t (s.1.length : Int) s.2.1) = some (i : Int)) ∨ (u ∉ s.1 ++ [t] ∧ aget u (aset t (s.1.length : Int) s.2.1) = none) := by
        intro u
        rw [aget_aset]
        by_cases e : t = u
        · left
          refine ⟨s.1.length, ?_, by rw [if_pos e]⟩
          rw [List.getElem?_append_right (Nat.le_refl _), e]; simp
        · rw [if_neg e]
          rcases h.pl u with ⟨i, h5, h6⟩ | ⟨h5, h6⟩
          · left
            refine ⟨i, ?_, h6⟩
            rw [List.getElem?_append_left (List.getElem?_eq_some_iff.1 h5).1]; exact h5
          · right
            refine ⟨?_, h6⟩
            simp only [List.mem_append, List.mem_singleton, not_or]
            exact ⟨h5, fun e' => e e'.symm⟩
      have hok : ∀ (i : Nat) (u : Tm), (s.1 ++ [t])[i]? = some u → okB i u = true := by
        intro i u hi
        rw [List.getElem?_append] at hi
        by_cases li : i < s.1.length
        · rw [if_pos li] at hi; exact h.ok _ _ hi
        · rw [if_neg li] at hi
          obtain ⟨h5, h6⟩ := List.getElem?_eq_some_iff.1 hi
          simp at h5 h6
          have e : u = t := by rw [← h6]
          have e2 : i = s.1.length := by omega
          rw [e, e2]; exact hb
      by_cases hk : t.1 = 1
      · have e : t = (1, t.2.1, t.2.2) := by rw [← hk]
        rw [if_pos e]
        simp only [Option.bind_some]
        refine ⟨_, trivial, h1, ⟨hnd, hpl, ?_, hok⟩, rfl, rfl, rfl⟩
        intro a
        rw [ctA_app, aget_aset, h.ct]
        have := ctA_le t.2.1 s.1
        by_cases e3 : t.2.1 = a
        · rw [if_pos e3, if_pos ⟨hk, e3⟩, w64_up _ (by omega), ← e3]; rfl
        · rw [if_neg e3, if_neg (fun x => e3 x.2), h.ct]; rfl
      · have e : ¬ t = (1, t.2.1, t.2.2) := fun e => hk (by rw [e])
        rw [if_neg e]
        simp only [Option.bind_some]
        refine ⟨_, trivial, h1, ⟨hnd, hpl, ?_, hok⟩, rfl, rfl, rfl⟩
        intro a
        rw [ctA_app, if_neg (fun x => hk x.1)]
        exact h.ct a
/-! ### a fresh atom -/
theorem pig {α : Type} [DecidableEq α] (f : Nat → α) (hf : ∀ i j, f i = f j → i = j) : ∀ (d : Nat) (l : List α), (∀ j, j < d → f j ∈ l) → d ≤ l.length := by
  intro d
  induction d with
  | zero => intro l _; omega
  | succ d ih =>
    intro l h
    have h1 : f d ∈ l := h d (by omega)
    have h2 := ih (l.erase (f d)) (fun j hj => (List.mem_erase_of_ne (fun e => by have := hf _ _ e; omega)).2 (h j (by omega)))
    rw [List.length_erase_of_mem h1] at h2
    have : 0 < l.length := List.length_pos_of_mem h1
    omega
theorem firstFree (a : Int) (c : Nat) (l : List Tm) : ∃ d, d ≤ l.length ∧ ((1, a, ((c + d : Nat) : Int)) : Tm) ∉ l ∧ ∀ j, j < d → ((1, a, ((c + j : Nat) : Int)) : Tm) ∈ l := by
  have key : ∀ n : Nat, (∃ d, d ≤ n ∧ ((1, a, ((c + d : Nat) : Int)) : Tm) ∉ l ∧ ∀ j, j < d → ((1, a, ((c + j : Nat) : Int)) : Tm) ∈ l) ∨ ∀ j, j < n + 1 → ((1, a, ((c + j : Nat) : Int)) : Tm) ∈ l := by
    intro n
    induction n with
    | zero =>
      by_cases h : ((1, a, ((c + 0 : Nat) : Int)) : Tm) ∈ l
      · right; intro j hj; have : j = 0 := by omega
        subst this; exact h
      · left; exact ⟨0, Nat.le_refl _, h, fun j hj => by omega⟩
    | succ n ih =>
      rcases ih with ⟨d, h1, h2, h3⟩ | ih
      · exact .inl ⟨d, by omega, h2, h3⟩
      · by_cases h : ((1, a, ((c + (n + 1) : Nat) : Int)) : Tm) ∈ l
        · right; intro j hj
          by_cases e : j = n + 1
          · subst e; exact h
          · exact ih j (by omega)
        · left; exact ⟨n + 1, Nat.le_refl _, h, ih⟩
  rcases key l.length with h | h
  · exact h
  · have := pig (fun j : Nat => ((1, a, ((c + j : Nat) : Int)) : Tm)) (fun i j e => by simp at e; omega) (l.length + 1) l h
    omega
theorem fr_t (Fu : Nat) (s : Sto) (h : StO s) (a : Int) (hl : s.1.length ≤ 100) : ∀ (d k j : Nat), (∀ i, i < d → ((1, a, ((j + i : Nat) : Int)) : Tm) ∈ s.1) → ((1, a, ((j + d : Nat) : Int)) : Tm) ∉ s.1 → d < k → j + d ≤ 1000 → term_Store_Fresh_l0 Fu s k 1 a j = term_Store_Put Fu s (1, a, ((j + d : Nat) : Int)) := by
  intro d
  induction d with
  | zero =>
    intro k j h1 h2 hk hj
    obtain ⟨k, rfl⟩ : ∃ m, k = m + 1 := ⟨k - 1, by omega⟩
    rw [term_Store_Fresh_l0]
    have : aget ((1, a, (j : Int)) : Tm) s.2.1 = none := by
      rcases h.pl (1, a, (j : Int)) with ⟨i, h3, h4⟩ | ⟨h3, h4⟩
      · exact absurd (List.mem_of_getElem? h3) h2
      · exact h4
    rw [this]
    simp only [Option.isSome_none, Bool.not_false, if_true]
    show (Option.bind (term_Store_Put Fu s (1, a, (j : Int))) _) = _
    rw [show ((j + 0 : Nat) : Int) = (j : Int) from rfl]
    cases term_Store_Put Fu s (1, a, (j : Int)) <;> rfl
  | succ d ih =>
    intro k j h1 h2 hk hj
    obtain ⟨k, rfl⟩ : ∃ m, k = m + 1 := ⟨k - 1, by omega⟩
    rw [term_Store_Fresh_l0]
    have : (aget ((1, a, (j : Int)) : Tm) s.2.1).isSome = true := by
      rcases h.pl (1, a, (j : Int)) with ⟨i, h3, h4⟩ | ⟨h3, h4⟩
      · rw [h4]; rfl
      · exact absurd (h1 0 (by omega)) h3
    rw [this]
    simp only [Bool.not_true, Bool.false_eq_true, if_false]
    rw [w64_up j (by omega), ih k (j + 1) (fun i hi => by have := h1 (i + 1) (by omega); rwa [show j + (i + 1) = j + 1 + i by omega] at this) (by rwa [show j + 1 + d = j + (d + 1) by omega]) (by omega) (by omega)]
    rw [show j + 1 + d = j + (d + 1) by omega]
theorem fr_r (Fu : Nat) (l : List Tm) (hf : 200 ≤ Fu) (a : Int) (hl : l.length ≤ 100) : ∀ (d k j : Nat), (∀ i, i < d → ((1, a, ((j + i : Nat) : Int)) : Tm) ∈ l) → ((1, a, ((j + d : Nat) : Int)) : Tm) ∉ l → d < k → j + d ≤ 1000 → chatelaineref36_Store_Fresh_l1 Fu l a k j = some ((j + d : Nat) : Int) := by
  intro d
  induction d with
  | zero =>
    intro k j h1 h2 hk hj
    obtain ⟨k, rfl⟩ : ∃ m, k = m + 1 := ⟨k - 1, by omega⟩
    rw [chatelaineref36_Store_Fresh_l1]
    rcases sFind Fu l (1, a, (j : Int)) (by omega) (by omega) with ⟨i, h3, h4⟩ | ⟨h3, h4⟩
    · exact absurd (List.mem_of_getElem? h3) h2
    · rw [h4]; rfl
  | succ d ih =>
    intro k j h1 h2 hk hj
    obtain ⟨k, rfl⟩ : ∃ m, k = m + 1 := ⟨k - 1, by omega⟩
    rw [chatelaineref36_Store_Fresh_l1]
    rcases sFind Fu l (1, a, (j : Int)) (by omega) (by omega) with ⟨i, h3, h4⟩ | ⟨h3, h4⟩
    · rw [h4]
      simp only [Option.bind_some]
      rw [if_pos (by omega), w64_up j (by omega), ih k (j + 1) (fun i hi => by have := h1 (i + 1) (by omega); rwa [show j + (i + 1) = j + 1 + i by omega] at this) (by rwa [show j + 1 + d = j + (d + 1) by omega]) (by omega) (by omega)]
      rw [show j + 1 + d = j + (d + 1) by omega]
    · exact absurd (h1 0 (by omega)) h3
theorem fr_c (Fu : Nat) (l : List Tm) (a : Int) (hl : l.length ≤ 100) : ∀ (d k i c : Nat), i + d = l.length → d < k → c ≤ i → chatelaineref36_Store_Fresh_l0 Fu l a k c i = some ((c + ctA a (l.drop i) : Nat) : Int) := by
  intro d
  induction d with
  | zero =>
    intro k i c hi hk hc
    obtain ⟨k, rfl⟩ : ∃ m, k = m + 1 := ⟨k - 1, by omega⟩
    rw [chatelaineref36_Store_Fresh_l0, if_neg (by omega), List.drop_of_length_le (by omega)]; rfl
  | succ d ih =>
    intro k i c hi hk hc
    obtain ⟨k, rfl⟩ : ∃ m, k = m + 1 := ⟨k - 1, by omega⟩
    rw [chatelaineref36_Store_Fresh_l0, if_pos (by omega), ix_nat (show i < l.length by omega)]
    simp only [Option.bind_some]
    rw [List.getElem?_eq_getElem (show i < l.length by omega), List.drop_eq_getElem_cons (show i < l.length by omega)]
    simp only [Option.bind_some]
    have hc2 : ∀ x, ctA a (x :: l.drop (i + 1)) = ctA a (l.drop (i + 1)) + if x.1 = 1 ∧ x.2.1 = a then 1 else 0 := by
      intro x
      unfold ctA
      by_cases h1 : x.1 = 1 <;> by_cases h2 : x.2.1 = a <;> simp [h1, h2, List.filter]
    rw [hc2]
    generalize l[i] = t
    by_cases h1 : t.1 = 1
    · by_cases h2 : t.2.1 = a
      · rw [if_pos h1, if_pos ⟨h1, h2⟩]
        simp only [h2, decide_true, Option.bind_some, if_true]
        rw [w64_up c (by omega), w64_up i (by omega), ih k (i + 1) (c + 1) (by omega) (by omega) (by omega)]
        rw [show c + 1 + ctA a (l.drop (i + 1)) = c + (ctA a (l.drop (i + 1)) + 1) by omega]
      · rw [if_pos h1, if_neg (fun x => h2 x.2)]
        simp only [h2, decide_false, Option.bind_some, Bool.false_eq_true, if_false]
        rw [w64_up i (by omega), ih k (i + 1) c (by omega) (by omega) (by omega)]; rfl
    · rw [if_neg h1, if_neg (fun x => h1 x.1)]
      simp only [Option.bind_some, Bool.false_eq_true, if_false]
      rw [w64_up i (by omega), ih k (i + 1) c (by omega) (by omega) (by omega)]; rfl
theorem sFresh (Fu : Nat) (hf : 200 ≤ Fu) (s : Sto) (h : StO s) (hl : s.1.length ≤ 100) (a : Int) :
    (term_Store_Fresh Fu s a = some (0, 2, s) ∧ chatelaineref36_Store_Fresh Fu s.1 a = some (0, 2, s.1)) ∨
    (∃ s' : Sto, ∃ t, StO s' ∧ s'.1 = s.1 ++ [t] ∧ term_Store_Fresh Fu s a = some ((s.1.length : Int), 0, s') ∧ chatelaineref36_Store_Fresh Fu s.1 a = some ((s.1.length : Int), 0, s'.1)) := by
  unfold term_Store_Fresh chatelaineref36_Store_Fresh term_Store_is term_sort
  simp only [Option.bind_some]
  by_cases ha : 1 ≤ a ∧ a ≤ 4
  · right
    obtain ⟨d, h1, h2, h3⟩ := firstFree a (ctA a s.1) s.1
    have hc := ctA_le a s.1
    have e1 := fr_t Fu s h a hl d Fu (ctA a s.1) h3 h2 (by omega) (by omega)
    have e2 := fr_r Fu s.1 hf a hl d Fu (ctA a s.1) h3 h2 (by omega) (by omega)
    have e3 := fr_c Fu s.1 a hl s.1.length Fu 0 0 (by omega) (by omega) (by omega)
    rw [show ((0 : Nat) : Int) = 0 from rfl, List.drop_zero, Nat.zero_add] at e3
    rw [if_neg (by simp; omega), if_neg (by simp; omega), h.ct, e1, e3]
    simp only [Option.bind_some]
    rw [e2]
    simp only [Option.bind_some]
    rcases sPut Fu hf s h hl (1, a, ((ctA a s.1 + d : Nat) : Int)) with ⟨p1, p2, p3⟩ | ⟨i, p1, p2, p3, p4⟩ | ⟨s', p1, p2, p3, p4, p5, p6⟩
    · exfalso
      unfold okB at p1
      have := p1
      simp [ha] at this
      omega
    · exact absurd (List.mem_of_getElem? p2) h2
    · exact ⟨s', _, p3, p4, by rw [p5]; rfl, by rw [p6]; rfl⟩
  · left
    rw [if_pos (by simp; omega), if_pos (by simp; omega)]
    exact ⟨rfl, rfl⟩
/-! ### depth -/
def prt (t : Tm) : List Int := if t.1 = 2 then [t.2.1] else if t.1 = 3 then [t.2.1, t.2.2] else []
theorem sGet (Fu : Nat) (s : Sto) (i : Int) : (∃ (m : Nat) (t : Tm), i = (m : Int) ∧ m < s.1.length ∧ s.1[m]? = some t ∧ term_Store_Get Fu s i = some (t, true)) ∨ ((i < 0 ∨ (s.1.length : Int) ≤ i) ∧ term_Store_Get Fu s i = some ((0, 0, 0), false)) := by
  unfold term_Store_Get term_Store_is term_Store_has
  simp only [Option.bind_some]
  by_cases h : 0 ≤ i ∧ i < (s.1.length : Int)
  · left
    obtain ⟨m, rfl⟩ : ∃ m : Nat, i = (m : Int) := ⟨i.toNat, by omega⟩
    have hm : m < s.1.length := by omega
    refine ⟨m, s.1[m], rfl, hm, List.getElem?_eq_getElem hm, ?_⟩
    rw [if_neg (by simp; omega), idx_nat, List.getElem?_eq_getElem hm]; rfl
  · right
    refine ⟨by omega, ?_⟩
    rw [if_pos (by simp; omega)]
theorem sParts (Fu : Nat) (s : Sto) (m : Nat) (t : Tm) (h : s.1[m]? = some t) : term_Store_Parts Fu s m = some (prt t) := by
  unfold term_Store_Parts
  have hm := (List.getElem?_eq_some_iff.1 h).1
  rcases sGet Fu s m with ⟨m', t', h1, h2, h3, h4⟩ | ⟨h1, h2⟩
  · have : m' = m := by omega
    subst this
    rw [h] at h3
    obtain rfl : t = t' := Option.some.inj h3
    rw [h4]
    simp only [Option.bind_some]
    unfold prt
    by_cases h5 : t.1 = 2
    · rw [if_pos h5, if_pos h5]
    · rw [if_neg h5, if_neg h5]
      by_cases h6 : t.1 = 3
      · rw [if_pos h6, if_pos h6]
      · rw [if_neg h6, if_neg h6]
  · omega
def Dp (l : List Tm) (i : Nat) (d : Int) : Prop := ∀ F, i < F → chatelaineref36_Store_Depth F l (i : Int) = some d
theorem Dp.one {l : List Tm} {i : Nat} {d e : Int} (h : Dp l i d) (h' : Dp l i e) : d = e := by
  have := h (i + 1) (by omega)
  rw [h' (i + 1) (by omega)] at this
  exact (Option.some.inj this).symm
theorem okB_cases {i : Nat} {t : Tm} (h : okB i t = true) : (t.1 = 1 ∧ prt t = []) ∨ (t.1 = 2 ∧ ∃ a : Nat, t.2.1 = (a : Int) ∧ a < i ∧ prt t = [(a : Int)]) ∨ (t.1 = 3 ∧ ∃ a b : Nat, t.2.1 = (a : Int) ∧ a < i ∧ t.2.2 = (b : Int) ∧ b < i ∧ prt t = [(a : Int), (b : Int)]) := by
  unfold okB at h
  by_cases h1 : t.1 = 1
  · exact .inl ⟨h1, by unfold prt; rw [if_neg (by omega), if_neg (by omega)]⟩
  · by_cases h2 : t.1 = 2
    · simp [h2] at h
      refine .inr (.inl ⟨h2, t.2.1.toNat, by omega, by omega, ?_⟩)
      unfold prt; rw [if_pos h2]; congr 1; omega
    · by_cases h3 : t.1 = 3
      · simp [h3] at h
        refine .inr (.inr ⟨h3, t.2.1.toNat, t.2.2.toNat, by omega, by omega, by omega, by omega, ?_⟩)
        unfold prt; rw [if_neg h2, if_pos h3]; congr 1
        · omega
        · congr 1; omega
      · simp [h1, h2, h3] at h
theorem dp_step {l : List Tm} {i : Nat} {t : Tm} (hl : l.length ≤ 1000) (h : l[i]? = some t) (ho : okB i t = true) (ih : ∀ j, j < i → ∃ d, 0 ≤ d ∧ d ≤ (j : Int) ∧ Dp l j d) :
    (prt t = [] ∧ Dp l i 0) ∨ (∃ a : Nat, a < i ∧ prt t = [(a : Int)] ∧ ∃ d, 0 ≤ d ∧ d ≤ (a : Int) ∧ Dp l a d ∧ Dp l i (d + 1)) ∨
    (∃ a b : Nat, a < i ∧ b < i ∧ prt t = [(a : Int), (b : Int)] ∧ ∃ d e, 0 ≤ d ∧ d ≤ (a : Int) ∧ 0 ≤ e ∧ e ≤ (b : Int) ∧ Dp l a d ∧ Dp l b e ∧ Dp l i ((if d < e then e else d) + 1)) := by
  have hi := (List.getElem?_eq_some_iff.1 h).1
  rcases okB_cases ho with ⟨h1, h2⟩ | ⟨h1, a, h2, h3, h4⟩ | ⟨h1, a, b, h2, h3, h4, h5, h6⟩
  · refine .inl ⟨h2, fun F hF => ?_⟩
    obtain ⟨F, rfl⟩ : ∃ m, F = m + 1 := ⟨F - 1, by omega⟩
    rw [chatelaineref36_Store_Depth, idx_nat, h]
    simp only [Option.bind_some]
    rw [if_pos h1]
  · obtain ⟨d, d1, d2, d3⟩ := ih a h3
    refine .inr (.inl ⟨a, h3, h4, d, d1, d2, d3, fun F hF => ?_⟩)
    obtain ⟨F, rfl⟩ : ∃ m, F = m + 1 := ⟨F - 1, by omega⟩
    rw [chatelaineref36_Store_Depth, idx_nat, h]
    simp only [Option.bind_some]
    rw [if_neg (by omega), h2, d3 F (by omega)]
    simp only [Option.bind_some]
    rw [if_neg (by omega)]
    simp only [Option.bind_some, Bool.false_eq_true, if_false]
    rw [w64_of (by omega)]
  · obtain ⟨d, d1, d2, d3⟩ := ih a h3
    obtain ⟨e, e1, e2, e3⟩ := ih b h5
    refine .inr (.inr ⟨a, b, h3, h5, h6, d, e, d1, d2, e1, e2, d3, e3, fun F hF => ?_⟩)
    obtain ⟨F, rfl⟩ : ∃ m, F = m + 1 := ⟨F - 1, by omega⟩
    rw [chatelaineref36_Store_Depth, idx_nat, h]
    simp only [Option.bind_some]
    rw [if_neg (by omega), h2, h4, d3 F (by omega), e3 F (by omega)]
    simp only [Option.bind_some]
    rw [if_pos h1]
    simp only [Option.bind_some]
    by_cases hde : d < e
    · simp only [hde, decide_true, if_true, Option.bind_some]
      rw [w64_of (by omega)]
    · simp only [hde, decide_false, if_false, Option.bind_some, Bool.false_eq_true]
      rw [w64_of (by omega)]
theorem dp_all {l : List Tm} (hl : l.length ≤ 1000) (ho : ∀ (i : Nat) (t : Tm), l[i]? = some t → okB i t = true) : ∀ (n i : Nat), i < n → i < l.length → ∃ d, 0 ≤ d ∧ d ≤ (i : Int) ∧ Dp l i d := by
  intro n
  induction n with
  | zero => intro i hi; omega
  | succ n ih =>
    intro i hi hil
    have h := List.getElem?_eq_getElem hil
    rcases dp_step hl h (ho _ _ h) (fun j hj => ih j (by omega) (by omega)) with ⟨_, h1⟩ | ⟨a, h1, _, d, h2, h3, _, h4⟩ | ⟨a, b, h1, h2, _, d, e, h3, h4, h5, h6, _, _, h7⟩
    · exact ⟨0, by omega, by omega, h1⟩
    · exact ⟨_, by omega, by omega, h4⟩
    · refine ⟨_, ?_, ?_, h7⟩
      · split <;> omega
      · split <;> omega
theorem dep_l1 (Fu : Nat) (i : Nat) (ps : List Int) (k m : Nat) (x : List Int) (a : Nat) (c v : Int) (hm : m < 10) (h : ps[m]? = some (a : Int)) (hc : x[i]? = some c) (hv : x[a]? = some v) (hv2 : 0 ≤ v ∧ v ≤ 10000) : term_Store_Depth_l1 Fu i ps (k + 1) m x = term_Store_Depth_l1 Fu i ps k ((m + 1 : Nat) : Int) (x.set i (mx c (v + 1))) := by
  have h1 := (List.getElem?_eq_some_iff.1 h).1
  have h2 := (List.getElem?_eq_some_iff.1 hc).1
  have h3 := (List.getElem?_eq_some_iff.1 hv).1
  rw [term_Store_Depth_l1, if_pos (by omega), ix_nat h1]
  simp only [Option.bind_some]
  rw [h]
  simp only [Option.bind_some]
  rw [ix_nat h2]
  simp only [Option.bind_some]
  rw [hc]
  simp only [Option.bind_some]
  rw [ix_nat h3]
  simp only [Option.bind_some]
  rw [hv]
  simp only [Option.bind_some]
  rw [w64_up m (by omega), w64_of (x := v + 1) (by omega)]
theorem dep_l1e (Fu : Nat) (i : Nat) (ps : List Int) (k m : Nat) (x : List Int) (h : ps.length ≤ m) : term_Store_Depth_l1 Fu i ps (k + 1) m x = some x := by
  rw [term_Store_Depth_l1, if_neg (by omega)]
theorem dep_l0 (Fu : Nat) (hf : 200 ≤ Fu) (s : Sto) (h : StO s) (hl : s.1.length ≤ 100) (n : Nat) (hn : n ≤ s.1.length) : ∀ (d k i : Nat) (x : List Int), i + d = n → d < k → x.length = n → (∀ j, j < i → ∃ v, x[j]? = some v ∧ 0 ≤ v ∧ v ≤ (j : Int) ∧ Dp s.1 j v) → (∀ j, i ≤ j → j < n → x[j]? = some 0) → ∃ y, term_Store_Depth_l0 Fu s k n i x = some y ∧ y.length = n ∧ ∀ j, j < n → ∃ v, y[j]? = some v ∧ Dp s.1 j v := by
  intro d
  induction d with
  | zero =>
    intro k i x hi hk hx h1 h2
    obtain ⟨k, rfl⟩ : ∃ m, k = m + 1 := ⟨k - 1, by omega⟩
    refine ⟨x, ?_, hx, fun j hj => ?_⟩
    · rw [term_Store_Depth_l0, if_neg (by omega)]
    · obtain ⟨v, h3, _, _, h4⟩ := h1 j (by omega)
      exact ⟨v, h3, h4⟩
  | succ d ih =>
    intro k i x hi hk hx h1 h2
    obtain ⟨k, rfl⟩ : ∃ m, k = m + 1 := ⟨k - 1, by omega⟩
    have hil : i < s.1.length := by omega
    have ht := List.getElem?_eq_getElem hil
    rw [term_Store_Depth_l0, if_pos (by omega), sParts Fu s i _ ht]
    simp only [Option.bind_some]
    have hx0 : x[i]? = some 0 := h2 i (Nat.le_refl _) (by omega)
    have hstep : ∃ v, term_Store_Depth_l1 Fu i (prt s.1[i]) Fu 0 x = some (x.set i v) ∧ 0 ≤ v ∧ v ≤ (i : Int) ∧ Dp s.1 i v := by
      obtain ⟨F, rfl⟩ : ∃ m, Fu = m + 1 + 1 + 1 := ⟨Fu - 3, by omega⟩
      have z0 : (0 : Int) = ((0 : Nat) : Int) := rfl
      rcases dp_step (by omega) ht (h.ok _ _ ht) (fun j hj => dp_all (by omega) h.ok (j + 1) j (by omega) (by omega)) with ⟨h3, h4⟩ | ⟨a, h3, h4, d, h5, h6, h7, h8⟩ | ⟨a, b, h3, h4, h5, d, e, h6, h7, h8, h9, h10, h11, h12⟩
      · refine ⟨0, ?_, by omega, by omega, h4⟩
        rw [h3, z0, dep_l1e _ _ _ _ 0 _ (by simp)]
        congr 1
        apply List.ext_getElem?
        intro j
        rw [List.getElem?_set]
        by_cases e : i = j
        · subst e; rw [if_pos rfl, if_pos (by omega), hx0]; rfl
        · rw [if_neg e]
      · obtain ⟨v, g1, g2, g3, g4⟩ := h1 a h3
        have := g4.one h7
        subst this
        refine ⟨v + 1, ?_, by omega, by omega, h8⟩
        rw [h4, z0, dep_l1 _ _ _ _ 0 _ a 0 v (by omega) rfl hx0 g1 (by omega), dep_l1e _ _ _ _ _ _ (by simp)]
        unfold mx; rw [if_pos (by omega)]
      · obtain ⟨v, g1, g2, g3, g4⟩ := h1 a h3
        obtain ⟨u, f1, f2, f3, f4⟩ := h1 b h4
        have := g4.one h10
        subst this
        have := f4.one h11
        subst this
        refine ⟨_, ?_, ?_, ?_, h12⟩
        · rw [h5, z0, dep_l1 _ _ _ _ 0 _ a 0 v (by omega) rfl hx0 g1 (by omega)]
          have e1 : mx 0 (v + 1) = v + 1 := by unfold mx; rw [if_pos (by omega)]
          rw [e1, dep_l1 _ _ _ _ (0 + 1) _ b (v + 1) u (by omega) rfl (by rw [List.getElem?_set, if_pos rfl, if_pos (by omega)]) (by rw [List.getElem?_set, if_neg (by omega)]; exact f1) (by omega), dep_l1e _ _ _ _ _ _ (by simp), List.set_set]
          congr 2
          unfold mx
          by_cases hvu : v < u
          · rw [if_pos hvu, if_pos (by omega)]
          · rw [if_neg hvu, if_neg (by omega)]
        · split <;> omega
        · split <;> omega
    obtain ⟨v, h3, h4, h5, h6⟩ := hstep
    rw [h3]
    simp only [Option.bind_some]
    rw [w64_up i (by omega)]
    apply ih k (i + 1) (x.set i v) (by omega) (by omega) (by simp [hx])
    · intro j hj
      rw [List.getElem?_set]
      by_cases e : i = j
      · subst e; rw [if_pos rfl, if_pos (by omega)]; exact ⟨v, rfl, h4, h5, h6⟩
      · rw [if_neg e]; exact h1 j (by omega)
    · intro j hj hjn
      rw [List.getElem?_set, if_neg (by omega)]; exact h2 j (by omega) hjn
theorem sDepth (Fu : Nat) (hf : 200 ≤ Fu) (s : Sto) (h : StO s) (hl : s.1.length ≤ 100) (i : Nat) (hi : i < s.1.length) : ∃ d, term_Store_Depth Fu s i = some d ∧ Dp s.1 i d := by
  unfold term_Store_Depth term_Store_is term_Store_has
  simp only [Option.bind_some]
  rw [if_neg (by simp; omega)]
  have e1 : mkN 8 (w64 ((i : Int) + 1)) = some (i + 1) := by
    rw [w64_up i (by omega)]
    unfold mkN
    rw [if_pos ⟨by omega, by omega, by unfold maxLen; omega⟩]
    congr 1
  rw [e1]
  simp only [Option.bind_some]
  have z0 : (0 : Int) = ((0 : Nat) : Int) := rfl
  obtain ⟨y, h1, h2, h3⟩ := dep_l0 Fu hf s h hl (i + 1) (by omega) (i + 1) Fu 0 (List.replicate (i + 1) (0 : Int)) (by omega) (by omega) (by simp) (fun j hj => by omega) (fun j _ hj => by rw [List.getElem?_replicate, if_pos hj])
  rw [List.length_replicate]
  rw [show ((0 : Nat) : Int) = 0 from rfl] at h1
  rw [h1]
  simp only [Option.bind_some]
  rw [ix_nat (show i < y.length by omega)]
  simp only [Option.bind_some]
  obtain ⟨v, h4, h5⟩ := h3 i (by omega)
  rw [h4]
  exact ⟨v, rfl, h5⟩
/-! ### the laws -/
theorem eta3 (s : Sto) : (s.1, s.2.1, s.2.2) = s := rfl
theorem sAwake (Fu : Nat) (hf : 200 ≤ Fu) : chatelainelaw36_awake Fu = some true := by
  unfold chatelainelaw36_awake term_New
  simp only [Option.bind_some]
  rcases sPut Fu hf ([], [], []) StO.nil (by simp) (1, 1, 0) with ⟨h1, _, _⟩ | ⟨i, _, h1, _, _⟩ | ⟨s, h1, h2, h3, h4, h5, h6⟩
  · simp [okB] at h1
  · simp at h1
  · rw [h5]
    simp only [Option.bind_some, eta3]
    rcases sPut Fu hf s h3 (by rw [h4]; simp) (1, 1, 0) with ⟨g1, _, _⟩ | ⟨i, _, g1, g2, _⟩ | ⟨s2, g1, g2, _, _, _, _⟩
    · simp [okB] at g1
    · rw [g2]
      have hi : i = 0 := by
        rw [h4] at g1
        have := (List.getElem?_eq_some_iff.1 g1).1
        simpa using this
      subst hi
      simp [term_Store_Len, term_Store_is, h4]
    · rw [h4] at g2; simp at g2
theorem rInts_l0 (Fu : Nat) (a : List Int) (ha : a.length < 1000000) : ∀ (d k i : Nat), i + d = a.length → d < k → chatelaineref01_Ints_l0 Fu a a k i = some (.inr ()) := by
  intro d
  induction d with
  | zero =>
    intro k i hi hk
    obtain ⟨k, rfl⟩ : ∃ m, k = m + 1 := ⟨k - 1, by omega⟩
    rw [chatelaineref01_Ints_l0, if_neg (by omega)]
  | succ d ih =>
    intro k i hi hk
    obtain ⟨k, rfl⟩ : ∃ m, k = m + 1 := ⟨k - 1, by omega⟩
    rw [chatelaineref01_Ints_l0, if_pos (by omega), idx_nat, List.getElem?_eq_getElem (by omega)]
    simp only [Option.bind_some]
    rw [if_neg (by simp), w64_up i (by omega)]
    exact ih k (i + 1) (by omega) (by omega)
theorem rInts_refl (Fu : Nat) (a : List Int) (ha : a.length < 1000000) (hf : a.length < Fu) : chatelaineref01_Ints Fu a a = some true := by
  unfold chatelaineref01_Ints
  rw [if_neg (by simp)]
  have := rInts_l0 Fu a ha a.length Fu 0 (by omega) hf
  rw [show ((0 : Nat) : Int) = 0 from rfl] at this
  rw [this]; rfl
theorem puts_l0 (Fu : Nat) (hf : 200 ≤ Fu) (a : List (Bool × Int × Tm)) (ha : a.length ≤ 40) : ∀ (d k i : Nat) (s : Sto), i + d = a.length → d < k → StO s → s.1.length ≤ i → ∃ s' : Sto, chatelainelaw36_TermPuts_l0 Fu a k i s s.1 = some (.inr (s', s'.1)) ∧ StO s' ∧ s'.1.length ≤ 40 := by
  intro d
  induction d with
  | zero =>
    intro k i s hi hk hs hl
    obtain ⟨k, rfl⟩ : ∃ m, k = m + 1 := ⟨k - 1, by omega⟩
    exact ⟨s, by rw [chatelainelaw36_TermPuts_l0, if_neg (by omega)], hs, by omega⟩
  | succ d ih =>
    intro k i s hi hk hs hl
    obtain ⟨k, rfl⟩ : ∃ m, k = m + 1 := ⟨k - 1, by omega⟩
    rw [chatelainelaw36_TermPuts_l0, if_pos (by omega), idx_nat, List.getElem?_eq_getElem (by omega)]
    simp only [Option.bind_some, eta3]
    generalize a[i] = c
    have fin : ∀ (n e : Int) (s' : Sto), StO s' → s'.1.length ≤ i + 1 → (∃ s'' : Sto, ((if ((decide (n ≠ n)) || (decide (e ≠ e))) = true then some true else (term_Store_Len Fu s').bind fun x197 => some (decide (x197 ≠ (s'.1.length : Int)))).bind fun z195 => if z195 = true then (some (.inl false)) else (chatelainelaw36_TermPuts_l0 Fu a k (w64 (i + 1)) s' s'.1)) = some (.inr (s'', s''.1)) ∧ StO s'' ∧ s''.1.length ≤ 40) := by
      intro n e s' h1 h2
      rw [if_neg (by simp)]
      simp only [term_Store_Len, term_Store_is, Option.bind_some]
      rw [if_neg (by simp), w64_up i (by omega)]
      exact ih k (i + 1) s' (by omega) (by omega) h1 h2
    by_cases hc : c.1 = true
    · rw [if_pos hc]
      rcases sFresh Fu hf s hs (by omega) c.2.1 with ⟨h1, h2⟩ | ⟨s', t, h1, h2, h3, h4⟩
      · rw [h1, h2]
        exact fin 0 2 s hs (by omega)
      · rw [h3, h4]
        exact fin (s.1.length : Int) 0 s' h1 (by rw [h2]; simp; omega)
    · rw [if_neg hc]
      rcases sPut Fu hf s hs (by omega) c.2.2 with ⟨_, h1, h2⟩ | ⟨j, _, _, h1, h2⟩ | ⟨s', _, _, h1, h2, h3, h4⟩
      · rw [h1, h2]
        exact fin 0 2 s hs (by omega)
      · rw [h1, h2]
        exact fin (j : Int) 0 s hs (by omega)
      · rw [h3, h4]
        exact fin (s.1.length : Int) 0 s' h1 (by rw [h2]; simp; omega)
theorem puts_l1 (Fu : Nat) (hf : 200 ≤ Fu) (s : Sto) (hs : StO s) (hl : s.1.length ≤ 40) : ∀ (d k i : Nat), i + d = s.1.length → d < k → chatelainelaw36_TermPuts_l1 Fu s s.1 k i = some (.inr ()) := by
  intro d
  induction d with
  | zero =>
    intro k i hi hk
    obtain ⟨k, rfl⟩ : ∃ m, k = m + 1 := ⟨k - 1, by omega⟩
    rw [chatelainelaw36_TermPuts_l1, if_neg (by omega)]
  | succ d ih =>
    intro k i hi hk
    obtain ⟨k, rfl⟩ : ∃ m, k = m + 1 := ⟨k - 1, by omega⟩
    have hil : i < s.1.length := by omega
    have ht := List.getElem?_eq_getElem hil
    rw [chatelainelaw36_TermPuts_l1, if_pos (by omega), ix_nat hil]
    simp only [Option.bind_some, eta3]
    rw [ht]
    simp only [Option.bind_some]
    rw [sParts Fu s i _ ht]
    have hg : term_Store_Get Fu s i = some (s.1[i], true) := by
      rcases sGet Fu s i with ⟨m', t', h1, h2, h3, h4⟩ | ⟨h1, h2⟩
      · have : m' = i := by omega
        subst this
        rw [ht] at h3
        rw [h4, Option.some.inj h3]
      · omega
    rw [hg]
    simp only [Option.bind_some]
    obtain ⟨dd, h1, h2⟩ := sDepth Fu hf s hs (by omega) i hil
    rw [h1, h2 Fu (by omega)]
    have hp : ((if s.1[i].1 = 2 then (some ([s.1[i].2.1])) else (some ([]))).bind fun x243 : List Int => (if s.1[i].1 = 3 then (some ([s.1[i].2.1, s.1[i].2.2])) else (some x243))) = some (prt s.1[i]) := by
      unfold prt
      by_cases h5 : s.1[i].1 = 2
      · rw [if_pos h5, if_pos h5]
        simp only [Option.bind_some]
        rw [if_neg (by omega)]
      · rw [if_neg h5, if_neg h5]
        simp only [Option.bind_some]
        by_cases h6 : s.1[i].1 = 3
        · rw [if_pos h6, if_pos h6]
        · rw [if_neg h6, if_neg h6]
    rw [← Option.bind_assoc, hp]
    simp only [Option.bind_some]
    by_cases h14 : 14 < (i : Int)
    · rw [if_pos h14]
    · rw [if_neg h14, if_neg (by simp), rInts_refl Fu _ (by rcases okB_cases (hs.ok _ _ ht) with ⟨_, e⟩ | ⟨_, _, _, _, e⟩ | ⟨_, _, _, _, _, _, _, e⟩ <;> rw [e] <;> simp) (by rcases okB_cases (hs.ok _ _ ht) with ⟨_, e⟩ | ⟨_, _, _, _, e⟩ | ⟨_, _, _, _, _, _, _, e⟩ <;> rw [e] <;> simp <;> omega)]
      simp only [Option.bind_some, Bool.not_true, Bool.false_eq_true, if_false, ne_eq, not_true, decide_false]
      rw [w64_up i (by omega)]
      exact ih k (i + 1) (by omega) (by omega)
theorem chatelainelaw36_TermPuts_true (a : List (Bool × Int × Tm)) (ha : ∀ x ∈ a, (tyP tyB (tyP tyI (tyP tyI (tyP tyI tyI)))).has x) : ∃ Fu, chatelainelaw36_TermPuts Fu a = some true := by
  refine ⟨200, ?_⟩
  unfold chatelainelaw36_TermPuts
  rw [sAwake 200 (by omega)]
  simp only [Option.bind_some, Bool.not_true, Bool.false_eq_true, if_false]
  by_cases h40 : 40 < (a.length : Int)
  · rw [if_pos h40]
  · rw [if_neg h40]
    simp only [term_New, Option.bind_some]
    obtain ⟨s, h1, h2, h3⟩ := puts_l0 200 (by omega) a (by omega) a.length 200 0 ([], [], []) (by omega) (by omega) StO.nil (by simp)
    rw [show ((0 : Nat) : Int) = 0 from rfl] at h1
    rw [h1]
    simp only [Option.bind_some, eta3]
    have h4 := puts_l1 200 (by omega) s h2 h3 s.1.length 200 0 (by omega) (by omega)
    rw [show ((0 : Nat) : Int) = 0 from rfl] at h4
    rw [h4]
    simp only [Option.bind_some]
    have h5 : term_Store_Get 200 s (s.1.length : Int) = some ((0, 0, 0), false) := by
      rcases sGet 200 s (s.1.length : Int) with ⟨m', t', h1, h2, h3, h4⟩ | ⟨h1, h2⟩
      · omega
      · exact h2
    have h6 : term_Store_Parts 200 s (s.1.length : Int) = some [] := by
      unfold term_Store_Parts
      rw [h5]; rfl
    have h7 : term_Store_Depth 200 s (-1) = some 0 := by
      unfold term_Store_Depth term_Store_is term_Store_has
      simp
    rw [h5, h6, h7]
    rfl
theorem sGetN (Fu : Nat) (s : Sto) (i : Nat) (t : Tm) (ht : s.1[i]? = some t) : term_Store_Get Fu s i = some (t, true) := by
  have := (List.getElem?_eq_some_iff.1 ht).1
  rcases sGet Fu s i with ⟨m', t', h1, h2, h3, h4⟩ | ⟨h1, h2⟩
  · have : m' = i := by omega
    subst this
    rw [ht] at h3
    rw [h4, Option.some.inj h3]
  · omega
/-- The parts of a term lie ahead of it and are less deep. -/
theorem once_l1 (Fu : Nat) (hf : 200 ≤ Fu) (s : Sto) (hs : StO s) (hl : s.1.length ≤ 100) (n : Nat) (t : Tm) (ht : s.1[n]? = some t) (e e' : Int) (x : Sto) : chatelainelaw36_TermOnce_l1 Fu ((n : Int), e, x) ((n : Int), e', s) (prt t) Fu 0 = some (.inr ()) := by
  have hn := (List.getElem?_eq_some_iff.1 ht).1
  have z0 : (0 : Int) = ((0 : Nat) : Int) := rfl
  have stop : ∀ (k m : Nat), (prt t).length ≤ m → chatelainelaw36_TermOnce_l1 Fu ((n : Int), e, x) ((n : Int), e', s) (prt t) (k + 1) m = some (.inr ()) := by
    intro k m hm
    rw [chatelainelaw36_TermOnce_l1, if_neg (by omega)]
  have step : ∀ (k m a : Nat) (da dn : Int), m < 10 → (prt t)[m]? = some (a : Int) → a < n → Dp s.1 a da → Dp s.1 n dn → da < dn → chatelainelaw36_TermOnce_l1 Fu ((n : Int), e, x) ((n : Int), e', s) (prt t) (k + 1) m = chatelainelaw36_TermOnce_l1 Fu ((n : Int), e, x) ((n : Int), e', s) (prt t) k ((m + 1 : Nat) : Int) := by
    intro k m a da dn hm ha han hda hdn hlt
    have h1 := (List.getElem?_eq_some_iff.1 ha).1
    rw [chatelainelaw36_TermOnce_l1, if_pos (by omega), ix_nat h1]
    simp only [Option.bind_some, eta3]
    rw [ha]
    simp only [Option.bind_some]
    obtain ⟨d1, g1, g2⟩ := sDepth Fu hf s hs hl a (by omega)
    obtain ⟨d2, g3, g4⟩ := sDepth Fu hf s hs hl n (by omega)
    have := g2.one hda
    subst this
    have := g4.one hdn
    subst this
    rw [g1, g3, if_neg (by simp; omega)]
    simp only [Option.bind_some]
    rw [if_neg (by simp; omega), w64_up m (by omega)]
  rcases dp_step (by omega) ht (hs.ok _ _ ht) (fun j hj => dp_all (by omega) hs.ok (j + 1) j (by omega) (by omega)) with ⟨h3, h4⟩ | ⟨a, h3, h4, d, h5, h6, h7, h8⟩ | ⟨a, b, h3, h4, h5, d, f, h6, h7, h8, h9, h10, h11, h12⟩
  · have := stop (Fu - 1) 0 (by rw [h3]; simp)
    rw [show Fu - 1 + 1 = Fu by omega] at this
    exact this
  · have g := step (Fu - 1) 0 a d (d + 1) (by omega) (by rw [h4]; rfl) h3 h7 h8 (by omega)
    rw [show Fu - 1 + 1 = Fu by omega] at g
    rw [z0, g]
    have := stop (Fu - 2) (0 + 1) (by rw [h4]; simp)
    rw [show Fu - 2 + 1 = Fu - 1 by omega] at this
    exact this
  · have g := step (Fu - 1) 0 a d _ (by omega) (by rw [h5]; rfl) h3 h10 h12 (by split <;> omega)
    rw [show Fu - 1 + 1 = Fu by omega] at g
    rw [z0, g]
    have g := step (Fu - 2) (0 + 1) b f _ (by omega) (by rw [h5]; rfl) h4 h11 h12 (by split <;> omega)
    rw [show Fu - 2 + 1 = Fu - 1 by omega] at g
    rw [g]
    have := stop (Fu - 3) (0 + 1 + 1) (by rw [h5]; simp)
    rw [show Fu - 3 + 1 = Fu - 2 by omega] at this
    exact this
theorem once_l0 (Fu : Nat) (hf : 200 ≤ Fu) (a : List (Bool × Int × Tm)) (ha : a.length ≤ 40) : ∀ (d k i : Nat) (s : Sto), i + d = a.length → d < k → StO s → s.1.length ≤ i → ∃ s' : Sto, chatelainelaw36_TermOnce_l0 Fu a k i s = some (.inr s') ∧ StO s' ∧ s'.1.length ≤ 40 := by
  intro d
  induction d with
  | zero =>
    intro k i s hi hk hs hl
    obtain ⟨k, rfl⟩ : ∃ m, k = m + 1 := ⟨k - 1, by omega⟩
    exact ⟨s, by rw [chatelainelaw36_TermOnce_l0, if_neg (by omega)], hs, by omega⟩
  | succ d ih =>
    intro k i s hi hk hs hl
    obtain ⟨k, rfl⟩ : ∃ m, k = m + 1 := ⟨k - 1, by omega⟩
    rw [chatelainelaw36_TermOnce_l0, if_pos (by omega), idx_nat, List.getElem?_eq_getElem (by omega)]
    simp only [Option.bind_some, eta3]
    have hlen : ∀ s : Sto, term_Store_Len Fu s = some (s.1.length : Int) := fun s => rfl
    simp only [hlen, Option.bind_some]
    rw [w64_up i (by omega), w64_up s.1.length (by omega)]
    generalize a[i] = c
    by_cases hc : c.1 = true
    · rw [if_pos hc]
      rcases sFresh Fu hf s hs (by omega) c.2.1 with ⟨h1, _⟩ | ⟨s', t, h1, h2, h3, _⟩
      · rw [h1]
        exact ih k (i + 1) s (by omega) (by omega) hs (by omega)
      · rw [h3]
        simp only [Option.bind_some, if_true]
        rw [if_neg (by simp)]
        simp only [Option.bind_some]
        have e : (s'.1.length : Int) = ((s.1.length + 1 : Nat) : Int) := by rw [h2]; simp
        rw [if_neg (by simp [e])]
        exact ih k (i + 1) s' (by omega) (by omega) h1 (by rw [h2]; simp; omega)
    · rw [if_neg hc]
      have okmono : ∀ (n m : Nat) (t : Tm), n ≤ m → okB n t = true → okB m t = true := by
        intro n m t hnm h
        unfold okB at h ⊢
        by_cases h1 : t.1 = 1
        · simp [h1] at h ⊢; omega
        · by_cases h2 : t.1 = 2
          · simp [h2] at h ⊢; omega
          · by_cases h3 : t.1 = 3
            · simp [h3] at h ⊢; omega
            · simp [h1, h2, h3] at h
      have key : term_Store_Put Fu s c.2.2 = some (0, 2, s) ∨ ∃ (n : Nat) (s' : Sto), StO s' ∧ s'.1.length ≤ s.1.length + 1 ∧ s'.1[n]? = some c.2.2 ∧ term_Store_Put Fu s c.2.2 = some ((n : Int), 0, s') ∧ okB s'.1.length c.2.2 = true := by
        rcases sPut Fu hf s hs (by omega) c.2.2 with ⟨_, h1, _⟩ | ⟨j, h1, h2, h3, _⟩ | ⟨s', h1, h2, h3, h4, h5, _⟩
        · exact .inl h1
        · exact .inr ⟨j, s, hs, by omega, h2, h3, h1⟩
        · exact .inr ⟨s.1.length, s', h3, by rw [h4]; simp, by rw [h4]; simp, h5, okmono _ _ _ (by rw [h4]; simp) h1⟩
      rcases key with h1 | ⟨n, s', h1, h2, h3, h4, h5⟩
      · rw [h1]
        simp only [Option.bind_some, ne_eq]
        rw [if_pos (by omega), if_neg (by simp)]
        exact ih k (i + 1) s (by omega) (by omega) hs (by omega)
      · rw [h4]
        simp only [Option.bind_some, ne_eq, not_true, if_false]
        have h6 : term_Store_Put Fu s' c.2.2 = some ((n : Int), 0, s') := by
          rcases sPut Fu hf s' h1 (by omega) c.2.2 with ⟨g1, _, _⟩ | ⟨j, _, g1, g2, _⟩ | ⟨_, _, g1, _, _, _, _⟩
          · rw [h5] at g1; cases g1
          · rw [g2, h1.nd _ _ _ g1 h3]
          · exact absurd (List.mem_of_getElem? h3) g1
        rw [h6]
        simp only [Option.bind_some]
        rw [sGetN Fu s' n _ h3]
        simp only [Option.bind_some]
        rw [if_neg (by simp)]
        simp only [Option.bind_some]
        rw [if_neg (by simp; omega), sParts Fu s' n _ h3]
        simp only [Option.bind_some]
        rw [once_l1 Fu hf s' h1 (by omega) n _ h3]
        exact ih k (i + 1) s' (by omega) (by omega) h1 (by omega)
theorem once_l3 (Fu : Nat) (s : Sto) (hs : StO s) (hl : s.1.length ≤ 100) (n : Nat) (hn : n < s.1.length) : ∀ (d k i : Nat), i + d = n → d < k → chatelainelaw36_TermOnce_l3 Fu s n k i = some (.inr ()) := by
  intro d
  induction d with
  | zero =>
    intro k i hi hk
    obtain ⟨k, rfl⟩ : ∃ m, k = m + 1 := ⟨k - 1, by omega⟩
    rw [chatelainelaw36_TermOnce_l3, if_neg (by omega)]
  | succ d ih =>
    intro k i hi hk
    obtain ⟨k, rfl⟩ : ∃ m, k = m + 1 := ⟨k - 1, by omega⟩
    rw [chatelainelaw36_TermOnce_l3, if_pos (by omega)]
    simp only [eta3]
    have h1 := List.getElem?_eq_getElem hn
    have h2 := List.getElem?_eq_getElem (show i < s.1.length by omega)
    rw [sGetN Fu s n _ h1, sGetN Fu s i _ h2]
    simp only [Option.bind_some]
    rw [if_neg (fun e => by rw [e] at h1; have := hs.nd _ _ _ h1 h2; omega), w64_up i (by omega)]
    exact ih k (i + 1) (by omega) (by omega)
theorem once_l2 (Fu : Nat) (hf : 200 ≤ Fu) (s : Sto) (hs : StO s) (hl : s.1.length ≤ 100) : ∀ (d k i : Nat), i + d = s.1.length → d < k → chatelainelaw36_TermOnce_l2 Fu s (s.1.length : Int) k i = some (.inr ()) := by
  intro d
  induction d with
  | zero =>
    intro k i hi hk
    obtain ⟨k, rfl⟩ : ∃ m, k = m + 1 := ⟨k - 1, by omega⟩
    rw [chatelainelaw36_TermOnce_l2, if_neg (by omega)]
  | succ d ih =>
    intro k i hi hk
    obtain ⟨k, rfl⟩ : ∃ m, k = m + 1 := ⟨k - 1, by omega⟩
    rw [chatelainelaw36_TermOnce_l2, if_pos (by omega)]
    have := once_l3 Fu s hs hl i (by omega) i Fu 0 (by omega) (by omega)
    rw [show ((0 : Nat) : Int) = 0 from rfl] at this
    rw [this]
    simp only [Option.bind_some]
    rw [w64_up i (by omega)]
    exact ih k (i + 1) (by omega) (by omega)
theorem chatelainelaw36_TermOnce_true (a : List (Bool × Int × Tm)) (ha : ∀ x ∈ a, (tyP tyB (tyP tyI (tyP tyI (tyP tyI tyI)))).has x) : ∃ Fu, chatelainelaw36_TermOnce Fu a = some true := by
  refine ⟨200, ?_⟩
  unfold chatelainelaw36_TermOnce
  rw [sAwake 200 (by omega)]
  simp only [Option.bind_some, Bool.not_true, Bool.false_eq_true, if_false]
  have n1 : term_Store_Put_nil0 200 (0, 0, 0) = some (0, 1) := rfl
  have n2 : term_Store_Fresh_nil0 200 1 = some (0, 1) := rfl
  have n3 : term_Store_Len_nil0 200 = some 0 := rfl
  have n4 : term_Store_Depth_nil0 200 0 = some 0 := rfl
  have n5 : term_Store_Parts_nil0 200 0 = some [] := by unfold term_Store_Parts_nil0 term_Store_Get_nil0 term_Store_is_nil0; simp
  rw [n1, n2, n3, n4, n5]
  simp only [Option.bind_some, ne_eq, not_true, if_false]
  rw [if_neg (by decide)]
  by_cases h40 : 40 < (a.length : Int)
  · rw [if_pos h40]
  · rw [if_neg h40]
    simp only [term_New, Option.bind_some]
    obtain ⟨s, h1, h2, h3⟩ := once_l0 200 (by omega) a (by omega) a.length 200 0 ([], [], []) (by omega) (by omega) StO.nil (by simp)
    rw [show ((0 : Nat) : Int) = 0 from rfl] at h1
    rw [h1]
    simp only [Option.bind_some, eta3]
    have h4 := once_l2 200 (by omega) s h2 (by omega) s.1.length 200 0 (by omega) (by omega)
    rw [show ((0 : Nat) : Int) = 0 from rfl] at h4
    have hlen : term_Store_Len 200 s = some (s.1.length : Int) := rfl
    rw [hlen]
    simp only [Option.bind_some]
    rw [h4]
    rfl
end Go.Proofs.Ytdahdlidpplllaa
