/- The statement TwinNames, told over lists: terms renamed one by one are those of the definition. -/
import Derived.Test.YtdahdlidpplllaaEc
import Derived.Test.YtdahdlidpplllaaPo
set_option linter.unusedVariables false
set_option linter.unusedSimpArgs false
namespace Go.Proofs.Ytdahdlidpplllaa
open Go.RowKit
theorem w64_up (n : Nat) (h : n < 1000000) : w64 ((n : Int) + 1) = ((n + 1 : Nat) : Int) := by rw [w64_of (by omega)]; omega
theorem w64_dn (n : Nat) (h : n < 1000000) : w64 ((n : Int) - 1) = (n : Int) - 1 := w64_of (by omega)
/-! ### right terms -/
def okB (i : Int) (t : Tm) : Bool := (decide (t.1 = 1) && decide (1 ≤ t.2.1) && decide (t.2.1 ≤ 4) && decide (0 ≤ t.2.2)) || (decide (t.1 = 2) && decide (0 ≤ t.2.1) && decide (t.2.1 < i) && decide (0 ≤ t.2.2)) || (decide (t.1 = 3) && decide (0 ≤ t.2.1) && decide (t.2.1 < i) && decide (0 ≤ t.2.2) && decide (t.2.2 < i))
def rightG : Nat → List Tm → Bool
  | _, [] => true
  | i, t :: l => okB i t && rightG (i + 1) l
theorem tRight_l0 (Fu : Nat) (a : List Tm) (ha : a.length < 1000000) : ∀ (d k i : Nat), i + d = a.length → d < k → twin_Right_l0 Fu a k i = some (if rightG i (a.drop i) then .inr () else .inl false) := by
  intro d
  induction d with
  | zero =>
    intro k i hi hk
    obtain ⟨k, rfl⟩ : ∃ m, k = m + 1 := ⟨k - 1, by omega⟩
    rw [twin_Right_l0, if_neg (by omega), List.drop_of_length_le (by omega)]; rfl
  | succ d ih =>
    intro k i hi hk
    obtain ⟨k, rfl⟩ : ∃ m, k = m + 1 := ⟨k - 1, by omega⟩
    rw [twin_Right_l0, if_pos (by omega), idx_nat, List.getElem?_eq_getElem (by omega), List.drop_eq_getElem_cons (by omega)]
    simp only [Option.bind_some, twin_within, rightG]
    generalize a[i] = t
    rw [w64_dn i (by omega), w64_up i (by omega), ih k (i + 1) (by omega) (by omega)]
    have key : (if t.1 = 1 then some ((decide (1 ≤ t.2.1) && decide (t.2.1 ≤ 4)) && decide (0 ≤ t.2.2)) else if t.1 = 2 then some ((decide (0 ≤ t.2.1) && decide (t.2.1 ≤ (i : Int) - 1)) && decide (0 ≤ t.2.2)) else if t.1 = 3 then (if (decide (0 ≤ t.2.1) && decide (t.2.1 ≤ (i : Int) - 1)) = true then some (decide (0 ≤ t.2.2) && decide (t.2.2 ≤ (i : Int) - 1)) else some false).bind fun z => some z else some false) = some (okB i t) := by
      unfold okB
      have e1 : ∀ x : Int, (x ≤ (i : Int) - 1) = (x < i) := fun x => by simp; omega
      simp only [e1]
      by_cases h1 : t.1 = 1
      · simp [h1]
      · by_cases h2 : t.1 = 2
        · simp [h2]
        · by_cases h3 : t.1 = 3
          · simp [h3]
            by_cases h4 : 0 ≤ t.2.1 ∧ t.2.1 < i
            · simp [h4]
            · rw [if_neg h4]
              simp
              intro h5 h6; exact absurd ⟨h5, h6⟩ h4
          · simp [h1, h2, h3]
    rw [key]
    simp only [Option.bind_some]
    by_cases hb : okB i t = true
    · simp [hb]
    · simp [Bool.eq_false_iff.2 hb]
theorem tRight (Fu : Nat) (a : List Tm) (h : a.length < Fu) (ha : a.length < 1000000) : twin_Right Fu a = some (rightG 0 a) := by
  unfold twin_Right
  have := tRight_l0 Fu a ha a.length Fu 0 (by omega) h
  rw [show ((0 : Nat) : Int) = 0 from rfl] at this
  rw [this, List.drop_zero]
  cases rightG 0 a <;> rfl
theorem rRight_l0 (Fu : Nat) (a : List Tm) (ha : a.length < 1000000) : ∀ (d k i : Nat), i + d = a.length → d < k → chatelaineref39_Right_l0 Fu a k i = some (if rightG i (a.drop i) then .inr () else .inl false) := by
  intro d
  induction d with
  | zero =>
    intro k i hi hk
    obtain ⟨k, rfl⟩ : ∃ m, k = m + 1 := ⟨k - 1, by omega⟩
    rw [chatelaineref39_Right_l0, if_neg (by omega), List.drop_of_length_le (by omega)]; rfl
  | succ d ih =>
    intro k i hi hk
    obtain ⟨k, rfl⟩ : ∃ m, k = m + 1 := ⟨k - 1, by omega⟩
    rw [chatelaineref39_Right_l0, if_pos (by omega), idx_nat, List.getElem?_eq_getElem (by omega), List.drop_eq_getElem_cons (by omega)]
    simp only [Option.bind_some, rightG]
    generalize a[i] = t
    rw [w64_up i (by omega), ih k (i + 1) (by omega) (by omega)]
    have e : ((!(decide (t.1 = 1) && decide (1 ≤ t.2.1) && decide (t.2.1 ≤ 4) && decide (0 ≤ t.2.2))) && (!(decide (t.1 = 2) && decide (0 ≤ t.2.1) && decide (t.2.1 < (i : Int)) && decide (0 ≤ t.2.2))) && (!(decide (t.1 = 3) && decide (0 ≤ t.2.1) && decide (t.2.1 < (i : Int)) && decide (0 ≤ t.2.2) && decide (t.2.2 < (i : Int))))) = !okB i t := by
      unfold okB; rw [Bool.not_or, Bool.not_or]
    rw [e]
    by_cases hb : okB i t = true
    · simp [hb]
    · simp [Bool.eq_false_iff.2 hb]
theorem rRight (Fu : Nat) (a : List Tm) (h : a.length < Fu) (ha : a.length < 1000000) : chatelaineref39_Right Fu a = some (rightG 0 a) := by
  unfold chatelaineref39_Right
  have := rRight_l0 Fu a ha a.length Fu 0 (by omega) h
  rw [show ((0 : Nat) : Int) = 0 from rfl] at this
  rw [this, List.drop_zero]
  cases rightG 0 a <;> rfl
theorem rightG_at : ∀ (l : List Tm) (i : Nat), rightG i l = true → ∀ t ∈ l, t.1 = 1 → 1 ≤ t.2.1 ∧ t.2.1 ≤ 4
  | [], _, _, t, ht => by simp at ht
  | x :: l, i, h, t, ht => by
    simp only [rightG, Bool.and_eq_true] at h
    rcases List.mem_cons.1 ht with rfl | ht
    · intro h1
      have := h.1
      unfold okB at this
      simp [h1] at this
      omega
    · exact rightG_at l _ h.2 t ht
/-! ### lists compared -/
theorem rSame_l0 (Fu : Nat) (a b : List Tm) (ha : a.length < 1000000) (hab : a.length = b.length) : ∀ (d k i : Nat), i + d = a.length → d < k → chatelaineref39_Same_l0 Fu a b k i = some (if a.drop i = b.drop i then .inr () else .inl false) := by
  intro d
  induction d with
  | zero =>
    intro k i hi hk
    obtain ⟨k, rfl⟩ : ∃ m, k = m + 1 := ⟨k - 1, by omega⟩
    rw [chatelaineref39_Same_l0, if_neg (by omega), List.drop_of_length_le (by omega), List.drop_of_length_le (by omega), if_pos rfl]
  | succ d ih =>
    intro k i hi hk
    obtain ⟨k, rfl⟩ : ∃ m, k = m + 1 := ⟨k - 1, by omega⟩
    rw [chatelaineref39_Same_l0, if_pos (by omega), idx_nat, idx_nat, List.getElem?_eq_getElem (by omega), List.getElem?_eq_getElem (by omega)]
    simp only [Option.bind_some]
    rw [w64_up i (by omega), ih k (i + 1) (by omega) (by omega)]
    rw [List.drop_eq_getElem_cons (show i < a.length by omega), List.drop_eq_getElem_cons (show i < b.length by omega)]
    by_cases h : a[i] = b[i]
    · simp only [h, decide_true, Bool.not_true, Bool.false_eq_true, if_false, List.cons.injEq, true_and]
    · simp only [h, decide_false, Bool.not_false, if_true, List.cons.injEq, false_and, if_false]
theorem rSame (Fu : Nat) (a b : List Tm) (h : a.length < Fu) (ha : a.length < 1000000) : chatelaineref39_Same Fu a b = some (decide (a = b)) := by
  unfold chatelaineref39_Same
  by_cases hab : a.length = b.length
  · rw [if_neg (by omega)]
    have := rSame_l0 Fu a b ha hab a.length Fu 0 (by omega) h
    rw [show ((0 : Nat) : Int) = 0 from rfl] at this
    rw [this, List.drop_zero, List.drop_zero]
    by_cases e : a = b <;> simp [e]
  · rw [if_pos (by omega)]
    have : ¬ a = b := fun e => hab (by rw [e])
    simp [this]
theorem tEqual_l0 (Fu : Nat) (a b : List Tm) (ha : a.length < 1000000) (hab : a.length = b.length) : ∀ (d k i : Nat), i + d = a.length → d < k → slices_Equal___api_Term_api_Term_l0 Fu a b k i = some (if a.drop i = b.drop i then .inr () else .inl false) := by
  intro d
  induction d with
  | zero =>
    intro k i hi hk
    obtain ⟨k, rfl⟩ : ∃ m, k = m + 1 := ⟨k - 1, by omega⟩
    rw [slices_Equal___api_Term_api_Term_l0, if_neg (by omega), List.drop_of_length_le (by omega), List.drop_of_length_le (by omega), if_pos rfl]
  | succ d ih =>
    intro k i hi hk
    obtain ⟨k, rfl⟩ : ∃ m, k = m + 1 := ⟨k - 1, by omega⟩
    rw [slices_Equal___api_Term_api_Term_l0, if_pos (by omega), idx_nat, idx_nat, List.getElem?_eq_getElem (by omega), List.getElem?_eq_getElem (by omega)]
    simp only [Option.bind_some]
    rw [w64_up i (by omega), ih k (i + 1) (by omega) (by omega)]
    rw [List.drop_eq_getElem_cons (show i < a.length by omega), List.drop_eq_getElem_cons (show i < b.length by omega)]
    by_cases h : a[i] = b[i]
    · simp only [h, decide_true, Bool.not_true, Bool.false_eq_true, if_false, List.cons.injEq, true_and]
    · simp only [h, decide_false, Bool.not_false, if_true, List.cons.injEq, false_and, if_false]
theorem tEqual (Fu : Nat) (a b : List Tm) (h : a.length < Fu) (ha : a.length < 1000000) : slices_Equal___api_Term_api_Term Fu a b = some (decide (a = b)) := by
  unfold slices_Equal___api_Term_api_Term
  by_cases hab : a.length = b.length
  · rw [if_neg (by omega)]
    have := tEqual_l0 Fu a b ha hab a.length Fu 0 (by omega) h
    rw [show ((0 : Nat) : Int) = 0 from rfl] at this
    rw [this, List.drop_zero, List.drop_zero]
    by_cases e : a = b <;> simp [e]
  · rw [if_pos (by omega)]
    have : ¬ a = b := fun e => hab (by rw [e])
    simp [this]
theorem rIn_l0 (Fu : Nat) (a : List Tm) (t : Tm) (ha : a.length < 1000000) : ∀ (d k i : Nat), i + d = a.length → d < k → chatelaineref39_In_l0 Fu a t k i = some (if t ∈ a.drop i then .inl true else .inr ()) := by
  intro d
  induction d with
  | zero =>
    intro k i hi hk
    obtain ⟨k, rfl⟩ : ∃ m, k = m + 1 := ⟨k - 1, by omega⟩
    rw [chatelaineref39_In_l0, if_neg (by omega), List.drop_of_length_le (by omega)]; simp
  | succ d ih =>
    intro k i hi hk
    obtain ⟨k, rfl⟩ : ∃ m, k = m + 1 := ⟨k - 1, by omega⟩
    rw [chatelaineref39_In_l0, if_pos (by omega), idx_nat, List.getElem?_eq_getElem (by omega)]
    simp only [Option.bind_some]
    rw [w64_up i (by omega), ih k (i + 1) (by omega) (by omega)]
    rw [List.drop_eq_getElem_cons (show i < a.length by omega)]
    by_cases h : a[i] = t
    · simp [h]
    · have h' : ¬ t = a[i] := fun e => h e.symm
      simp only [h, if_false, List.mem_cons, h', false_or]
theorem rIn (Fu : Nat) (a : List Tm) (t : Tm) (h : a.length < Fu) (ha : a.length < 1000000) : chatelaineref39_In Fu a t = some (decide (t ∈ a)) := by
  unfold chatelaineref39_In
  have := rIn_l0 Fu a t ha a.length Fu 0 (by omega) h
  rw [show ((0 : Nat) : Int) = 0 from rfl] at this
  rw [this, List.drop_zero]
  by_cases e : t ∈ a <;> simp [e]
/-! ### names -/
def freshA (l named : List Tm) (s : Int) (m : Nat) : Bool := match l[m]? with
  | some t => decide (t.1 = 1) && decide (t.2.1 = s) && !decide (t ∈ named) && !decide (t ∈ l.take m)
  | none => false
def cntA (l named : List Tm) (s : Int) : Nat → Nat
  | 0 => 0
  | j + 1 => cntA l named s j + if freshA l named s j then 1 else 0
theorem cntA_le (l named : List Tm) (s : Int) : ∀ j, cntA l named s j ≤ j
  | 0 => Nat.le_refl _
  | j + 1 => by have := cntA_le l named s j; unfold cntA; split <;> omega
def baseG (s : Int) : List Tm → Int → Int
  | [], n => n
  | t :: l, n => baseG s l (if t.2.1 = s ∧ n ≤ t.2.2 then t.2.2 + 1 else n)
def baseA (named : List Tm) (s : Int) : Int := baseG s named 0
def keepT (l named : List Tm) (t : Tm) : Tm := if t.1 ≠ 1 ∨ t ∈ named then t else (1, t.2.1, baseA named t.2.1 + cntA l named t.2.1 (l.idxOf t))
def okN (t : Tm) : Prop := t.1 = 1 ∧ 1 ≤ t.2.1 ∧ t.2.1 ≤ 4 ∧ 0 ≤ t.2.2 ∧ t.2.2 ≤ 65536
theorem baseG_b (s : Int) : ∀ (l : List Tm) (n : Int), (∀ t ∈ l, okN t) → 0 ≤ n → n ≤ 65537 → 0 ≤ baseG s l n ∧ baseG s l n ≤ 65537
  | [], n, _, h1, h2 => ⟨h1, h2⟩
  | t :: l, n, h, h1, h2 => by
    have ht := h t (List.mem_cons_self ..)
    unfold okN at ht
    unfold baseG
    refine baseG_b s l _ (fun x hx => h x (List.mem_cons_of_mem _ hx)) ?_ ?_ <;> split <;> omega
theorem take_mem_succ {l : List Tm} {j : Nat} (hj : j < l.length) (t : Tm) : t ∈ l.take (j + 1) ↔ t ∈ l.take j ∨ t = l[j] := by
  rw [List.take_succ_eq_append_getElem hj, List.mem_append, List.mem_singleton]
theorem idxOf_le : ∀ (l : List Tm) (i : Nat) (h : i < l.length), l.idxOf l[i] ≤ i
  | [], _, h => by simp at h
  | x :: l, 0, _ => by simp [List.idxOf_cons]
  | x :: l, i + 1, h => by
    have hl : i < l.length := by simpa using h
    have := idxOf_le l i hl
    rw [List.idxOf_cons]
    cases (x == (x :: l)[i + 1]) with
    | true => simp only [cond_true]; omega
    | false =>
      simp only [cond_false]
      show List.idxOf l[i] l + 1 ≤ i + 1
      omega
theorem idxOf_lt_iff {l : List Tm} {t : Tm} {j : Nat} (hj : j ≤ l.length) : l.idxOf t < j ↔ t ∈ l.take j := by
  constructor
  · intro h
    have hlt : l.idxOf t < l.length := by omega
    have := List.getElem_idxOf hlt
    rw [List.mem_take_iff_getElem]
    exact ⟨l.idxOf t, by omega, this⟩
  · intro h
    rw [List.mem_take_iff_getElem] at h
    obtain ⟨i, hi, rfl⟩ := h
    have := idxOf_le l i (by omega)
    omega
theorem rK_l1 (Fu : Nat) (l : List Tm) (t : Tm) (hl : l.length < 1000000) : ∀ (j k : Nat) (x : Int), j ≤ l.length → j < k → chatelaineref39_Keep_l1 Fu l t k x ((j : Int) - 1) = some (if t ∈ l.take j then (l.idxOf t : Int) else x) := by
  intro j
  induction j with
  | zero =>
    intro k x hj hk
    obtain ⟨k, rfl⟩ : ∃ m, k = m + 1 := ⟨k - 1, by omega⟩
    rw [chatelaineref39_Keep_l1, if_neg (by omega)]; simp
  | succ j ih =>
    intro k x hj hk
    obtain ⟨k, rfl⟩ : ∃ m, k = m + 1 := ⟨k - 1, by omega⟩
    rw [chatelaineref39_Keep_l1, if_pos (by omega), show ((j + 1 : Nat) : Int) - 1 = (j : Int) by omega, idx_nat, List.getElem?_eq_getElem (by omega)]
    simp only [Option.bind_some]
    rw [w64_dn j (by omega)]
    by_cases h : l[j] = t
    · rw [if_pos h]
      simp only [Option.bind_some]
      rw [ih k j (by omega) (by omega)]
      have h1 : t ∈ l.take (j + 1) := (take_mem_succ (by omega) t).2 (.inr h.symm)
      rw [if_pos h1]
      split
      · rfl
      · next h2 =>
        have h3 := (idxOf_lt_iff (t := t) (show j + 1 ≤ l.length by omega)).2 h1
        have h4 := mt (idxOf_lt_iff (t := t) (show j ≤ l.length by omega)).1 h2
        congr 1; omega
    · rw [if_neg h]
      simp only [Option.bind_some]
      rw [ih k x (by omega) (by omega)]
      have h1 : t ∈ l.take (j + 1) ↔ t ∈ l.take j := by rw [take_mem_succ (by omega)]; exact ⟨fun q => q.elim id (fun e => absurd e.symm h), .inl⟩
      by_cases h2 : t ∈ l.take j
      · rw [if_pos h2, if_pos (h1.2 h2)]
      · rw [if_neg h2, if_neg (fun q => h2 (h1.1 q))]
theorem rK_l2 (Fu : Nat) (named : List Tm) (t : Tm) (hn : ∀ x ∈ named, okN x) (hl : named.length < 1000000) : ∀ (d k i : Nat) (n : Int), i + d = named.length → d < k → 0 ≤ n → n ≤ 65537 → chatelaineref39_Keep_l2 Fu named t k n i = some (baseG t.2.1 (named.drop i) n) := by
  intro d
  induction d with
  | zero =>
    intro k i n hi hk h1 h2
    obtain ⟨k, rfl⟩ : ∃ m, k = m + 1 := ⟨k - 1, by omega⟩
    rw [chatelaineref39_Keep_l2, if_neg (by omega), List.drop_of_length_le (by omega)]; rfl
  | succ d ih =>
    intro k i n hi hk h1 h2
    obtain ⟨k, rfl⟩ : ∃ m, k = m + 1 := ⟨k - 1, by omega⟩
    have hx := hn named[i] (List.getElem_mem _)
    unfold okN at hx
    rw [chatelaineref39_Keep_l2, if_pos (by omega), idx_nat, List.getElem?_eq_getElem (by omega), List.drop_eq_getElem_cons (by omega)]
    simp only [Option.bind_some]
    rw [w64_up i (by omega), w64_of (x := named[i].2.2 + 1) (by omega)]
    unfold baseG
    by_cases h : named[i].2.1 = t.2.1
    · by_cases h3 : n ≤ named[i].2.2
      · simp only [h, h3, if_true, decide_true, Option.bind_some, and_self]
        exact ih k (i + 1) _ (by omega) (by omega) (by omega) (by omega)
      · simp only [h, h3, if_true, if_false, decide_false, Option.bind_some, and_false, Bool.false_eq_true]
        exact ih k (i + 1) _ (by omega) (by omega) (by omega) (by omega)
    · simp only [h, if_false, false_and, Option.bind_some, Bool.false_eq_true]
      exact ih k (i + 1) _ (by omega) (by omega) (by omega) (by omega)
theorem rK_l3 (Fu : Nat) (l named : List Tm) (t : Tm) (e : Nat) (hl : l.length < 1000000) (hF : l.length < Fu) (hF2 : named.length < Fu) (hn : named.length < 1000000) (he : e ≤ l.length) : ∀ (d k i : Nat) (n : Int), i + d = e → d < k → 0 ≤ n → n ≤ 1000000 → chatelaineref39_Keep_l3 Fu l named t e k (n + cntA l named t.2.1 i) i = some (n + cntA l named t.2.1 e) := by
  intro d
  induction d with
  | zero =>
    intro k i n hi hk h1 h2
    obtain ⟨k, rfl⟩ : ∃ m, k = m + 1 := ⟨k - 1, by omega⟩
    rw [chatelaineref39_Keep_l3, if_neg (by omega)]
    rw [show i = e by omega]
  | succ d ih =>
    intro k i n hi hk h1 h2
    obtain ⟨k, rfl⟩ : ∃ m, k = m + 1 := ⟨k - 1, by omega⟩
    have hb := cntA_le l named t.2.1 i
    rw [chatelaineref39_Keep_l3, if_pos (by omega), idx_nat, List.getElem?_eq_getElem (by omega)]
    simp only [Option.bind_some]
    rw [rIn Fu named _ hF2 hn]
    have hsub : sub l 0 (i : Int) = some (l.take i) := by unfold sub; rw [if_pos (by omega)]; simp
    rw [hsub]
    simp only [Option.bind_some]
    rw [rIn Fu (l.take i) _ (by rw [List.length_take]; omega) (by rw [List.length_take]; omega), w64_up i (by omega), w64_of (x := n + cntA l named t.2.1 i + 1) (by omega)]
    have ih' := ih k (i + 1) n (by omega) (by omega) h1 h2
    have hc : cntA l named t.2.1 (i + 1) = cntA l named t.2.1 i + if (decide (l[i].1 = 1) && decide (l[i].2.1 = t.2.1) && !decide (l[i] ∈ named) && !decide (l[i] ∈ l.take i)) then 1 else 0 := by
      rw [cntA]; unfold freshA; rw [List.getElem?_eq_getElem (show i < l.length by omega)]
    rw [hc] at ih'
    by_cases h1' : l[i].1 = 1
    · by_cases h2' : l[i].2.1 = t.2.1
      · by_cases h3' : l[i] ∈ named
        · simp [h1', h2', h3'] at ih' ⊢; exact ih'
        · by_cases h4' : l[i] ∈ l.take i
          · simp [h1', h2', h3', h4'] at ih' ⊢; exact ih'
          · simp [h1', h2', h3', h4'] at ih' ⊢; rw [Int.add_assoc]; exact ih'
      · simp [h1', h2'] at ih' ⊢; exact ih'
    · simp [h1'] at ih' ⊢; exact ih'
theorem app24 (l : List Tm) (x : Tm) (h : l.length < 1000000) : app 24 l [x] = some (l ++ [x]) := by
  unfold app; rw [if_pos]; simp only [List.length_singleton]; unfold maxLen; omega
theorem rK_l0 (Fu : Nat) (l named : List Tm) (hn : ∀ x ∈ named, okN x) (hl : l.length < 1000000) (hF : l.length < Fu) (hF2 : named.length < Fu) (hnl : named.length < 1000000) : ∀ (d k i : Nat), i + d = l.length → d < k → chatelaineref39_Keep_l0 Fu l named k ((l.take i).map (keepT l named)) i = some (l.map (keepT l named)) := by
  intro d
  induction d with
  | zero =>
    intro k i hi hk
    obtain ⟨k, rfl⟩ : ∃ m, k = m + 1 := ⟨k - 1, by omega⟩
    rw [chatelaineref39_Keep_l0, if_neg (by omega), List.take_of_length_le (by omega)]
  | succ d ih =>
    intro k i hi hk
    obtain ⟨k, rfl⟩ : ∃ m, k = m + 1 := ⟨k - 1, by omega⟩
    have hil : i < l.length := by omega
    have ih' := ih k (i + 1) (by omega) (by omega)
    rw [List.take_succ_eq_append_getElem hil, List.map_append, List.map_singleton] at ih'
    rw [chatelaineref39_Keep_l0, if_pos (by omega), idx_nat, List.getElem?_eq_getElem hil]
    simp only [Option.bind_some]
    rw [rIn Fu named _ hF2 hnl, w64_up i (by omega), w64_dn i (by omega)]
    by_cases h1 : l[i].1 ≠ 1 ∨ l[i] ∈ named
    · have e1 : (if l[i].1 ≠ 1 then some true else (some (decide (l[i] ∈ named))).bind fun x => some x) = some true := by
        rcases h1 with h1 | h1
        · rw [if_pos h1]
        · split <;> simp [h1]
      rw [e1]
      simp only [Option.bind_some, if_true]
      rw [app24 _ _ (by simp; omega)]
      have e2 : keepT l named l[i] = l[i] := by unfold keepT; rw [if_pos h1]
      rw [e2] at ih'
      exact ih'
    · have h2 : l[i].1 = 1 := Classical.byContradiction fun h => h1 (.inl h)
      have h3 : ¬ l[i] ∈ named := fun h => h1 (.inr h)
      have hfirst := rK_l1 Fu l l[i] hl i Fu i (by omega) (by omega)
      have hidx : (if l[i] ∈ l.take i then (l.idxOf l[i] : Int) else (i : Int)) = (l.idxOf l[i] : Int) := by
        split
        · rfl
        · next h => 
          have h4 := (idxOf_lt_iff (t := l[i]) (show i + 1 ≤ l.length by omega)).2 ((take_mem_succ hil _).2 (.inr rfl))
          have h5 := mt (idxOf_lt_iff (t := l[i]) (show i ≤ l.length by omega)).1 h
          congr 1; omega
      rw [hidx] at hfirst
      have h6 := (idxOf_lt_iff (t := l[i]) (show i + 1 ≤ l.length by omega)).2 ((take_mem_succ hil _).2 (.inr rfl))
      have hbase := rK_l2 Fu named l[i] hn hnl named.length Fu 0 0 (by omega) (by omega) (by omega) (by omega)
      rw [List.drop_zero] at hbase
      have hbb := baseG_b l[i].2.1 named 0 hn (by omega) (by omega)
      have hcnt := rK_l3 Fu l named l[i] (l.idxOf l[i]) hl hF hF2 hnl (by omega) (l.idxOf l[i]) Fu 0 (baseG l[i].2.1 named 0) (by omega) (by omega) hbb.1 (by omega)
      simp only [cntA, Int.natCast_zero, Int.add_zero] at hcnt
      simp only [h2, h3, ne_eq, not_true_eq_false, if_false, decide_false, Option.bind_some, Bool.false_eq_true]
      rw [hfirst]
      simp only [Option.bind_some]
      rw [show ((0 : Nat) : Int) = 0 from rfl] at hbase
      rw [hbase]
      simp only [Option.bind_some]
      rw [hcnt]
      simp only [Option.bind_some]
      rw [app24 _ _ (by simp; omega)]
      have e2 : keepT l named l[i] = (1, l[i].2.1, baseG l[i].2.1 named 0 + cntA l named l[i].2.1 (l.idxOf l[i])) := by unfold keepT baseA; rw [if_neg h1]
      rw [e2] at ih'
      exact ih'
theorem rKeep (Fu : Nat) (l named : List Tm) (hn : ∀ x ∈ named, okN x) (hl : l.length < 1000000) (hF : l.length < Fu) (hF2 : named.length < Fu) (hnl : named.length < 1000000) : chatelaineref39_Keep Fu l named = some (l.map (keepT l named)) := by
  unfold chatelaineref39_Keep
  have := rK_l0 Fu l named hn hl hF hF2 hnl l.length Fu 0 (by omega) hF
  rw [show ((0 : Nat) : Int) = 0 from rfl, List.take_zero, List.map_nil] at this
  rw [this]; rfl
/-! ### the program's renaming -/
theorem aget_key {α : Type} (ps : List (Tm × α)) (t : Tm) : (aget t ps).isSome = true ↔ ∃ v, aget t ps = some v := by cases aget t ps <;> simp
def firstOk (l named : List Tm) (i : Nat) (f : List Int) : Prop := f.length = 5 ∧ ∀ s : Nat, 1 ≤ s → s ≤ 4 → f[s]? = some (baseA named s + cntA l named s i)
def namesOk (l named : List Tm) (i : Nat) (nm : List (Tm × Tm)) : Prop := ∀ t : Tm, t.1 = 1 → t ∉ named → aget t nm = if t ∈ l.take i then some (keepT l named t) else none
theorem tR_l0 (Fu : Nat) (l named : List Tm) (known : List (Tm × Bool)) (hk0 : ∀ t, (aget t known).getD false = decide (t ∈ named)) (hn : ∀ x ∈ named, okN x) (hr : ∀ t ∈ l, t.1 = 1 → 1 ≤ t.2.1 ∧ t.2.1 ≤ 4) (hl : l.length < 1000000) : ∀ (d k i : Nat) (f : List Int) (nm : List (Tm × Tm)), i + d = l.length → d < k → firstOk l named i f → namesOk l named i nm → twin_renamed_l0 Fu l known k ((l.take i).map (keepT l named)) i f nm = some (l.map (keepT l named)) := by
  intro d
  induction d with
  | zero =>
    intro k i f nm hi hk hf hnm
    obtain ⟨k, rfl⟩ : ∃ m, k = m + 1 := ⟨k - 1, by omega⟩
    rw [twin_renamed_l0, if_neg (by omega), List.take_of_length_le (by omega)]
  | succ d ih =>
    intro k i f nm hi hk hf hnm
    obtain ⟨k, rfl⟩ : ∃ m, k = m + 1 := ⟨k - 1, by omega⟩
    have hil : i < l.length := by omega
    have ih' := fun f' nm' h1 h2 => ih k (i + 1) f' nm' (by omega) (by omega) h1 h2
    rw [List.take_succ_eq_append_getElem hil, List.map_append, List.map_singleton] at ih'
    have hfresh : freshA l named (l[i].2.1) i = (decide (l[i].1 = 1) && !decide (l[i] ∈ named) && !decide (l[i] ∈ l.take i)) := by
      unfold freshA; rw [List.getElem?_eq_getElem hil]; simp
    rw [twin_renamed_l0, if_pos (by omega), idx_nat, List.getElem?_eq_getElem hil]
    simp only [Option.bind_some]
    rw [hk0, w64_up i (by omega)]
    by_cases h1 : l[i].1 ≠ 1 ∨ l[i] ∈ named
    · have e1 : (decide (l[i].1 ≠ 1) || decide (l[i] ∈ named)) = true := by simpa using h1
      rw [if_pos e1, app24 _ _ (by simp; omega)]
      simp only [Option.bind_some]
      have e2 : keepT l named l[i] = l[i] := by unfold keepT; rw [if_pos h1]
      rw [e2] at ih'
      refine ih' f nm ⟨hf.1, fun s h3 h4 => ?_⟩ (fun t h3 h4 => ?_)
      · rw [hf.2 s h3 h4, cntA]
        have : freshA l named s i = false := by
          unfold freshA; rw [List.getElem?_eq_getElem hil]
          rcases h1 with h1 | h1
          · simp [h1]
          · simp [h1]
        rw [this]; simp
      · rw [hnm t h3 h4]
        have hne : t ≠ l[i] := by rintro rfl; rcases h1 with h1 | h1; exact h1 h3; exact h4 h1
        have : (t ∈ l.take (i + 1)) ↔ t ∈ l.take i := by rw [take_mem_succ hil]; exact ⟨fun q => q.elim id (fun e => absurd e hne), .inl⟩
        by_cases h5 : t ∈ l.take i
        · rw [if_pos h5, if_pos (this.2 h5)]
        · rw [if_neg h5, if_neg (fun q => h5 (this.1 q))]
    · have h2 : l[i].1 = 1 := Classical.byContradiction fun h => h1 (.inl h)
      have h3 : ¬ l[i] ∈ named := fun h => h1 (.inr h)
      have e1 : ¬ (decide (l[i].1 ≠ 1) || decide (l[i] ∈ named)) = true := by simpa using h1
      rw [if_neg e1]
      have hget := hnm l[i] h2 h3
      obtain ⟨ha1, ha2⟩ := hr l[i] (List.getElem_mem _) h2
      obtain ⟨s, hs⟩ : ∃ s : Nat, l[i].2.1 = (s : Int) := ⟨l[i].2.1.toNat, by omega⟩
      have hbb := baseG_b (s : Int) named 0 hn (by omega) (by omega)
      have hfs := hf.2 s (by omega) (by omega)
      have hcl := cntA_le l named s i
      have hkt : keepT l named l[i] = (1, (s : Int), baseA named s + cntA l named s (l.idxOf l[i])) := by unfold keepT; rw [if_neg h1, hs]
      by_cases h4 : l[i] ∈ l.take i
      · rw [if_pos h4] at hget
        rw [hget]
        simp only [Option.isSome_some, Bool.not_true, Bool.false_eq_true, if_false, Option.bind_some, Option.getD_some]
        rw [show ((keepT l named l[i]).1, (keepT l named l[i]).2.1, (keepT l named l[i]).2.2) = keepT l named l[i] from rfl, app24 _ _ (by simp; omega)]
        simp only [Option.bind_some]
        refine ih' f nm ⟨hf.1, fun q h5 h6 => ?_⟩ (fun t h5 h6 => ?_)
        · rw [hf.2 q h5 h6, cntA]
          have : freshA l named q i = false := by unfold freshA; rw [List.getElem?_eq_getElem hil]; simp [h4]
          rw [this]; simp
        · rw [hnm t h5 h6]
          have : (t ∈ l.take (i + 1)) ↔ t ∈ l.take i := by rw [take_mem_succ hil]; exact ⟨fun q => q.elim id (fun e => by rw [e]; exact h4), .inl⟩
          by_cases h7 : t ∈ l.take i
          · rw [if_pos h7, if_pos (this.2 h7)]
          · rw [if_neg h7, if_neg (fun q => h7 (this.1 q))]
      · rw [if_neg h4] at hget
        rw [hget]
        have hix : ix 5 l[i].2.1 = some s := by rw [hs]; exact ix_nat (by omega)
        simp only [Option.isSome_none, Bool.not_false, if_true, hix, hfs, Option.bind_some]
        have hidx : l.idxOf l[i] = i := by
          have h6 := (idxOf_lt_iff (t := l[i]) (show i + 1 ≤ l.length by omega)).2 ((take_mem_succ hil _).2 (.inr rfl))
          have h5 := mt (idxOf_lt_iff (t := l[i]) (show i ≤ l.length by omega)).1 h4
          omega
        have e3 : ((1 : Int), l[i].2.1, baseA named s + cntA l named s i) = keepT l named l[i] := by rw [hkt, hidx, hs]
        have hb2 : 0 ≤ baseA named s ∧ baseA named s ≤ 65537 := hbb
        rw [e3, app24 _ _ (by simp; omega), w64_of (x := baseA named s + cntA l named s i + 1) (by omega)]
        simp only [Option.bind_some]
        refine ih' _ _ ⟨by rw [List.length_set]; exact hf.1, fun q h5 h6 => ?_⟩ (fun t h5 h6 => ?_)
        · rw [List.getElem?_set, hf.1, cntA]
          by_cases hq : s = q
          · subst hq
            have : freshA l named s i = true := by rw [← hs, hfresh]; simp [h2, h3, h4]
            rw [if_pos rfl, if_pos (by omega), this]; simp; omega
          · rw [if_neg hq, hf.2 q h5 h6]
            have : freshA l named q i = false := by unfold freshA; rw [List.getElem?_eq_getElem hil]; simp [hs]; intro _ h; exact absurd (Int.ofNat.inj h) hq
            rw [this]; simp
        · rw [aget_aset]
          by_cases h7 : l[i] = t
          · rw [if_pos h7, if_pos ((take_mem_succ hil t).2 (.inr h7.symm)), h7]
          · rw [if_neg h7, hnm t h5 h6]
            have : (t ∈ l.take (i + 1)) ↔ t ∈ l.take i := by rw [take_mem_succ hil]; exact ⟨fun q => q.elim id (fun e => absurd e.symm h7), .inl⟩
            by_cases h8 : t ∈ l.take i
            · rw [if_pos h8, if_pos (this.2 h8)]
            · rw [if_neg h8, if_neg (fun q => h8 (this.1 q))]
theorem tRenamed (Fu : Nat) (l named : List Tm) (known : List (Tm × Bool)) (f : List Int) (hk0 : ∀ t, (aget t known).getD false = decide (t ∈ named)) (hf : firstOk l named 0 f) (hn : ∀ x ∈ named, okN x) (hr : rightG 0 l = true) (hl : l.length < 1000000) (hF : l.length < Fu) : twin_renamed Fu l known f = some (l.map (keepT l named)) := by
  unfold twin_renamed
  have := tR_l0 Fu l named known hk0 hn (rightG_at l 0 hr) hl l.length Fu 0 f [] (by omega) hF hf (fun t _ _ => by simp [aget])
  rw [show ((0 : Nat) : Int) = 0 from rfl, List.take_zero, List.map_nil] at this
  rw [this]; rfl
theorem firstOk_nil (l : List Tm) : firstOk l [] 0 (List.replicate 5 0) := ⟨by simp, fun s h1 h2 => by
  rw [List.getElem?_replicate, if_pos (by omega)]; rfl⟩
theorem tRename (Fu : Nat) (l : List Tm) (hl : l.length < 1000000) (hF : l.length < Fu) : twin_Rename Fu l = some (if rightG 0 l = true then (l.map (keepT l []), 0) else ([], 2)) := by
  unfold twin_Rename
  rw [tRight Fu l hF hl]
  simp only [Option.bind_some]
  by_cases h : rightG 0 l = true
  · rw [tRenamed Fu l [] [] _ (fun t => by simp [aget]) (firstOk_nil l) (by simp) h hl hF]
    simp [h]
  · simp [Bool.eq_false_iff.2 h]
theorem tTwins (Fu : Nat) (a b : List Tm) (ha : a.length < 1000000) (hF : a.length < Fu) (hb : b.length < 1000000) (hF2 : b.length < Fu) : twin_Twins Fu a b = some (rightG 0 a && rightG 0 b && decide (a.map (keepT a []) = b.map (keepT b []))) := by
  unfold twin_Twins
  rw [tRename Fu a ha hF, tRename Fu b hb hF2]
  simp only [Option.bind_some]
  by_cases h1 : rightG 0 a = true
  · by_cases h2 : rightG 0 b = true
    · simp only [h1, h2, if_true, decide_true, Bool.and_self, Bool.true_and]
      rw [tEqual Fu _ _ (by simpa using hF) (by simpa using ha)]; rfl
    · simp [h1, Bool.eq_false_iff.2 h2]
  · simp [Bool.eq_false_iff.2 h1]
/-! ### names that are kept -/
def okNB (t : Tm) : Bool := decide (t.1 = 1) && decide (1 ≤ t.2.1) && decide (t.2.1 ≤ 4) && decide (0 ≤ t.2.2) && decide (t.2.2 ≤ 65536)
theorem okNB_iff (t : Tm) : okNB t = true ↔ okN t := by unfold okNB okN; simp [and_assoc]
theorem baseG_mono (s : Int) : ∀ (l : List Tm) (t : Tm) (n : Int), baseG s (l ++ [t]) n = if t.2.1 = s ∧ baseG s l n ≤ t.2.2 then t.2.2 + 1 else baseG s l n
  | [], t, n => rfl
  | x :: l, t, n => by simp only [List.cons_append, baseG]; exact baseG_mono s l t _
theorem tK_l0 (Fu : Nat) (named : List Tm) (hnl : named.length < 1000000) (l : List Tm) : ∀ (d k i : Nat) (kn : List (Tm × Bool)) (f : List Int), i + d = named.length → d < k → (∀ x ∈ named.take i, okN x) → (∀ t, (aget t kn).getD false = decide (t ∈ named.take i)) → firstOk l (named.take i) 0 f →
    (∀ x ∈ named, okN x) ∧ (∃ kn' f', twin_Keep_l0 Fu named k i kn f = some (.inr (kn', f')) ∧ (∀ t, (aget t kn').getD false = decide (t ∈ named)) ∧ firstOk l named 0 f') ∨ (∃ x ∈ named, ¬ okN x) ∧ twin_Keep_l0 Fu named k i kn f = some (.inl ([], 2)) := by
  intro d
  induction d with
  | zero =>
    intro k i kn f hi hk h1 h2 h3
    obtain ⟨k, rfl⟩ : ∃ m, k = m + 1 := ⟨k - 1, by omega⟩
    rw [List.take_of_length_le (by omega)] at h1 h2 h3
    exact .inl ⟨h1, kn, f, by rw [twin_Keep_l0, if_neg (by omega)], h2, h3⟩
  | succ d ih =>
    intro k i kn f hi hk h1 h2 h3
    obtain ⟨k, rfl⟩ : ∃ m, k = m + 1 := ⟨k - 1, by omega⟩
    have hil : i < named.length := by omega
    rw [twin_Keep_l0, if_pos (by omega), idx_nat, List.getElem?_eq_getElem hil]
    simp only [Option.bind_some, twin_within]
    have hz : ((if named[i].1 ≠ 1 then some true else some (!(decide (1 ≤ named[i].2.1) && decide (named[i].2.1 ≤ 4)))).bind fun z50 => (if z50 = true then some true else some (!(decide (0 ≤ named[i].2.2) && decide (named[i].2.2 ≤ 65536)))).bind fun z56 => some z56) = some (!okNB named[i]) := by
      unfold okNB
      by_cases q1 : named[i].1 = 1
      · by_cases q2 : 1 ≤ named[i].2.1 ∧ named[i].2.1 ≤ 4
        · simp [q1, q2]
        · simp [q1, q2]
          rw [if_pos (by omega)]
          simp; omega
      · simp [q1]
    have hz2 : ∀ (g : Bool → Option (Sum (List Tm × Int) (List (Tm × Bool) × List Int))), ((if named[i].1 ≠ 1 then some true else some (!(decide (1 ≤ named[i].2.1) && decide (named[i].2.1 ≤ 4)))).bind fun z50 => (if z50 = true then some true else some (!(decide (0 ≤ named[i].2.2) && decide (named[i].2.2 ≤ 65536)))).bind g) = g (!okNB named[i]) := by
      intro g
      have := congrArg (fun o => o.bind g) hz
      simp only [Option.bind_assoc, Option.bind_some] at this
      exact this
    rw [hz2]
    by_cases hx : okN named[i]
    · have hxb := (okNB_iff _).2 hx
      have hx' := hx
      unfold okN at hx'
      obtain ⟨s, hs⟩ : ∃ s : Nat, named[i].2.1 = (s : Int) := ⟨named[i].2.1.toNat, by omega⟩
      have hix : ix 5 named[i].2.1 = some s := by rw [hs]; exact ix_nat (by omega)
      have hfs := h3.2 s (by omega) (by omega)
      simp only [cntA, Int.natCast_zero, Int.add_zero] at hfs
      rw [hxb]
      simp only [Bool.not_true, Bool.false_eq_true, if_false, hix, hfs, Option.bind_some]
      rw [w64_up i (by omega), w64_of (x := named[i].2.2 + 1) (by omega)]
      refine ih k (i + 1) _ _ (by omega) (by omega) (fun x hxm => ?_) (fun t => ?_) ⟨by rw [List.length_set]; exact h3.1, fun q h5 h6 => ?_⟩
      · rcases (take_mem_succ hil x).1 hxm with h | rfl
        · exact h1 x h
        · exact hx
      · rw [aget_aset]
        by_cases h7 : named[i] = t
        · rw [if_pos h7]
          have : t ∈ named.take (i + 1) := (take_mem_succ hil t).2 (.inr h7.symm)
          simp [this]
        · rw [if_neg h7, h2 t]
          have : (t ∈ named.take (i + 1)) ↔ t ∈ named.take i := by rw [take_mem_succ hil]; exact ⟨fun q => q.elim id (fun e => absurd e.symm h7), .inl⟩
          simp only [this]
      · rw [List.getElem?_set, h3.1, List.take_succ_eq_append_getElem hil]
        simp only [cntA, Int.natCast_zero, Int.add_zero]
        have hbm := baseG_mono (q : Int) (named.take i) named[i] 0
        by_cases hq : s = q
        · subst hq
          rw [if_pos rfl, if_pos (by omega)]
          unfold baseA at hfs ⊢
          rw [hbm, hs, mx_max]
          congr 1
          simp only [true_and]
          split <;> omega
        · rw [if_neg hq]
          have := h3.2 q h5 h6
          simp only [cntA, Int.natCast_zero, Int.add_zero] at this
          rw [this]
          unfold baseA
          rw [hbm, hs, if_neg (by rintro ⟨e, _⟩; exact hq (by omega))]
    · have hxb : okNB named[i] = false := by rw [← Bool.not_eq_true]; exact fun h => hx ((okNB_iff _).1 h)
      refine .inr ⟨⟨_, List.getElem_mem _, hx⟩, ?_⟩
      rw [hxb]; simp
theorem tKeep (Fu : Nat) (l named : List Tm) (hl : l.length < 1000000) (hF : l.length < Fu) (hnl : named.length < 1000000) (hF2 : named.length < Fu) : (rightG 0 l = true ∧ (∀ x ∈ named, okN x) ∧ twin_Keep Fu l named = some (l.map (keepT l named), 0)) ∨ ((rightG 0 l = false ∨ ∃ x ∈ named, ¬ okN x) ∧ twin_Keep Fu l named = some ([], 2)) := by
  unfold twin_Keep
  rw [tRight Fu l hF hl]
  simp only [Option.bind_some]
  by_cases h : rightG 0 l = true
  · rw [h]
    simp only [Bool.not_true, Bool.false_eq_true, if_false]
    have h0 : firstOk l (named.take 0) 0 (List.replicate 5 0) := firstOk_nil l
    rcases tK_l0 Fu named hnl l named.length Fu 0 [] (List.replicate 5 0) (by omega) hF2 (by simp) (fun t => by simp [aget]) h0 with ⟨h1, kn, f, h2, h3, h4⟩ | ⟨h1, h2⟩
    · left
      rw [show ((0 : Nat) : Int) = 0 from rfl] at h2
      rw [h2]
      simp only [Option.bind_some]
      rw [tRenamed Fu l named kn f h3 h4 h1 h hl hF]
      exact ⟨by first | trivial | rfl, h1, by first | trivial | rfl⟩
    · right
      rw [show ((0 : Nat) : Int) = 0 from rfl] at h2
      rw [h2]
      exact ⟨.inr h1, rfl⟩
  · right
    rw [Bool.eq_false_iff.2 h]
    exact ⟨.inl rfl, by simp⟩
/-! ### the law -/
theorem awake39 (Fu : Nat) (h : 100 ≤ Fu) : chatelainelaw39_awake Fu = some true := by
  unfold chatelainelaw39_awake
  simp only [chatelainelaw39_atom, Option.bind_some]
  rw [tRename Fu _ (by simp) (by simp; omega)]
  have h1 : rightG 0 [((1 : Int), (1 : Int), (7 : Int)), (1, 1, 3)] = true := by decide
  have h2 : ([((1 : Int), (1 : Int), (7 : Int)), (1, 1, 3)] : List Tm).map (keepT [(1, 1, 7), (1, 1, 3)] []) = [(1, 1, 0), (1, 1, 1)] := by decide
  simp only [h1, if_true, h2, Option.bind_some]
  rw [rSame Fu _ _ (by simp; omega) (by simp)]
  simp
theorem law_l0 (Fu : Nat) (named : List Tm) (x : List Tm × Int) (hnl : named.length < 1000000) : ∀ (d k i : Nat), i + d = named.length → d < k → chatelainelaw39_TwinNames_l0 Fu named x k i = some (if (named.drop i).all okNB = true then .inr () else .inl (decide (x.2 = 2) && decide ((x.1.length : Int) = 0))) := by
  intro d
  induction d with
  | zero =>
    intro k i hi hk
    obtain ⟨k, rfl⟩ : ∃ m, k = m + 1 := ⟨k - 1, by omega⟩
    rw [chatelainelaw39_TwinNames_l0, if_neg (by omega), List.drop_of_length_le (by omega)]; simp
  | succ d ih =>
    intro k i hi hk
    obtain ⟨k, rfl⟩ : ∃ m, k = m + 1 := ⟨k - 1, by omega⟩
    rw [chatelainelaw39_TwinNames_l0, if_pos (by omega), idx_nat, List.getElem?_eq_getElem (by omega), List.drop_eq_getElem_cons (by omega)]
    simp only [Option.bind_some]
    rw [w64_up i (by omega), ih k (i + 1) (by omega) (by omega)]
    by_cases hx : okN named[i]
    · have hx' := hx
      unfold okN at hx'
      have e : ¬ ((((decide (named[i].1 ≠ 1) || decide (named[i].2.1 < 1)) || decide (4 < named[i].2.1)) || decide (named[i].2.2 < 0)) || decide (65536 < named[i].2.2)) = true := by
        simp only [Bool.or_eq_true, decide_eq_true_eq]; omega
      rw [if_neg e, List.all_cons, (okNB_iff _).2 hx, Bool.true_and]
    · have hx' := hx
      unfold okN at hx'
      have e : ((((decide (named[i].1 ≠ 1) || decide (named[i].2.1 < 1)) || decide (4 < named[i].2.1)) || decide (named[i].2.2 < 0)) || decide (65536 < named[i].2.2)) = true := by
        simp only [Bool.or_eq_true, decide_eq_true_eq]; omega
      have hxb : okNB named[i] = false := by rw [← Bool.not_eq_true]; exact fun h => hx ((okNB_iff _).1 h)
      rw [if_pos e, List.all_cons, hxb, Bool.false_and]; simp
theorem chatelainelaw39_TwinNames_true (a : List Tm) (_ : ∀ x ∈ a, (tyP tyI (tyP tyI tyI)).has x) (b : List Tm) (_ : ∀ x ∈ b, (tyP tyI (tyP tyI tyI)).has x) (named : List Tm) (_ : ∀ x ∈ named, (tyP tyI (tyP tyI tyI)).has x) : ∃ Fu, chatelainelaw39_TwinNames Fu a b named = some true := by
  refine ⟨100, ?_⟩
  unfold chatelainelaw39_TwinNames
  rw [awake39 100 (by omega)]
  simp only [Option.bind_some, Bool.not_true, Bool.false_eq_true, if_false]
  by_cases hlen : (((decide (40 < (a.length : Int))) || (decide (40 < (b.length : Int)))) || (decide (20 < (named.length : Int)))) = true
  · rw [if_pos hlen]
  rw [if_neg hlen]
  simp at hlen
  obtain ⟨⟨ha, hb⟩, hn⟩ := hlen
  rw [tRename 100 a (by omega) (by omega), tRight 100 a (by omega) (by omega), rRight 100 a (by omega) (by omega), rRight 100 b (by omega) (by omega), tTwins 100 a b (by omega) (by omega) (by omega) (by omega),
    rKeep 100 a [] (by simp) (by omega) (by omega) (by simp) (by simp), rKeep 100 b [] (by simp) (by omega) (by omega) (by simp) (by simp)]
  simp only [Option.bind_some]
  have hl0 := fun x => law_l0 100 named x (by omega) named.length 100 0 (by omega) (by omega)
  rw [show ((0 : Nat) : Int) = 0 from rfl, List.drop_zero] at hl0
  rcases tKeep 100 a named (by omega) (by omega) (by omega) (by omega) with ⟨h1, h2, h3⟩ | ⟨h1, h3⟩
  · rw [h3]
    simp only [Option.bind_some, h1, if_true]
    rw [rSame 100 _ _ (by simp; omega) (by simp; omega), rSame 100 _ _ (by simp; omega) (by simp; omega), rKeep 100 a named h2 (by omega) (by omega) (by omega) (by omega), hl0, if_pos (List.all_eq_true.2 fun x hx => (okNB_iff x).2 (h2 x hx))]
    simp only [Option.bind_some]
    rw [rSame 100 _ _ (by simp; omega) (by simp; omega)]
    cases rightG 0 b <;> simp
  · rw [h3]
    simp only [Option.bind_some]
    by_cases h4 : rightG 0 a = true
    · have h5 : ∃ x ∈ named, ¬ okN x := by
        rcases h1 with h1 | h1
        · rw [h4] at h1; cases h1
        · exact h1
      simp only [h4, if_true]
      have h6 : named.all okNB = false := by
        rw [← Bool.not_eq_true]
        intro h
        obtain ⟨x, hx, hx2⟩ := h5
        exact hx2 ((okNB_iff x).1 (List.all_eq_true.1 h x hx))
      rw [rSame 100 _ _ (by simp; omega) (by simp; omega), rSame 100 _ _ (by simp; omega) (by simp; omega), hl0, h6]
      cases rightG 0 b <;> simp
    · simp [Bool.eq_false_iff.2 h4, w64]
      decide
end Go.Proofs.Ytdahdlidpplllaa
