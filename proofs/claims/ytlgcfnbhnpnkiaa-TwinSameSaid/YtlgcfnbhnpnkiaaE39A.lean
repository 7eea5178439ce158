/- Terms renamed one by one, told over lists (what TwinNames and TwinSame share). -/
import Derived.Test.YtlgcfnbhnpnkiaaEc
import Derived.Test.YtlgcfnbhnpnkiaaPo
set_option linter.unusedVariables false
set_option linter.unusedSimpArgs false
namespace Go.Proofs.Ytlgcfnbhnpnkiaa
open Go.RowKit
theorem w64_up (n : Nat) (h : n < 1000000) : w64 ((n : Int) + 1) = ((n + 1 : Nat) : Int) := by rw [w64_of (by omega)]; omega
theorem w64_dn (n : Nat) (h : n < 1000000) : w64 ((n : Int) - 1) = (n : Int) - 1 := w64_of (by omega)
/-! ### right terms -/
def okB (i : Int) (t : Tm) : Bool := (decide (t.1 = 1) && decide (1 ≤ t.2.1) && decide (t.2.1 ≤ 4) && decide (0 ≤ t.2.2)) || (decide (t.1 = 2) && decide (0 ≤ t.2.1) && decide (t.2.1 < i) && decide (0 ≤ t.2.2)) || (decide (t.1 = 3) && decide (0 ≤ t.2.1) && decide (t.2.1 < i) && decide (0 ≤ t.2.2) && decide (t.2.2 < i))
def rightG : Nat → List Tm → Bool
  | _, [] => true
  | i, t :: l => okB i t && rightG (i + 1) l
theorem tRight_l0 (Fu : Nat) (a : List Tm) (ha : a.length < 1000000) : ∀ (d k i : Nat), i + d = a.length → d < k → twin_Right_l0 Fu a k i = some (if rightG i (a.drop i) then .inr () else .inl false) := by
  intro d
  induction d with
  | zero =>
    intro k i hi hk
    obtain ⟨k, rfl⟩ : ∃ m, k = m + 1 := ⟨k - 1, by omega⟩
    rw [twin_Right_l0, if_neg (by omega), List.drop_of_length_le (by omega)]; rfl
  | succ d ih =>
    intro k i hi hk
    obtain ⟨k, rfl⟩ : ∃ m, k = m + 1 := ⟨k - 1, by omega⟩
    rw [twin_Right_l0, if_pos (by omega), idx_nat, List.getElem?_eq_getElem (by omega), List.drop_eq_getElem_cons (by omega)]
    simp only [Option.bind_some, twin_within, rightG]
    generalize a[i] = t
    rw [w64_dn i (by omega), w64_up i (by omega), ih k (i + 1) (by omega) (by omega)]
    have key : (if t.1 = 1 then some ((decide (1 ≤ t.2.1) && decide (t.2.1 ≤ 4)) && decide (0 ≤ t.2.2)) else if t.1 = 2 then some ((decide (0 ≤ t.2.1) && decide (t.2.1 ≤ (i : Int) - 1)) && decide (0 ≤ t.2.2)) else if t.1 = 3 then (if (decide (0 ≤ t.2.1) && decide (t.2.1 ≤ (i : Int) - 1)) = true then some (decide (0 ≤ t.2.2) && decide (t.2.2 ≤ (i : Int) - 1)) else some false).bind fun z => some z else some false) = some (okB i t) := by
      unfold okB
      have e1 : ∀ x : Int, (x ≤ (i : Int) - 1) = (x < i) := fun x => by simp; omega
      simp only [e1]
      by_cases h1 : t.1 = 1
      · simp [h1]
      · by_cases h2 : t.1 = 2
        · simp [h2]
        · by_cases h3 : t.1 = 3
          · simp [h3]
            by_cases h4 : 0 ≤ t.2.1 ∧ t.2.1 < i
            · simp [h4]
            · rw [if_neg h4]
              simp
              intro h5 h6; exact absurd ⟨h5, h6⟩ h4
          · simp [h1, h2, h3]
    rw [key]
    simp only [Option.bind_some]
    by_cases hb : okB i t = true
    · simp [hb]
    · simp [Bool.eq_false_iff.2 hb]
theorem tRight (Fu : Nat) (a : List Tm) (h : a.length < Fu) (ha : a.length < 1000000) : twin_Right Fu a = some (rightG 0 a) := by
  unfold twin_Right
  have := tRight_l0 Fu a ha a.length Fu 0 (by omega) h
  rw [show ((0 : Nat) : Int) = 0 from rfl] at this
  rw [this, List.drop_zero]
  cases rightG 0 a <;> rfl
theorem rightG_at : ∀ (l : List Tm) (i : Nat), rightG i l = true → ∀ t ∈ l, t.1 = 1 → 1 ≤ t.2.1 ∧ t.2.1 ≤ 4
  | [], _, _, t, ht => by simp at ht
  | x :: l, i, h, t, ht => by
    simp only [rightG, Bool.and_eq_true] at h
    rcases List.mem_cons.1 ht with rfl | ht
    · intro h1
      have := h.1
      unfold okB at this
      simp [h1] at this
      omega
    · exact rightG_at l _ h.2 t ht
/-! ### lists compared -/
theorem rSame_l0 (Fu : Nat) (a b : List Tm) (ha : a.length < 1000000) (hab : a.length = b.length) : ∀ (d k i : Nat), i + d = a.length → d < k → chatelaineref39_Same_l0 Fu a b k i = some (if a.drop i = b.drop i then .inr () else .inl false) := by
  intro d
  induction d with
  | zero =>
    intro k i hi hk
    obtain ⟨k, rfl⟩ : ∃ m, k = m + 1 := ⟨k - 1, by omega⟩
    rw [chatelaineref39_Same_l0, if_neg (by omega), List.drop_of_length_le (by omega), List.drop_of_length_le (by omega), if_pos rfl]
  | succ d ih =>
    intro k i hi hk
    obtain ⟨k, rfl⟩ : ∃ m, k = m + 1 := ⟨k - 1, by omega⟩
    rw [chatelaineref39_Same_l0, if_pos (by omega), idx_nat, idx_nat, List.getElem?_eq_getElem (by omega), List.getElem?_eq_getElem (by omega)]
    simp only [Option.bind_some]
    rw [w64_up i (by omega), ih k (i + 1) (by omega) (by omega)]
    rw [List.drop_eq_getElem_cons (show i < a.length by omega), List.drop_eq_getElem_cons (show i < b.length by omega)]
    by_cases h : a[i] = b[i]
    · simp only [h, decide_true, Bool.not_true, Bool.false_eq_true, if_false, List.cons.injEq, true_and]
    · simp only [h, decide_false, Bool.not_false, if_true, List.cons.injEq, false_and, if_false]
theorem rSame (Fu : Nat) (a b : List Tm) (h : a.length < Fu) (ha : a.length < 1000000) : chatelaineref39_Same Fu a b = some (decide (a = b)) := by
  unfold chatelaineref39_Same
  by_cases hab : a.length = b.length
  · rw [if_neg (by omega)]
    have := rSame_l0 Fu a b ha hab a.length Fu 0 (by omega) h
    rw [show ((0 : Nat) : Int) = 0 from rfl] at this
    rw [this, List.drop_zero, List.drop_zero]
    by_cases e : a = b <;> simp [e]
  · rw [if_pos (by omega)]
    have : ¬ a = b := fun e => hab (by rw [e])
    simp [this]
theorem tEqual_l0 (Fu : Nat) (a b : List Tm) (ha : a.length < 1000000) (hab : a.length = b.length) : ∀ (d k i : Nat), i + d = a.length → d < k → slices_Equal___api_Term_api_Term_l0 Fu a b k i = some (if a.drop i = b.drop i then .inr () else .inl false) := by
  intro d
  induction d with
  | zero =>
    intro k i hi hk
    obtain ⟨k, rfl⟩ : ∃ m, k = m + 1 := ⟨k - 1, by omega⟩
    rw [slices_Equal___api_Term_api_Term_l0, if_neg (by omega), List.drop_of_length_le (by omega), List.drop_of_length_le (by omega), if_pos rfl]
  | succ d ih =>
    intro k i hi hk
    obtain ⟨k, rfl⟩ : ∃ m, k = m + 1 := ⟨k - 1, by omega⟩
    rw [slices_Equal___api_Term_api_Term_l0, if_pos (by omega), idx_nat, idx_nat, List.getElem?_eq_getElem (by omega), List.getElem?_eq_getElem (by omega)]
    simp only [Option.bind_some]
    rw [w64_up i (by omega), ih k (i + 1) (by omega) (by omega)]
    rw [List.drop_eq_getElem_cons (show i < a.length by omega), List.drop_eq_getElem_cons (show i < b.length by omega)]
    by_cases h : a[i] = b[i]
    · simp only [h, decide_true, Bool.not_true, Bool.false_eq_true, if_false, List.cons.injEq, true_and]
    · simp only [h, decide_false, Bool.not_false, if_true, List.cons.injEq, false_and, if_false]
theorem tEqual (Fu : Nat) (a b : List Tm) (h : a.length < Fu) (ha : a.length < 1000000) : slices_Equal___api_Term_api_Term Fu a b = some (decide (a = b)) := by
  unfold slices_Equal___api_Term_api_Term
  by_cases hab : a.length = b.length
  · rw [if_neg (by omega)]
    have := tEqual_l0 Fu a b ha hab a.length Fu 0 (by omega) h
    rw [show ((0 : Nat) : Int) = 0 from rfl] at this
    rw [this, List.drop_zero, List.drop_zero]
    by_cases e : a = b <;> simp [e]
  · rw [if_pos (by omega)]
    have : ¬ a = b := fun e => hab (by rw [e])
    simp [this]
/-! ### names -/
def freshA (l named : List Tm) (s : Int) (m : Nat) : Bool := match l[m]? with
  | some t => decide (t.1 = 1) && decide (t.2.1 = s) && !decide (t ∈ named) && !decide (t ∈ l.take m)
  | none => false
def cntA (l named : List Tm) (s : Int) : Nat → Nat
  | 0 => 0
  | j + 1 => cntA l named s j + if freshA l named s j then 1 else 0
theorem cntA_le (l named : List Tm) (s : Int) : ∀ j, cntA l named s j ≤ j
  | 0 => Nat.le_refl _
  | j + 1 => by have := cntA_le l named s j; unfold cntA; split <;> omega
def baseG (s : Int) : List Tm → Int → Int
  | [], n => n
  | t :: l, n => baseG s l (if t.2.1 = s ∧ n ≤ t.2.2 then t.2.2 + 1 else n)
def baseA (named : List Tm) (s : Int) : Int := baseG s named 0
def keepT (l named : List Tm) (t : Tm) : Tm := if t.1 ≠ 1 ∨ t ∈ named then t else (1, t.2.1, baseA named t.2.1 + cntA l named t.2.1 (l.idxOf t))
def okN (t : Tm) : Prop := t.1 = 1 ∧ 1 ≤ t.2.1 ∧ t.2.1 ≤ 4 ∧ 0 ≤ t.2.2 ∧ t.2.2 ≤ 65536
theorem baseG_b (s : Int) : ∀ (l : List Tm) (n : Int), (∀ t ∈ l, okN t) → 0 ≤ n → n ≤ 65537 → 0 ≤ baseG s l n ∧ baseG s l n ≤ 65537
  | [], n, _, h1, h2 => ⟨h1, h2⟩
  | t :: l, n, h, h1, h2 => by
    have ht := h t (List.mem_cons_self ..)
    unfold okN at ht
    unfold baseG
    refine baseG_b s l _ (fun x hx => h x (List.mem_cons_of_mem _ hx)) ?_ ?_ <;> split <;> omega
theorem take_mem_succ {l : List Tm} {j : Nat} (hj : j < l.length) (t : Tm) : t ∈ l.take (j + 1) ↔ t ∈ l.take j ∨ t = l[j] := by
  rw [List.take_succ_eq_append_getElem hj, List.mem_append, List.mem_singleton]
theorem idxOf_le : ∀ (l : List Tm) (i : Nat) (h : i < l.length), l.idxOf l[i] ≤ i
  | [], _, h => by simp at h
  | x :: l, 0, _ => by simp [List.idxOf_cons]
  | x :: l, i + 1, h => by
    have hl : i < l.length := by simpa using h
    have := idxOf_le l i hl
    rw [List.idxOf_cons]
    cases (x == (x :: l)[i + 1]) with
    | true => simp only [cond_true]; omega
    | false =>
      simp only [cond_false]
      show List.idxOf l[i] l + 1 ≤ i + 1
      omega
theorem idxOf_lt_iff {l : List Tm} {t : Tm} {j : Nat} (hj : j ≤ l.length) : l.idxOf t < j ↔ t ∈ l.take j := by
  constructor
  · intro h
    have hlt : l.idxOf t < l.length := by omega
    have := List.getElem_idxOf hlt
    rw [List.mem_take_iff_getElem]
    exact ⟨l.idxOf t, by omega, this⟩
  · intro h
    rw [List.mem_take_iff_getElem] at h
    obtain ⟨i, hi, rfl⟩ := h
    have := idxOf_le l i (by omega)
    omega
theorem app24 (l : List Tm) (x : Tm) (h : l.length < 1000000) : app 24 l [x] = some (l ++ [x]) := by
  unfold app; rw [if_pos]; simp only [List.length_singleton]; unfold maxLen; omega
/-! ### the program's renaming -/
theorem aget_key {α : Type} (ps : List (Tm × α)) (t : Tm) : (aget t ps).isSome = true ↔ ∃ v, aget t ps = some v := by cases aget t ps <;> simp
def firstOk (l named : List Tm) (i : Nat) (f : List Int) : Prop := f.length = 5 ∧ ∀ s : Nat, 1 ≤ s → s ≤ 4 → f[s]? = some (baseA named s + cntA l named s i)
def namesOk (l named : List Tm) (i : Nat) (nm : List (Tm × Tm)) : Prop := ∀ t : Tm, t.1 = 1 → t ∉ named → aget t nm = if t ∈ l.take i then some (keepT l named t) else none
theorem tR_l0 (Fu : Nat) (l named : List Tm) (known : List (Tm × Bool)) (hk0 : ∀ t, (aget t known).getD false = decide (t ∈ named)) (hn : ∀ x ∈ named, okN x) (hr : ∀ t ∈ l, t.1 = 1 → 1 ≤ t.2.1 ∧ t.2.1 ≤ 4) (hl : l.length < 1000000) : ∀ (d k i : Nat) (f : List Int) (nm : List (Tm × Tm)), i + d = l.length → d < k → firstOk l named i f → namesOk l named i nm → twin_renamed_l0 Fu l known k ((l.take i).map (keepT l named)) i f nm = some (l.map (keepT l named)) := by
  intro d
  induction d with
  | zero =>
    intro k i f nm hi hk hf hnm
    obtain ⟨k, rfl⟩ : ∃ m, k = m + 1 := ⟨k - 1, by omega⟩
    rw [twin_renamed_l0, if_neg (by omega), List.take_of_length_le (by omega)]
  | succ d ih =>
    intro k i f nm hi hk hf hnm
    obtain ⟨k, rfl⟩ : ∃ m, k = m + 1 := ⟨k - 1, by omega⟩
    have hil : i < l.length := by omega
    have ih' := fun f' nm' h1 h2 => ih k (i + 1) f' nm' (by omega) (by omega) h1 h2
    rw [List.take_succ_eq_append_getElem hil, List.map_append, List.map_singleton] at ih'
    have hfresh : freshA l named (l[i].2.1) i = (decide (l[i].1 = 1) && !decide (l[i] ∈ named) && !decide (l[i] ∈ l.take i)) := by
      unfold freshA; rw [List.getElem?_eq_getElem hil]; simp
    rw [twin_renamed_l0, if_pos (by omega), idx_nat, List.getElem?_eq_getElem hil]
    simp only [Option.bind_some]
    rw [hk0, w64_up i (by omega)]
    by_cases h1 : l[i].1 ≠ 1 ∨ l[i] ∈ named
    · have e1 : (decide (l[i].1 ≠ 1) || decide (l[i] ∈ named)) = true := by simpa using h1
      rw [if_pos e1, app24 _ _ (by simp; omega)]
      simp only [Option.bind_some]
      have e2 : keepT l named l[i] = l[i] := by unfold keepT; rw [if_pos h1]
      rw [e2] at ih'
      refine ih' f nm ⟨hf.1, fun s h3 h4 => ?_⟩ (fun t h3 h4 => ?_)
      · rw [hf.2 s h3 h4, cntA]
        have : freshA l named s i = false := by
          unfold freshA; rw [List.getElem?_eq_getElem hil]
          rcases h1 with h1 | h1
          · simp [h1]
          · simp [h1]
        rw [this]; simp
      · rw [hnm t h3 h4]
        have hne : t ≠ l[i] := by rintro rfl; rcases h1 with h1 | h1; exact h1 h3; exact h4 h1
        have : (t ∈ l.take (i + 1)) ↔ t ∈ l.take i := by rw [take_mem_succ hil]; exact ⟨fun q => q.elim id (fun e => absurd e hne), .inl⟩
        by_cases h5 : t ∈ l.take i
        · rw [if_pos h5, if_pos (this.2 h5)]
        · rw [if_neg h5, if_neg (fun q => h5 (this.1 q))]
    · have h2 : l[i].1 = 1 := Classical.byContradiction fun h => h1 (.inl h)
      have h3 : ¬ l[i] ∈ named := fun h => h1 (.inr h)
      have e1 : ¬ (decide (l[i].1 ≠ 1) || decide (l[i] ∈ named)) = true := by simpa using h1
      rw [if_neg e1]
      have hget := hnm l[i] h2 h3
      obtain ⟨ha1, ha2⟩ := hr l[i] (List.getElem_mem _) h2
      obtain ⟨s, hs⟩ : ∃ s : Nat, l[i].2.1 = (s : Int) := ⟨l[i].2.1.toNat, by omega⟩
      have hbb := baseG_b (s : Int) named 0 hn (by omega) (by omega)
      have hfs := hf.2 s (by omega) (by omega)
      have hcl := cntA_le l named s i
      have hkt : keepT l named l[i] = (1, (s : Int), baseA named s + cntA l named s (l.idxOf l[i])) := by unfold keepT; rw [if_neg h1, hs]
      by_cases h4 : l[i] ∈ l.take i
      · rw [if_pos h4] at hget
        rw [hget]
        simp only [Option.isSome_some, Bool.not_true, Bool.false_eq_true, if_false, Option.bind_some, Option.getD_some]
        rw [show ((keepT l named l[i]).1, (keepT l named l[i]).2.1, (keepT l named l[i]).2.2) = keepT l named l[i] from rfl, app24 _ _ (by simp; omega)]
        simp only [Option.bind_some]
        refine ih' f nm ⟨hf.1, fun q h5 h6 => ?_⟩ (fun t h5 h6 => ?_)
        · rw [hf.2 q h5 h6, cntA]
          have : freshA l named q i = false := by unfold freshA; rw [List.getElem?_eq_getElem hil]; simp [h4]
          rw [this]; simp
        · rw [hnm t h5 h6]
          have : (t ∈ l.take (i + 1)) ↔ t ∈ l.take i := by rw [take_mem_succ hil]; exact ⟨fun q => q.elim id (fun e => by rw [e]; exact h4), .inl⟩
          by_cases h7 : t ∈ l.take i
          · rw [if_pos h7, if_pos (this.2 h7)]
          · rw [if_neg h7, if_neg (fun q => h7 (this.1 q))]
      · rw [if_neg h4] at hget
        rw [hget]
        have hix : ix 5 l[i].2.1 = some s := by rw [hs]; exact ix_nat (by omega)
        simp only [Option.isSome_none, Bool.not_false, if_true, hix, hfs, Option.bind_some]
        have hidx : l.idxOf l[i] = i := by
          have h6 := (idxOf_lt_iff (t := l[i]) (show i + 1 ≤ l.length by omega)).2 ((take_mem_succ hil _).2 (.inr rfl))
          have h5 := mt (idxOf_lt_iff (t := l[i]) (show i ≤ l.length by omega)).1 h4
          omega
        have e3 : ((1 : Int), l[i].2.1, baseA named s + cntA l named s i) = keepT l named l[i] := by rw [hkt, hidx, hs]
        have hb2 : 0 ≤ baseA named s ∧ baseA named s ≤ 65537 := hbb
        rw [e3, app24 _ _ (by simp; omega), w64_of (x := baseA named s + cntA l named s i + 1) (by omega)]
        simp only [Option.bind_some]
        refine ih' _ _ ⟨by rw [List.length_set]; exact hf.1, fun q h5 h6 => ?_⟩ (fun t h5 h6 => ?_)
        · rw [List.getElem?_set, hf.1, cntA]
          by_cases hq : s = q
          · subst hq
            have : freshA l named s i = true := by rw [← hs, hfresh]; simp [h2, h3, h4]
            rw [if_pos rfl, if_pos (by omega), this]; simp; omega
          · rw [if_neg hq, hf.2 q h5 h6]
            have : freshA l named q i = false := by unfold freshA; rw [List.getElem?_eq_getElem hil]; simp [hs]; intro _ h; exact absurd (Int.ofNat.inj h) hq
            rw [this]; simp
        · rw [aget_aset]
          by_cases h7 : l[i] = t
          · rw [if_pos h7, if_pos ((take_mem_succ hil t).2 (.inr h7.symm)), h7]
          · rw [if_neg h7, hnm t h5 h6]
            have : (t ∈ l.take (i + 1)) ↔ t ∈ l.take i := by rw [take_mem_succ hil]; exact ⟨fun q => q.elim id (fun e => absurd e.symm h7), .inl⟩
            by_cases h8 : t ∈ l.take i
            · rw [if_pos h8, if_pos (this.2 h8)]
            · rw [if_neg h8, if_neg (fun q => h8 (this.1 q))]
theorem tRenamed (Fu : Nat) (l named : List Tm) (known : List (Tm × Bool)) (f : List Int) (hk0 : ∀ t, (aget t known).getD false = decide (t ∈ named)) (hf : firstOk l named 0 f) (hn : ∀ x ∈ named, okN x) (hr : rightG 0 l = true) (hl : l.length < 1000000) (hF : l.length < Fu) : twin_renamed Fu l known f = some (l.map (keepT l named)) := by
  unfold twin_renamed
  have := tR_l0 Fu l named known hk0 hn (rightG_at l 0 hr) hl l.length Fu 0 f [] (by omega) hF hf (fun t _ _ => by simp [aget])
  rw [show ((0 : Nat) : Int) = 0 from rfl, List.take_zero, List.map_nil] at this
  rw [this]; rfl
theorem firstOk_nil (l : List Tm) : firstOk l [] 0 (List.replicate 5 0) := ⟨by simp, fun s h1 h2 => by
  rw [List.getElem?_replicate, if_pos (by omega)]; rfl⟩
theorem tRename (Fu : Nat) (l : List Tm) (hl : l.length < 1000000) (hF : l.length < Fu) : twin_Rename Fu l = some (if rightG 0 l = true then (l.map (keepT l []), 0) else ([], 2)) := by
  unfold twin_Rename
  rw [tRight Fu l hF hl]
  simp only [Option.bind_some]
  by_cases h : rightG 0 l = true
  · rw [tRenamed Fu l [] [] _ (fun t => by simp [aget]) (firstOk_nil l) (by simp) h hl hF]
    simp [h]
  · simp [Bool.eq_false_iff.2 h]
theorem tTwins (Fu : Nat) (a b : List Tm) (ha : a.length < 1000000) (hF : a.length < Fu) (hb : b.length < 1000000) (hF2 : b.length < Fu) : twin_Twins Fu a b = some (rightG 0 a && rightG 0 b && decide (a.map (keepT a []) = b.map (keepT b []))) := by
  unfold twin_Twins
  rw [tRename Fu a ha hF, tRename Fu b hb hF2]
  simp only [Option.bind_some]
  by_cases h1 : rightG 0 a = true
  · by_cases h2 : rightG 0 b = true
    · simp only [h1, h2, if_true, decide_true, Bool.and_self, Bool.true_and]
      rw [tEqual Fu _ _ (by simpa using hF) (by simpa using ha)]; rfl
    · simp [h1, Bool.eq_false_iff.2 h2]
  · simp [Bool.eq_false_iff.2 h1]
theorem awake39 (Fu : Nat) (h : 100 ≤ Fu) : chatelainelaw39_awake Fu = some true := by
  unfold chatelainelaw39_awake
  simp only [chatelainelaw39_atom, Option.bind_some]
  rw [tRename Fu _ (by simp) (by simp; omega)]
  have h1 : rightG 0 [((1 : Int), (1 : Int), (7 : Int)), (1, 1, 3)] = true := by decide
  have h2 : ([((1 : Int), (1 : Int), (7 : Int)), (1, 1, 3)] : List Tm).map (keepT [(1, 1, 7), (1, 1, 3)] []) = [(1, 1, 0), (1, 1, 1)] := by decide
  simp only [h1, if_true, h2, Option.bind_some]
  rw [rSame Fu _ _ (by simp; omega) (by simp)]
  simp
end Go.Proofs.Ytlgcfnbhnpnkiaa
