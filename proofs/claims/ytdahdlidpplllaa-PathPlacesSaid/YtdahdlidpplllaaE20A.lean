/- path, told over numbers: how many nodes a level has (cn), where it begins (fs). -/
import Derived.Test.YtdahdlidpplllaaEy
set_option linter.unusedVariables false
set_option linter.unusedSimpArgs false
namespace Go.Proofs.Ytdahdlidpplllaa
open Go.RowKit
theorem w_id {x : Int} (h : -1000000000 ≤ x ∧ x ≤ 1000000000) : w64 x = x := w64_of (by omega)
def dep (n : Nat) : Nat := if n ≤ 4 then 1 else if n ≤ 16 then 2 else if n ≤ 64 then 3 else if n ≤ 256 then 4 else if n ≤ 1024 then 5 else 6
theorem dep_b (n : Nat) : 1 ≤ dep n ∧ dep n ≤ 6 := by unfold dep; (repeat' split) <;> omega
theorem pw {m : Nat} (h : m ≤ 6) : m = 0 ∧ 4 ^ m = 1 ∨ m = 1 ∧ 4 ^ m = 4 ∨ m = 2 ∧ 4 ^ m = 16 ∨ m = 3 ∧ 4 ^ m = 64 ∨ m = 4 ∧ 4 ^ m = 256 ∨ m = 5 ∧ 4 ^ m = 1024 ∨ m = 6 ∧ 4 ^ m = 4096 := by
  rcases (by omega : m = 0 ∨ m = 1 ∨ m = 2 ∨ m = 3 ∨ m = 4 ∨ m = 5 ∨ m = 6) with rfl | rfl | rfl | rfl | rfl | rfl | rfl <;> simp
theorem dep_iff {n j : Nat} (hn : n ≤ 4096) (h1 : 1 ≤ j) (h2 : j ≤ 6) : 4 ^ j < n ↔ j < dep n := by
  unfold dep
  rcases pw h2 with ⟨e, e'⟩ | ⟨e, e'⟩ | ⟨e, e'⟩ | ⟨e, e'⟩ | ⟨e, e'⟩ | ⟨e, e'⟩ | ⟨e, e'⟩ <;> rw [e'] <;> (repeat' split) <;> omega
/-- nodes at m steps above the leaves -/
def cn (n m : Nat) : Nat := (n + 4 ^ m - 1) / 4 ^ m
theorem cn_zero (n : Nat) : cn n 0 = n := by simp [cn]
theorem cn_succ {n m : Nat} (h : m + 1 ≤ 6) (hn : 1 ≤ n) : cn n (m + 1) = (cn n m + 3) / 4 := by
  unfold cn
  rw [Nat.pow_succ]
  rcases pw (show m ≤ 6 by omega) with ⟨e, e'⟩ | ⟨e, e'⟩ | ⟨e, e'⟩ | ⟨e, e'⟩ | ⟨e, e'⟩ | ⟨e, e'⟩ | ⟨e, e'⟩ <;> rw [e'] <;> omega
theorem cn_le {n m : Nat} (h : m ≤ 6) (hn : 1 ≤ n) : 1 ≤ cn n m ∧ cn n m ≤ n := by
  unfold cn
  rcases pw h with ⟨e, e'⟩ | ⟨e, e'⟩ | ⟨e, e'⟩ | ⟨e, e'⟩ | ⟨e, e'⟩ | ⟨e, e'⟩ | ⟨e, e'⟩ <;> rw [e'] <;> omega
theorem cn_one {n m : Nat} (h : m ≤ 6) (hn : 1 ≤ n) : cn n m = 1 ↔ n ≤ 4 ^ m := by
  unfold cn
  rcases pw h with ⟨e, e'⟩ | ⟨e, e'⟩ | ⟨e, e'⟩ | ⟨e, e'⟩ | ⟨e, e'⟩ | ⟨e, e'⟩ | ⟨e, e'⟩ <;> rw [e'] <;> omega
theorem cn_dep {n : Nat} (h1 : 1 ≤ n) (h2 : n ≤ 4096) : cn n (dep n) = 1 := by
  have hb := dep_b n
  rw [cn_one hb.2 h1]
  have := not_congr (dep_iff h2 hb.1 hb.2)
  omega
theorem cn_big {n m : Nat} (hn : n ≤ 4096) (h0 : 1 ≤ n) (h1 : 1 ≤ m) (h2 : m < dep n) : cn n m ≠ 1 := by
  have hb := dep_b n
  rw [Ne, cn_one (by omega) h0]
  have := (dep_iff hn h1 (by omega)).2 h2
  omega
theorem dw {n m : Nat} (h : m ≤ 6) {i : Nat} (hi : i < n) : i / 4 ^ m < cn n m := by
  unfold cn
  rcases pw h with ⟨e, e'⟩ | ⟨e, e'⟩ | ⟨e, e'⟩ | ⟨e, e'⟩ | ⟨e, e'⟩ | ⟨e, e'⟩ | ⟨e, e'⟩ <;> rw [e'] <;> omega
/-- the first place of a level -/
def fs (n : Nat) : Nat → Nat
  | 0 => 0
  | l + 1 => if l = 0 then 0 else fs n l + cn n (dep n - l)
theorem fs_one (n : Nat) : fs n 1 = 0 := by simp [fs]
theorem fs_succ (n : Nat) {l : Nat} (h : 1 ≤ l) : fs n (l + 1) = fs n l + cn n (dep n - l) := by rw [fs, if_neg (by omega)]
theorem fs_le {n : Nat} (hn : 1 ≤ n) (hn2 : n ≤ 4096) : ∀ l, fs n l ≤ l * 4096
  | 0 => by simp [fs]
  | l + 1 => by
    have := fs_le hn hn2 l
    have hb := dep_b n
    have hc := (cn_le (n := n) (m := dep n - l) (by omega) hn).2
    rw [fs]; split <;> omega
theorem fs_mono {n : Nat} {l : Nat} (h : 1 ≤ l) : ∀ t, fs n l ≤ fs n (l + t)
  | 0 => Nat.le_refl _
  | t + 1 => by
    have := fs_mono (n := n) h t
    rw [← Nat.add_assoc, fs_succ n (by omega)]; omega
theorem pMay (Fu : Nat) {n : Nat} (hn : 1 ≤ n ∧ n ≤ 4096) : path_may Fu (n : Int) = some true := by
  unfold path_may
  rw [decide_eq_true (by omega), decide_eq_true (by omega)]; rfl
theorem pDepth_l0 (Fu : Nat) {n : Nat} (hn : 1 ≤ n ∧ n ≤ 4096) : ∀ t k j, j + t = dep n → t < k → 1 ≤ j → path_Depth_l0 Fu (n : Int) k (j : Int) ((4 ^ j : Nat) : Int) = some (dep n : Int) := by
  have hb := dep_b n
  intro t
  induction t with
  | zero =>
    intro k j hj hk h1
    obtain ⟨k, rfl⟩ : ∃ m, k = m + 1 := ⟨k - 1, by omega⟩
    have := not_congr (dep_iff hn.2 h1 (show j ≤ 6 by omega))
    rw [path_Depth_l0, if_neg (by omega), show j = dep n by omega]
  | succ t ih =>
    intro k j hj hk h1
    obtain ⟨k, rfl⟩ : ∃ m, k = m + 1 := ⟨k - 1, by omega⟩
    have h0 := (dep_iff hn.2 h1 (show j ≤ 6 by omega)).2 (by omega)
    have := ih k (j + 1) (by omega) (by omega) (by omega)
    rw [Nat.pow_succ] at this
    generalize 4 ^ j = y at *
    rw [path_Depth_l0, if_pos (by omega), w_id (by omega), w_id (by omega)]
    rw [← this]; rfl
theorem pDepth (Fu : Nat) {n : Nat} (hn : 1 ≤ n ∧ n ≤ 4096) (h : 10 ≤ Fu) : path_Depth Fu (n : Int) = some (dep n : Int) := by
  have hb := dep_b n
  unfold path_Depth
  rw [pMay Fu hn]
  have := pDepth_l0 Fu hn (dep n - 1) Fu 1 (by omega) (by omega) (by omega)
  simp only [Option.bind_some, Bool.not_true, Bool.false_eq_true, if_false]
  rw [show (4 : Int) = ((4 ^ 1 : Nat) : Int) from rfl, show (1 : Int) = ((1 : Nat) : Int) from rfl, this]; rfl
theorem pWidth_l0 (Fu : Nat) {n : Nat} (hn : 1 ≤ n ∧ n ≤ 4096) (l m : Nat) (hm : l + m = dep n) : ∀ t k j, j + t = m → t < k → path_width_l0 Fu (l : Int) (dep n : Int) k ((4 ^ j : Nat) : Int) (j : Int) = some ((4 ^ m : Nat) : Int) := by
  have hb := dep_b n
  intro t
  induction t with
  | zero =>
    intro k j hj hk
    obtain ⟨k, rfl⟩ : ∃ m, k = m + 1 := ⟨k - 1, by omega⟩
    rw [path_width_l0, w_id (x := (dep n : Int) - l) (by omega), if_neg (by omega), show j = m by omega]
  | succ t ih =>
    intro k j hj hk
    obtain ⟨k, rfl⟩ : ∃ m, k = m + 1 := ⟨k - 1, by omega⟩
    have h4 : 4 ^ j ≤ 4096 := by rcases pw (show j ≤ 6 by omega) with ⟨e, e'⟩ | ⟨e, e'⟩ | ⟨e, e'⟩ | ⟨e, e'⟩ | ⟨e, e'⟩ | ⟨e, e'⟩ | ⟨e, e'⟩ <;> omega
    have := ih k (j + 1) (by omega) (by omega)
    rw [Nat.pow_succ] at this
    generalize 4 ^ j = y at *
    rw [path_width_l0, w_id (x := (dep n : Int) - l) (by omega), if_pos (by omega), w_id (by omega), w_id (by omega)]
    rw [← this]; rfl
theorem pWidth (Fu : Nat) {n : Nat} (hn : 1 ≤ n ∧ n ≤ 4096) (h : 10 ≤ Fu) (l m : Nat) (hm : l + m = dep n) : path_width Fu (n : Int) (l : Int) = some ((4 ^ m : Nat) : Int) := by
  have hb := dep_b n
  unfold path_width
  rw [pDepth Fu hn h]
  have := pWidth_l0 Fu hn l m hm m Fu 0 (by omega) (by omega)
  simp only [Option.bind_some]
  rw [show (1 : Int) = ((4 ^ 0 : Nat) : Int) from rfl, show (0 : Int) = ((0 : Nat) : Int) from rfl, this]; rfl
theorem pCount (Fu : Nat) {n : Nat} (hn : 1 ≤ n ∧ n ≤ 4096) (h : 10 ≤ Fu) (l m : Nat) (hm : l + m = dep n) : path_Count Fu (n : Int) (l : Int) = some (cn n m : Int) := by
  have hb := dep_b n
  unfold path_Count
  rw [pMay Fu hn, pDepth Fu hn h]
  simp only [Option.bind_some]
  rw [show ((!true) || decide ((l : Int) < 0)) = false by simp]
  simp only [Bool.false_eq_true, if_false, Option.bind_some]
  rw [decide_eq_false (by omega)]
  simp only [Bool.false_eq_true, if_false]
  rw [pWidth Fu hn h l m hm]
  have hcn := cn_le (n := n) (m := m) (by omega) hn.1
  have h4 : 1 ≤ 4 ^ m ∧ 4 ^ m ≤ 4096 := by rcases pw (show m ≤ 6 by omega) with ⟨e, e'⟩ | ⟨e, e'⟩ | ⟨e, e'⟩ | ⟨e, e'⟩ | ⟨e, e'⟩ | ⟨e, e'⟩ | ⟨e, e'⟩ <;> omega
  simp only [Option.bind_some]
  rw [w_id (x := (n : Int) + _) (by omega), w_id (x := (n : Int) + _ - 1) (by omega)]
  unfold quoI
  rw [if_neg (by omega), Int.tdiv_eq_ediv_of_nonneg (by omega)]
  have e : ((n : Int) + ((4 ^ m : Nat) : Int) - 1) / ((4 ^ m : Nat) : Int) = (cn n m : Int) := by
    unfold cn; rw [Int.natCast_ediv]; congr 1; omega
  rw [e, w_id (by omega)]; rfl
theorem pCount_off (Fu : Nat) {n : Nat} (hn : 1 ≤ n ∧ n ≤ 4096) (h : 10 ≤ Fu) (l : Int) (hl : l < 0 ∨ (dep n : Int) < l) : path_Count Fu (n : Int) l = some 0 := by
  unfold path_Count
  rw [pMay Fu hn, pDepth Fu hn h]
  simp only [Option.bind_some]
  rcases hl with hl | hl
  · rw [show ((!true) || decide (l < 0)) = true by simp [hl]]; rfl
  · rw [show ((!true) || decide (l < 0)) = false by simp; omega]
    simp only [Bool.false_eq_true, if_false, Option.bind_some]
    rw [decide_eq_true hl]; rfl
/-- the levels from j on -/
def lvF (n : Nat) : Nat → Nat → List (Int × Int)
  | _, 0 => []
  | j, t + 1 => ((j : Int), (fs n j : Int)) :: lvF n (j + 1) t
theorem lvF_len (n : Nat) : ∀ t j, (lvF n j t).length = t
  | 0, _ => rfl
  | t + 1, j => by simp [lvF, lvF_len n t]
theorem pLevels_l0 (Fu : Nat) {n : Nat} (hn : 1 ≤ n ∧ n ≤ 4096) (h : 10 ≤ Fu) : ∀ t k j, j + t = dep n + 1 → t < k → 1 ≤ j → path_levels_l0 Fu (n : Int) k (fs n j : Int) (j : Int) = some (lvF n j t) := by
  have hb := dep_b n
  intro t
  induction t with
  | zero =>
    intro k j hj hk h1
    obtain ⟨k, rfl⟩ : ∃ m, k = m + 1 := ⟨k - 1, by omega⟩
    rw [path_levels_l0, pDepth Fu hn h]
    simp only [Option.bind_some]
    rw [if_neg (by omega)]; rfl
  | succ t ih =>
    intro k j hj hk h1
    obtain ⟨k, rfl⟩ : ∃ m, k = m + 1 := ⟨k - 1, by omega⟩
    rw [path_levels_l0, pDepth Fu hn h]
    simp only [Option.bind_some]
    rw [if_pos (by omega), pCount Fu hn h j (dep n - j) (by omega)]
    simp only [Option.bind_some]
    have hf := fs_le hn.1 hn.2 j
    have hc := cn_le (n := n) (m := dep n - j) (by omega) hn.1
    rw [w_id (by omega), w_id (by omega)]
    have := ih k (j + 1) (by omega) (by omega) (by omega)
    rw [fs_succ n h1] at this
    rw [show ((fs n j : Int) + (cn n (dep n - j) : Int)) = ((fs n j + cn n (dep n - j) : Nat) : Int) by omega, show ((j : Int) + 1) = ((j + 1 : Nat) : Int) by omega, this]; rfl
theorem pLevels (Fu : Nat) {n : Nat} (hn : 1 ≤ n ∧ n ≤ 4096) (h : 10 ≤ Fu) : path_levels Fu (n : Int) = some (lvF n 1 (dep n)) := by
  have hb := dep_b n
  have := pLevels_l0 Fu hn h (dep n) Fu 1 (by omega) (by omega) (by omega)
  rw [fs_one] at this
  exact this
theorem pTotal_r0 (Fu : Nat) {n : Nat} (hn : 1 ≤ n ∧ n ≤ 4096) (h : 10 ≤ Fu) : ∀ t j (x : Int), j + t = dep n + 1 → 1 ≤ j → path_Total_r0 Fu (n : Int) (lvF n j t) x = some (if t = 0 then x else (fs n (j + t) : Int)) := by
  have hb := dep_b n
  intro t
  induction t with
  | zero => intro j x hj h1; rfl
  | succ t ih =>
    intro j x hj h1
    have hf := fs_le hn.1 hn.2 j
    have hc := cn_le (n := n) (m := dep n - j) (by omega) hn.1
    show (path_Count Fu (n : Int) (j : Int)).bind _ = _
    rw [pCount Fu hn h j (dep n - j) (by omega)]
    simp only [Option.bind_some]
    rw [ih (j + 1) _ (by omega) (by omega), w_id (by omega)]
    by_cases h0 : t = 0
    · subst h0
      rw [if_pos rfl, if_neg (by omega), fs_succ n h1]; simp
    · rw [if_neg h0, if_neg (by omega), show j + 1 + t = j + (t + 1) by omega]
theorem pTotal (Fu : Nat) {n : Nat} (hn : 1 ≤ n ∧ n ≤ 4096) (h : 10 ≤ Fu) : path_Total Fu (n : Int) = some (fs n (dep n + 1) : Int) := by
  have hb := dep_b n
  unfold path_Total
  rw [pLevels Fu hn h]
  simp only [Option.bind_some]
  rw [pTotal_r0 Fu hn h (dep n) 1 0 (by omega) (by omega), if_neg (by omega), show 1 + dep n = dep n + 1 by omega]; rfl
theorem pPlace_r0 (Fu : Nat) {n : Nat} (l : Nat) (i : Int) : ∀ t j, j ≤ l → l < j + t → path_Place_r0 Fu (l : Int) i (lvF n j t) = some (.inl (w64 ((fs n l : Int) + i), true)) := by
  intro t
  induction t with
  | zero => intro j h1 h2; omega
  | succ t ih =>
    intro j h1 h2
    show (if (j : Int) = (l : Int) then _ else _) = _
    by_cases e : j = l
    · subst e; rw [if_pos rfl]
    · rw [if_neg (by omega)]; exact ih (j + 1) (by omega) (by omega)
theorem pPlace (Fu : Nat) {n : Nat} (hn : 1 ≤ n ∧ n ≤ 4096) (h : 10 ≤ Fu) (l m i : Nat) (h1 : 1 ≤ l) (hm : l + m = dep n) (hi : i < cn n m) : path_Place Fu (n : Int) (l : Int) (i : Int) = some (((fs n l + i : Nat) : Int), true) := by
  have hb := dep_b n
  have hf := fs_le hn.1 hn.2 l
  have hc := cn_le (n := n) (m := m) (by omega) hn.1
  unfold path_Place
  rw [show (decide ((l : Int) < 1) || decide ((i : Int) < 0)) = false by simp; omega]
  simp only [Bool.false_eq_true, if_false]
  rw [pCount Fu hn h l m hm, pLevels Fu hn h]
  simp only [Option.bind_some]
  rw [decide_eq_false (by omega)]
  simp only [Bool.false_eq_true, if_false]
  rw [pPlace_r0 Fu l i (dep n) 1 h1 (by omega), w_id (by omega)]
  simp
theorem pPlace_off (Fu : Nat) {n : Nat} (hn : 1 ≤ n ∧ n ≤ 4096) (h : 10 ≤ Fu) (a i : Int) (ha : a < 1 ∨ (dep n : Int) < a ∨ i < 0 ∨ ∃ l m : Nat, a = (l : Int) ∧ l + m = dep n ∧ (cn n m : Int) ≤ i) : path_Place Fu (n : Int) a i = some (0, false) := by
  unfold path_Place
  by_cases h0 : a < 1 ∨ i < 0
  · rw [show (decide (a < 1) || decide (i < 0)) = true by simpa using h0]; rfl
  · rw [show (decide (a < 1) || decide (i < 0)) = false by simp; omega]
    simp only [Bool.false_eq_true, if_false]
    by_cases h1 : (dep n : Int) < a
    · rw [pCount_off Fu hn h a (.inr h1)]
      simp only [Option.bind_some]
      rw [decide_eq_true (by omega)]; rfl
    · obtain ⟨l, m, rfl, hm, hi⟩ : ∃ l m : Nat, a = (l : Int) ∧ l + m = dep n ∧ (cn n m : Int) ≤ i := by
        rcases ha with h2 | h2 | h2 | h2 <;> first | exact h2 | omega
      rw [pCount Fu hn h l m hm]
      simp only [Option.bind_some]
      rw [decide_eq_true hi]; rfl
theorem pNode_r0 (Fu : Nat) {n : Nat} (hn : 1 ≤ n ∧ n ≤ 4096) (h : 10 ≤ Fu) (p : Nat) (hp : p ≤ 100000) : ∀ t j, j + t = dep n + 1 → 1 ≤ j → fs n j ≤ p →
    (fs n (j + t) ≤ p ∧ path_Node_r0 Fu (n : Int) (p : Int) (lvF n j t) = some (.inr ())) ∨
    (p < fs n (j + t) ∧ ∃ l m i : Nat, j ≤ l ∧ l + m = dep n ∧ i < cn n m ∧ p = fs n l + i ∧ path_Node_r0 Fu (n : Int) (p : Int) (lvF n j t) = some (.inl ((l : Int), (i : Int), true))) := by
  have hb := dep_b n
  intro t
  induction t with
  | zero => intro j hj h1 hp; exact .inl ⟨hp, rfl⟩
  | succ t ih =>
    intro j hj h1 hfp
    have hf := fs_le hn.1 hn.2 j
    have hc := cn_le (n := n) (m := dep n - j) (by omega) hn.1
    have e : path_Node_r0 Fu (n : Int) (p : Int) (lvF n j (t + 1)) = if (p : Int) < (fs n j : Int) + (cn n (dep n - j) : Int) then some (.inl ((j : Int), (p : Int) - (fs n j : Int), true)) else path_Node_r0 Fu (n : Int) (p : Int) (lvF n (j + 1) t) := by
      show (path_Count Fu (n : Int) (j : Int)).bind _ = _
      rw [pCount Fu hn h j (dep n - j) (by omega)]
      simp only [Option.bind_some]
      rw [w_id (by omega), w_id (by omega)]
    rw [e]
    have hm := fs_mono (n := n) (l := j + 1) (by omega) t
    rw [show j + 1 + t = j + (t + 1) by omega, fs_succ n h1] at hm
    by_cases hlt : p < fs n j + cn n (dep n - j)
    · rw [if_pos (by omega)]
      refine .inr ⟨by omega, j, dep n - j, p - fs n j, Nat.le_refl _, by omega, by omega, by omega, ?_⟩
      rw [show ((p : Int) - (fs n j : Int)) = ((p - fs n j : Nat) : Int) by omega]
    · rw [if_neg (by omega)]
      rcases ih (j + 1) (by omega) (by omega) (by rw [fs_succ n h1]; omega) with ⟨h2, h3⟩ | ⟨h2, l, m, i, h3, h4⟩
      · exact .inl ⟨by rw [show j + (t + 1) = j + 1 + t by omega]; exact h2, h3⟩
      · exact .inr ⟨by rw [show j + (t + 1) = j + 1 + t by omega]; exact h2, l, m, i, by omega, h4⟩
theorem pNode (Fu : Nat) {n : Nat} (hn : 1 ≤ n ∧ n ≤ 4096) (h : 10 ≤ Fu) (p : Nat) (hp : p < fs n (dep n + 1)) : ∃ l m i : Nat, 1 ≤ l ∧ l + m = dep n ∧ i < cn n m ∧ p = fs n l + i ∧ path_Node Fu (n : Int) (p : Int) = some ((l : Int), (i : Int), true) := by
  have hb := dep_b n
  have hf := fs_le hn.1 hn.2 (dep n + 1)
  rcases pNode_r0 Fu hn h p (by omega) (dep n) 1 (by omega) (by omega) (by rw [fs_one]; omega) with ⟨h2, h3⟩ | ⟨h2, l, m, i, h3, h4, h5, h6, h7⟩
  · rw [show 1 + dep n = dep n + 1 by omega] at h2; omega
  · refine ⟨l, m, i, h3, h4, h5, h6, ?_⟩
    unfold path_Node
    rw [if_neg (by omega), pLevels Fu hn h]
    simp only [Option.bind_some]
    rw [h7]; rfl
theorem pNode_off (Fu : Nat) {n : Nat} (hn : 1 ≤ n ∧ n ≤ 4096) (h : 10 ≤ Fu) (p : Int) (hp : p < 0 ∨ (fs n (dep n + 1) : Int) ≤ p) : path_Node Fu (n : Int) p = some (0, 0, false) := by
  have hb := dep_b n
  have hf := fs_le hn.1 hn.2 (dep n + 1)
  unfold path_Node
  by_cases h0 : p < 0
  · rw [if_pos h0]
  · rw [if_neg h0, pLevels Fu hn h]
    simp only [Option.bind_some]
    have key : ∀ t j, j + t = dep n + 1 → 1 ≤ j → path_Node_r0 Fu (n : Int) p (lvF n j t) = some (.inr ()) := by
      intro t
      induction t with
      | zero => intro j _ _; rfl
      | succ t ih =>
        intro j hj h1
        have hf := fs_le hn.1 hn.2 j
        have hc := cn_le (n := n) (m := dep n - j) (by omega) hn.1
        have hm := fs_mono (n := n) (l := j + 1) (by omega) t
        rw [show j + 1 + t = dep n + 1 by omega, fs_succ n h1] at hm
        show (path_Count Fu (n : Int) (j : Int)).bind _ = _
        rw [pCount Fu hn h j (dep n - j) (by omega)]
        simp only [Option.bind_some]
        rw [w_id (by omega), if_neg (by omega)]
        exact ih (j + 1) (by omega) (by omega)
    rw [key (dep n) 1 (by omega) (by omega)]; rfl
/-! what is no tree -/
theorem bMay (Fu : Nat) {a : Int} (ha : ¬ (1 ≤ a ∧ a ≤ 4096)) : path_may Fu a = some false := by
  unfold path_may
  rw [← Bool.decide_and, decide_eq_false ha]
theorem bDepth (Fu : Nat) {a : Int} (ha : ¬ (1 ≤ a ∧ a ≤ 4096)) : path_Depth Fu a = some 0 := by unfold path_Depth; rw [bMay Fu ha]; rfl
theorem bCount (Fu : Nat) {a : Int} (ha : ¬ (1 ≤ a ∧ a ≤ 4096)) (l : Int) : path_Count Fu a l = some 0 := by unfold path_Count; rw [bMay Fu ha]; rfl
theorem bLevels (Fu : Nat) {a : Int} (ha : ¬ (1 ≤ a ∧ a ≤ 4096)) (h : 1 ≤ Fu) : path_levels Fu a = some [] := by
  unfold path_levels
  obtain ⟨k, rfl⟩ : ∃ m, Fu = m + 1 := ⟨Fu - 1, by omega⟩
  rw [path_levels_l0, bDepth _ ha]; rfl
theorem bTotal (Fu : Nat) {a : Int} (ha : ¬ (1 ≤ a ∧ a ≤ 4096)) (h : 1 ≤ Fu) : path_Total Fu a = some 0 := by unfold path_Total; rw [bLevels Fu ha h]; rfl
theorem bPlace (Fu : Nat) {a : Int} (ha : ¬ (1 ≤ a ∧ a ≤ 4096)) (l i : Int) : path_Place Fu a l i = some (0, false) := by
  unfold path_Place
  rw [bCount Fu ha]
  by_cases h0 : l < 1 ∨ i < 0
  · rw [show (decide (l < 1) || decide (i < 0)) = true by simpa using h0]; rfl
  · rw [show (decide (l < 1) || decide (i < 0)) = false by simp; omega]
    simp only [Bool.false_eq_true, if_false, Option.bind_some]
    rw [decide_eq_true (by omega)]; rfl
theorem bNode (Fu : Nat) {a : Int} (ha : ¬ (1 ≤ a ∧ a ≤ 4096)) (h : 1 ≤ Fu) (p : Int) : path_Node Fu a p = some (0, 0, false) := by
  unfold path_Node
  by_cases h0 : p < 0
  · rw [if_pos h0]
  · rw [if_neg h0, bLevels Fu ha h]; rfl
theorem bBelow (Fu : Nat) {a : Int} (ha : ¬ (1 ≤ a ∧ a ≤ 4096)) (l i : Int) : path_Below Fu a l i = some (0, 0) := by
  unfold path_Below
  rw [bCount Fu ha]
  by_cases h0 : i < 0
  · rw [if_pos h0]; rfl
  · rw [if_neg h0]
    simp only [Option.bind_some]
    rw [decide_eq_true (by omega)]; rfl
theorem rMay_b (Fu : Nat) {a : Int} (ha : ¬ (1 ≤ a ∧ a ≤ 4096)) : chatelaineref20_May Fu a = some false := by
  unfold chatelaineref20_May
  rw [← Bool.decide_and, decide_eq_false ha]
theorem rPlace_b (Fu : Nat) {a : Int} (ha : ¬ (1 ≤ a ∧ a ≤ 4096)) (l i : Int) : chatelaineref20_Place Fu a l i = some (-1) := by unfold chatelaineref20_Place; rw [rMay_b Fu ha]; rfl
/-! the document's -/
theorem idx_ge {α : Type} {l : List α} {j : Nat} (h : j < l.length) : ix l.length (j : Int) = some j := ix_nat h
theorem app8 (l : List Int) (x : Int) (h : l.length < 1000000) : app 8 l [x] = some (l ++ [x]) := by
  unfold app maxLen; rw [if_pos (by simp; omega)]
/-- how many nodes each level has -/
def CL (n : Nat) : List Int := (List.range (dep n + 1)).map fun l => (cn n (dep n - l) : Int)
theorem CL_len (n : Nat) : (CL n).length = dep n + 1 := by simp [CL]
theorem CL_at (n : Nat) {l : Nat} (h : l ≤ dep n) : (CL n)[l]? = some (cn n (dep n - l) : Int) := by
  unfold CL; rw [List.getElem?_map, List.getElem?_range (by omega)]; rfl
theorem rMay (Fu : Nat) {n : Nat} (hn : 1 ≤ n ∧ n ≤ 4096) : chatelaineref20_May Fu (n : Int) = some true := by
  unfold chatelaineref20_May
  rw [decide_eq_true (by omega), decide_eq_true (by omega)]; rfl
theorem rCounts_l0 (Fu : Nat) {n : Nat} (hn : 1 ≤ n ∧ n ≤ 4096) : ∀ t k j, j + t = dep n → t < k → chatelaineref20_Counts_l0 Fu k ((List.range j).map fun i => (cn n i : Int)) (cn n j : Int) = some ((List.range (dep n + 1)).map fun i => (cn n i : Int)) := by
  have hb := dep_b n
  intro t
  induction t with
  | zero =>
    intro k j hj hk
    obtain ⟨k, rfl⟩ : ∃ m, k = m + 1 := ⟨k - 1, by omega⟩
    have hj' : j = dep n := by omega
    subst hj'
    rw [chatelaineref20_Counts_l0, app8 _ _ (by simp; omega)]
    simp only [Option.bind_some]
    rw [if_pos (by rw [cn_dep hn.1 hn.2]; simp; omega), List.range_succ, List.map_append]; rfl
  | succ t ih =>
    intro k j hj hk
    obtain ⟨k, rfl⟩ : ∃ m, k = m + 1 := ⟨k - 1, by omega⟩
    have hc := cn_le (n := n) (m := j) (by omega) hn.1
    rw [chatelaineref20_Counts_l0, app8 _ _ (by simp; omega)]
    simp only [Option.bind_some]
    rw [if_neg]
    · rw [w_id (x := (cn n j : Int) + 3) (by omega), Int.tdiv_eq_ediv_of_nonneg (by omega), w_id (by omega)]
      have := ih k (j + 1) (by omega) (by omega)
      rw [cn_succ (by omega) hn.1, List.range_succ, List.map_append] at this
      rw [← this]; rfl
    · intro hh
      simp only [Bool.and_eq_true, decide_eq_true_eq] at hh
      have h1 : 1 ≤ j := by
        by_cases h0 : j = 0
        · subst h0; simp at hh
        · omega
      exact cn_big hn.2 hn.1 h1 (by omega) (by omega)
theorem rCounts_l1 (Fu : Nat) (x : List Int) (hx : x.length < 1000000) : ∀ t k, t ≤ x.length → t < k → chatelaineref20_Counts_l1 Fu x k ((x.drop t).reverse) ((t : Int) - 1) = some x.reverse := by
  intro t
  induction t with
  | zero =>
    intro k ht hk
    obtain ⟨k, rfl⟩ : ∃ m, k = m + 1 := ⟨k - 1, by omega⟩
    rw [chatelaineref20_Counts_l1, if_neg (by omega), List.drop_zero]
  | succ t ih =>
    intro k ht hk
    obtain ⟨k, rfl⟩ : ∃ m, k = m + 1 := ⟨k - 1, by omega⟩
    rw [chatelaineref20_Counts_l1, if_pos (by omega), show ((t + 1 : Nat) : Int) - 1 = (t : Int) by omega, ix_nat (by omega)]
    simp only [Option.bind_some]
    rw [List.getElem?_eq_getElem (by omega)]
    simp only [Option.bind_some]
    rw [app8 _ _ (by simp; omega)]
    simp only [Option.bind_some]
    rw [w_id (by omega), ← ih k (by omega) (by omega), List.drop_eq_getElem_cons (show t < x.length by omega), List.reverse_cons]
theorem rCounts (Fu : Nat) {n : Nat} (hn : 1 ≤ n ∧ n ≤ 4096) (h : 10 ≤ Fu) : chatelaineref20_Counts Fu (n : Int) = some (CL n) := by
  have hb := dep_b n
  unfold chatelaineref20_Counts
  have h0 := rCounts_l0 Fu hn (dep n) Fu 0 (by omega) (by omega)
  rw [cn_zero] at h0
  rw [show ([] : List Int) = (List.range 0).map fun i => (cn n i : Int) from rfl, h0]
  simp only [Option.bind_some]
  have h1 := rCounts_l1 Fu ((List.range (dep n + 1)).map fun i => (cn n i : Int)) (by simp; omega) (dep n + 1) Fu (by simp) (by omega)
  rw [List.drop_of_length_le (by simp)] at h1
  rw [List.length_map, List.length_range, w_id (by omega)]
  rw [show ((List.range 0).map fun i => (cn n i : Int)) = ([] : List Int).reverse from rfl, h1]
  simp only [Option.bind_some, Option.some.injEq]
  apply List.ext_getElem
  · simp [CL]
  · intro i h1 h2
    simp [CL]
    try (simp at h1)
    try omega
theorem rPlace_l0 (Fu : Nat) {n : Nat} (hn : 1 ≤ n ∧ n ≤ 4096) (l : Nat) (hl : l ≤ dep n) : ∀ t k j, j + t = l → t < k → 1 ≤ j → chatelaineref20_Place_l0 Fu (l : Int) (CL n) k (fs n j : Int) (j : Int) = some (fs n l : Int) := by
  have hb := dep_b n
  intro t
  induction t with
  | zero =>
    intro k j hj hk h1
    obtain ⟨k, rfl⟩ : ∃ m, k = m + 1 := ⟨k - 1, by omega⟩
    rw [chatelaineref20_Place_l0, if_neg (by omega), show j = l by omega]
  | succ t ih =>
    intro k j hj hk h1
    obtain ⟨k, rfl⟩ : ∃ m, k = m + 1 := ⟨k - 1, by omega⟩
    have hf := fs_le hn.1 hn.2 j
    have hc := cn_le (n := n) (m := dep n - j) (by omega) hn.1
    rw [chatelaineref20_Place_l0, if_pos (by omega), ix_nat (by rw [CL_len]; omega)]
    simp only [Option.bind_some]
    rw [CL_at n (by omega)]
    simp only [Option.bind_some]
    rw [w_id (by omega), w_id (by omega)]
    have := ih k (j + 1) (by omega) (by omega) (by omega)
    rw [fs_succ n h1] at this
    rw [← this]; congr 1
theorem rPlace (Fu : Nat) {n : Nat} (hn : 1 ≤ n ∧ n ≤ 4096) (h : 10 ≤ Fu) (l m i : Nat) (h1 : 1 ≤ l) (hm : l + m = dep n) (hi : i < cn n m) : chatelaineref20_Place Fu (n : Int) (l : Int) (i : Int) = some ((fs n l + i : Nat) : Int) := by
  have hb := dep_b n
  have hf := fs_le hn.1 hn.2 l
  have hc := cn_le (n := n) (m := m) (by omega) hn.1
  unfold chatelaineref20_Place
  rw [rMay Fu hn, rCounts Fu hn h]
  simp only [Option.bind_some]
  rw [show ((!true) || decide ((l : Int) < 1)) = false by simp; omega]
  simp only [Bool.false_eq_true, if_false]
  rw [show (decide (((CL n).length : Int) ≤ (l : Int)) || decide ((i : Int) < 0)) = false by rw [CL_len]; simp; omega]
  simp only [Bool.false_eq_true, if_false]
  rw [ix_nat (by rw [CL_len]; omega)]
  simp only [Option.bind_some]
  rw [CL_at n (by omega), show dep n - l = m by omega]
  simp only [Option.bind_some]
  rw [decide_eq_false (by omega)]
  simp only [Bool.false_eq_true, if_false]
  have := rPlace_l0 Fu hn l (by omega) (l - 1) Fu 1 (by omega) (by omega) (by omega)
  rw [fs_one] at this
  rw [show (0 : Int) = ((0 : Nat) : Int) from rfl, show (1 : Int) = ((1 : Nat) : Int) from rfl, this]
  simp only [Option.bind_some]
  rw [w_id (by omega)]; simp
theorem rPlace_off (Fu : Nat) {n : Nat} (hn : 1 ≤ n ∧ n ≤ 4096) (h : 10 ≤ Fu) (a i : Int) (ha : a < 1 ∨ (dep n : Int) < a ∨ i < 0 ∨ ∃ l m : Nat, a = (l : Int) ∧ l + m = dep n ∧ (cn n m : Int) ≤ i) : chatelaineref20_Place Fu (n : Int) a i = some (-1) := by
  unfold chatelaineref20_Place
  rw [rMay Fu hn, rCounts Fu hn h]
  simp only [Option.bind_some]
  by_cases h0 : a < 1
  · rw [show ((!true) || decide (a < 1)) = true by simpa using h0]; rfl
  · rw [show ((!true) || decide (a < 1)) = false by simp; omega]
    simp only [Bool.false_eq_true, if_false]
    by_cases h1 : (dep n : Int) < a ∨ i < 0
    · rw [show (decide (((CL n).length : Int) ≤ a) || decide (i < 0)) = true by rw [CL_len]; simp; omega]; rfl
    · rw [show (decide (((CL n).length : Int) ≤ a) || decide (i < 0)) = false by rw [CL_len]; simp; omega]
      obtain ⟨l, m, rfl, hm, hi⟩ : ∃ l m : Nat, a = (l : Int) ∧ l + m = dep n ∧ (cn n m : Int) ≤ i := by
        rcases ha with h2 | h2 | h2 | h2 <;> first | exact h2 | omega
      simp only [Bool.false_eq_true, if_false]
      rw [ix_nat (by rw [CL_len]; omega)]
      simp only [Option.bind_some]
      rw [CL_at n (by omega), show dep n - l = m by omega]
      simp only [Option.bind_some]
      rw [decide_eq_true hi]; rfl
theorem awake20 (Fu : Nat) (h : 10 ≤ Fu) : chatelainelaw20_awake Fu = some true := by
  unfold chatelainelaw20_awake
  rw [show (5 : Int) = ((5 : Nat) : Int) from rfl, pDepth Fu (by decide) h, pTotal Fu (by decide) h]
  decide
end Go.Proofs.Ytdahdlidpplllaa
