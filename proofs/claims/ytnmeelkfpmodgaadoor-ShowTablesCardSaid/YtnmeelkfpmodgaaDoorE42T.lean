/- The statement ShowTables, told over lists. -/
import Derived.Test.YtnmeelkfpmodgaaDoorE42X
import Derived.Test.YtnmeelkfpmodgaaDoorSn
set_option linter.unusedVariables false
set_option linter.unusedSimpArgs false
namespace Go.Proofs.YtnmeelkfpmodgaaDoor
open Go.RowKit
abbrev RwT := List (List UInt8)
def okC (b : UInt8) : Bool := decide (32 ≤ b.toNat) && decide (b.toNat ≤ 126)
def okW (w : List UInt8) : Bool := w.all okC
def okR (r : RwT) : Bool := r.all okW
theorem plain0 (Fu : Nat) (s : List UInt8) : ∀ (d i k : Nat), i + d = s.length → d < k →
    ∃ r, strings_indexFunc_clo1_38_0_0_l0 Fu s true k i = some r ∧ (if (s.drop i).all okC = true then r = .inr () else ∃ j : Nat, r = .inl (j : Int)) := by
  intro d
  induction d with
  | zero =>
    intro i k hi hk
    obtain ⟨k, rfl⟩ : ∃ m, k = m + 1 := ⟨k - 1, by omega⟩
    obtain ⟨u, hu⟩ := rnx_end (s := s) (i := i) (by omega)
    refine ⟨.inr (), by rw [strings_indexFunc_clo1_38_0_0_l0, hu], ?_⟩
    rw [List.drop_of_length_le (by omega), if_pos (by rfl)]
  | succ d ih =>
    intro i k hi hk
    obtain ⟨k, rfl⟩ : ∃ m, k = m + 1 := ⟨k - 1, by omega⟩
    have hlt : i < s.length := by omega
    rw [List.drop_eq_getElem_cons hlt, List.all_cons]
    by_cases hb : s[i].toNat < 128
    · by_cases hc : okC s[i] = true
      · obtain ⟨r, h1, h2⟩ := ih (i + 1) k (by omega) (by omega)
        refine ⟨r, ?_, by rw [hc, Bool.true_and]; exact h2⟩
        rw [strings_indexFunc_clo1_38_0_0_l0, rnx_ascii (List.getElem?_eq_getElem hlt) hb]
        simp only [okC, Bool.and_eq_true, decide_eq_true_eq] at hc
        have e : (decide (((s[i].toNat : Nat) : Int) < 32) || decide (126 < ((s[i].toNat : Nat) : Int))) = false := by simp; omega
        dsimp only
        rw [show show_plain_1 Fu ((s[i].toNat : Nat) : Int) = some (decide (((s[i].toNat : Nat) : Int) < 32) || decide (126 < ((s[i].toNat : Nat) : Int))) from rfl, e]
        exact h1
      · refine ⟨.inl (i : Int), ?_, by rw [show okC s[i] = false by simpa using hc]; exact ⟨i, rfl⟩⟩
        rw [strings_indexFunc_clo1_38_0_0_l0, rnx_ascii (List.getElem?_eq_getElem hlt) hb]
        have hc2 : okC s[i] = false := by simpa using hc
        simp only [okC, Bool.and_eq_false_iff, decide_eq_false_iff_not] at hc2
        have e : (decide (((s[i].toNat : Nat) : Int) < 32) || decide (126 < ((s[i].toNat : Nat) : Int))) = true := by simp; omega
        dsimp only
        rw [show show_plain_1 Fu ((s[i].toNat : Nat) : Int) = some (decide (((s[i].toNat : Nat) : Int) < 32) || decide (126 < ((s[i].toNat : Nat) : Int))) from rfl, e]
        rfl
    · obtain ⟨y, e, hy⟩ := rnx_hi hlt (by omega)
      have hc : okC s[i] = false := by simp [okC]; omega
      refine ⟨.inl (i : Int), ?_, by rw [hc]; exact ⟨i, rfl⟩⟩
      rw [strings_indexFunc_clo1_38_0_0_l0, e]
      have e2 : (decide (y.1 < 32) || decide (126 < y.1)) = true := by simp; omega
      dsimp only
      rw [show show_plain_1 Fu y.1 = some (decide (y.1 < 32) || decide (126 < y.1)) from rfl, e2]
      rfl
theorem plainC (Fu : Nat) (s : List UInt8) (h : s.length < Fu) : show_Table_1 Fu s = some (!(okW s)) := by
  obtain ⟨r, h1, h2⟩ := plain0 Fu s s.length 0 Fu (by omega) h
  rw [List.drop_zero] at h2
  unfold show_Table_1 show_plain strings_ContainsFunc_clo1_38_0_0 strings_IndexFunc_clo1_38_0_0 strings_indexFunc_clo1_38_0_0
  rw [h1]
  unfold okW
  by_cases ha : s.all okC = true
  · rw [if_pos ha] at h2; subst h2; rw [ha]; rfl
  · rw [if_neg ha] at h2
    obtain ⟨j, rfl⟩ := h2
    rw [show s.all okC = false by simpa using ha]
    show some (!(!(decide ((0 : Int) ≤ (j : Int))))) = some (!false)
    rw [decide_eq_true (by omega)]; rfl
theorem cf0 (Fu : Nat) (r : RwT) (hw : ∀ w ∈ r, w.length < Fu) (hr : r.length ≤ 100000) : ∀ (d i k : Nat), i + d = r.length → d < k →
    ∃ v, slices_IndexFunc___string_string_clo1_28_0_0_l0 Fu r k (i : Int) = some v ∧ (if (r.drop i).all okW = true then v = .inr () else ∃ j : Nat, v = .inl (j : Int)) := by
  intro d
  induction d with
  | zero =>
    intro i k hi hk
    obtain ⟨k, rfl⟩ : ∃ m, k = m + 1 := ⟨k - 1, by omega⟩
    refine ⟨.inr (), by rw [slices_IndexFunc___string_string_clo1_28_0_0_l0, if_neg (by omega)], ?_⟩
    rw [List.drop_of_length_le (by omega), if_pos (by rfl)]
  | succ d ih =>
    intro i k hi hk
    obtain ⟨k, rfl⟩ : ∃ m, k = m + 1 := ⟨k - 1, by omega⟩
    have hlt : i < r.length := by omega
    rw [List.drop_eq_getElem_cons hlt, List.all_cons, slices_IndexFunc___string_string_clo1_28_0_0_l0, if_pos (by omega), idx_at hlt]
    simp only [Option.bind_some]
    rw [plainC Fu _ (hw _ (List.getElem_mem _))]
    simp only [Option.bind_some]
    cases okW r[i] with
    | true =>
      obtain ⟨v, h1, h2⟩ := ih (i + 1) k (by omega) (by omega)
      refine ⟨v, ?_, by rw [Bool.true_and]; exact h2⟩
      rw [if_neg (by decide), w_sm (by omega), show ((i : Int) + 1) = ((i + 1 : Nat) : Int) by omega, h1]
    | false => exact ⟨.inl (i : Int), by rw [if_pos (by decide)], ⟨i, rfl⟩⟩
theorem cfC (Fu : Nat) (r : RwT) (hw : ∀ w ∈ r, w.length < Fu) (hr : r.length ≤ 100000) (hF : r.length < Fu) : slices_ContainsFunc___string_string_clo1_28_0_0 Fu r = some (!(okR r)) := by
  obtain ⟨v, h1, h2⟩ := cf0 Fu r hw hr r.length 0 Fu (by omega) hF
  rw [show ((0 : Nat) : Int) = 0 from rfl] at h1
  rw [List.drop_zero] at h2
  unfold slices_ContainsFunc___string_string_clo1_28_0_0 slices_IndexFunc___string_string_clo1_28_0_0
  rw [h1]
  unfold okR
  by_cases ha : r.all okW = true
  · rw [if_pos ha] at h2; subst h2; rw [ha]; rfl
  · rw [if_neg ha] at h2
    obtain ⟨j, rfl⟩ := h2
    rw [show r.all okW = false by simpa using ha]
    show some (decide ((0 : Int) ≤ (j : Int))) = some (!false)
    rw [decide_eq_true (by omega)]; rfl
/-! widths -/
def wd (g : Nat → Nat) (r : RwT) : Nat → Nat := fun k => max (g k) ((r[k]?.map List.length).getD 0)
def fitsW (m : List (Int × Int)) (g : Nat → Nat) : Prop := ∀ k : Nat, (aget (k : Int) m).getD 0 = (g k : Int)
theorem l1_ok (Fu : Nat) (r : RwT) (hr : r.length ≤ 100) : ∀ (d i k : Nat) (m : List (Int × Int)) (g : Nat → Nat), i + d = r.length → d < k → fitsW m (fun j => if j < i then wd g r j else g j) →
    ∃ m', show_Table_l1 Fu r k (i : Int) m = some m' ∧ fitsW m' (wd g r) := by
  intro d
  induction d with
  | zero =>
    intro i k m g hi hk hm
    obtain ⟨k, rfl⟩ : ∃ m, k = m + 1 := ⟨k - 1, by omega⟩
    refine ⟨m, by rw [show_Table_l1, if_neg (by omega)], fun j => ?_⟩
    rw [hm j]
    dsimp only
    split
    · rfl
    · unfold wd; rw [List.getElem?_eq_none (by omega)]; simp
  | succ d ih =>
    intro i k m g hi hk hm
    obtain ⟨k, rfl⟩ : ∃ m, k = m + 1 := ⟨k - 1, by omega⟩
    have hlt : i < r.length := by omega
    rw [show_Table_l1, if_pos (by omega), idx_at hlt]
    simp only [Option.bind_some]
    rw [w_sm (by omega), show ((i : Int) + 1) = ((i + 1 : Nat) : Int) by omega]
    refine ih (i + 1) k _ g (by omega) (by omega) (fun j => ?_)
    rw [aget_aset]
    have hmi := hm i
    dsimp only at hmi ⊢
    rw [if_neg (by omega)] at hmi
    by_cases hj : (i : Int) = (j : Int)
    · obtain rfl : i = j := by omega
      rw [if_pos rfl, if_pos (by omega), Option.getD_some, hmi]
      unfold wd mx
      rw [List.getElem?_eq_getElem hlt]
      simp only [Option.map_some, Option.getD_some]
      split <;> omega
    · rw [if_neg hj, hm j]
      dsimp only
      by_cases h1 : j < i
      · rw [if_pos h1, if_pos (by omega)]
      · rw [if_neg h1, if_neg (by omega)]
def wds (l : List RwT) (g : Nat → Nat) : Nat → Nat := l.foldl wd g
theorem l0_ok (Fu : Nat) (hF : 2000 ≤ Fu) (l : List RwT) (hl : l.length ≤ 20) (hr : ∀ r ∈ l, r.length ≤ 20 ∧ ∀ w ∈ r, w.length ≤ 60) : ∀ (d i k : Nat) (m : List (Int × Int)) (g : Nat → Nat), i + d = l.length → d < k → fitsW m g →
    ∃ v, show_Table_l0 Fu l k (i : Int) m = some v ∧ (if (l.drop i).all okR = true then ∃ m', v = .inr m' ∧ fitsW m' (wds (l.drop i) g) else v = .inl ([], false)) := by
  intro d
  induction d with
  | zero =>
    intro i k m g hi hk hm
    obtain ⟨k, rfl⟩ : ∃ m, k = m + 1 := ⟨k - 1, by omega⟩
    refine ⟨.inr m, by rw [show_Table_l0, if_neg (by omega)], ?_⟩
    rw [List.drop_of_length_le (by omega), if_pos (by rfl)]
    exact ⟨m, rfl, hm⟩
  | succ d ih =>
    intro i k m g hi hk hm
    obtain ⟨k, rfl⟩ : ∃ m, k = m + 1 := ⟨k - 1, by omega⟩
    have hlt : i < l.length := by omega
    obtain ⟨h20, h60⟩ := hr _ (List.getElem_mem hlt)
    rw [show_Table_l0, if_pos (by omega), idx_at hlt, List.drop_eq_getElem_cons hlt, List.all_cons]
    simp only [Option.bind_some]
    rw [if_neg (by omega), cfC Fu _ (fun w hw => by have := h60 w hw; omega) (by omega) (by omega)]
    simp only [Option.bind_some]
    cases hk2 : okR l[i] with
    | false => exact ⟨.inl ([], false), by simp, by simp⟩
    | true =>
      obtain ⟨m', h1, h2⟩ := l1_ok Fu l[i] (by omega) l[i].length 0 Fu m g (by omega) (by omega) (fun j => by dsimp only; rw [if_neg (by omega)]; exact hm j)
      rw [show ((0 : Nat) : Int) = 0 from rfl] at h1
      rw [if_neg (by decide), h1]
      simp only [Option.bind_some, Bool.true_and]
      obtain ⟨v, h3, h4⟩ := ih (i + 1) k m' (wd g l[i]) (by omega) (by omega) h2
      refine ⟨v, ?_, h4⟩
      rw [w_sm (by omega), show ((i : Int) + 1) = ((i + 1 : Nat) : Int) by omega, h3]
/-- a row as a line, from column k on -/
def rowT (W : Nat → Nat) : Nat → RwT → List UInt8
  | _, [] => []
  | _, [c] => c
  | k, c :: d :: r => c ++ (List.replicate (W k - c.length + 1) 32 ++ rowT W (k + 1) (d :: r))
theorem rep_L (n : Nat) : Lib.repeatL [32] n = List.replicate n (32 : UInt8) := by
  induction n with
  | zero => rfl
  | succ n ih => rw [Lib.repeatL, ih, List.replicate_succ]; rfl
theorem l3_ok (Fu : Nat) (r : RwT) (m : List (Int × Int)) (W : Nat → Nat) (hm : fitsW m W) (hr : r.length ≤ 20) (hw : ∀ w ∈ r, w.length ≤ 60) (hW : ∀ (j : Nat) (h : j < r.length), r[j].length ≤ W j) (hW2 : ∀ j, W j ≤ 60) : ∀ (d i k : Nat) (b : Bool) (acc : List UInt8), i + d = r.length → d < k → acc.length ≤ 100000 + 200 * i →
    ∃ b', show_Table_l3 Fu m r k (i : Int) (b, acc) = some (b', acc ++ rowT W i (r.drop i)) := by
  intro d
  induction d with
  | zero =>
    intro i k b acc hi hk ha
    obtain ⟨k, rfl⟩ : ∃ m, k = m + 1 := ⟨k - 1, by omega⟩
    refine ⟨b, ?_⟩
    rw [show_Table_l3, if_neg (by omega), List.drop_of_length_le (by omega), rowT, List.append_nil]
  | succ d ih =>
    intro i k b acc hi hk ha
    obtain ⟨k, rfl⟩ : ∃ m, k = m + 1 := ⟨k - 1, by omega⟩
    have hlt : i < r.length := by omega
    have h60 := hw _ (List.getElem_mem hlt)
    have hWi := hW i hlt
    have hWi2 := hW2 i
    rw [show_Table_l3, if_pos (by omega), idx_at hlt]
    simp only [Option.bind_some]
    rw [wStr Fu b acc _ (by omega)]
    simp only [Option.bind_some]
    rw [List.drop_eq_getElem_cons hlt, w_sm (x := (r.length : Int) - 1) (by omega)]
    by_cases hlast : i + 1 < r.length
    · rw [if_pos (by omega), hm i, w_sm (x := (W i : Int) - _) (by omega), w_sm (by omega)]
      have e : strings_Repeat Fu [32] ((W i : Int) - (r[i].length : Int) + 1) = some (List.replicate (W i - r[i].length + 1) 32) := by
        unfold strings_Repeat
        rw [show ((W i : Int) - (r[i].length : Int) + 1).toNat = W i - r[i].length + 1 by omega, if_pos (by simp; omega), rep_L]
      rw [e]
      simp only [Option.bind_some]
      rw [wStr Fu true _ _ (by simp; omega)]
      simp only [Option.bind_some]
      obtain ⟨b', hh⟩ := ih (i + 1) k true (acc ++ r[i] ++ List.replicate (W i - r[i].length + 1) 32) (by omega) (by omega) (by simp; omega)
      refine ⟨b', ?_⟩
      rw [w_sm (by omega), show ((i : Int) + 1) = ((i + 1 : Nat) : Int) by omega, hh]
      rw [List.drop_eq_getElem_cons hlast, rowT]
      simp
    · rw [if_neg (by omega)]
      simp only [Option.bind_some]
      obtain ⟨b', hh⟩ := ih (i + 1) k true (acc ++ r[i]) (by omega) (by omega) (by simp; omega)
      refine ⟨b', ?_⟩
      rw [w_sm (by omega), show ((i : Int) + 1) = ((i + 1 : Nat) : Int) by omega, hh]
      rw [List.drop_of_length_le (by omega : r.length ≤ i + 1), rowT, rowT, List.append_nil]
theorem rowT_len (W : Nat → Nat) (hW2 : ∀ j, W j ≤ 60) : ∀ (r : RwT) (k : Nat), (∀ w ∈ r, w.length ≤ 60) → (rowT W k r).length ≤ 121 * r.length
  | [], k, _ => by simp [rowT]
  | [c], k, h => by have := h c (by simp); simp [rowT]; omega
  | c :: d :: r, k, h => by
    have h1 := h c (by simp)
    have h2 := rowT_len W hW2 (d :: r) (k + 1) (fun w hw => h w (by simp [hw]))
    have h3 := hW2 k
    rw [rowT, List.length_append, List.length_append, List.length_replicate, List.length_cons (a := c)]
    omega
def linesT (W : Nat → Nat) (l : List RwT) : List UInt8 := l.flatMap fun r => rowT W 0 r ++ [10]
theorem l2_ok (Fu : Nat) (hF : 2000 ≤ Fu) (l : List RwT) (m : List (Int × Int)) (W : Nat → Nat) (hm : fitsW m W) (hl : l.length ≤ 20) (hr : ∀ r ∈ l, r.length ≤ 20 ∧ ∀ w ∈ r, w.length ≤ 60) (hW : ∀ r ∈ l, ∀ (j : Nat) (h : j < r.length), r[j].length ≤ W j) (hW2 : ∀ j, W j ≤ 60) : ∀ (d i k : Nat) (b : Bool) (acc : List UInt8), i + d = l.length → d < k → acc.length ≤ 3000 * i →
    ∃ b', show_Table_l2 Fu l m k (i : Int) (b, acc) = some (b', acc ++ linesT W (l.drop i)) := by
  intro d
  induction d with
  | zero =>
    intro i k b acc hi hk ha
    obtain ⟨k, rfl⟩ : ∃ m, k = m + 1 := ⟨k - 1, by omega⟩
    refine ⟨b, ?_⟩
    rw [show_Table_l2, if_neg (by omega), List.drop_of_length_le (by omega)]; simp [linesT]
  | succ d ih =>
    intro i k b acc hi hk ha
    obtain ⟨k, rfl⟩ : ∃ m, k = m + 1 := ⟨k - 1, by omega⟩
    have hlt : i < l.length := by omega
    have hmem := List.getElem_mem hlt
    obtain ⟨h20, h60⟩ := hr _ hmem
    rw [show_Table_l2, if_pos (by omega), idx_at hlt]
    simp only [Option.bind_some]
    obtain ⟨b1, h1⟩ := l3_ok Fu l[i] m W hm h20 h60 (hW _ hmem) hW2 l[i].length 0 Fu b acc (by omega) (by omega) (by omega)
    rw [show ((0 : Nat) : Int) = 0 from rfl, List.drop_zero] at h1
    have hrl := rowT_len W hW2 l[i] 0 h60
    rw [h1]
    simp only [Option.bind_some]
    rw [wByt42 Fu b1 _ _ (by simp; omega)]
    simp only [Option.bind_some]
    obtain ⟨b2, h2⟩ := ih (i + 1) k true (acc ++ rowT W 0 l[i] ++ [10]) (by omega) (by omega) (by simp; omega)
    refine ⟨b2, ?_⟩
    rw [w_sm (by omega), show ((i : Int) + 1) = ((i + 1 : Nat) : Int) by omega, h2, List.drop_eq_getElem_cons hlt]
    unfold linesT
    rw [List.flatMap_cons]
    simp
theorem wds_ge : ∀ (l : List RwT) (g : Nat → Nat) (k : Nat), g k ≤ wds l g k
  | [], g, k => Nat.le_refl _
  | r :: l, g, k => Nat.le_trans (by unfold wd; omega) (wds_ge l (wd g r) k)
theorem wds_mem : ∀ (l : List RwT) (g : Nat → Nat) (r : RwT), r ∈ l → ∀ (j : Nat) (h : j < r.length), r[j].length ≤ wds l g j
  | x :: l, g, r, hm, j, h => by
    rcases List.mem_cons.1 hm with rfl | hm
    · refine Nat.le_trans ?_ (wds_ge l (wd g r) j)
      unfold wd
      rw [List.getElem?_eq_getElem h]
      simp only [Option.map_some, Option.getD_some]
      omega
    · exact wds_mem l (wd g x) r hm j h
theorem wds_le : ∀ (l : List RwT) (g : Nat → Nat), (∀ r ∈ l, ∀ w ∈ r, w.length ≤ 60) → (∀ k, g k ≤ 60) → ∀ k, wds l g k ≤ 60
  | [], g, _, hg, k => hg k
  | r :: l, g, h, hg, k => by
    refine wds_le l (wd g r) (fun x hx => h x (by simp [hx])) (fun j => ?_) k
    unfold wd
    have h1 := hg j
    cases hj : r[j]? with
    | none => simp; exact h1
    | some w =>
      have := h r (by simp) w (List.mem_of_getElem? hj)
      simp; omega
def W0 (l : List RwT) : Nat → Nat := wds l (fun _ => 0)
theorem cTable (Fu : Nat) (hF : 2000 ≤ Fu) (l : List RwT) (hl : l.length ≤ 20) (hr : ∀ r ∈ l, r.length ≤ 20 ∧ ∀ w ∈ r, w.length ≤ 60) : show_Table Fu l = some (if l.all okR = true then (linesT (W0 l) l, true) else ([], false)) := by
  unfold show_Table
  rw [if_neg (by omega)]
  obtain ⟨v, h1, h2⟩ := l0_ok Fu hF l hl hr l.length 0 Fu [] (fun _ => 0) (by omega) (by omega) (fun j => rfl)
  rw [show ((0 : Nat) : Int) = 0 from rfl] at h1
  rw [List.drop_zero] at h2
  rw [h1]
  by_cases ha : l.all okR = true
  · rw [if_pos ha] at h2 ⊢
    obtain ⟨m', rfl, hm⟩ := h2
    simp only [Option.bind_some]
    obtain ⟨b, h3⟩ := l2_ok Fu hF l m' (W0 l) hm hl hr (fun r hr j h => wds_mem l _ r hr j h) (wds_le l _ (fun r h => (hr r h).2) (fun _ => by omega)) l.length 0 Fu false [] (by omega) (by omega) (by simp)
    rw [show ((0 : Nat) : Int) = 0 from rfl, List.drop_zero, List.nil_append] at h3
    rw [h3]; rfl
  · rw [if_neg ha] at h2 ⊢
    subst h2; rfl
/-! the document's table -/
theorem t2_ok (Fu : Nat) (w : List UInt8) (hw : w.length ≤ 1000) (hF : w.length < Fu) : chatelaineref42_Table_l2 Fu w Fu 0 = some (if okW w = true then .inr () else .inl ([], false)) := by
  have h := loopE0 w (fun k i => chatelaineref42_Table_l2 Fu w k i) (fun b => if okC b = true then none else some (.inl ([], false))) (.inr ())
    (fun k i hi => by
      show chatelaineref42_Table_l2 Fu w (k + 1) (i : Int) = _
      rw [chatelaineref42_Table_l2, if_pos (by omega), idx_at hi]
      simp only [Option.bind_some]
      by_cases hc : okC w[i] = true
      · rw [if_pos hc]
        simp only [okC, Bool.and_eq_true, decide_eq_true_eq] at hc
        rw [if_neg (by omega)]
        simp only [Option.bind_some]
        rw [if_neg (by simp; omega), w_sm (by omega), show ((i : Int) + 1) = ((i + 1 : Nat) : Int) by omega]
      · rw [if_neg hc]
        have hc2 : okC w[i] = false := by simpa using hc
        simp only [okC, Bool.and_eq_false_iff, decide_eq_false_iff_not] at hc2
        by_cases h32 : (w[i].toNat : Int) < 32
        · rw [if_pos h32]; rfl
        · rw [if_neg h32]
          simp only [Option.bind_some]
          rw [if_pos (by simp; omega)])
    (fun k => by
      show chatelaineref42_Table_l2 Fu w (k + 1) _ = _
      rw [chatelaineref42_Table_l2, if_neg (by omega)]) Fu hF
  try dsimp only at h
  rw [h]
  congr 1
  unfold okW
  by_cases ha : w.all okC = true
  · rw [if_pos ha]
    have : w.findSome? (fun b => if okC b = true then none else some (Sum.inl (([] : List UInt8), false) : Sum (List UInt8 × Bool) Unit)) = none := by
      rw [List.findSome?_eq_none_iff]
      intro b hb
      rw [if_pos (List.all_eq_true.1 ha b hb)]
    rw [this]; rfl
  · rw [if_neg ha]
    cases hf : w.findSome? (fun b => if okC b = true then none else some (Sum.inl (([] : List UInt8), false) : Sum (List UInt8 × Bool) Unit)) with
    | none =>
      rw [List.findSome?_eq_none_iff] at hf
      refine absurd (List.all_eq_true.2 fun b hb => ?_) ha
      have := hf b hb
      by_cases hc : okC b = true
      · exact hc
      · rw [if_neg hc] at this; cases this
    | some v =>
      obtain ⟨b, _, hb⟩ := List.exists_of_findSome?_eq_some hf
      split at hb
      · cases hb
      · exact (Option.some.inj hb).symm
theorem t3_ok (Fu : Nat) (hF : 2000 ≤ Fu) (l : List RwT) (k : Nat) (hl : l.length ≤ 20) : chatelaineref42_Table_l3 Fu l (k : Int) Fu 0 0 = some ((W0 l k : Nat) : Int) := by
  have h := loopM0 l (fun (n : Int) (r : RwT) => ((max n.toNat ((r[k]?.map List.length).getD 0) : Nat) : Int)) (fun q s i => chatelaineref42_Table_l3 Fu l (k : Int) q s i) id (fun i s => 0 ≤ s)
    (fun q s i hi hs => by
      have hs : 0 ≤ s := hs
      refine ⟨?_, by show (0 : Int) ≤ _; omega⟩
      show chatelaineref42_Table_l3 Fu l (k : Int) (q + 1) s (i : Int) = chatelaineref42_Table_l3 Fu l (k : Int) q _ ((i + 1 : Nat) : Int)
      rw [chatelaineref42_Table_l3, if_pos (by omega), idx_at hi]
      simp only [Option.bind_some]
      by_cases hk : k < l[i].length
      · rw [if_pos (by omega), idx_at hk]
        simp only [Option.bind_some]
        rw [List.getElem?_eq_getElem hk]
        by_cases hlt : s < (l[i][k].length : Int)
        · rw [decide_eq_true hlt, if_pos rfl]
          simp only [Option.bind_some]
          rw [w_sm (by omega), show ((i : Int) + 1) = ((i + 1 : Nat) : Int) by omega]
          congr 1
          simp only [Option.map_some, Option.getD_some]
          omega
        · rw [decide_eq_false hlt, if_neg (by decide)]
          simp only [Option.bind_some]
          rw [w_sm (by omega), show ((i : Int) + 1) = ((i + 1 : Nat) : Int) by omega]
          congr 1
          simp only [Option.map_some, Option.getD_some]
          omega
      · rw [if_neg (by omega)]
        simp only [Option.bind_some, Bool.false_eq_true, if_false]
        rw [w_sm (by omega), show ((i : Int) + 1) = ((i + 1 : Nat) : Int) by omega, List.getElem?_eq_none (by omega)]
        congr 1
        simp only [Option.map_none, Option.getD_none]
        omega)
    (fun q s hs => by
      show chatelaineref42_Table_l3 Fu l (k : Int) (q + 1) s _ = _
      rw [chatelaineref42_Table_l3, if_neg (by omega)]; rfl) Fu 0 (by omega) (by show (0 : Int) ≤ 0; omega)
  try dsimp only at h
  rw [h]
  have hf : ∀ (l : List RwT) (g : Nat → Nat), l.foldl (fun (n : Int) (r : RwT) => ((max n.toNat ((r[k]?.map List.length).getD 0) : Nat) : Int)) ((g k : Nat) : Int) = ((wds l g k : Nat) : Int) := by
    intro l
    induction l with
    | nil => intro g; rfl
    | cons r l ih =>
      intro g
      rw [List.foldl_cons, Int.toNat_natCast]
      exact ih (wd g r)
  exact congrArg some (hf l (fun _ => 0))
theorem t4_ok (Fu : Nat) (n : Nat) (hn : n ≤ 1000) : ∀ (d i k : Nat) (acc : List UInt8), i + d = n + 1 → d < k → acc.length ≤ 1000000 + i →
    chatelaineref42_Table_l4 Fu (n : Int) k acc (i : Int) = some (acc ++ List.replicate d 32) := by
  intro d
  induction d with
  | zero =>
    intro i k acc hi hk ha
    obtain ⟨k, rfl⟩ : ∃ m, k = m + 1 := ⟨k - 1, by omega⟩
    rw [chatelaineref42_Table_l4, if_neg (by omega)]; simp
  | succ d ih =>
    intro i k acc hi hk ha
    obtain ⟨k, rfl⟩ : ∃ m, k = m + 1 := ⟨k - 1, by omega⟩
    rw [chatelaineref42_Table_l4, if_pos (by omega), sapp_k _ _ (by simp; omega)]
    simp only [Option.bind_some]
    rw [w_sm (by omega), show ((i : Int) + 1) = ((i + 1 : Nat) : Int) by omega, ih (i + 1) k _ (by omega) (by omega) (by simp; omega), List.replicate_succ, List.append_assoc]; rfl
theorem t1_ok (Fu : Nat) (hF : 2000 ≤ Fu) (l : List RwT) (n : Nat) (hn : n < l.length) (hl : l.length ≤ 20) (hr : ∀ r ∈ l, r.length ≤ 20 ∧ ∀ w ∈ r, w.length ≤ 60) : ∀ (d i k : Nat) (acc : List UInt8), i + d = l[n].length → d < k → acc.length ≤ 100000 + 200 * i →
    chatelaineref42_Table_l1 Fu l (n : Int) k acc (i : Int) = some (if (l[n].drop i).all okW = true then .inr (acc ++ rowT (W0 l) i (l[n].drop i)) else .inl ([], false)) := by
  intro d
  induction d with
  | zero =>
    intro i k acc hi hk ha
    obtain ⟨k, rfl⟩ : ∃ m, k = m + 1 := ⟨k - 1, by omega⟩
    rw [chatelaineref42_Table_l1, idx_at hn]
    simp only [Option.bind_some]
    rw [if_neg (by omega), List.drop_of_length_le (by omega), if_pos (by rfl), rowT, List.append_nil]
  | succ d ih =>
    intro i k acc hi hk ha
    obtain ⟨k, rfl⟩ : ∃ m, k = m + 1 := ⟨k - 1, by omega⟩
    have hlt : i < l[n].length := by omega
    obtain ⟨h20, h60⟩ := hr _ (List.getElem_mem hn)
    have hc := h60 _ (List.getElem_mem hlt)
    have hW := wds_mem l (fun _ => 0) _ (List.getElem_mem hn) i hlt
    have hW2 := wds_le l (fun _ => 0) (fun r h => (hr r h).2) (fun _ => by omega) i
    rw [chatelaineref42_Table_l1, idx_at hn]
    simp only [Option.bind_some]
    rw [if_pos (by omega), idx_at hlt]
    simp only [Option.bind_some]
    rw [t2_ok Fu _ (by omega) (by omega), List.drop_eq_getElem_cons hlt, List.all_cons]
    cases hk2 : okW l[n][i] with
    | false => simp
    | true =>
      simp only [if_true, Option.bind_some, Bool.true_and]
      rw [sapp_k _ _ (by omega)]
      simp only [Option.bind_some]
      rw [w_sm (by omega), show ((i : Int) + 1) = ((i + 1 : Nat) : Int) by omega]
      by_cases hlast : i + 1 < l[n].length
      · rw [if_neg (by omega), t3_ok Fu hF l i hl]
        simp only [Option.bind_some]
        have hW' : l[n][i].length ≤ W0 l i := hW
        have hW2' : W0 l i ≤ 60 := hW2
        rw [t4_ok Fu (W0 l i) (by omega) (W0 l i - l[n][i].length + 1) l[n][i].length Fu _ (by omega) (by omega) (by simp; omega)]
        simp only [Option.bind_some]
        rw [ih (i + 1) k _ (by omega) (by omega) (by simp; omega), List.drop_eq_getElem_cons hlast, rowT]
        simp
      · rw [if_pos (by omega)]
        simp only [Option.bind_some]
        rw [ih (i + 1) k _ (by omega) (by omega) (by simp; omega), List.drop_of_length_le (by omega : l[n].length ≤ i + 1), rowT, rowT]
        simp
theorem t0_ok (Fu : Nat) (hF : 2000 ≤ Fu) (l : List RwT) (hl : l.length ≤ 20) (hr : ∀ r ∈ l, r.length ≤ 20 ∧ ∀ w ∈ r, w.length ≤ 60) : ∀ (d i k : Nat) (acc : List UInt8), i + d = l.length → d < k → acc.length ≤ 3000 * i →
    chatelaineref42_Table_l0 Fu l k acc (i : Int) = some (if (l.drop i).all okR = true then .inr (acc ++ linesT (W0 l) (l.drop i)) else .inl ([], false)) := by
  intro d
  induction d with
  | zero =>
    intro i k acc hi hk ha
    obtain ⟨k, rfl⟩ : ∃ m, k = m + 1 := ⟨k - 1, by omega⟩
    rw [chatelaineref42_Table_l0, if_neg (by omega), List.drop_of_length_le (by omega)]; simp [linesT]
  | succ d ih =>
    intro i k acc hi hk ha
    obtain ⟨k, rfl⟩ : ∃ m, k = m + 1 := ⟨k - 1, by omega⟩
    have hlt : i < l.length := by omega
    obtain ⟨h20, h60⟩ := hr _ (List.getElem_mem hlt)
    have h1 := t1_ok Fu hF l i hlt hl hr l[i].length 0 Fu acc (by omega) (by omega) (by omega)
    rw [show ((0 : Nat) : Int) = 0 from rfl, List.drop_zero] at h1
    rw [chatelaineref42_Table_l0, if_pos (by omega), h1, List.drop_eq_getElem_cons hlt, List.all_cons]
    have hrl := rowT_len (W0 l) (wds_le l (fun _ => 0) (fun r h => (hr r h).2) (fun _ => by omega)) l[i] 0 h60
    rw [show l[i].all okW = okR l[i] from rfl]
    cases okR l[i] with
    | false => simp
    | true =>
      simp only [if_true, Option.bind_some, Bool.true_and]
      rw [sapp_k _ _ (by simp; omega)]
      simp only [Option.bind_some]
      rw [w_sm (by omega), show ((i : Int) + 1) = ((i + 1 : Nat) : Int) by omega, ih (i + 1) k _ (by omega) (by omega) (by simp; omega)]
      unfold linesT
      rw [List.flatMap_cons]
      simp
theorem rTable (Fu : Nat) (hF : 2000 ≤ Fu) (l : List RwT) (hl : l.length ≤ 20) (hr : ∀ r ∈ l, r.length ≤ 20 ∧ ∀ w ∈ r, w.length ≤ 60) : chatelaineref42_Table Fu l = some (if l.all okR = true then (linesT (W0 l) l, true) else ([], false)) := by
  unfold chatelaineref42_Table
  have h := t0_ok Fu hF l hl hr l.length 0 Fu [] (by omega) (by omega) (by simp)
  rw [show ((0 : Nat) : Int) = 0 from rfl, List.drop_zero, List.nil_append] at h
  rw [h]
  by_cases ha : l.all okR = true
  · rw [if_pos ha, if_pos ha]; rfl
  · rw [if_neg ha, if_neg ha]; rfl
def big60 (w : List UInt8) : Bool := decide (60 < w.length)
theorem law1 (r : RwT) (hr : r.length ≤ 100) : chatelainelaw42_ShowTables_l1 2000 r 2000 0 = some (if r.any big60 = true then .inl true else .inr ()) := by
  have h := loopE0 r (fun k i => chatelainelaw42_ShowTables_l1 2000 r k i) (fun w => if big60 w = true then some (.inl true) else none) (.inr ())
    (fun k i hi => by
      show chatelainelaw42_ShowTables_l1 2000 r (k + 1) (i : Int) = _
      rw [chatelainelaw42_ShowTables_l1, if_pos (by omega), idx_at hi]
      simp only [Option.bind_some]
      by_cases hb : big60 r[i] = true
      · rw [if_pos hb]
        unfold big60 at hb
        simp only [decide_eq_true_eq] at hb
        rw [if_pos (by omega)]
      · rw [if_neg hb]
        unfold big60 at hb
        simp only [decide_eq_true_eq] at hb
        rw [if_neg (by omega), w_sm (by omega), show ((i : Int) + 1) = ((i + 1 : Nat) : Int) by omega])
    (fun k => by
      show chatelainelaw42_ShowTables_l1 2000 r (k + 1) _ = _
      rw [chatelainelaw42_ShowTables_l1, if_neg (by omega)]) 2000 (by omega)
  try dsimp only at h
  rw [h]
  congr 1
  cases hf : r.findSome? (fun w => if big60 w = true then some (Sum.inl true : Sum Bool Unit) else none) with
  | none =>
    rw [List.findSome?_eq_none_iff] at hf
    rw [if_neg]
    · rfl
    · intro ha
      obtain ⟨w, hw, hb⟩ := List.any_eq_true.1 ha
      have := hf w hw
      rw [if_pos hb] at this; cases this
  | some v =>
    obtain ⟨w, hw, hb⟩ := List.exists_of_findSome?_eq_some hf
    split at hb
    · rename_i h60
      obtain rfl := Option.some.inj hb
      rw [if_pos (List.any_eq_true.2 ⟨w, hw, h60⟩)]; rfl
    · cases hb
def bigR (r : RwT) : Bool := decide (20 < r.length) || r.any big60
theorem law0 (l : List RwT) (hl : l.length ≤ 20) : chatelainelaw42_ShowTables_l0 2000 l 2000 0 = some (if l.any bigR = true then .inl true else .inr ()) := by
  have h := loopE0 l (fun k i => chatelainelaw42_ShowTables_l0 2000 l k i) (fun r => if bigR r = true then some (.inl true) else none) (.inr ())
    (fun k i hi => by
      show chatelainelaw42_ShowTables_l0 2000 l (k + 1) (i : Int) = _
      rw [chatelainelaw42_ShowTables_l0, if_pos (by omega), idx_at hi]
      simp only [Option.bind_some]
      unfold bigR
      by_cases h20 : 20 < l[i].length
      · rw [if_pos (by omega), if_pos (by simp [h20])]
      · rw [if_neg (by omega), law1 _ (by omega), decide_eq_false h20, Bool.false_or]
        by_cases ha : l[i].any big60 = true
        · rw [if_pos ha, if_pos ha]; rfl
        · rw [if_neg ha, if_neg ha]
          simp only [Option.bind_some]
          rw [w_sm (by omega), show ((i : Int) + 1) = ((i + 1 : Nat) : Int) by omega])
    (fun k => by
      show chatelainelaw42_ShowTables_l0 2000 l (k + 1) _ = _
      rw [chatelainelaw42_ShowTables_l0, if_neg (by omega)]) 2000 (by omega)
  try dsimp only at h
  rw [h]
  congr 1
  cases hf : l.findSome? (fun w => if bigR w = true then some (Sum.inl true : Sum Bool Unit) else none) with
  | none =>
    rw [List.findSome?_eq_none_iff] at hf
    rw [if_neg]
    · rfl
    · intro ha
      obtain ⟨w, hw, hb⟩ := List.any_eq_true.1 ha
      have := hf w hw
      rw [if_pos hb] at this; cases this
  | some v =>
    obtain ⟨w, hw, hb⟩ := List.exists_of_findSome?_eq_some hf
    split at hb
    · rename_i h60
      obtain rfl := Option.some.inj hb
      rw [if_pos (List.any_eq_true.2 ⟨w, hw, h60⟩)]; rfl
    · cases hb
theorem tables_ok (l : List RwT) : chatelainelaw42_ShowTables 2000 l = some true := by
  unfold chatelainelaw42_ShowTables
  rw [awake42]
  simp only [Option.bind_some, Bool.not_true, Bool.false_eq_true, if_false]
  by_cases hl : 20 < l.length
  · rw [if_pos (by omega)]
  rw [if_neg (by omega), law0 l (by omega)]
  by_cases ha : l.any bigR = true
  · rw [if_pos ha]; rfl
  · rw [if_neg ha]
    simp only [Option.bind_some]
    have hr : ∀ r ∈ l, r.length ≤ 20 ∧ ∀ w ∈ r, w.length ≤ 60 := fun r hr => by
      have hb : ¬ bigR r = true := fun hb => ha (List.any_eq_true.2 ⟨r, hr, hb⟩)
      unfold bigR at hb
      simp only [Bool.or_eq_true, decide_eq_true_eq, not_or] at hb
      refine ⟨by omega, fun w hw => ?_⟩
      have : ¬ big60 w = true := fun h => hb.2 (List.any_eq_true.2 ⟨w, hw, h⟩)
      unfold big60 at this
      simp only [decide_eq_true_eq] at this
      omega
    rw [cTable 2000 (by omega) l (by omega) hr]
    simp only [Option.bind_some]
    rw [rTable 2000 (by omega) l (by omega) hr]
    simp
theorem chatelainelaw42_ShowTables_true (a0 : List RwT) (h0 : ∀ x ∈ a0, (tyL tyS).has x) : ∃ Fu, chatelainelaw42_ShowTables Fu a0 = some true := ⟨2000, tables_ok a0⟩
end Go.Proofs.YtnmeelkfpmodgaaDoor
