/- Codes: dashes left out, dashes put in, told over lists. -/
import Derived.Test.YtcjleeclpmgbjaaDoorGl
import Derived.Test.YtcjleeclpmgbjaaDoorE46S
import Derived.Test.YtcjleeclpmgbjaaDoorCq
import Derived.Lib.Replace
set_option linter.unusedVariables false
set_option linter.unusedSimpArgs false
namespace Go.Proofs.YtcjleeclpmgbjaaDoor
open Go.RowKit
def noD (s : List UInt8) : List UInt8 := s.filter (fun b => decide (b ≠ 45))
theorem noD_hit (s : List UInt8) : noD (45 :: s) = noD s := by unfold noD; rw [List.filter_cons, if_neg (by decide)]
theorem noD_miss {b : UInt8} (h : b ≠ 45) (s : List UInt8) : noD (b :: s) = b :: noD s := by unfold noD; rw [List.filter_cons, if_pos (by simp [h])]
theorem noD_len (s : List UInt8) : (noD s).length ≤ s.length := List.length_filter_le ..
theorem replK : ∀ s : List UInt8, Lib.replaceK [45] [] (s.count 45) s = noD s
  | [] => rfl
  | b :: l => by
    by_cases hb : b = 45
    · subst hb
      have h0 : Lib.index ((45 : UInt8) :: l) [45] = ((0 : Nat) : Int) := by rw [Lib.index_one]; rfl
      rw [List.count_cons_self, Lib.replaceK_hit [45] [] (l.count 45) ((45 : UInt8) :: l) 0 h0, noD_hit]
      exact replK l
    · have hc : (b :: l).count 45 = l.count 45 := List.count_cons_of_ne hb
      have ih := replK l
      rw [hc, noD_miss hb]
      rcases hk : l.count 45 with _ | m
      · rw [hk] at ih; rw [← ih]; rfl
      · rw [hk] at ih
        obtain ⟨i, hi⟩ := Lib.index_of_count (s := l) (old := [45]) (by rw [Lib.count_one, hk]; omega)
        have h1 : Lib.index (b :: l) [45] = ((i + 1 : Nat) : Int) := by
          rw [Lib.index_one] at hi ⊢
          rw [Lib.indexByte]
          rw [if_neg (by simpa using hb), hi]
          split
          · rename_i hz; simp at hz
          · omega
        rw [Lib.replaceK_hit [45] [] m (b :: l) (i + 1) h1]
        rw [Lib.replaceK_hit [45] [] m l i hi] at ih
        rw [← ih]; rfl
theorem replA (s : List UInt8) : Lib.replaceAll s [45] [] = noD s := by
  unfold Lib.replaceAll Lib.replace
  rw [if_neg (by decide)]
  unfold Lib.replaceNum
  rw [if_pos (Or.inl (by decide)), Lib.count_one]
  exact replK s
/-- letters with dashes -/
def gd : Nat → List UInt8 → List UInt8
  | _, [] => []
  | i, c :: t => (if 0 < i ∧ i % 5 = 0 then [45] else []) ++ c :: gd (i + 1) t
theorem gd_len : ∀ (t : List UInt8) (i : Nat), (gd i t).length ≤ 2 * t.length
  | [], i => by simp [gd]
  | c :: t, i => by
    have := gd_len t (i + 1)
    rw [gd]
    split <;> simp <;> omega
theorem gd_shift : ∀ (t : List UInt8) (i : Nat), 1 ≤ i → gd (i + 5) t = gd i t
  | [], i, _ => by simp [gd]
  | c :: t, i, h => by
    rw [gd, gd, show i + 5 + 1 = (i + 1) + 5 by omega, gd_shift t (i + 1) (by omega)]
    by_cases hh : i % 5 = 0
    · rw [if_pos ⟨by omega, by omega⟩, if_pos ⟨by omega, hh⟩]
    · rw [if_neg (by omega), if_neg (by omega)]
theorem gd5 (c : UInt8) (t : List UInt8) : gd 5 (c :: t) = 45 :: gd 0 (c :: t) := by
  rw [gd, gd, if_pos (by omega), if_neg (by omega), gd_shift t 1 (by omega)]; rfl
theorem gd_split : ∀ t : List UInt8, gd 0 t = t.take 5 ++ gd 5 (t.drop 5)
  | [] => rfl
  | [_] => rfl
  | [_, _] => rfl
  | [_, _, _] => rfl
  | [_, _, _, _] => rfl
  | a :: b :: c :: d :: e :: r => by simp [gd]
theorem joinT : ∀ (f : Nat) (t : List UInt8), t.length ≤ f → Lib.joinTail [45] (chs 5 f t) = gd 5 t
  | 0, t, h => by obtain rfl : t = [] := List.length_eq_zero_iff.1 (by omega); rfl
  | f + 1, [], h => by rw [chs, if_pos rfl]; rfl
  | f + 1, c :: t, h => by
    rw [chs, if_neg (by simp), gd5, gd_split]
    have := joinT f ((c :: t).drop 5) (by simp at h ⊢; omega)
    rw [← this]
    unfold Lib.joinTail
    simp
theorem join_gd (f : Nat) (t : List UInt8) (h : t.length ≤ f) : Lib.join (chs 5 f t) [45] = gd 0 t := by
  obtain _ | ⟨c, t⟩ := t
  · rw [chs_nil]; rfl
  · obtain ⟨f, rfl⟩ : ∃ g, f = g + 1 := ⟨f - 1, by simp at h; omega⟩
    rw [chs, if_neg (by simp), Lib.join_cons, joinT f _ (by simp at h ⊢; omega), ← gd_split]
theorem gd_noD : ∀ (t : List UInt8) (i : Nat), (∀ c ∈ t, c ≠ 45) → noD (gd i t) = t
  | [], i, _ => by simp [gd, noD]
  | c :: t, i, h => by
    rw [gd]
    split
    · rw [List.cons_append, List.nil_append, noD_hit, noD_miss (h c (by simp)), gd_noD t (i + 1) (fun x hx => h x (by simp [hx]))]
    · rw [List.nil_append, noD_miss (h c (by simp)), gd_noD t (i + 1) (fun x hx => h x (by simp [hx]))]
theorem sub1 (l : List UInt8) (i : Nat) (h : i < l.length) : sub l (i : Int) ((i + 1 : Nat) : Int) = some [l[i]] := by
  unfold sub
  rw [if_pos (by omega), Int.toNat_natCast, Int.toNat_natCast]
  congr 1
  rw [List.drop_take, List.drop_eq_getElem_cons h, show i + 1 - i = 1 by omega]; rfl
theorem sapp_ok (a b : List UInt8) (h : a.length + b.length ≤ 1000000) : sapp a b = some (a ++ b) := by unfold sapp; rw [if_pos (by unfold maxLen; omega)]
theorem rGrp0 (Fu : Nat) (a : List UInt8) (ha : a.length ≤ 1000) : ∀ (d i k : Nat) (acc : List UInt8), i + d = a.length → d < k → acc.length ≤ 2 * i →
    chatelaineref46_Grouped_l0 Fu a k acc (i : Int) = some (acc ++ gd i (a.drop i)) := by
  intro d
  induction d with
  | zero =>
    intro i k acc hi hk hl
    obtain ⟨k, rfl⟩ : ∃ m, k = m + 1 := ⟨k - 1, by omega⟩
    rw [chatelaineref46_Grouped_l0, if_neg (by omega), List.drop_of_length_le (by omega), gd, List.append_nil]
  | succ d ih =>
    intro i k acc hi hk hl
    obtain ⟨k, rfl⟩ : ∃ m, k = m + 1 := ⟨k - 1, by omega⟩
    have hlt : i < a.length := by omega
    rw [chatelaineref46_Grouped_l0, if_pos (by omega), w_id (by omega), show ((i : Int) + 1) = ((i + 1 : Nat) : Int) by omega, sub1 a i hlt]
    rw [List.drop_eq_getElem_cons hlt, gd]
    have ht : Int.tmod (i : Int) 5 = ((i % 5 : Nat) : Int) := tm5 i
    by_cases hc : 0 < i ∧ i % 5 = 0
    · rw [if_pos (by rw [ht]; simp; omega), if_pos hc, sapp_ok _ _ (by simp; omega)]
      simp only [Option.bind_some]
      rw [sapp_ok _ _ (by simp; omega)]
      simp only [Option.bind_some]
      rw [ih (i + 1) k _ (by omega) (by omega) (by simp; omega)]
      simp
    · rw [if_neg (by rw [ht]; simp; omega), if_neg hc]
      simp only [Option.bind_some]
      rw [sapp_ok _ _ (by simp; omega)]
      simp only [Option.bind_some]
      rw [ih (i + 1) k _ (by omega) (by omega) (by simp; omega)]
      simp
theorem rGrp (Fu : Nat) (hF : 2000 ≤ Fu) (a : List UInt8) (ha : a.length ≤ 1000) : chatelaineref46_Grouped Fu a = some (gd 0 a) := by
  unfold chatelaineref46_Grouped
  have := rGrp0 Fu a ha a.length 0 Fu [] (by omega) (by omega) (by simp)
  rw [show ((0 : Nat) : Int) = 0 from rfl] at this
  rw [this]; simp
theorem rDash0 (Fu : Nat) (a : List UInt8) (ha : a.length ≤ 1000) : ∀ (d i k : Nat) (acc : List UInt8), i + d = a.length → d < k → acc.length ≤ i →
    chatelaineref46_Take_l0 Fu a k acc (i : Int) = some (acc ++ noD (a.drop i)) := by
  intro d
  induction d with
  | zero =>
    intro i k acc hi hk hl
    obtain ⟨k, rfl⟩ : ∃ m, k = m + 1 := ⟨k - 1, by omega⟩
    rw [chatelaineref46_Take_l0, if_neg (by omega), List.drop_of_length_le (by omega)]; simp [noD]
  | succ d ih =>
    intro i k acc hi hk hl
    obtain ⟨k, rfl⟩ : ∃ m, k = m + 1 := ⟨k - 1, by omega⟩
    have hlt : i < a.length := by omega
    rw [chatelaineref46_Take_l0, if_pos (by omega), idx_nat, List.getElem?_eq_getElem hlt, w_id (by omega), show ((i : Int) + 1) = ((i + 1 : Nat) : Int) by omega, sub1 a i hlt, List.drop_eq_getElem_cons hlt]
    simp only [Option.bind_some]
    by_cases hc : a[i] = 45
    · rw [if_neg (by rw [hc]; decide)]
      simp only [Option.bind_some]
      rw [ih (i + 1) k _ (by omega) (by omega) (by omega), hc, noD_hit]
    · have h45 : ((a[i]).toNat : Int) ≠ 45 := fun e => hc (UInt8.toNat_inj.1 (show (a[i]).toNat = (45 : UInt8).toNat by have e2 : (45 : UInt8).toNat = 45 := rfl; omega))
      rw [if_pos h45, sapp_ok _ _ (by simp; omega)]
      simp only [Option.bind_some]
      rw [ih (i + 1) k _ (by omega) (by omega) (by simp; omega), noD_miss hc]
      simp
end Go.Proofs.YtcjleeclpmgbjaaDoor
