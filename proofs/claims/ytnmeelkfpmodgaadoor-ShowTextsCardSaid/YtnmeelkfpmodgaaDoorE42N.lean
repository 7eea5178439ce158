/- Numbers as text, and text as numbers. -/
import Derived.Test.YtnmeelkfpmodgaaDoorE42D
import Derived.Test.YtnmeelkfpmodgaaDoorE42S
import Derived.Test.YtnmeelkfpmodgaaDoorRn
import Derived.Test.YtnmeelkfpmodgaaDoorSe
set_option linter.unusedVariables false
set_option linter.unusedSimpArgs false
namespace Go.Proofs.YtnmeelkfpmodgaaDoor
open Go.RowKit
def isD (b : UInt8) : Bool := decide (48 ≤ b.toNat) && decide (b.toNat ≤ 57)
def val (s : List UInt8) : Nat := s.foldl (fun n b => 10 * n + (b.toNat - 48)) 0
theorem val_snoc (s : List UInt8) (b : UInt8) : val (s ++ [b]) = 10 * val s + (b.toNat - 48) := by unfold val; rw [List.foldl_append]; rfl
theorem val_lt : ∀ (n : Nat) (s : List UInt8), s.length = n → s.all isD = true → val s < 10 ^ n := by
  intro n
  induction n with
  | zero => intro s h _; rw [List.length_eq_zero_iff.1 h]; decide
  | succ n ih =>
    intro s h ha
    obtain ⟨t, b, rfl⟩ : ∃ t b, s = t ++ [b] := ⟨s.dropLast, s.getLast (by intro e; subst e; simp at h), (List.dropLast_concat_getLast _).symm⟩
    rw [List.all_append, Bool.and_eq_true] at ha
    have hb : isD b = true := by simpa using ha.2
    simp only [isD, Bool.and_eq_true, decide_eq_true_eq] at hb
    have := ih t (by simpa using h) ha.1
    rw [val_snoc, Nat.pow_succ]; omega
/-- digits without a zero ahead -/
def num7 (s : List UInt8) : Bool := decide (s ≠ []) && decide (s.length ≤ 7) && !(decide (1 < s.length) && decide (s[0]? = some 48)) && s.all isD
theorem nl0 (Fu : Nat) (s : List UInt8) (hs : s.length ≤ 7) : ∀ (d i k x : Nat), i + d = s.length → d < k → x < 10 ^ i → i ≤ 7 →
    show_number_l0 Fu s k (x : Int) i = some (if (s.drop i).all isD = true then .inr (((s.drop i).foldl (fun n b => 10 * n + (b.toNat - 48)) x : Nat) : Int) else .inl (0, false)) := by
  intro d
  induction d with
  | zero =>
    intro i k x hi hk hx h7
    obtain ⟨k, rfl⟩ : ∃ m, k = m + 1 := ⟨k - 1, by omega⟩
    obtain ⟨u, hu⟩ := rnx_end (s := s) (i := i) (by omega)
    rw [show_number_l0, hu, List.drop_of_length_le (by omega)]; rfl
  | succ d ih =>
    intro i k x hi hk hx h7
    obtain ⟨k, rfl⟩ : ∃ m, k = m + 1 := ⟨k - 1, by omega⟩
    have hlt : i < s.length := by omega
    have hp : 10 ^ i ≤ 1000000 := Nat.pow_le_pow_right (by omega) (show i ≤ 6 by omega)
    rw [List.drop_eq_getElem_cons hlt, List.all_cons, List.foldl_cons]
    by_cases hb : s[i].toNat < 128
    · rw [show_number_l0, rnx_ascii (List.getElem?_eq_getElem hlt) hb]
      dsimp only
      by_cases hd : isD s[i] = true
      · have hd2 := hd
        simp only [isD, Bool.and_eq_true, decide_eq_true_eq] at hd2
        rw [if_neg (by simp; omega), hd, Bool.true_and]
        have e1 : w32I ((s[i].toNat : Int) - 48) = ((s[i].toNat - 48 : Nat) : Int) := by
          rw [w32I_of (by unfold r32; omega)]; omega
        rw [e1, w64_of (x := 10 * (x : Int)) (by omega), w64_of (by omega), show (10 * (x : Int) + ((s[i].toNat - 48 : Nat) : Int)) = ((10 * x + (s[i].toNat - 48) : Nat) : Int) by omega]
        exact ih (i + 1) k _ (by omega) (by omega) (by rw [Nat.pow_succ]; omega) (by omega)
      · have hd2 : isD s[i] = false := by simpa using hd
        rw [if_pos (by simp [isD] at hd2 ⊢; omega), hd2]; rfl
    · obtain ⟨y, e, hy⟩ := rnx_hi hlt (by omega)
      have hd2 : isD s[i] = false := by simp [isD]; omega
      rw [show_number_l0, e]
      dsimp only
      rw [if_pos (by simp; omega), hd2]; rfl
theorem number_ok (Fu : Nat) (hF : 10 ≤ Fu) (s : List UInt8) : show_number Fu s = some (if num7 s = true then ((val s : Int), decide (val s < 1048576)) else (0, false)) := by
  unfold show_number
  by_cases h1 : s = [] ∨ 7 < s.length
  · have hn7 : num7 s = false := by
      unfold num7
      rcases h1 with rfl | h1
      · simp
      · simp; intro _ hh; omega
    rw [if_pos (by rw [Bool.or_eq_true, decide_eq_true_eq, decide_eq_true_eq]; exact h1.imp id (fun h => by omega)), hn7]; rfl
  · rw [if_neg (by rw [Bool.or_eq_true, decide_eq_true_eq, decide_eq_true_eq]; exact fun hh => h1 (hh.imp id (fun h => by omega)))]
    have hne : s ≠ [] := fun e => h1 (.inl e)
    have hl : s.length ≤ 7 := by omega
    have hp := List.length_pos_iff.2 hne
    by_cases hz : 1 < s.length ∧ s[0]? = some 48
    · rw [if_pos (by omega), show (0 : Int) = ((0 : Nat) : Int) from rfl, idx_nat, hz.2]
      have hn7 : num7 s = false := by unfold num7; simp [hz]
      rw [hn7]; rfl
    · have hz2 : (if 1 < (s.length : Int) then (idx s 0).bind fun x10 => some (decide ((x10.toNat : Int) = 48)) else some false) = some false := by
        by_cases hl1 : 1 < s.length
        · rw [if_pos (by omega), show (0 : Int) = ((0 : Nat) : Int) from rfl, idx_at (by omega)]
          simp only [Option.bind_some]
          congr 1
          refine decide_eq_false fun e => hz ⟨hl1, ?_⟩
          rw [List.getElem?_eq_getElem (by omega)]
          congr 1
          exact UInt8.toNat_inj.1 (show _ = (48 : UInt8).toNat by have : (48 : UInt8).toNat = 48 := rfl; omega)
        · rw [if_neg (by omega)]
      rw [hz2]
      simp only [Option.bind_some, Bool.false_eq_true, if_false]
      have h0 := nl0 Fu s hl s.length 0 Fu 0 (by omega) (by omega) (by decide) (by omega)
      rw [show ((0 : Nat) : Int) = 0 from rfl, List.drop_zero] at h0
      rw [h0]
      have hn : num7 s = s.all isD := by
        unfold num7
        have : (decide (1 < s.length) && decide (s[0]? = some 48)) = false := by simpa using hz
        rw [this]; simp [hne, hl]
      rw [hn]
      by_cases ha : s.all isD = true
      · rw [if_pos ha, if_pos ha]
        rw [show List.foldl (fun n b => 10 * n + (UInt8.toNat b - 48)) 0 s = val s from rfl]
        have hd : decide ((val s : Int) < 1048576) = decide (val s < 1048576) := by simp only [decide_eq_decide]; omega
        rw [← hd]; rfl
      · rw [if_neg ha, if_neg ha]; rfl
theorem isD_of {d : Nat} (h : d < 10) : isD (UInt8.ofNat (48 + d)) = true ∧ (UInt8.ofNat (48 + d)).toNat = 48 + d := by
  have e : (UInt8.ofNat (48 + d)).toNat = 48 + d := by simp; omega
  exact ⟨by unfold isD; rw [e]; simp; omega, e⟩
/-- a number's numeral is read as the number -/
theorem dec_val : ∀ (k n : Nat), n < 10 ^ (k + 1) → val (Lib.decDigits n) = n ∧ (Lib.decDigits n).all isD = true
  | 0, n, h => by
    rw [Lib.decDigits_one (by omega)]
    have := isD_of (d := n) (by omega)
    exact ⟨by unfold val; simp only [List.foldl_cons, List.foldl_nil]; rw [this.2]; omega, by rw [List.all_cons, this.1]; rfl⟩
  | k + 1, n, h => by
    by_cases h10 : n < 10
    · rw [Lib.decDigits_one h10]
      have := isD_of (d := n) h10
      exact ⟨by unfold val; simp only [List.foldl_cons, List.foldl_nil]; rw [this.2]; omega, by rw [List.all_cons, this.1]; rfl⟩
    · rw [Lib.decDigits, dif_neg h10]
      have ih := dec_val k (n / 10) (by rw [Nat.pow_succ] at h; omega)
      have hd := isD_of (d := n % 10) (by omega)
      rw [val_snoc, ih.1, hd.2, List.all_append, ih.2]
      exact ⟨by omega, by rw [List.all_cons, hd.1]; rfl⟩
theorem dec_head0 : ∀ (k n : Nat), n < 10 ^ (k + 1) → 10 ≤ n → (Lib.decDigits n)[0]? ≠ some 48
  | 0, n, h, h2 => by omega
  | k + 1, n, h, h2 => by
    rw [Lib.decDigits, dif_neg (by omega)]
    by_cases h10 : n / 10 < 10
    · rw [Lib.decDigits_one h10]
      have hd := isD_of (d := n / 10) h10
      show some (UInt8.ofNat (48 + n / 10)) ≠ some 48
      intro e
      have := congrArg UInt8.toNat (Option.some.inj e)
      rw [hd.2] at this
      have e48 : (48 : UInt8).toNat = 48 := rfl
      omega
    · have ih := dec_head0 k (n / 10) (by rw [Nat.pow_succ] at h; omega) (by omega)
      have hpos : 0 < (Lib.decDigits (n / 10)).length := by rw [Lib.decDigits]; split <;> simp
      rw [List.getElem?_append_left hpos]
      exact ih
theorem num7_dec {n : Nat} (h : n < 10000000) : num7 (Lib.decDigits n) = true ∧ val (Lib.decDigits n) = n := by
  have h1 := dec_val 6 n (by omega)
  have h2 := decDigits_le 6 n (by omega)
  have hpos : 0 < (Lib.decDigits n).length := by rw [Lib.decDigits]; split <;> simp
  refine ⟨?_, h1.1⟩
  unfold num7
  have hz : (decide (1 < (Lib.decDigits n).length) && decide ((Lib.decDigits n)[0]? = some 48)) = false := by
    by_cases h10 : n < 10
    · rw [Lib.decDigits_one h10]; simp
    · have := dec_head0 6 n (by omega) (by omega)
      simp [this]
  rw [hz, h1.2]
  simp [List.ne_nil_of_length_pos hpos, h2]
/-- a text that is a number is its numeral -/
theorem dec_of : ∀ (n : Nat) (s : List UInt8), s.length = n → num7 s = true → Lib.decDigits (val s) = s := by
  intro n
  induction n with
  | zero => intro s h h7; rw [List.length_eq_zero_iff.1 h] at h7; simp [num7] at h7
  | succ n ih =>
    intro s h h7
    obtain ⟨t, b, rfl⟩ : ∃ t b, s = t ++ [b] := ⟨s.dropLast, s.getLast (by intro e; subst e; simp at h), (List.dropLast_concat_getLast _).symm⟩
    unfold num7 at h7
    simp only [Bool.and_eq_true, Bool.not_eq_true', decide_eq_true_eq, List.all_append, List.all_cons, List.all_nil, Bool.and_true] at h7
    obtain ⟨⟨⟨_, h7l⟩, hz⟩, ha, hb⟩ := h7
    have hb2 := hb
    simp only [isD, Bool.and_eq_true, decide_eq_true_eq] at hb2
    have hbe : UInt8.ofNat (48 + (b.toNat - 48)) = b := UInt8.toNat_inj.1 (by simp; omega)
    by_cases ht : t = []
    · subst ht
      rw [List.nil_append]
      have hv : val [b] = b.toNat - 48 := by unfold val; simp
      rw [hv, Lib.decDigits_one (by omega), hbe]
    · have htl := List.length_pos_iff.2 ht
      have hz2 : t[0]? ≠ some 48 := by
        intro e
        have : (t ++ [b])[0]? = some 48 := by rw [List.getElem?_append_left htl]; exact e
        have h1 : 1 < (t ++ [b]).length := by rw [List.length_append, List.length_singleton]; omega
        rw [this, decide_eq_true h1] at hz
        simp at hz
      have hnum : num7 t = true := by
        unfold num7
        have : (decide (1 < t.length) && decide (t[0]? = some 48)) = false := by simp [hz2]
        rw [this, ha]
        have hl7 : t.length + 1 ≤ 7 := by rw [List.length_append] at h7l; exact h7l
        simp [ht]; omega
      have e := ih t (by simpa using h) hnum
      have hv1 : 1 ≤ val t := by
        rcases Nat.eq_zero_or_pos (val t) with h0 | h0
        · exfalso
          rw [h0, Lib.decDigits_one (by omega)] at e
          rw [← e] at hz2
          exact hz2 rfl
        · exact h0
      rw [val_snoc, Lib.decDigits, dif_neg (by omega), show (10 * val t + (b.toNat - 48)) / 10 = val t by omega, e, show (10 * val t + (b.toNat - 48)) % 10 = b.toNat - 48 by omega, hbe]
theorem dec_chars {n : Nat} (h : n < 10000000) : ∀ b ∈ Lib.decDigits n, 48 ≤ b.toNat ∧ b.toNat ≤ 57 := by
  have := (dec_val 6 n (by omega)).2
  intro b hb
  have := List.all_eq_true.1 this b hb
  simpa [isD] using this
end Go.Proofs.YtnmeelkfpmodgaaDoor
