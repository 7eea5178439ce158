/- Numbers as bytes, and bytes as numbers, the program's and the document's, told over lists (XSpec's words). -/
import Derived.Test.YthaakmdafnjkpaaWd
import Derived.Test.YthaakmdafnjkpaaSpec
import Derived.Test.YthaakmdafnjkpaaPo
set_option linter.unusedVariables false
set_option linter.unusedSimpArgs false
namespace Go.Proofs.Ythaakmdafnjkpaa
open Go.RowKit
theorem v_id {x : Int} (h : -9223372036854775808 ≤ x ∧ x ≤ 9223372036854775807) : w64 x = x := w64_of h
theorem ofNat_mod (x : Nat) : UInt8.ofNat (x % 256) = UInt8.ofNat x := by apply UInt8.toNat_inj.1; simp
theorem i8_nat (x : Nat) : i8 (x : Int) = UInt8.ofNat x := by
  unfold i8
  rw [show ((x : Int) % 256).toNat = x % 256 by omega, ofNat_mod]
theorem u64I_nat {x : Nat} (h : x < 18446744073709551616) : (u64I (x : Int)).toNat = x := by
  unfold u64I
  rw [UInt64.toNat_ofNat', show ((x : Int) % 18446744073709551616).toNat = x by omega]
  exact Nat.mod_eq_of_lt h
theorem pow256 (i : Nat) : 2 ^ (8 * i) = 256 ^ i := by rw [Nat.pow_mul]
theorem shr_nat (n i : Nat) (h : i ≤ 8) : i64_shr (n : Int) (8 * i) = ((n / 256 ^ i : Nat) : Int) := by
  unfold i64_shr
  rw [Nat.min_eq_left (by omega), show ((2 : Int) ^ (8 * i)) = ((2 ^ (8 * i) : Nat) : Int) by simp, ← Int.natCast_ediv, pow256]
theorem be_gets : ∀ (s n j : Nat), j < s → (be s n)[j]? = some (UInt8.ofNat (n / 256 ^ (s - 1 - j)))
  | 0, _, _, h => by omega
  | s + 1, n, 0, _ => by simp [be]
  | s + 1, n, j + 1, h => by
    rw [be, List.getElem?_cons_succ, be_gets s n j (by omega), show s + 1 - 1 - (j + 1) = s - 1 - j by omega]
theorem pPut_l0 (Fu n s : Nat) (hs : s ≤ 8) : ∀ d k i, i + d = s → d < k → word_Put_l0 Fu (n : Int) (s : Int) k (s : Int) (i : Int) (List.replicate (s - i) 0 ++ be i n) = some (be s n) := by
  intro d
  induction d with
  | zero =>
    intro k i hi hk
    obtain ⟨k, rfl⟩ : ∃ m, k = m + 1 := ⟨k - 1, by omega⟩
    rw [word_Put_l0, if_neg (by omega), show i = s by omega, Nat.sub_self]; rfl
  | succ d ih =>
    intro k i hi hk
    obtain ⟨k, rfl⟩ : ∃ m, k = m + 1 := ⟨k - 1, by omega⟩
    have hl : (List.replicate (s - i) (0 : UInt8) ++ be i n).length = s := by simp [be_length]; omega
    rw [word_Put_l0, if_pos (by omega), v_id (x := (s : Int) - 1) (by omega), v_id (x := (s : Int) - 1 - i) (by omega), hl, show ((s : Int) - 1 - i) = ((s - 1 - i : Nat) : Int) by omega, ix_nat (by omega)]
    simp only [Option.bind_some]
    rw [v_id (x := (i : Int) + 1) (by omega), v_id (x := 8 * (i : Int)) (by omega), show (8 * (i : Int)) = ((8 * i : Nat) : Int) by omega, u64I_nat (by omega), shr_nat n i (by omega), i8_nat]
    have := ih k (i + 1) (by omega) (by omega)
    rw [← this]
    congr 1
    obtain ⟨q, hq⟩ : ∃ q, s - i = q + 1 := ⟨s - i - 1, by omega⟩
    rw [hq, show s - (i + 1) = q by omega, show s - 1 - i = q by omega, List.replicate_succ', List.append_assoc, List.set_append_right _ _ (by simp)]
    simp [be]
theorem pPut (Fu : Nat) (hF : 20 ≤ Fu) (n s : Int) : word_Put Fu n s = some (putL n s, putE n s) := by
  unfold word_Put
  by_cases h1 : ((((decide (s < 1)) || (decide (8 < s))) || (decide (n < 0))) || (decide (4611686018427387904 < n))) = true
  · have hm : mayPut n s = false := by
      apply Bool.eq_false_iff.2
      intro h
      obtain ⟨h2, h3, h4, h5, _⟩ := (mayPut_iff n s).1 h
      simp at h1; omega
    rw [h1, putL_bad hm, putE_bad hm]; rfl
  · simp at h1
    obtain ⟨m, rfl⟩ : ∃ m : Nat, n = (m : Int) := ⟨n.toNat, by omega⟩
    obtain ⟨t, rfl⟩ : ∃ m : Nat, s = (m : Int) := ⟨s.toNat, by omega⟩
    rw [show ((((decide ((t : Int) < 1)) || (decide (8 < (t : Int)))) || (decide ((m : Int) < 0))) || (decide (4611686018427387904 < (m : Int)))) = false by simp; omega]
    rw [v_id (x := 8 * (t : Int)) (by omega), show (8 * (t : Int)) = ((8 * t : Nat) : Int) by omega, u64I_nat (by omega), shr_nat m t (by omega)]
    have hdiv : m / 256 ^ t = 0 ↔ m < 256 ^ t := Nat.div_eq_zero_iff_lt (Nat.pow_pos (by decide))
    by_cases h2 : t < 8 ∧ ¬ m < 256 ^ t
    · have hm : mayPut (m : Int) (t : Int) = false := by
        apply Bool.eq_false_iff.2
        intro h
        have := mayPut_lt h
        simp at this
        exact h2.2 this
      rw [if_pos (by
        have h9 : m / 256 ^ t ≠ 0 := fun e => h2.2 (hdiv.1 e)
        have h10 := h2.1
        clear hdiv h2 hm
        generalize m / 256 ^ t = e at *
        simp; omega), putL_bad hm, putE_bad hm]
    · have hm : mayPut (m : Int) (t : Int) = true := by
        rw [mayPut_iff]
        refine ⟨by omega, by omega, by omega, by omega, ?_⟩
        by_cases h8 : t = 8
        · left; omega
        · right
          have : m < 256 ^ t := by
            apply Decidable.byContradiction; intro hh; exact h2 ⟨by omega, hh⟩
          rw [show (256 : Int) ^ ((t : Int).toNat) = ((256 ^ t : Nat) : Int) by simp]
          omega
      rw [if_neg (by
        by_cases h8 : t < 8
        · have : m / 256 ^ t = 0 := hdiv.2 (by apply Decidable.byContradiction; intro hh; exact h2 ⟨h8, hh⟩)
          simp [this]
        · simp; omega)]
      rw [putL_good hm, putE_good hm, show mkN 1 (t : Int) = some t by unfold mkN maxLen; rw [if_pos (by omega)]; rfl]
      simp only [Option.bind_some]
      have := pPut_l0 Fu m t (by omega) t Fu 0 (by omega) (by omega)
      rw [Nat.sub_zero, show be 0 m = [] from rfl, List.append_nil] at this
      rw [List.length_replicate, show (0 : Int) = ((0 : Nat) : Int) from rfl, this]; rfl
/-! the document's -/
def dg (n : Nat) (i : Nat) : List Int := (List.range i).map fun j => ((n / 256 ^ j % 256 : Nat) : Int)
theorem rPut_l0 (Fu n s : Nat) (hs : s ≤ 8) (hn : n ≤ 4611686018427387904) : ∀ d k i, i + d = s → d < k → chatelaineref01_Put_l0 Fu (s : Int) k ((n / 256 ^ i : Nat) : Int) (dg n i) (i : Int) = some (((n / 256 ^ s : Nat) : Int), dg n s) := by
  intro d
  induction d with
  | zero =>
    intro k i hi hk
    obtain ⟨k, rfl⟩ : ∃ m, k = m + 1 := ⟨k - 1, by omega⟩
    rw [chatelaineref01_Put_l0, if_neg (by omega), show i = s by omega]
  | succ d ih =>
    intro k i hi hk
    obtain ⟨k, rfl⟩ : ∃ m, k = m + 1 := ⟨k - 1, by omega⟩
    have hle : n / 256 ^ i ≤ n := Nat.div_le_self ..
    have := ih k (i + 1) (by omega) (by omega)
    have e1 : n / 256 ^ (i + 1) = n / 256 ^ i / 256 := by rw [Nat.pow_succ, Nat.div_div_eq_div_mul]
    have e2 : dg n (i + 1) = dg n i ++ [((n / 256 ^ i % 256 : Nat) : Int)] := by unfold dg; rw [List.range_succ, List.map_append]; rfl
    rw [e1, e2] at this
    generalize n / 256 ^ i = y at *
    rw [chatelaineref01_Put_l0, if_pos (by omega)]
    rw [show Int.tmod (y : Int) 256 = ((y % 256 : Nat) : Int) by rw [show (256 : Int) = ((256 : Nat) : Int) from rfl, ← Int.ofNat_tmod]]
    rw [show app 8 (dg n i) [((y % 256 : Nat) : Int)] = some (dg n i ++ [((y % 256 : Nat) : Int)]) by unfold app maxLen; rw [if_pos (by simp [dg]; omega)]]
    simp only [Option.bind_some]
    rw [Int.tdiv_eq_ediv_of_nonneg (by omega), show ((y : Int) / 256) = ((y / 256 : Nat) : Int) by omega, v_id (by omega), v_id (by omega)]
    exact this
theorem rPut_l1 (Fu n s : Nat) (hs : s ≤ 8) : ∀ t k, t ≤ s → t < k → chatelaineref01_Put_l1 Fu (dg n s) k ((be s n).take (s - t)) ((t : Int) - 1) = some (be s n) := by
  have hl : (dg n s).length = s := by simp [dg]
  intro t
  induction t with
  | zero =>
    intro k ht hk
    obtain ⟨k, rfl⟩ : ∃ m, k = m + 1 := ⟨k - 1, by omega⟩
    rw [chatelaineref01_Put_l1, if_neg (by omega), List.take_of_length_le (by rw [be_length]; omega)]
  | succ t ih =>
    intro k ht hk
    obtain ⟨k, rfl⟩ : ∃ m, k = m + 1 := ⟨k - 1, by omega⟩
    rw [chatelaineref01_Put_l1, if_pos (by omega), show ((t + 1 : Nat) : Int) - 1 = (t : Int) by omega, ix_nat (by omega)]
    simp only [Option.bind_some]
    have hd : (dg n s)[t]? = some ((n / 256 ^ t % 256 : Nat) : Int) := by unfold dg; rw [List.getElem?_map, List.getElem?_range (by omega)]; rfl
    rw [hd]
    simp only [Option.bind_some]
    rw [i8_nat, ofNat_mod]
    rw [show app 1 ((be s n).take (s - (t + 1))) [UInt8.ofNat (n / 256 ^ t)] = some ((be s n).take (s - t)) by
      unfold app maxLen
      rw [if_pos (by simp; omega), show s - t = (s - (t + 1)) + 1 by omega, List.take_add_one, be_gets s n (s - (t + 1)) (by omega), show s - 1 - (s - (t + 1)) = t by omega]; rfl]
    simp only [Option.bind_some]
    rw [v_id (by omega)]
    exact ih k (by omega) (by omega)
theorem rPut (Fu : Nat) (hF : 20 ≤ Fu) (n s : Int) : chatelaineref01_Put Fu n s = some (putL n s, putE n s) := by
  unfold chatelaineref01_Put
  by_cases h1 : ((((decide (s < 1)) || (decide (8 < s))) || (decide (n < 0))) || (decide (4611686018427387904 < n))) = true
  · have hm : mayPut n s = false := by
      apply Bool.eq_false_iff.2
      intro h
      obtain ⟨h2, h3, h4, h5, _⟩ := (mayPut_iff n s).1 h
      simp at h1; omega
    rw [if_pos h1, putL_bad hm, putE_bad hm]
  · rw [if_neg h1]
    simp at h1
    obtain ⟨m, rfl⟩ : ∃ m : Nat, n = (m : Int) := ⟨n.toNat, by omega⟩
    obtain ⟨t, rfl⟩ : ∃ m : Nat, s = (m : Int) := ⟨s.toNat, by omega⟩
    have h0 := rPut_l0 Fu m t (by omega) (by omega) t Fu 0 (by omega) (by omega)
    rw [Nat.pow_zero, Nat.div_one, show dg m 0 = [] from rfl, show ((0 : Nat) : Int) = 0 from rfl] at h0
    rw [h0]
    simp only [Option.bind_some]
    have hdiv : m / 256 ^ t = 0 ↔ m < 256 ^ t := Nat.div_eq_zero_iff_lt (Nat.pow_pos (by decide))
    by_cases h2 : m < 256 ^ t
    · have hm : mayPut (m : Int) (t : Int) = true := by
        rw [mayPut_iff]
        refine ⟨by omega, by omega, by omega, by omega, .inr ?_⟩
        rw [show (256 : Int) ^ ((t : Int).toNat) = ((256 ^ t : Nat) : Int) by simp]
        omega
      rw [hdiv.2 h2, if_neg (by omega), v_id (by omega)]
      have h3 := rPut_l1 Fu m t (by omega) t Fu (Nat.le_refl _) (by omega)
      rw [Nat.sub_self, List.take_zero] at h3
      rw [h3, putL_good hm, putE_good hm]; rfl
    · have hm : mayPut (m : Int) (t : Int) = false := by
        apply Bool.eq_false_iff.2
        intro h
        have := mayPut_lt h
        simp at this
        exact h2 this
      have h9 : m / 256 ^ t ≠ 0 := fun e => h2 (hdiv.1 e)
      rw [if_pos (by generalize m / 256 ^ t = e at h9; omega), putL_bad hm, putE_bad hm]
/-! bytes as numbers -/
theorem or_add (a b : Nat) (h : b < 256) : (a * 256) ||| b = a * 256 + b := by
  have := Nat.shiftLeft_add_eq_or_of_lt (a := a) (b := b) (i := 8) h
  rw [Nat.shiftLeft_eq] at this
  exact this.symm
theorem pGet_l0 (Fu : Nat) (l : List UInt8) (hl : l.length ≤ 8) : ∀ d k i (x : UInt64), i + d = l.length → d < k → x.toNat = num (l.take i) → ∃ r : UInt64, word_Get_l0 Fu l k x (i : Int) = some r ∧ r.toNat = num l := by
  intro d
  induction d with
  | zero =>
    intro k i x hi hk hx
    obtain ⟨k, rfl⟩ : ∃ m, k = m + 1 := ⟨k - 1, by omega⟩
    rw [word_Get_l0, if_neg (by omega)]
    rw [List.take_of_length_le (by omega)] at hx
    exact ⟨x, rfl, hx⟩
  | succ d ih =>
    intro k i x hi hk hx
    obtain ⟨k, rfl⟩ : ∃ m, k = m + 1 := ⟨k - 1, by omega⟩
    rw [word_Get_l0, if_pos (by omega), idx_nat, List.getElem?_eq_getElem (by omega)]
    simp only [Option.bind_some]
    rw [v_id (by omega), show ((i : Int) + 1) = ((i + 1 : Nat) : Int) by omega]
    refine ih k (i + 1) _ (by omega) (by omega) ?_
    have h1 := num_take_succ l i (by omega)
    have h2 := num_take_le l (i + 1) hl
    have hb := (l[i]'(by omega)).toNat_lt
    have e1 : (u64_shl x 8).toNat = num (l.take i) * 256 := by
      unfold u64_shl
      rw [UInt64.toNat_ofNat', hx, show (2 : Nat) ^ (min 8 64) = 256 from rfl]
      exact Nat.mod_eq_of_lt (by omega)
    have e2 : (UInt64.ofNat (l[i]'(by omega)).toNat).toNat = (l[i]'(by omega)).toNat := by
      rw [UInt64.toNat_ofNat']; exact Nat.mod_eq_of_lt (by omega)
    rw [UInt64.toNat_or, e1, e2, or_add _ _ hb, h1]; omega
theorem pGet (Fu : Nat) (hF : 20 ≤ Fu) (l : List UInt8) : word_Get Fu l = some (getN l, getE l) := by
  unfold word_Get
  by_cases h0 : l.length = 0
  · rw [if_pos (by omega), getE_end h0, getN_zero (by rw [getE_end h0]; decide)]
  rw [if_neg (by omega)]
  by_cases h8 : 8 < l.length
  · rw [if_pos (by omega), getE_extra h8, getN_zero (by rw [getE_extra h8]; decide)]
  rw [if_neg (by omega)]
  obtain ⟨r, h1, h2⟩ := pGet_l0 Fu l (by omega) l.length Fu 0 0 (by omega) (by omega) rfl
  rw [show ((0 : Nat) : Int) = 0 from rfl] at h1
  rw [show (0 : UInt64) = 0 from rfl, h1]
  simp only [Option.bind_some]
  rw [h2]
  by_cases hn : 4611686018427387904 < num l
  · rw [if_pos (by omega), getE_form (by omega) (by omega) hn, getN_zero (by rw [getE_form (by omega) (by omega) hn]; decide)]
  · rw [if_neg (by omega), v_id (by omega), getN_ok (getE_ok (by omega) (by omega) (by omega)), getE_ok (by omega) (by omega) (by omega)]
theorem rGet_l0 (Fu : Nat) (l : List UInt8) (hl : l.length ≤ 8) : ∀ d k i, i + d = l.length → d < k → num (l.take i) ≤ 4611686018427387904 → chatelaineref01_Get_l0 Fu l k ((num (l.take i) : Nat) : Int) (i : Int) = some (if 4611686018427387904 < num l then .inl (0, 11) else .inr (num l : Int)) := by
  intro d
  induction d with
  | zero =>
    intro k i hi hk hx
    obtain ⟨k, rfl⟩ : ∃ m, k = m + 1 := ⟨k - 1, by omega⟩
    rw [chatelaineref01_Get_l0, if_neg (by omega)]
    rw [List.take_of_length_le (by omega)] at hx ⊢
    rw [if_neg (by omega)]
  | succ d ih =>
    intro k i hi hk hx
    obtain ⟨k, rfl⟩ : ∃ m, k = m + 1 := ⟨k - 1, by omega⟩
    rw [chatelaineref01_Get_l0, if_pos (by omega), idx_nat, List.getElem?_eq_getElem (by omega)]
    simp only [Option.bind_some]
    have h1 := num_take_succ l i (by omega)
    have h2 := num_take_mono l (i + 1)
    have hb := (l[i]'(by omega)).toNat_lt
    have ih' := ih k (i + 1) (by omega) (by omega)
    generalize num (l.take i) = y at *
    by_cases hc : 4611686018427387904 < 256 * y + (l[i]'(by omega)).toNat
    · rw [if_pos (by simp; omega), if_pos (by omega)]
    · rw [if_neg (by simp; omega), v_id (x := 256 * (y : Int)) (by omega), v_id (x := 256 * (y : Int) + _) (by omega), v_id (x := (i : Int) + 1) (by omega)]
      rw [show ((i : Int) + 1) = ((i + 1 : Nat) : Int) by omega, show (256 * (y : Int) + ((l[i]'(by omega)).toNat : Int)) = ((num (l.take (i + 1)) : Nat) : Int) by rw [h1]; omega]
      exact ih' (by omega)
theorem rGet (Fu : Nat) (hF : 20 ≤ Fu) (l : List UInt8) : chatelaineref01_Get Fu l = some (getN l, getE l) := by
  unfold chatelaineref01_Get
  by_cases h0 : l.length = 0
  · rw [if_pos (by omega), getE_end h0, getN_zero (by rw [getE_end h0]; decide)]
  rw [if_neg (by omega)]
  by_cases h8 : 8 < l.length
  · rw [if_pos (by omega), getE_extra h8, getN_zero (by rw [getE_extra h8]; decide)]
  rw [if_neg (by omega)]
  have h1 := rGet_l0 Fu l (by omega) l.length Fu 0 (by omega) (by omega) (by simp [num_nil])
  rw [List.take_zero, num_nil, show ((0 : Nat) : Int) = 0 from rfl] at h1
  rw [h1]
  simp only [Option.bind_some]
  by_cases hn : 4611686018427387904 < num l
  · rw [if_pos hn, getE_form (by omega) (by omega) hn, getN_zero (by rw [getE_form (by omega) (by omega) hn]; decide)]
  · rw [if_neg hn, getN_ok (getE_ok (by omega) (by omega) (by omega)), getE_ok (by omega) (by omega) (by omega)]
end Go.Proofs.Ythaakmdafnjkpaa
