/- Field writers and readers told over lists. -/
import Derived.Test.YtoimllmmlbehgaaFi
import Derived.Test.YtoimllmmlbehgaaEsm
import Derived.Test.YtoimllmmlbehgaaSpec
set_option linter.unusedVariables false
set_option linter.unusedSimpArgs false
namespace Go.Proofs.Ytoimllmmlbehgaa
open Go.RowKit
theorem v_id {x : Int} (h : -9223372036854775808 ≤ x ∧ x ≤ 9223372036854775807) : w64 x = x := w64_of h
theorem ofNat_mod (x : Nat) : UInt8.ofNat (x % 256) = UInt8.ofNat x := by apply UInt8.toNat_inj.1; simp
theorem i8_nat (x : Nat) : i8 (x : Int) = UInt8.ofNat x := by
  unfold i8
  rw [show ((x : Int) % 256).toNat = x % 256 by omega, ofNat_mod]
theorem u64I_nat {x : Nat} (h : x < 18446744073709551616) : (u64I (x : Int)).toNat = x := by
  unfold u64I
  rw [UInt64.toNat_ofNat', show ((x : Int) % 18446744073709551616).toNat = x by omega]
  exact Nat.mod_eq_of_lt h
theorem pow256 (i : Nat) : 2 ^ (8 * i) = 256 ^ i := by rw [Nat.pow_mul]
theorem shr_nat (n i : Nat) (h : i ≤ 8) : i64_shr (n : Int) (8 * i) = ((n / 256 ^ i : Nat) : Int) := by
  unfold i64_shr
  rw [Nat.min_eq_left (by omega), show ((2 : Int) ^ (8 * i)) = ((2 ^ (8 * i) : Nat) : Int) by simp, ← Int.natCast_ediv, pow256]
theorem be_gets : ∀ (s n j : Nat), j < s → (be s n)[j]? = some (UInt8.ofNat (n / 256 ^ (s - 1 - j)))
  | 0, _, _, h => by omega
  | s + 1, n, 0, _ => by simp [be]
  | s + 1, n, j + 1, h => by
    rw [be, List.getElem?_cons_succ, be_gets s n j (by omega), show s + 1 - 1 - (j + 1) = s - 1 - j by omega]
theorem pPut_l0 (Fu n s : Nat) (hs : s ≤ 8) : ∀ d k i, i + d = s → d < k → word_Put_l0 Fu (n : Int) (s : Int) k (s : Int) (i : Int) (List.replicate (s - i) 0 ++ be i n) = some (be s n) := by
  intro d
  induction d with
  | zero =>
    intro k i hi hk
    obtain ⟨k, rfl⟩ : ∃ m, k = m + 1 := ⟨k - 1, by omega⟩
    rw [word_Put_l0, if_neg (by omega), show i = s by omega, Nat.sub_self]; rfl
  | succ d ih =>
    intro k i hi hk
    obtain ⟨k, rfl⟩ : ∃ m, k = m + 1 := ⟨k - 1, by omega⟩
    have hl : (List.replicate (s - i) (0 : UInt8) ++ be i n).length = s := by simp [be_length]; omega
    rw [word_Put_l0, if_pos (by omega), v_id (x := (s : Int) - 1) (by omega), v_id (x := (s : Int) - 1 - i) (by omega), hl, show ((s : Int) - 1 - i) = ((s - 1 - i : Nat) : Int) by omega, ix_nat (by omega)]
    simp only [Option.bind_some]
    rw [v_id (x := (i : Int) + 1) (by omega), v_id (x := 8 * (i : Int)) (by omega), show (8 * (i : Int)) = ((8 * i : Nat) : Int) by omega, u64I_nat (by omega), shr_nat n i (by omega), i8_nat]
    have := ih k (i + 1) (by omega) (by omega)
    rw [← this]
    congr 1
    obtain ⟨q, hq⟩ : ∃ q, s - i = q + 1 := ⟨s - i - 1, by omega⟩
    rw [hq, show s - (i + 1) = q by omega, show s - 1 - i = q by omega, List.replicate_succ', List.append_assoc, List.set_append_right _ _ (by simp)]
    simp [be]
theorem pPut (Fu : Nat) (hF : 20 ≤ Fu) (n s : Int) : word_Put Fu n s = some (putL n s, putE n s) := by
  unfold word_Put
  by_cases h1 : ((((decide (s < 1)) || (decide (8 < s))) || (decide (n < 0))) || (decide (4611686018427387904 < n))) = true
  · have hm : mayPut n s = false := by
      apply Bool.eq_false_iff.2
      intro h
      obtain ⟨h2, h3, h4, h5, _⟩ := (mayPut_iff n s).1 h
      simp at h1; omega
    rw [h1, putL_bad hm, putE_bad hm]; rfl
  · simp at h1
    obtain ⟨m, rfl⟩ : ∃ m : Nat, n = (m : Int) := ⟨n.toNat, by omega⟩
    obtain ⟨t, rfl⟩ : ∃ m : Nat, s = (m : Int) := ⟨s.toNat, by omega⟩
    rw [show ((((decide ((t : Int) < 1)) || (decide (8 < (t : Int)))) || (decide ((m : Int) < 0))) || (decide (4611686018427387904 < (m : Int)))) = false by simp; omega]
    rw [v_id (x := 8 * (t : Int)) (by omega), show (8 * (t : Int)) = ((8 * t : Nat) : Int) by omega, u64I_nat (by omega), shr_nat m t (by omega)]
    have hdiv : m / 256 ^ t = 0 ↔ m < 256 ^ t := Nat.div_eq_zero_iff_lt (Nat.pow_pos (by decide))
    by_cases h2 : t < 8 ∧ ¬ m < 256 ^ t
    · have hm : mayPut (m : Int) (t : Int) = false := by
        apply Bool.eq_false_iff.2
        intro h
        have := mayPut_lt h
        simp at this
        exact h2.2 this
      rw [if_pos (by
        have h9 : m / 256 ^ t ≠ 0 := fun e => h2.2 (hdiv.1 e)
        have h10 := h2.1
        clear hdiv h2 hm
        generalize m / 256 ^ t = e at *
        simp; omega), putL_bad hm, putE_bad hm]
    · have hm : mayPut (m : Int) (t : Int) = true := by
        rw [mayPut_iff]
        refine ⟨by omega, by omega, by omega, by omega, ?_⟩
        by_cases h8 : t = 8
        · left; omega
        · right
          have : m < 256 ^ t := by
            apply Decidable.byContradiction; intro hh; exact h2 ⟨by omega, hh⟩
          rw [show (256 : Int) ^ ((t : Int).toNat) = ((256 ^ t : Nat) : Int) by simp]
          omega
      rw [if_neg (by
        by_cases h8 : t < 8
        · have : m / 256 ^ t = 0 := hdiv.2 (by apply Decidable.byContradiction; intro hh; exact h2 ⟨h8, hh⟩)
          simp [this]
        · simp; omega)]
      rw [putL_good hm, putE_good hm, show mkN 1 (t : Int) = some t by unfold mkN maxLen; rw [if_pos (by omega)]; rfl]
      simp only [Option.bind_some]
      have := pPut_l0 Fu m t (by omega) t Fu 0 (by omega) (by omega)
      rw [Nat.sub_zero, show be 0 m = [] from rfl, List.append_nil] at this
      rw [List.length_replicate, show (0 : Int) = ((0 : Nat) : Int) from rfl, this]; rfl
theorem or_add (a b : Nat) (h : b < 256) : (a * 256) ||| b = a * 256 + b := by
  have := Nat.shiftLeft_add_eq_or_of_lt (a := a) (b := b) (i := 8) h
  rw [Nat.shiftLeft_eq] at this
  exact this.symm
theorem pGet_l0 (Fu : Nat) (l : List UInt8) (hl : l.length ≤ 8) : ∀ d k i (x : UInt64), i + d = l.length → d < k → x.toNat = num (l.take i) → ∃ r : UInt64, word_Get_l0 Fu l k x (i : Int) = some r ∧ r.toNat = num l := by
  intro d
  induction d with
  | zero =>
    intro k i x hi hk hx
    obtain ⟨k, rfl⟩ : ∃ m, k = m + 1 := ⟨k - 1, by omega⟩
    rw [word_Get_l0, if_neg (by omega)]
    rw [List.take_of_length_le (by omega)] at hx
    exact ⟨x, rfl, hx⟩
  | succ d ih =>
    intro k i x hi hk hx
    obtain ⟨k, rfl⟩ : ∃ m, k = m + 1 := ⟨k - 1, by omega⟩
    rw [word_Get_l0, if_pos (by omega), idx_nat, List.getElem?_eq_getElem (by omega)]
    simp only [Option.bind_some]
    rw [v_id (by omega), show ((i : Int) + 1) = ((i + 1 : Nat) : Int) by omega]
    refine ih k (i + 1) _ (by omega) (by omega) ?_
    have h1 := num_take_succ l i (by omega)
    have h2 := num_take_le l (i + 1) hl
    have hb := (l[i]'(by omega)).toNat_lt
    have e1 : (u64_shl x 8).toNat = num (l.take i) * 256 := by
      unfold u64_shl
      rw [UInt64.toNat_ofNat', hx, show (2 : Nat) ^ (min 8 64) = 256 from rfl]
      exact Nat.mod_eq_of_lt (by omega)
    have e2 : (UInt64.ofNat (l[i]'(by omega)).toNat).toNat = (l[i]'(by omega)).toNat := by
      rw [UInt64.toNat_ofNat']; exact Nat.mod_eq_of_lt (by omega)
    rw [UInt64.toNat_or, e1, e2, or_add _ _ hb, h1]; omega
theorem pGet (Fu : Nat) (hF : 20 ≤ Fu) (l : List UInt8) : word_Get Fu l = some (getN l, getE l) := by
  unfold word_Get
  by_cases h0 : l.length = 0
  · rw [if_pos (by omega), getE_end h0, getN_zero (by rw [getE_end h0]; decide)]
  rw [if_neg (by omega)]
  by_cases h8 : 8 < l.length
  · rw [if_pos (by omega), getE_extra h8, getN_zero (by rw [getE_extra h8]; decide)]
  rw [if_neg (by omega)]
  obtain ⟨r, h1, h2⟩ := pGet_l0 Fu l (by omega) l.length Fu 0 0 (by omega) (by omega) rfl
  rw [show ((0 : Nat) : Int) = 0 from rfl] at h1
  rw [show (0 : UInt64) = 0 from rfl, h1]
  simp only [Option.bind_some]
  rw [h2]
  by_cases hn : 4611686018427387904 < num l
  · rw [if_pos (by omega), getE_form (by omega) (by omega) hn, getN_zero (by rw [getE_form (by omega) (by omega) hn]; decide)]
  · rw [if_neg (by omega), v_id (by omega), getN_ok (getE_ok (by omega) (by omega) (by omega)), getE_ok (by omega) (by omega) (by omega)]
theorem rGet_l0 (Fu : Nat) (l : List UInt8) (hl : l.length ≤ 8) : ∀ d k i, i + d = l.length → d < k → num (l.take i) ≤ 4611686018427387904 → chatelaineref01_Get_l0 Fu l k ((num (l.take i) : Nat) : Int) (i : Int) = some (if 4611686018427387904 < num l then .inl (0, 11) else .inr (num l : Int)) := by
  intro d
  induction d with
  | zero =>
    intro k i hi hk hx
    obtain ⟨k, rfl⟩ : ∃ m, k = m + 1 := ⟨k - 1, by omega⟩
    rw [chatelaineref01_Get_l0, if_neg (by omega)]
    rw [List.take_of_length_le (by omega)] at hx ⊢
    rw [if_neg (by omega)]
  | succ d ih =>
    intro k i hi hk hx
    obtain ⟨k, rfl⟩ : ∃ m, k = m + 1 := ⟨k - 1, by omega⟩
    rw [chatelaineref01_Get_l0, if_pos (by omega), idx_nat, List.getElem?_eq_getElem (by omega)]
    simp only [Option.bind_some]
    have h1 := num_take_succ l i (by omega)
    have h2 := num_take_mono l (i + 1)
    have hb := (l[i]'(by omega)).toNat_lt
    have ih' := ih k (i + 1) (by omega) (by omega)
    generalize num (l.take i) = y at *
    by_cases hc : 4611686018427387904 < 256 * y + (l[i]'(by omega)).toNat
    · rw [if_pos (by simp; omega), if_pos (by omega)]
    · rw [if_neg (by simp; omega), v_id (x := 256 * (y : Int)) (by omega), v_id (x := 256 * (y : Int) + _) (by omega), v_id (x := (i : Int) + 1) (by omega)]
      rw [show ((i : Int) + 1) = ((i + 1 : Nat) : Int) by omega, show (256 * (y : Int) + ((l[i]'(by omega)).toNat : Int)) = ((num (l.take (i + 1)) : Nat) : Int) by rw [h1]; omega]
      exact ih' (by omega)
theorem rGet (Fu : Nat) (hF : 20 ≤ Fu) (l : List UInt8) : chatelaineref01_Get Fu l = some (getN l, getE l) := by
  unfold chatelaineref01_Get
  by_cases h0 : l.length = 0
  · rw [if_pos (by omega), getE_end h0, getN_zero (by rw [getE_end h0]; decide)]
  rw [if_neg (by omega)]
  by_cases h8 : 8 < l.length
  · rw [if_pos (by omega), getE_extra h8, getN_zero (by rw [getE_extra h8]; decide)]
  rw [if_neg (by omega)]
  have h1 := rGet_l0 Fu l (by omega) l.length Fu 0 (by omega) (by omega) (by simp [num_nil])
  rw [List.take_zero, num_nil, show ((0 : Nat) : Int) = 0 from rfl] at h1
  rw [h1]
  simp only [Option.bind_some]
  by_cases hn : 4611686018427387904 < num l
  · rw [if_pos hn, getE_form (by omega) (by omega) hn, getN_zero (by rw [getE_form (by omega) (by omega) hn]; decide)]
  · rw [if_neg hn, getN_ok (getE_ok (by omega) (by omega) (by omega)), getE_ok (by omega) (by omega) (by omega)]
abbrev FSt := Int × List UInt8
theorem app1_ok (l m : List UInt8) (h : l.length + m.length ≤ 100000000) : app 1 l m = some (l ++ m) := by
  unfold app; rw [if_pos (by unfold maxLen; omega)]
def wPut (s : FSt) (b : List UInt8) (e : Int) : FSt := if s.1 = 0 then (if e = 0 then (0, s.2 ++ b) else (2, s.2)) else s
def wNum (s : FSt) (n z : Int) : FSt := wPut s (putL n z) (putE n z)
theorem wPut_len (s : FSt) (b : List UInt8) (e : Int) : (wPut s b e).2.length ≤ s.2.length + b.length := by
  unfold wPut; split <;> (try split) <;> simp
theorem putL_le (n z : Int) : (putL n z).length ≤ 8 := by
  cases h : mayPut n z with
  | true => rw [putL_good h, be_length]; have := (mayPut_iff n z).1 h; omega
  | false => rw [putL_bad h]; simp
theorem putE_zero (n z : Int) : (putE n z = 0 ∧ mayPut n z = true) ∨ (putE n z = 2 ∧ mayPut n z = false) := by
  cases h : mayPut n z with
  | true => exact .inl ⟨putE_good h, rfl⟩
  | false => exact .inr ⟨putE_bad h, rfl⟩
theorem wNum_len (s : FSt) (n z : Int) : (wNum s n z).2.length ≤ s.2.length + 8 := by
  have := wPut_len s (putL n z) (putE n z); have := putL_le n z; unfold wNum; omega
theorem pwPut (Fu : Nat) (s : FSt) (b : List UInt8) (e : Int) (h : s.2.length + b.length ≤ 100000000) : field_Writer_put Fu s b e = some (wPut s b e) := by
  obtain ⟨x, l⟩ := s
  have ha := app1_ok l b h
  unfold field_Writer_put field_state_fail_at0_field_Writer_0 field_state_good_at0_field_Writer_0 wPut
  by_cases hx : x = 0 <;> by_cases he : e = 0 <;> simp [hx, he, ha]
theorem pwNum (Fu : Nat) (hF : 20 ≤ Fu) (s : FSt) (n z : Int) (h : s.2.length ≤ 10000000) : field_Writer_Number Fu s n z = some (wNum s n z) := by
  unfold field_Writer_Number
  rw [pPut Fu hF]
  simp only [Option.bind_some]
  have := putL_le n z
  rw [pwPut Fu s _ _ (by omega)]; rfl
theorem pwOut (Fu : Nat) (s : FSt) (h : s.2.length ≤ 10000000) : field_Writer_Out Fu s = some (if s.1 = 0 then (s.2, 0) else ([], s.1)) := by
  unfold field_Writer_Out field_state_good_fat0_field_Writer_0 slices_Clone___byte_byte
  simp only [Option.bind_some]
  rw [app1_ok [] s.2 (by simp; omega)]
  by_cases hx : s.1 = 0 <;> simp [hx]
theorem wNum_good {n z : Int} (h : mayPut n z = true) (l : List UInt8) : wNum (0, l) n z = (0, l ++ be z.toNat n.toNat) := by
  unfold wNum wPut; rw [putE_good h, putL_good h]; rfl
def tkR (n : Int) (s : FSt) : FSt := if 0 ≤ n ∧ n ≤ s.2.length then (if s.1 = 0 then (0, s.2.drop n.toNat) else s) else (if s.1 = 0 then 10 else s.1, s.2)
def tkV (n : Int) (s : FSt) : List UInt8 := if 0 ≤ n ∧ n ≤ s.2.length then (if s.1 = 0 then s.2.take n.toNat else []) else []
def flR (e : Int) (s : FSt) : FSt := (if s.1 = 0 then e else s.1, s.2)
def nbad (l : List UInt8) (m : Int) : Bool := decide (getE l ≠ 0) || decide (m < getN l)
def nmR (z m : Int) (s : FSt) : FSt := if (tkR z s).1 = 0 then (if nbad (tkV z s) m = true then flR 11 (tkR z s) else tkR z s) else tkR z s
def nmV (z m : Int) (s : FSt) : Int := if (tkR z s).1 = 0 then (if nbad (tkV z s) m = true then 0 else getN (tkV z s)) else 0
def pr (s : FSt) : Int × List UInt8 × Bool := (s.1, s.2, true)
theorem getN_nn (l : List UInt8) : 0 ≤ getN l := by unfold getN; split <;> omega
theorem nmV_nn (z m : Int) (s : FSt) : 0 ≤ nmV z m s := by unfold nmV; have := getN_nn (tkV z s); split <;> (try split) <;> omega
theorem tkR_len (n : Int) (s : FSt) : (tkR n s).2.length ≤ s.2.length := by unfold tkR; split <;> (try split) <;> simp
theorem tkV_len (n : Int) (s : FSt) : (tkV n s).length ≤ s.2.length := by unfold tkV; split <;> (try split) <;> simp; omega
theorem nmR_len (z m : Int) (s : FSt) : (nmR z m s).2.length ≤ s.2.length := by
  have := tkR_len z s; unfold nmR flR; split <;> (try split) <;> simpa using this
theorem cut_pl (Fu : Nat) (b : List UInt8) (n : Int) : word_Cut Fu b n = some (if 0 ≤ n ∧ n ≤ b.length then (b.take n.toNat, b.drop n.toNat, true) else ([], [], false)) := by
  unfold word_Cut
  by_cases h : 0 ≤ n ∧ n ≤ b.length
  · rw [if_neg (by simp; omega), if_pos h]
    have e1 : sub b 0 n = some (b.take n.toNat) := by unfold sub; rw [if_pos (by omega)]; simp
    have e2 : sub b n b.length = some (b.drop n.toNat) := by unfold sub; rw [if_pos (by omega)]; simp
    rw [e1, e2]; rfl
  · rw [if_pos (by simp; omega), if_neg h]
theorem prTake (Fu : Nat) (s : FSt) (n : Int) : field_Reader_take Fu (pr s) n = some (tkV n s, pr (tkR n s)) := by
  obtain ⟨e, b⟩ := s
  unfold field_Reader_take field_state_fail_at0_field_Reader_0 field_state_good_at0_field_Reader_0 pr
  rw [cut_pl]
  simp only [Option.bind_some]
  unfold tkV tkR
  by_cases h : 0 ≤ n ∧ n ≤ b.length <;> by_cases he : e = 0 <;> simp [h, he]
theorem prNum (Fu : Nat) (hF : 20 ≤ Fu) (s : FSt) (z m : Int) (hz : 1 ≤ z ∧ z ≤ 8) : field_Reader_Number Fu (pr s) z m = some (nmV z m s, pr (nmR z m s)) := by
  unfold field_Reader_Number field_Reader_made
  rw [show (pr s).2.2 = true from rfl]
  simp only [Option.bind_some, Bool.not_true, Bool.false_eq_true, if_false]
  rw [if_neg (by simp; omega)]
  simp only [Option.bind_some]
  rw [prTake]
  simp only [Option.bind_some]
  unfold field_state_good_at0_field_Reader_0
  simp only [Option.bind_some]
  unfold nmV nmR
  rw [pGet Fu hF]
  simp only [Option.bind_some]
  by_cases h : (tkR z s).1 = 0
  · rw [show (pr (tkR z s)).1 = 0 from h, if_pos h, if_pos h]
    simp only [decide_true, Bool.not_true, Bool.false_eq_true, if_false]
    by_cases hb : nbad (tkV z s) m = true
    · rw [if_pos hb, if_pos hb, if_pos (by unfold nbad at hb; exact hb)]
      unfold field_state_fail_at0_field_Reader_0 flR pr
      simp [h]
    · rw [if_neg hb, if_neg hb, if_neg (by unfold nbad at hb; exact hb)]
  · rw [if_neg h, if_neg h, show (pr (tkR z s)).1 = (tkR z s).1 from rfl]
    simp [h]
theorem prDone (Fu : Nat) (s : FSt) : field_Reader_Done Fu (pr s) = some (if s.1 = 0 then (if 0 < s.2.length then 13 else 0) else s.1) := by
  unfold field_Reader_Done field_Reader_made field_state_good_fat0_field_Reader_0 pr
  by_cases h : s.1 = 0 <;> by_cases h2 : 0 < s.2.length <;> simp [h, h2]
theorem tk_good (b r : List UInt8) (n : Int) (hn : n = b.length) : tkR n (0, b ++ r) = (0, r) ∧ tkV n (0, b ++ r) = b := by
  subst hn
  unfold tkR tkV
  have : (0 : Int) ≤ b.length ∧ (b.length : Int) ≤ (b ++ r).length := by rw [List.length_append]; omega
  rw [if_pos this, if_pos this]
  simp
theorem nm_good {n z : Int} (h : mayPut n z = true) (r : List UInt8) (m : Int) (hm : n ≤ m) : nmR z m (0, be z.toNat n.toNat ++ r) = (0, r) ∧ nmV z m (0, be z.toNat n.toNat ++ r) = n := by
  obtain ⟨h1, h2, h3, h4, h5⟩ := (mayPut_iff n z).1 h
  obtain ⟨t1, t2⟩ := tk_good (be z.toNat n.toNat) r z (by rw [be_length]; omega)
  have hn := num_be z.toNat n.toNat (mayPut_lt h)
  have e1 : getE (be z.toNat n.toNat) = 0 := getE_ok (by rw [be_length]; omega) (by rw [be_length]; omega) (by rw [hn]; omega)
  have e2 : getN (be z.toNat n.toNat) = n := by rw [getN_ok e1, hn]; omega
  have hb : nbad (be z.toNat n.toNat) m = false := by unfold nbad; rw [e1, e2]; simp; omega
  unfold nmR nmV
  rw [t1, t2, hb, e2]
  simp
end Go.Proofs.Ytoimllmmlbehgaa
