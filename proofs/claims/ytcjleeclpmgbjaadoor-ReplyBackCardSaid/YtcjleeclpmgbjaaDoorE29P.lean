/- Field writers and readers of the program, told over lists; what is written is read, what is read was written so. -/
import Derived.Test.YtcjleeclpmgbjaaDoorFi
import Derived.Test.YtcjleeclpmgbjaaDoorEsm
import Derived.Test.YtcjleeclpmgbjaaDoorWqP
set_option linter.unusedVariables false
set_option linter.unusedSimpArgs false
namespace Go.Proofs.YtcjleeclpmgbjaaDoor
open Go.RowKit
abbrev FSt := Int × List UInt8
theorem or_add (a b : Nat) (h : b < 256) : (a * 256) ||| b = a * 256 + b := by
  have := Nat.shiftLeft_add_eq_or_of_lt (a := a) (b := b) (i := 8) h
  rw [Nat.shiftLeft_eq] at this
  exact this.symm
theorem pGet_l0 (Fu : Nat) (l : List UInt8) (hl : l.length ≤ 8) : ∀ d k i (x : UInt64), i + d = l.length → d < k → x.toNat = num (l.take i) → ∃ r : UInt64, word_Get_l0 Fu l k x (i : Int) = some r ∧ r.toNat = num l := by
  intro d
  induction d with
  | zero =>
    intro k i x hi hk hx
    obtain ⟨k, rfl⟩ : ∃ m, k = m + 1 := ⟨k - 1, by omega⟩
    rw [word_Get_l0, if_neg (by omega)]
    rw [List.take_of_length_le (by omega)] at hx
    exact ⟨x, rfl, hx⟩
  | succ d ih =>
    intro k i x hi hk hx
    obtain ⟨k, rfl⟩ : ∃ m, k = m + 1 := ⟨k - 1, by omega⟩
    rw [word_Get_l0, if_pos (by omega), idx_nat, List.getElem?_eq_getElem (by omega)]
    simp only [Option.bind_some]
    rw [v_id (by omega), show ((i : Int) + 1) = ((i + 1 : Nat) : Int) by omega]
    refine ih k (i + 1) _ (by omega) (by omega) ?_
    have h1 := num_take_succ l i (by omega)
    have h2 := num_take_le l (i + 1) hl
    have hb := (l[i]'(by omega)).toNat_lt
    have e1 : (u64_shl x 8).toNat = num (l.take i) * 256 := by
      unfold u64_shl
      rw [UInt64.toNat_ofNat', hx, show (2 : Nat) ^ (min 8 64) = 256 from rfl]
      exact Nat.mod_eq_of_lt (by omega)
    have e2 : (UInt64.ofNat (l[i]'(by omega)).toNat).toNat = (l[i]'(by omega)).toNat := by
      rw [UInt64.toNat_ofNat']; exact Nat.mod_eq_of_lt (by omega)
    rw [UInt64.toNat_or, e1, e2, or_add _ _ hb, h1]; omega
theorem pGet (Fu : Nat) (hF : 20 ≤ Fu) (l : List UInt8) : word_Get Fu l = some (getN l, getE l) := by
  unfold word_Get
  by_cases h0 : l.length = 0
  · rw [if_pos (by omega), getE_end h0, getN_zero (by rw [getE_end h0]; decide)]
  rw [if_neg (by omega)]
  by_cases h8 : 8 < l.length
  · rw [if_pos (by omega), getE_extra h8, getN_zero (by rw [getE_extra h8]; decide)]
  rw [if_neg (by omega)]
  obtain ⟨r, h1, h2⟩ := pGet_l0 Fu l (by omega) l.length Fu 0 0 (by omega) (by omega) rfl
  rw [show ((0 : Nat) : Int) = 0 from rfl] at h1
  rw [show (0 : UInt64) = 0 from rfl, h1]
  simp only [Option.bind_some]
  rw [h2]
  by_cases hn : 4611686018427387904 < num l
  · rw [if_pos (by omega), getE_form (by omega) (by omega) hn, getN_zero (by rw [getE_form (by omega) (by omega) hn]; decide)]
  · rw [if_neg (by omega), v_id (by omega), getN_ok (getE_ok (by omega) (by omega) (by omega)), getE_ok (by omega) (by omega) (by omega)]
theorem app1_ok (l m : List UInt8) (h : l.length + m.length ≤ 100000000) : app 1 l m = some (l ++ m) := by
  unfold app; rw [if_pos (by unfold maxLen; omega)]
/-! writers -/
def wPut (s : FSt) (b : List UInt8) (e : Int) : FSt := if s.1 = 0 then (if e = 0 then (0, s.2 ++ b) else (2, s.2)) else s
def wNum (s : FSt) (n z : Int) : FSt := wPut s (putL n z) (putE n z)
def wByt (s : FSt) (b : List UInt8) : FSt := wPut (wNum s b.length 2) b 0
theorem wPut_len (s : FSt) (b : List UInt8) (e : Int) : (wPut s b e).2.length ≤ s.2.length + b.length := by
  unfold wPut; split <;> (try split) <;> simp
theorem putL_le (n z : Int) : (putL n z).length ≤ 8 := by
  cases h : mayPut n z with
  | true => rw [putL_good h, be_length]; have := (mayPut_iff n z).1 h; omega
  | false => rw [putL_bad h]; simp
theorem wNum_len (s : FSt) (n z : Int) : (wNum s n z).2.length ≤ s.2.length + 8 := by
  have := wPut_len s (putL n z) (putE n z); have := putL_le n z; unfold wNum; omega
theorem pwPut (Fu : Nat) (s : FSt) (b : List UInt8) (e : Int) (h : s.2.length + b.length ≤ 100000000) : field_Writer_put Fu s b e = some (wPut s b e) := by
  obtain ⟨x, l⟩ := s
  have ha := app1_ok l b h
  unfold field_Writer_put field_state_fail_at0_field_Writer_0 field_state_good_at0_field_Writer_0 wPut
  by_cases hx : x = 0 <;> by_cases he : e = 0 <;> simp [hx, he, ha]
theorem pwNum (Fu : Nat) (hF : 20 ≤ Fu) (s : FSt) (n z : Int) (h : s.2.length ≤ 10000000) : field_Writer_Number Fu s n z = some (wNum s n z) := by
  unfold field_Writer_Number
  rw [pPut Fu hF]
  simp only [Option.bind_some]
  have := putL_le n z
  rw [pwPut Fu s _ _ (by omega)]; rfl
theorem pwByt (Fu : Nat) (hF : 20 ≤ Fu) (s : FSt) (b : List UInt8) (h : s.2.length ≤ 1000000) (hb : b.length ≤ 65535) : field_Writer_Bytes Fu s b = some (wByt s b) := by
  unfold field_Writer_Bytes
  rw [if_neg (by omega)]
  simp only [Option.bind_some]
  rw [show mn (b.length : Int) 65535 = b.length by rw [mn_min]; omega, pPut Fu hF]
  simp only [Option.bind_some]
  have := putL_le b.length 2
  have h2 := wNum_len s b.length 2
  rw [pwPut Fu s _ _ (by omega)]
  simp only [Option.bind_some]
  rw [pwPut Fu _ _ _ (by unfold wNum at h2; omega)]; rfl
theorem pwOut (Fu : Nat) (s : FSt) (h : s.2.length ≤ 10000000) : field_Writer_Out Fu s = some (if s.1 = 0 then (s.2, 0) else ([], s.1)) := by
  unfold field_Writer_Out field_state_good_fat0_field_Writer_0 slices_Clone___byte_byte
  simp only [Option.bind_some]
  rw [app1_ok [] s.2 (by simp; omega)]
  by_cases hx : s.1 = 0 <;> simp [hx]
theorem wNum_good {n z : Int} (h : mayPut n z = true) (l : List UInt8) : wNum (0, l) n z = (0, l ++ be z.toNat n.toNat) := by
  unfold wNum wPut; rw [putE_good h, putL_good h]; rfl
theorem mayPut2 (n : Nat) (h : n ≤ 65535) : mayPut n 2 = true := (mayPut_iff n 2).2 ⟨by decide, by decide, by omega, by omega, .inr (by show (n : Int) < 65536; omega)⟩
theorem wByt_good {b : List UInt8} (h : b.length ≤ 65535) (l : List UInt8) : wByt (0, l) b = (0, l ++ (be 2 b.length ++ b)) := by
  unfold wByt; rw [wNum_good (mayPut2 _ h)]; unfold wPut; simp
/-! readers -/
def tkR (n : Int) (s : FSt) : FSt := if 0 ≤ n ∧ n ≤ s.2.length then (if s.1 = 0 then (0, s.2.drop n.toNat) else s) else (if s.1 = 0 then 10 else s.1, s.2)
def tkV (n : Int) (s : FSt) : List UInt8 := if 0 ≤ n ∧ n ≤ s.2.length then (if s.1 = 0 then s.2.take n.toNat else []) else []
def flR (e : Int) (s : FSt) : FSt := (if s.1 = 0 then e else s.1, s.2)
def nbad (l : List UInt8) (m : Int) : Bool := decide (getE l ≠ 0) || decide (m < getN l)
def nmR (z m : Int) (s : FSt) : FSt := if (tkR z s).1 = 0 then (if nbad (tkV z s) m = true then flR 11 (tkR z s) else tkR z s) else tkR z s
def nmV (z m : Int) (s : FSt) : Int := if (tkR z s).1 = 0 then (if nbad (tkV z s) m = true then 0 else getN (tkV z s)) else 0
def byR (m : Int) (s : FSt) : FSt := tkR (nmV 2 (mn m 65535) s) (nmR 2 (mn m 65535) s)
def byV (m : Int) (s : FSt) : List UInt8 := tkV (nmV 2 (mn m 65535) s) (nmR 2 (mn m 65535) s)
def pr (s : FSt) : Int × List UInt8 × Bool := (s.1, s.2, true)
theorem getN_nn (l : List UInt8) : 0 ≤ getN l := by unfold getN; split <;> omega
theorem nmV_nn (z m : Int) (s : FSt) : 0 ≤ nmV z m s := by unfold nmV; have := getN_nn (tkV z s); split <;> (try split) <;> omega
theorem tkR_len (n : Int) (s : FSt) : (tkR n s).2.length ≤ s.2.length := by unfold tkR; split <;> (try split) <;> simp
theorem tkV_len (n : Int) (s : FSt) : (tkV n s).length ≤ s.2.length := by unfold tkV; split <;> (try split) <;> simp; omega
theorem nmR_len (z m : Int) (s : FSt) : (nmR z m s).2.length ≤ s.2.length := by
  have := tkR_len z s; unfold nmR flR; split <;> (try split) <;> simpa using this
theorem cut_pl (Fu : Nat) (b : List UInt8) (n : Int) : word_Cut Fu b n = some (if 0 ≤ n ∧ n ≤ b.length then (b.take n.toNat, b.drop n.toNat, true) else ([], [], false)) := by
  unfold word_Cut
  by_cases h : 0 ≤ n ∧ n ≤ b.length
  · rw [if_neg (by simp; omega), if_pos h]
    have e1 : sub b 0 n = some (b.take n.toNat) := by unfold sub; rw [if_pos (by omega)]; simp
    have e2 : sub b n b.length = some (b.drop n.toNat) := by unfold sub; rw [if_pos (by omega)]; simp
    rw [e1, e2]; rfl
  · rw [if_pos (by simp; omega), if_neg h]
theorem prTake (Fu : Nat) (s : FSt) (n : Int) : field_Reader_take Fu (pr s) n = some (tkV n s, pr (tkR n s)) := by
  obtain ⟨e, b⟩ := s
  unfold field_Reader_take field_state_fail_at0_field_Reader_0 field_state_good_at0_field_Reader_0 pr
  rw [cut_pl]
  simp only [Option.bind_some]
  unfold tkV tkR
  by_cases h : 0 ≤ n ∧ n ≤ b.length <;> by_cases he : e = 0 <;> simp [h, he]
theorem prNum (Fu : Nat) (hF : 20 ≤ Fu) (s : FSt) (z m : Int) (hz : 1 ≤ z ∧ z ≤ 8) : field_Reader_Number Fu (pr s) z m = some (nmV z m s, pr (nmR z m s)) := by
  unfold field_Reader_Number field_Reader_made
  rw [show (pr s).2.2 = true from rfl]
  simp only [Option.bind_some, Bool.not_true, Bool.false_eq_true, if_false]
  rw [if_neg (by simp; omega)]
  simp only [Option.bind_some]
  rw [prTake]
  simp only [Option.bind_some]
  unfold field_state_good_at0_field_Reader_0
  simp only [Option.bind_some]
  unfold nmV nmR
  rw [pGet Fu hF]
  simp only [Option.bind_some]
  by_cases h : (tkR z s).1 = 0
  · rw [show (pr (tkR z s)).1 = 0 from h, if_pos h, if_pos h]
    simp only [decide_true, Bool.not_true, Bool.false_eq_true, if_false]
    by_cases hb : nbad (tkV z s) m = true
    · rw [if_pos hb, if_pos hb, if_pos (by unfold nbad at hb; exact hb)]
      unfold field_state_fail_at0_field_Reader_0 flR pr
      simp [h]
    · rw [if_neg hb, if_neg hb, if_neg (by unfold nbad at hb; exact hb)]
  · rw [if_neg h, if_neg h, show (pr (tkR z s)).1 = (tkR z s).1 from rfl]
    simp [h]
theorem prByt (Fu : Nat) (hF : 20 ≤ Fu) (s : FSt) (m : Int) (hl : s.2.length ≤ 1000000) : field_Reader_Bytes Fu (pr s) m = some (byV m s, pr (byR m s)) := by
  unfold field_Reader_Bytes field_Reader_made
  rw [show (pr s).2.2 = true from rfl]
  simp only [Option.bind_some, Bool.not_true, Bool.false_eq_true, if_false]
  rw [prNum Fu hF s _ _ (by omega)]
  simp only [Option.bind_some]
  unfold field_Reader_Fixed field_Reader_made
  rw [show (pr (nmR 2 (mn m 65535) s)).2.2 = true from rfl]
  simp only [Option.bind_some, Bool.not_true, Bool.false_eq_true, if_false]
  have := nmV_nn 2 (mn m 65535) s
  rw [if_neg (by omega)]
  simp only [Option.bind_some]
  rw [prTake]
  simp only [Option.bind_some]
  unfold slices_Clone___byte_byte
  have h1 := tkV_len (nmV 2 (mn m 65535) s) (nmR 2 (mn m 65535) s)
  have h2 := nmR_len 2 (mn m 65535) s
  rw [app1_ok [] _ (by simp; omega)]; rfl
theorem prDone (Fu : Nat) (s : FSt) : field_Reader_Done Fu (pr s) = some (if s.1 = 0 then (if 0 < s.2.length then 13 else 0) else s.1) := by
  unfold field_Reader_Done field_Reader_made field_state_good_fat0_field_Reader_0 pr
  by_cases h : s.1 = 0 <;> by_cases h2 : 0 < s.2.length <;> simp [h, h2]
theorem tk_good (b r : List UInt8) (n : Int) (hn : n = b.length) : tkR n (0, b ++ r) = (0, r) ∧ tkV n (0, b ++ r) = b := by
  subst hn
  unfold tkR tkV
  have : (0 : Int) ≤ b.length ∧ (b.length : Int) ≤ (b ++ r).length := by rw [List.length_append]; omega
  rw [if_pos this, if_pos this]
  simp
theorem nm_good {n z : Int} (h : mayPut n z = true) (r : List UInt8) (m : Int) (hm : n ≤ m) : nmR z m (0, be z.toNat n.toNat ++ r) = (0, r) ∧ nmV z m (0, be z.toNat n.toNat ++ r) = n := by
  obtain ⟨h1, h2, h3, h4, h5⟩ := (mayPut_iff n z).1 h
  obtain ⟨t1, t2⟩ := tk_good (be z.toNat n.toNat) r z (by rw [be_length]; omega)
  have hn := num_be z.toNat n.toNat (mayPut_lt h)
  have e1 : getE (be z.toNat n.toNat) = 0 := getE_ok (by rw [be_length]; omega) (by rw [be_length]; omega) (by rw [hn]; omega)
  have e2 : getN (be z.toNat n.toNat) = n := by rw [getN_ok e1, hn]; omega
  have hb : nbad (be z.toNat n.toNat) m = false := by unfold nbad; rw [e1, e2]; simp; omega
  unfold nmR nmV
  rw [t1, t2, hb, e2]
  simp
theorem by_good (b r : List UInt8) (m : Int) (h : b.length ≤ 65535) (hm : (b.length : Int) ≤ m) : byR m (0, be 2 b.length ++ b ++ r) = (0, r) ∧ byV m (0, be 2 b.length ++ b ++ r) = b := by
  obtain ⟨h1, h2⟩ := nm_good (mayPut2 b.length h) (b ++ r) (mn m 65535) (by rw [mn_min]; omega)
  have e2 : be (2 : Int).toNat (b.length : Int).toNat = be 2 b.length := rfl
  rw [e2, ← List.append_assoc] at h1 h2
  unfold byR byV
  rw [h1, h2]
  exact tk_good b r _ rfl
/-! lists of bytes that are the same -/
theorem tkR_err (n : Int) (s : FSt) (h : s.1 ≠ 0) : (tkR n s).1 ≠ 0 := by unfold tkR; split <;> simp [h]
theorem nmR_err (z m : Int) (s : FSt) (h : s.1 ≠ 0) : (nmR z m s).1 ≠ 0 := by
  unfold nmR; rw [if_neg (tkR_err z s h)]; exact tkR_err z s h
theorem byR_err (m : Int) (s : FSt) (h : s.1 ≠ 0) : (byR m s).1 ≠ 0 := tkR_err _ _ (nmR_err _ _ _ h)
theorem nm_back {z : Nat} {m : Int} {b : List UInt8} (hz : 1 ≤ z ∧ z ≤ 8) (h : (nmR z m (0, b)).1 = 0) : nmR z m (0, b) = (0, b.drop z) ∧ z ≤ b.length ∧ nmV z m (0, b) = num (b.take z) ∧ (num (b.take z) : Int) ≤ m ∧ num (b.take z) ≤ 4611686018427387904 ∧ be z (num (b.take z)) = b.take z := by
  by_cases hl : z ≤ b.length
  · have e1 : tkR (z : Int) (0, b) = (0, b.drop z) := by unfold tkR; rw [if_pos ⟨by omega, by show (z : Int) ≤ (b.length : Int); omega⟩]; simp
    have e2 : tkV (z : Int) (0, b) = b.take z := by unfold tkV; rw [if_pos ⟨by omega, by show (z : Int) ≤ (b.length : Int); omega⟩]; simp
    unfold nmR at h ⊢
    unfold nmV
    simp only [e1, e2, if_true] at h ⊢
    by_cases hb : nbad (b.take z) m = true
    · rw [if_pos hb] at h; simp [flR] at h
    · rw [if_neg hb, if_neg hb]
      unfold nbad at hb
      simp only [Bool.or_eq_true, decide_eq_true_eq, not_or, Decidable.not_not] at hb
      obtain ⟨h1, h2⟩ := hb
      have h3 := getN_ok h1
      have hl2 : (b.take z).length = z := by rw [List.length_take]; omega
      have h4 : num (b.take z) ≤ 4611686018427387904 := by
        unfold getE at h1
        rw [hl2, if_neg (by omega), if_neg (by omega)] at h1
        split at h1
        · cases h1
        · omega
      refine ⟨rfl, hl, h3, by omega, h4, ?_⟩
      have := be_num (b.take z)
      rwa [hl2] at this
  · have e1 : (tkR (z : Int) (0, b)).1 = 10 := by unfold tkR; rw [if_neg (by intro hh; have := hh.2; simp at this; omega)]; rfl
    unfold nmR at h
    rw [e1, if_neg (by decide), e1] at h
    cases h
theorem by_back {m : Int} {b : List UInt8} (h : (byR m (0, b)).1 = 0) : ∃ n : Nat, n ≤ 65535 ∧ (n : Int) ≤ m ∧ (byV m (0, b)).length = n ∧ b = be 2 n ++ (byV m (0, b) ++ (byR m (0, b)).2) ∧ byR m (0, b) = (0, (byR m (0, b)).2) := by
  have h1 : (nmR 2 (mn m 65535) (0, b)).1 = 0 := Decidable.byContradiction fun hh => by
    have := tkR_err (nmV 2 (mn m 65535) (0, b)) _ hh
    exact this h
  obtain ⟨e1, e2, e3, e4, e5, e6⟩ := nm_back (z := 2) (by omega) h1
  have e7 : mn m 65535 ≤ m ∧ mn m 65535 ≤ 65535 := by unfold mn; split <;> omega
  unfold byR byV at *
  rw [show ((2 : Nat) : Int) = 2 from rfl] at e1 e3
  rw [e1, e3] at h ⊢
  by_cases hl : num (b.take 2) ≤ (b.drop 2).length
  · have e8 : tkR (num (b.take 2) : Int) (0, b.drop 2) = (0, (b.drop 2).drop (num (b.take 2))) := by unfold tkR; rw [if_pos ⟨by omega, by show (_ : Int) ≤ ((b.drop 2).length : Int); omega⟩]; simp
    have e9 : tkV (num (b.take 2) : Int) (0, b.drop 2) = (b.drop 2).take (num (b.take 2)) := by unfold tkV; rw [if_pos ⟨by omega, by show (_ : Int) ≤ ((b.drop 2).length : Int); omega⟩]; simp
    rw [e8, e9]
    refine ⟨num (b.take 2), by omega, by omega, by rw [List.length_take]; omega, ?_, rfl⟩
    rw [e6, List.take_append_drop, List.take_append_drop]
  · have e8 : (tkR (num (b.take 2) : Int) (0, b.drop 2)).1 = 10 := by unfold tkR; rw [if_neg (by intro hh; have := hh.2; simp at this; simp at hl; omega)]; rfl
    rw [e8] at h; cases h
end Go.Proofs.YtcjleeclpmgbjaaDoor
