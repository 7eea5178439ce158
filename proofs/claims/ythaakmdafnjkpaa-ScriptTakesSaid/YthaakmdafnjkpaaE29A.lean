/- Field writers and readers, the program's and the document's, told over lists; what is written is read. -/
import Derived.Test.YthaakmdafnjkpaaFi
import Derived.Test.YthaakmdafnjkpaaFr
import Derived.Test.YthaakmdafnjkpaaEb
import Derived.Test.YthaakmdafnjkpaaWq
set_option linter.unusedVariables false
set_option linter.unusedSimpArgs false
namespace Go.Proofs.Ythaakmdafnjkpaa
open Go.RowKit
abbrev FSt := Int × List UInt8
theorem app1_ok (l m : List UInt8) (h : l.length + m.length ≤ 100000000) : app 1 l m = some (l ++ m) := by
  unfold app; rw [if_pos (by unfold maxLen; omega)]
/-! writers -/
def wPut (s : FSt) (b : List UInt8) (e : Int) : FSt := if s.1 = 0 then (if e = 0 then (0, s.2 ++ b) else (2, s.2)) else s
def wNum (s : FSt) (n z : Int) : FSt := wPut s (putL n z) (putE n z)
def wByt (s : FSt) (b : List UInt8) : FSt := wPut (wNum s b.length 2) b 0
theorem wPut_len (s : FSt) (b : List UInt8) (e : Int) : (wPut s b e).2.length ≤ s.2.length + b.length := by
  unfold wPut; split <;> (try split) <;> simp
theorem putL_le (n z : Int) : (putL n z).length ≤ 8 := by
  cases h : mayPut n z with
  | true => rw [putL_good h, be_length]; have := (mayPut_iff n z).1 h; omega
  | false => rw [putL_bad h]; simp
theorem putE_zero (n z : Int) : (putE n z = 0 ∧ mayPut n z = true) ∨ (putE n z = 2 ∧ mayPut n z = false) := by
  cases h : mayPut n z with
  | true => exact .inl ⟨putE_good h, rfl⟩
  | false => exact .inr ⟨putE_bad h, rfl⟩
theorem wNum_len (s : FSt) (n z : Int) : (wNum s n z).2.length ≤ s.2.length + 8 := by
  have := wPut_len s (putL n z) (putE n z); have := putL_le n z; unfold wNum; omega
theorem pwPut (Fu : Nat) (s : FSt) (b : List UInt8) (e : Int) (h : s.2.length + b.length ≤ 100000000) : field_Writer_put Fu s b e = some (wPut s b e) := by
  obtain ⟨x, l⟩ := s
  have ha := app1_ok l b h
  unfold field_Writer_put field_state_fail_at0_field_Writer_0 field_state_good_at0_field_Writer_0 wPut
  by_cases hx : x = 0 <;> by_cases he : e = 0 <;> simp [hx, he, ha]
theorem pwNum (Fu : Nat) (hF : 20 ≤ Fu) (s : FSt) (n z : Int) (h : s.2.length ≤ 10000000) : field_Writer_Number Fu s n z = some (wNum s n z) := by
  unfold field_Writer_Number
  rw [pPut Fu hF]
  simp only [Option.bind_some]
  have := putL_le n z
  rw [pwPut Fu s _ _ (by omega)]; rfl
theorem pwByt (Fu : Nat) (hF : 20 ≤ Fu) (s : FSt) (b : List UInt8) (h : s.2.length ≤ 1000000) (hb : b.length ≤ 65535) : field_Writer_Bytes Fu s b = some (wByt s b) := by
  unfold field_Writer_Bytes
  rw [if_neg (by omega)]
  simp only [Option.bind_some]
  rw [show mn (b.length : Int) 65535 = b.length by rw [mn_min]; omega, pPut Fu hF]
  simp only [Option.bind_some]
  have := putL_le b.length 2
  have h2 := wNum_len s b.length 2
  rw [pwPut Fu s _ _ (by omega)]
  simp only [Option.bind_some]
  rw [pwPut Fu _ _ _ (by unfold wNum at h2; omega)]; rfl
theorem pwOut (Fu : Nat) (s : FSt) (h : s.2.length ≤ 10000000) : field_Writer_Out Fu s = some (if s.1 = 0 then (s.2, 0) else ([], s.1)) := by
  unfold field_Writer_Out field_state_good_fat0_field_Writer_0 slices_Clone___byte_byte
  simp only [Option.bind_some]
  rw [app1_ok [] s.2 (by simp; omega)]
  by_cases hx : s.1 = 0 <;> simp [hx]
def fl (s : FSt) : List UInt8 × Int := (s.2, s.1)
theorem rwNum (Fu : Nat) (hF : 20 ≤ Fu) (s : FSt) (n z : Int) (h : s.2.length ≤ 10000000) : chatelaineref12_Writer_Number Fu (fl s) n z = some (fl (wNum s n z)) := by
  obtain ⟨x, l⟩ := s
  have hp := putL_le n z
  have ha := app1_ok l (putL n z) (by dsimp only at h; omega)
  unfold chatelaineref12_Writer_Number fl wNum wPut
  rw [rPut Fu hF]
  simp only [Option.bind_some]
  rcases putE_zero n z with ⟨he, _⟩ | ⟨he, _⟩ <;> by_cases hx : x = 0 <;> simp [hx, he, ha]
theorem rwByt (Fu : Nat) (hF : 20 ≤ Fu) (s : FSt) (b : List UInt8) (h : s.2.length ≤ 1000000) (hb : b.length ≤ 65535) : chatelaineref12_Writer_Bytes Fu (fl s) b = some (fl (wByt s b)) := by
  unfold chatelaineref12_Writer_Bytes
  rw [if_neg (by simp; omega)]
  simp only [Option.bind_some]
  by_cases hx : s.1 = 0
  · rw [if_pos (show (fl s).2 = 0 from hx), rwNum Fu hF s _ _ (by omega)]
    simp only [Option.bind_some]
    have h2 := wNum_len s b.length 2
    unfold chatelaineref12_Writer_Fixed wByt
    generalize wNum s b.length 2 = q at *
    obtain ⟨y, l⟩ := q
    have ha := app1_ok l b (by dsimp only at h2; omega)
    unfold fl wPut
    by_cases hy : y = 0 <;> simp [hy, ha]
  · rw [if_neg (by exact hx)]
    unfold wByt wNum wPut fl
    simp [hx]
theorem wNum_good {n z : Int} (h : mayPut n z = true) (l : List UInt8) : wNum (0, l) n z = (0, l ++ be z.toNat n.toNat) := by
  unfold wNum wPut; rw [putE_good h, putL_good h]; rfl
theorem mayPut2 (n : Nat) (h : n ≤ 65535) : mayPut n 2 = true := (mayPut_iff n 2).2 ⟨by decide, by decide, by omega, by omega, .inr (by show (n : Int) < 65536; omega)⟩
theorem wByt_good {b : List UInt8} (h : b.length ≤ 65535) (l : List UInt8) : wByt (0, l) b = (0, l ++ (be 2 b.length ++ b)) := by
  unfold wByt; rw [wNum_good (mayPut2 _ h)]; unfold wPut; simp
/-! readers -/
def tkR (n : Int) (s : FSt) : FSt := if 0 ≤ n ∧ n ≤ s.2.length then (if s.1 = 0 then (0, s.2.drop n.toNat) else s) else (if s.1 = 0 then 10 else s.1, s.2)
def tkV (n : Int) (s : FSt) : List UInt8 := if 0 ≤ n ∧ n ≤ s.2.length then (if s.1 = 0 then s.2.take n.toNat else []) else []
def flR (e : Int) (s : FSt) : FSt := (if s.1 = 0 then e else s.1, s.2)
def nbad (l : List UInt8) (m : Int) : Bool := decide (getE l ≠ 0) || decide (m < getN l)
def nmR (z m : Int) (s : FSt) : FSt := if (tkR z s).1 = 0 then (if nbad (tkV z s) m = true then flR 11 (tkR z s) else tkR z s) else tkR z s
def nmV (z m : Int) (s : FSt) : Int := if (tkR z s).1 = 0 then (if nbad (tkV z s) m = true then 0 else getN (tkV z s)) else 0
def byR (m : Int) (s : FSt) : FSt := tkR (nmV 2 (mn m 65535) s) (nmR 2 (mn m 65535) s)
def byV (m : Int) (s : FSt) : List UInt8 := tkV (nmV 2 (mn m 65535) s) (nmR 2 (mn m 65535) s)
def pr (s : FSt) : Int × List UInt8 × Bool := (s.1, s.2, true)
theorem getN_nn (l : List UInt8) : 0 ≤ getN l := by unfold getN; split <;> omega
theorem nmV_nn (z m : Int) (s : FSt) : 0 ≤ nmV z m s := by unfold nmV; have := getN_nn (tkV z s); split <;> (try split) <;> omega
theorem tkR_len (n : Int) (s : FSt) : (tkR n s).2.length ≤ s.2.length := by unfold tkR; split <;> (try split) <;> simp
theorem tkV_len (n : Int) (s : FSt) : (tkV n s).length ≤ s.2.length := by unfold tkV; split <;> (try split) <;> simp; omega
theorem nmR_len (z m : Int) (s : FSt) : (nmR z m s).2.length ≤ s.2.length := by
  have := tkR_len z s; unfold nmR flR; split <;> (try split) <;> simpa using this
theorem byR_len (m : Int) (s : FSt) : (byR m s).2.length ≤ s.2.length := Nat.le_trans (tkR_len _ _) (nmR_len _ _ _)
theorem byV_len (m : Int) (s : FSt) : (byV m s).length ≤ s.2.length := Nat.le_trans (tkV_len _ _) (nmR_len _ _ _)
theorem cut_pl (Fu : Nat) (b : List UInt8) (n : Int) : word_Cut Fu b n = some (if 0 ≤ n ∧ n ≤ b.length then (b.take n.toNat, b.drop n.toNat, true) else ([], [], false)) := by
  unfold word_Cut
  by_cases h : 0 ≤ n ∧ n ≤ b.length
  · rw [if_neg (by simp; omega), if_pos h]
    have e1 : sub b 0 n = some (b.take n.toNat) := by unfold sub; rw [if_pos (by omega)]; simp
    have e2 : sub b n b.length = some (b.drop n.toNat) := by unfold sub; rw [if_pos (by omega)]; simp
    rw [e1, e2]; rfl
  · rw [if_pos (by simp; omega), if_neg h]
theorem prTake (Fu : Nat) (s : FSt) (n : Int) : field_Reader_take Fu (pr s) n = some (tkV n s, pr (tkR n s)) := by
  obtain ⟨e, b⟩ := s
  unfold field_Reader_take field_state_fail_at0_field_Reader_0 field_state_good_at0_field_Reader_0 pr
  rw [cut_pl]
  simp only [Option.bind_some]
  unfold tkV tkR
  by_cases h : 0 ≤ n ∧ n ≤ b.length <;> by_cases he : e = 0 <;> simp [h, he]
theorem prNum (Fu : Nat) (hF : 20 ≤ Fu) (s : FSt) (z m : Int) (hz : 1 ≤ z ∧ z ≤ 8) : field_Reader_Number Fu (pr s) z m = some (nmV z m s, pr (nmR z m s)) := by
  unfold field_Reader_Number field_Reader_made
  rw [show (pr s).2.2 = true from rfl]
  simp only [Option.bind_some, Bool.not_true, Bool.false_eq_true, if_false]
  rw [if_neg (by simp; omega)]
  simp only [Option.bind_some]
  rw [prTake]
  simp only [Option.bind_some]
  unfold field_state_good_at0_field_Reader_0
  simp only [Option.bind_some]
  unfold nmV nmR
  rw [pGet Fu hF]
  simp only [Option.bind_some]
  by_cases h : (tkR z s).1 = 0
  · rw [show (pr (tkR z s)).1 = 0 from h, if_pos h, if_pos h]
    simp only [decide_true, Bool.not_true, Bool.false_eq_true, if_false]
    by_cases hb : nbad (tkV z s) m = true
    · rw [if_pos hb, if_pos hb, if_pos (by unfold nbad at hb; exact hb)]
      unfold field_state_fail_at0_field_Reader_0 flR pr
      simp [h]
    · rw [if_neg hb, if_neg hb, if_neg (by unfold nbad at hb; exact hb)]
  · rw [if_neg h, if_neg h, show (pr (tkR z s)).1 = (tkR z s).1 from rfl]
    simp [h]
theorem prByt (Fu : Nat) (hF : 20 ≤ Fu) (s : FSt) (m : Int) (hl : s.2.length ≤ 1000000) : field_Reader_Bytes Fu (pr s) m = some (byV m s, pr (byR m s)) := by
  unfold field_Reader_Bytes field_Reader_made
  rw [show (pr s).2.2 = true from rfl]
  simp only [Option.bind_some, Bool.not_true, Bool.false_eq_true, if_false]
  rw [prNum Fu hF s _ _ (by omega)]
  simp only [Option.bind_some]
  unfold field_Reader_Fixed field_Reader_made
  rw [show (pr (nmR 2 (mn m 65535) s)).2.2 = true from rfl]
  simp only [Option.bind_some, Bool.not_true, Bool.false_eq_true, if_false]
  have := nmV_nn 2 (mn m 65535) s
  rw [if_neg (by omega)]
  simp only [Option.bind_some]
  rw [prTake]
  simp only [Option.bind_some]
  unfold slices_Clone___byte_byte
  have h1 := tkV_len (nmV 2 (mn m 65535) s) (nmR 2 (mn m 65535) s)
  have h2 := nmR_len 2 (mn m 65535) s
  rw [app1_ok [] _ (by simp; omega)]; rfl
theorem prDone (Fu : Nat) (s : FSt) : field_Reader_Done Fu (pr s) = some (if s.1 = 0 then (if 0 < s.2.length then 13 else 0) else s.1) := by
  unfold field_Reader_Done field_Reader_made field_state_good_fat0_field_Reader_0 pr
  by_cases h : s.1 = 0 <;> by_cases h2 : 0 < s.2.length <;> simp [h, h2]
theorem rrTake (Fu : Nat) (s : FSt) (n : Int) (hn : 0 ≤ n) : chatelaineref12_Reader_Fixed Fu (fl s) n = some (tkV n s, fl (tkR n s)) := by
  obtain ⟨e, b⟩ := s
  unfold chatelaineref12_Reader_Fixed chatelaineref12_Reader_fail fl
  rw [if_neg (by omega)]
  dsimp only
  unfold tkV tkR
  by_cases h : n ≤ b.length
  · have e1 : sub b 0 n = some (b.take n.toNat) := by unfold sub; rw [if_pos (by omega)]; simp
    have e2 : sub b n b.length = some (b.drop n.toNat) := by unfold sub; rw [if_pos (by omega)]; simp
    rw [if_neg (by omega)]
    by_cases he : e = 0 <;> simp [h, hn, he, e1, e2]
  · rw [if_pos (by omega)]
    by_cases he : e = 0 <;> simp [h, hn, he]
theorem rrNum (Fu : Nat) (hF : 20 ≤ Fu) (s : FSt) (z m : Int) (hz : 1 ≤ z ∧ z ≤ 8) : chatelaineref12_Reader_Number Fu (fl s) z m = some (nmV z m s, fl (nmR z m s)) := by
  unfold chatelaineref12_Reader_Number
  rw [if_neg (by simp; omega)]
  simp only [Option.bind_some]
  rw [rrTake Fu s z (by omega)]
  simp only [Option.bind_some]
  unfold nmV nmR
  rw [rGet Fu hF]
  simp only [Option.bind_some]
  by_cases h : (tkR z s).1 = 0
  · rw [if_neg (by show ¬ (tkR z s).1 ≠ 0; simp [h]), if_pos h, if_pos h]
    by_cases hb : nbad (tkV z s) m = true
    · rw [if_pos hb, if_pos hb, if_pos (by unfold nbad at hb; exact hb)]
      unfold chatelaineref12_Reader_fail flR fl
      simp [h]
    · rw [if_neg hb, if_neg hb, if_neg (by unfold nbad at hb; exact hb)]
  · rw [if_neg h, if_neg h, if_pos (by exact h)]
theorem rrByt (Fu : Nat) (hF : 20 ≤ Fu) (s : FSt) (m : Int) : chatelaineref12_Reader_Bytes Fu (fl s) m = some (byV m s, fl (byR m s)) := by
  unfold chatelaineref12_Reader_Bytes
  have e : (if 65535 < m then some (65535 : Int) else some m) = some (mn m 65535) := by rw [mn_min]; split <;> (congr 1; omega)
  rw [e]
  simp only [Option.bind_some]
  rw [rrNum Fu hF s _ _ (by omega)]
  simp only [Option.bind_some]
  rw [rrTake Fu _ _ (nmV_nn _ _ _)]; rfl
theorem rrDone (Fu : Nat) (s : FSt) : chatelaineref12_Reader_Done Fu (fl s) = some (if s.1 = 0 then (if 0 < s.2.length then 13 else 0) else s.1) := by
  unfold chatelaineref12_Reader_Done fl
  by_cases h : s.1 = 0 <;> by_cases h2 : 0 < s.2.length <;> simp [h, h2]
/-! what is written is read -/
theorem tk_good (b r : List UInt8) (n : Int) (hn : n = b.length) : tkR n (0, b ++ r) = (0, r) ∧ tkV n (0, b ++ r) = b := by
  subst hn
  unfold tkR tkV
  have : (0 : Int) ≤ b.length ∧ (b.length : Int) ≤ (b ++ r).length := by rw [List.length_append]; omega
  rw [if_pos this, if_pos this]
  simp
theorem nm_good {n z : Int} (h : mayPut n z = true) (r : List UInt8) (m : Int) (hm : n ≤ m) : nmR z m (0, be z.toNat n.toNat ++ r) = (0, r) ∧ nmV z m (0, be z.toNat n.toNat ++ r) = n := by
  obtain ⟨h1, h2, h3, h4, h5⟩ := (mayPut_iff n z).1 h
  obtain ⟨t1, t2⟩ := tk_good (be z.toNat n.toNat) r z (by rw [be_length]; omega)
  have hn := num_be z.toNat n.toNat (mayPut_lt h)
  have e1 : getE (be z.toNat n.toNat) = 0 := getE_ok (by rw [be_length]; omega) (by rw [be_length]; omega) (by rw [hn]; omega)
  have e2 : getN (be z.toNat n.toNat) = n := by rw [getN_ok e1, hn]; omega
  have hb : nbad (be z.toNat n.toNat) m = false := by unfold nbad; rw [e1, e2]; simp; omega
  unfold nmR nmV
  rw [t1, t2, hb, e2]
  simp
theorem by_good (b r : List UInt8) (m : Int) (h : b.length ≤ 65535) (hm : (b.length : Int) ≤ m) : byR m (0, be 2 b.length ++ b ++ r) = (0, r) ∧ byV m (0, be 2 b.length ++ b ++ r) = b := by
  obtain ⟨h1, h2⟩ := nm_good (mayPut2 b.length h) (b ++ r) (mn m 65535) (by rw [mn_min]; omega)
  have e2 : be (2 : Int).toNat (b.length : Int).toNat = be 2 b.length := rfl
  rw [e2, ← List.append_assoc] at h1 h2
  unfold byR byV
  rw [h1, h2]
  exact tk_good b r _ rfl
/-! lists of bytes that are the same -/
theorem same8_l0 (Fu : Nat) (a b : List UInt8) (ha : a.length < 1000000) (hab : a.length = b.length) : ∀ (d k i : Nat), i + d = a.length → d < k → chatelaineref01_Same_l0 Fu a b k i = some (if a.drop i = b.drop i then .inr () else .inl false) := by
  intro d
  induction d with
  | zero =>
    intro k i hi hk
    obtain ⟨k, rfl⟩ : ∃ m, k = m + 1 := ⟨k - 1, by omega⟩
    rw [chatelaineref01_Same_l0, if_neg (by omega), List.drop_of_length_le (by omega), List.drop_of_length_le (by omega), if_pos rfl]
  | succ d ih =>
    intro k i hi hk
    obtain ⟨k, rfl⟩ : ∃ m, k = m + 1 := ⟨k - 1, by omega⟩
    rw [chatelaineref01_Same_l0, if_pos (by omega), idx_nat, idx_nat, List.getElem?_eq_getElem (show i < a.length by omega), List.getElem?_eq_getElem (show i < b.length by omega)]
    simp only [Option.bind_some]
    rw [List.drop_eq_getElem_cons (show i < a.length by omega), List.drop_eq_getElem_cons (show i < b.length by omega)]
    have hw : w64 ((i : Int) + 1) = ((i + 1 : Nat) : Int) := by rw [v_id (by omega)]; omega
    by_cases h : a[i]'(by omega) = b[i]'(by omega)
    · rw [if_neg (by rw [h]; simp), hw, ih k (i + 1) (by omega) (by omega)]
      simp only [h, List.cons.injEq, true_and]
    · rw [if_pos (fun e => h (UInt8.toNat_inj.1 (by omega))), if_neg (by simp only [List.cons.injEq, h, false_and, not_false_eq_true])]
theorem same8 (Fu : Nat) (a b : List UInt8) (h : a.length < Fu) (ha : a.length < 1000000) : chatelaineref01_Same Fu a b = some (decide (a = b)) := by
  unfold chatelaineref01_Same
  by_cases hl : a.length = b.length
  · rw [if_neg (by omega)]
    have := same8_l0 Fu a b ha hl a.length Fu 0 (by omega) h
    rw [show ((0 : Nat) : Int) = 0 from rfl] at this
    rw [this]
    by_cases e : a = b <;> simp [e]
  · rw [if_pos (by omega), show decide (a = b) = false from decide_eq_false (fun e => hl (by rw [e]))]
end Go.Proofs.Ythaakmdafnjkpaa
