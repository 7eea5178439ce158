/- The statement CodeLetters, told over lists. -/
import Derived.Test.YtcjleeclpmgbjaaE46H
import Derived.Test.YtcjleeclpmgbjaaE46G
import Derived.Test.YtcjleeclpmgbjaaPo
set_option linter.unusedVariables false
set_option linter.unusedSimpArgs false
namespace Go.Proofs.Ytcjleeclpmgbjaa
open Go.RowKit
theorem bD_at (x : Nat) : ∀ (n j : Nat), j < n → (bD x n)[j]? = some (x / 2 ^ (n - 1 - j) % 2)
  | n + 1, 0, _ => by rw [bD]; rfl
  | n + 1, j + 1, h => by
    rw [bD, List.getElem?_cons_succ, bD_at x n j (by omega), show n + 1 - 1 - (j + 1) = n - 1 - j by omega]
theorem rB2 (Fu : Nat) (X : List Nat) (p c : Nat) (hX : X.length ≤ 100000) (hp : p + 8 ≤ X.length) (hc : c < 256) (hat : ∀ j, j < 8 → X[p + j]? = some (c / 2 ^ (7 - j) % 2)) : ∀ (d j k : Nat), j + d = 8 → d < k →
    chatelaineref46_Bytes_l2 Fu (mI X) (p : Int) k ((c / 2 ^ (8 - j) : Nat) : Int) (j : Int) = some (c : Int) := by
  intro d
  induction d with
  | zero =>
    intro j k hj hk
    obtain ⟨k, rfl⟩ : ∃ m, k = m + 1 := ⟨k - 1, by omega⟩
    obtain rfl : j = 8 := by omega
    rw [chatelaineref46_Bytes_l2, if_neg (by omega)]; simp
  | succ d ih =>
    intro j k hj hk
    obtain ⟨k, rfl⟩ : ∃ m, k = m + 1 := ⟨k - 1, by omega⟩
    have hle := Nat.div_le_self c (2 ^ (8 - j))
    have hb := Nat.mod_lt (c / 2 ^ (7 - j)) (show 0 < 2 by omega)
    have e : 2 * (c / 2 ^ (8 - j)) + c / 2 ^ (7 - j) % 2 = c / 2 ^ (7 - j) := by
      rw [show 8 - j = (7 - j) + 1 by omega, Nat.pow_succ, ← Nat.div_div_eq_div_mul]; omega
    rw [chatelaineref46_Bytes_l2, if_pos (by omega), mI_len, w_id (by omega), show (p : Int) + (j : Int) = ((p + j : Nat) : Int) by omega, ix_nat (by omega)]
    simp only [Option.bind_some]
    rw [mI_at, hat j (by omega)]
    simp only [Option.map_some, Option.bind_some]
    rw [w_id (x := 2 * _) (by omega), w_id (by omega), w_id (by omega), show 2 * ((c / 2 ^ (8 - j) : Nat) : Int) + ((c / 2 ^ (7 - j) % 2 : Nat) : Int) = ((2 * (c / 2 ^ (8 - j)) + c / 2 ^ (7 - j) % 2 : Nat) : Int) by omega, e, show ((j : Int) + 1) = ((j + 1 : Nat) : Int) by omega, show 7 - j = 8 - (j + 1) by omega]
    exact ih (j + 1) k (by omega) (by omega)
theorem rB1 (Fu : Nat) (hF : 300 ≤ Fu) (X r : List Nat) (hr : r.length < 8) (hX : X.length ≤ 100000) : ∀ (out : List UInt8) (pre : List Nat) (acc : List UInt8) (k : Nat), X = pre ++ (bitsN out ++ r) → out.length < k → acc.length ≤ pre.length →
    chatelaineref46_Bytes_l1 Fu (mI X) k acc (pre.length : Int) = some (acc ++ out) := by
  intro out
  induction out with
  | nil =>
    intro pre acc k hx hk ha
    obtain ⟨k, rfl⟩ : ∃ m, k = m + 1 := ⟨k - 1, by omega⟩
    have hl := congrArg List.length hx
    simp only [bitsN, List.flatMap_nil, List.nil_append, List.length_append] at hl
    rw [chatelaineref46_Bytes_l1, mI_len, w_id (by omega), if_neg (by omega), List.append_nil]
  | cons c out ih =>
    intro pre acc k hx hk ha
    obtain ⟨k, rfl⟩ : ∃ m, k = m + 1 := ⟨k - 1, by omega⟩
    rw [bitsN_cons, List.append_assoc] at hx
    have hl := congrArg List.length hx
    simp only [List.length_append, bD_len] at hl
    have h2 := rB2 Fu X pre.length c.toNat hX (by omega) c.toNat_lt (fun j hj => by
      rw [hx, List.getElem?_append_right (by omega), Nat.add_sub_cancel_left, List.getElem?_append_left (by rw [bD_len]; omega), bD_at _ _ _ hj]) 8 0 Fu (by omega) (by omega)
    rw [show c.toNat / 2 ^ (8 - 0) = 0 from Nat.div_eq_of_lt c.toNat_lt] at h2
    rw [show ((0 : Nat) : Int) = 0 from rfl] at h2
    rw [chatelaineref46_Bytes_l1, mI_len, w_id (by omega), if_pos (by omega), h2]
    simp only [Option.bind_some]
    rw [i8_nat, UInt8.ofNat_toNat]
    have e1 : app 1 acc [c] = some (acc ++ [c]) := by unfold app; rw [if_pos (by unfold maxLen; simp; omega)]
    rw [e1]
    simp only [Option.bind_some]
    have := ih (pre ++ bD c.toNat 8) (acc ++ [c]) k (by rw [hx, List.append_assoc]) (by simp at hk; omega) (by simp [bD_len]; omega)
    rw [List.length_append, bD_len] at this
    rw [show (pre.length : Int) + 8 = ((pre.length + 8 : Nat) : Int) by omega, this, List.append_assoc]; rfl
theorem rBytes (Fu : Nat) (hF : 2000 ≤ Fu) (s : List UInt8) (hs : s.length ≤ 300) : chatelaineref46_Bytes Fu s = some (match numL s with | some K => if (ub 0 0 K).2.1 < 5 ∧ (ub 0 0 K).2.2 = 0 then ((ub 0 0 K).1, true) else ([], false) | none => ([], false)) := by
  have h := rB0 Fu s (by omega) s.length 0 Fu [] (by omega) (by omega) (by simp)
  rw [List.drop_zero, show mI [] = [] from rfl, show ((0 : Nat) : Int) = 0 from rfl] at h
  unfold chatelaineref46_Bytes
  rw [h]
  simp only [Option.bind_some]
  cases hn : numL s with
  | none => rfl
  | some K =>
    dsimp only
    rw [List.nil_append]
    obtain ⟨hK1, hK2⟩ := numL_al s K hn
    obtain ⟨h1, h2, h3⟩ := ub_bits K 0 0 (by omega) (by omega) hK2
    rw [show bD 0 0 = [] from rfl, List.nil_append] at h1
    have hKl : K.length = s.length := by rw [hK1, List.length_map]
    have hl := congrArg List.length h1
    rw [kB_len, List.length_append, bitsN_len, bD_len] at hl
    have hb1 := rB1 Fu (by omega) (kB K) (bD (ub 0 0 K).2.2 (ub 0 0 K).2.1) (by rw [bD_len]; exact h2) (by rw [kB_len]; omega) (ub 0 0 K).1 [] [] Fu (by rw [List.nil_append]; exact h1) (by omega) (by simp)
    rw [show (([] : List Nat).length : Int) = 0 from rfl] at hb1
    rw [hb1]
    simp only [Option.bind_some, List.nil_append]
    rw [rLetters Fu hF _ (by omega)]
    simp only [Option.bind_some]
    have hi := ub_iff K hK2
    rw [← hK1] at hi
    by_cases hc : (ub 0 0 K).2.1 < 5 ∧ (ub 0 0 K).2.2 = 0
    · rw [if_pos hc, if_neg (by simp [hi.2 hc])]
    · rw [if_neg hc, if_pos (by simp; exact fun e => hc (hi.1 e))]
theorem both (Fu : Nat) (hF : 2000 ≤ Fu) (s : List UInt8) (hs : s.length ≤ 300) : ∃ (x : List UInt8) (e : Int) (ok : Bool), code_Bytes Fu s = some (x, e) ∧ chatelaineref46_Bytes Fu s = some (x, ok) ∧ ((e = 0 ∧ ok = true) ∨ (e = 11 ∧ ok = false)) ∧ x.length < 1000 := by
  rw [cBytes Fu hF s (by omega), rBytes Fu hF s hs]
  cases hn : numL s with
  | none => exact ⟨[], 11, false, rfl, rfl, .inr ⟨rfl, rfl⟩, by simp⟩
  | some K =>
    dsimp only
    obtain ⟨hK1, hK2⟩ := numL_al s K hn
    obtain ⟨h1, h2, h3⟩ := ub_bits K 0 0 (by omega) (by omega) hK2
    rw [show bD 0 0 = [] from rfl, List.nil_append] at h1
    have hKl : K.length = s.length := by rw [hK1, List.length_map]
    have hl := congrArg List.length h1
    rw [kB_len, List.length_append, bitsN_len, bD_len] at hl
    by_cases hc : (ub 0 0 K).2.1 < 5 ∧ (ub 0 0 K).2.2 = 0
    · rw [if_pos hc, if_pos hc]; exact ⟨_, 0, true, rfl, rfl, .inl ⟨rfl, rfl⟩, by omega⟩
    · rw [if_neg hc, if_neg hc]; exact ⟨[], 11, false, rfl, rfl, .inr ⟨rfl, rfl⟩, by simp⟩
theorem letters_ok (Fu : Nat) (hA : chatelainelaw46_awake Fu = some true) (hF : 2000 ≤ Fu) (b s : List UInt8) (n : Int) : chatelainelaw46_CodeLetters Fu b s n = some true := by
  unfold chatelainelaw46_CodeLetters
  rw [hA]
  simp only [Option.bind_some, Bool.not_true, Bool.false_eq_true, if_false]
  by_cases hs : ((decide (200 < (b.length : Int))) || (decide (300 < (s.length : Int)))) = true
  · rw [if_pos hs]
  rw [if_neg hs]
  simp at hs
  obtain ⟨x, e, ok, h1, h2, h3, h4⟩ := both Fu hF s (by omega)
  rw [h1]
  simp only [Option.bind_some]
  rw [h2]
  simp only [Option.bind_some]
  rw [cLetters Fu (by omega) b (by omega)]
  simp only [Option.bind_some]
  rw [rLetters Fu hF b (by omega)]
  simp only [Option.bind_some]
  have hz : (((!(decide True)) || (!((decide (e = 0)) == ok))) || ((!ok) && (decide (e ≠ 11)))) = false := by
    rcases h3 with ⟨rfl, rfl⟩ | ⟨rfl, rfl⟩ <;> simp
  rw [hz, if_neg (by simp), same8 Fu x x (by omega) (by omega)]
  simp only [Option.bind_some, decide_true, Bool.not_true]
  rw [if_neg (by simp)]
  by_cases hn : n < 1
  · have hg : code_Groups Fu s n = some [] := by
      unfold code_Groups
      obtain ⟨F, rfl⟩ : ∃ F, Fu = F + 1 := ⟨Fu - 1, by omega⟩
      rw [code_Groups_l0, if_neg (by simp; omega)]; rfl
    rw [hg]
    simp only [Option.bind_some]
    rw [if_pos hn]; rfl
  · obtain ⟨m, hm1, hm2⟩ : ∃ m : Nat, 1 ≤ m ∧ ((n < 1000 ∧ n = (m : Int)) ∨ (1000 ≤ n ∧ m = 1000)) := by
      by_cases h : n < 1000
      · exact ⟨n.toNat, by omega, .inl ⟨h, by omega⟩⟩
      · exact ⟨1000, by omega, .inr ⟨by omega, rfl⟩⟩
    have hg : code_Groups Fu s n = some (chs m s.length s) := by
      unfold code_Groups
      rw [gL0 Fu m hm1 n hm2 s.length Fu s [] (Nat.le_refl _) (by omega) (by omega) (by simp; omega), List.nil_append]; rfl
    rw [hg]
    simp only [Option.bind_some]
    rw [if_neg hn]
    have hcl := chs_len m s.length s
    have hl := gLaw Fu m hm1 n hm2 (chs m s.length s) (by omega) s.length 0 Fu s [] (by rw [List.drop_zero]) (Nat.le_refl _) (by omega) (by omega) (by simp) (by omega)
    rw [show ((0 : Nat) : Int) = 0 from rfl] at hl
    rw [hl]
    simp
theorem chatelainelaw46_CodeLetters_true (a0 : List UInt8) (h0 : ∀ x ∈ a0, ty8.has x) (a1 : List UInt8) (h1 : a1.length ≤ maxLen) (a2 : Int) (h2 : r64 a2) : ∃ Fu, chatelainelaw46_CodeLetters Fu a0 a1 a2 = some true :=
  ⟨2000, letters_ok 2000 awake46 (by omega) a0 a1 a2⟩
end Go.Proofs.Ytcjleeclpmgbjaa
