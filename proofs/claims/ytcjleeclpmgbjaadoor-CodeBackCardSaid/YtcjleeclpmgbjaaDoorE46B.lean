/- Texts put together. -/
import Derived.Test.YtcjleeclpmgbjaaDoorCc
import Derived.Test.YtcjleeclpmgbjaaDoorEb
set_option linter.unusedVariables false
set_option linter.unusedSimpArgs false
namespace Go.Proofs.YtcjleeclpmgbjaaDoor
open Go.RowKit
section
section

end
section
abbrev AL : List UInt8 := [97, 98, 99, 100, 101, 102, 103, 104, 105, 106, 107, 108, 109, 110, 111, 112, 113, 114, 115, 116, 117, 118, 119, 120, 121, 122, 50, 51, 52, 53, 54, 55]
def al (k : Nat) : UInt8 := AL.getD k 0
theorem idxAL {k : Nat} (h : k < 32) : idx AL (k : Int) = some (al k) := by
  have : ∀ k : Fin 32, idx AL (k.val : Int) = some (al k.val) := by decide +kernel
  exact this ⟨k, h⟩
theorem or_all : ∀ v : Fin 16, ∀ c : Fin 256, i64_or (i64_shl (v.val : Int) 8) (c.val : Int) = ((v.val * 256 + c.val : Nat) : Int) := by decide +kernel
theorem orB {v : Nat} (hv : v < 16) (c : UInt8) : i64_or (i64_shl (v : Int) 8) (c.toNat : Int) = ((v * 256 + c.toNat : Nat) : Int) := or_all ⟨v, hv⟩ ⟨c.toNat, c.toNat_lt⟩
theorem w_id {x : Int} (h : -1000000000000 ≤ x ∧ x ≤ 1000000000000) : w64 x = x := w64_of (by omega)
theorem u_nat {n : Nat} (h : n < 100) : (u64I (n : Int)).toNat = n := by
  unfold u64I
  rw [UInt64.toNat_ofNat']; omega
theorem shrN (x n : Nat) (h : n ≤ 64) : i64_shr (x : Int) n = ((x / 2 ^ n : Nat) : Int) := by
  unfold i64_shr
  rw [Nat.min_eq_left h]
  norm_cast
theorem pow_le (n : Nat) (h : n ≤ 12) : 2 ^ n ≤ 4096 := Nat.pow_le_pow_right (by omega) (show n ≤ 12 from h)
theorem pow_pos2 (n : Nat) : 0 < 2 ^ n := Nat.pow_pos (by omega)
theorem shlN (x n : Nat) (h : n ≤ 12) (hx : x ≤ 4096) : i64_shl (x : Int) n = ((x * 2 ^ n : Nat) : Int) := by
  unfold i64_shl
  rw [Nat.min_eq_left (by omega)]
  have h1 := pow_le n h
  have h2 : x * 2 ^ n ≤ 4096 * 4096 := Nat.mul_le_mul hx h1
  have e : (x : Int) * 2 ^ n = ((x * 2 ^ n : Nat) : Int) := by norm_cast
  rw [e, w_id (by omega)]
theorem and31 (x : Nat) (h : x < 1000000) : i64_and (x : Int) 31 = ((x % 32 : Nat) : Int) := by
  have := i64_and_nat x 31 (by omega) (by omega)
  rw [show ((31 : Nat) : Int) = 31 from rfl] at this
  rw [this, show (31 : Nat) = 2 ^ 5 - 1 from rfl, Nat.and_two_pow_sub_one_eq_mod]
theorem maskN (x n : Nat) (hx : x < 1000000) (hn : n ≤ 12) : i64_and (x : Int) (w64 ((i64_shl 1 ((u64I (n : Int)).toNat)) - 1)) = ((x % 2 ^ n : Nat) : Int) := by
  have h1 := pow_le n hn
  have h2 := pow_pos2 n
  have e := shlN 1 n hn (by omega)
  rw [show ((1 : Nat) : Int) = 1 from rfl, Nat.one_mul] at e
  rw [u_nat (by omega), e, w_id (by omega), show ((2 ^ n : Nat) : Int) - 1 = ((2 ^ n - 1 : Nat) : Int) by omega, i64_and_nat _ _ (by omega) (by omega), Nat.and_two_pow_sub_one_eq_mod]
/-- a byte more: letters, how many bits are left, and these -/
def nx (n v c : Nat) : List UInt8 × Nat × Nat :=
  if n < 2 then ([al ((v * 256 + c) / 2 ^ (n + 3) % 32)], n + 3, (v * 256 + c) % 2 ^ (n + 3))
  else ([al ((v * 256 + c) / 2 ^ (n + 3) % 32), al ((v * 256 + c) / 2 ^ (n - 2) % 32)], n - 2, (v * 256 + c) % 2 ^ (n - 2))
def sp : Nat → Nat → List UInt8 → List UInt8
  | n, v, [] => if 0 < n then [al (v * 2 ^ (5 - n) % 32)] else []
  | n, v, c :: cs => (nx n v c.toNat).1 ++ sp (nx n v c.toNat).2.1 (nx n v c.toNat).2.2 cs
theorem sp_cons (n v : Nat) (c : UInt8) (cs : List UInt8) : sp n v (c :: cs) = (nx n v c.toNat).1 ++ sp (nx n v c.toNat).2.1 (nx n v c.toNat).2.2 cs := by rw [sp]
theorem nx_n (n v c : Nat) (h : n < 5) : (nx n v c).2.1 < 5 ∧ (nx n v c).2.2 < 2 ^ (nx n v c).2.1 ∧ (nx n v c).1.length ≤ 2 := by
  unfold nx
  split
  · exact ⟨by dsimp only; omega, Nat.mod_lt _ (pow_pos2 _), by simp⟩
  · exact ⟨by dsimp only; omega, Nat.mod_lt _ (pow_pos2 _), by simp⟩
theorem v16 {n v : Nat} (h : n < 5) (hv : v < 2 ^ n) : v < 16 := Nat.lt_of_lt_of_le hv (Nat.pow_le_pow_right (by omega) (show n ≤ 4 by omega))
theorem sp_len : ∀ (l : List UInt8) (n v : Nat), n < 5 → (sp n v l).length ≤ 2 * l.length + 1
  | [], n, v, _ => by rw [sp]; split <;> simp
  | c :: cs, n, v, h => by
    have := nx_n n v c.toNat h
    have ih := sp_len cs (nx n v c.toNat).2.1 (nx n v c.toNat).2.2 this.1
    rw [sp, List.length_append, List.length_cons]
    omega
theorem wByte (Fu : Nat) (b : Bool) (acc : List UInt8) (x : UInt8) (h : acc.length < 1000000) : strings_Builder_WriteByte Fu (b, acc) x = some (true, acc ++ [x]) := by
  unfold strings_Builder_WriteByte strings_Builder_copyCheck
  simp only [Option.bind_some]
  unfold app
  rw [if_pos (by unfold maxLen; simp; omega)]; rfl
theorem lL1 (Fu : Nat) {n v : Nat} (hn : n < 5) (hv : v < 2 ^ n) (c : UInt8) (k : Nat) (hk : 3 ≤ k) (b : Bool) (acc : List UInt8) (ha : acc.length < 100000) :
    code_Letters_l1 Fu (v : Int) c k ((n + 8 : Nat) : Int) (b, acc) = some (((nx n v c.toNat).2.1 : Int), (true, acc ++ (nx n v c.toNat).1)) := by
  obtain ⟨k, rfl⟩ : ∃ m, k = m + 3 := ⟨k - 3, by omega⟩
  have hc := c.toNat_lt
  have h16 := v16 hn hv
  rw [code_Letters_l1, if_pos (by omega), orB h16, w_id (by omega), show ((n + 8 : Nat) : Int) - 5 = ((n + 3 : Nat) : Int) by omega, u_nat (by omega), shrN _ _ (by omega), and31 _ (Nat.lt_of_le_of_lt (Nat.div_le_self _ _) (by omega)), idxAL (Nat.mod_lt _ (by omega))]
  simp only [Option.bind_some]
  rw [wByte _ _ _ _ (by omega)]
  simp only [Option.bind_some]
  unfold nx
  by_cases h2 : n < 2
  · rw [if_pos h2, code_Letters_l1, if_neg (by omega)]
  · rw [if_neg h2, code_Letters_l1, if_pos (by omega), orB h16, w_id (by omega), show ((n + 3 : Nat) : Int) - 5 = ((n - 2 : Nat) : Int) by omega, u_nat (by omega), shrN _ _ (by omega), and31 _ (Nat.lt_of_le_of_lt (Nat.div_le_self _ _) (by omega)), idxAL (Nat.mod_lt _ (by omega))]
    simp only [Option.bind_some]
    rw [wByte _ _ _ _ (by simp; omega)]
    simp only [Option.bind_some]
    rw [code_Letters_l1, if_neg (by omega)]
    simp
theorem lL0 (Fu : Nat) (hF : 300 ≤ Fu) (l : List UInt8) (hl : l.length ≤ 1000) : ∀ (d i k n v : Nat) (b : Bool) (acc : List UInt8), i + d = l.length → d < k → n < 5 → v < 2 ^ n → acc.length ≤ 2 * i →
    ∃ (n' v' : Nat) (b' : Bool), n' < 5 ∧ v' < 2 ^ n' ∧ code_Letters_l0 Fu l k (v : Int) (n : Int) (i : Int) (b, acc) = some ((v' : Int), (n' : Int), (b', acc ++ ((sp n v (l.drop i)).take ((sp n v (l.drop i)).length - (sp n' v' []).length)))) ∧ sp n v (l.drop i) = (sp n v (l.drop i)).take ((sp n v (l.drop i)).length - (sp n' v' []).length) ++ sp n' v' [] := by
  intro d
  induction d with
  | zero =>
    intro i k n v b acc hi hk hn hv ha
    obtain ⟨k, rfl⟩ : ∃ m, k = m + 1 := ⟨k - 1, by omega⟩
    refine ⟨n, v, b, hn, hv, ?_, ?_⟩
    · rw [code_Letters_l0, if_neg (by omega), List.drop_of_length_le (by omega)]; simp
    · rw [List.drop_of_length_le (by omega)]; simp
  | succ d ih =>
    intro i k n v b acc hi hk hn hv ha
    obtain ⟨k, rfl⟩ : ∃ m, k = m + 1 := ⟨k - 1, by omega⟩
    have hlt : i < l.length := by omega
    have hx := nx_n n v l[i].toNat hn
    have h16 := v16 hn hv
    have hc := l[i].toNat_lt
    obtain ⟨n', v', b', h1, h2, h3, h4⟩ := ih (i + 1) k (nx n v l[i].toNat).2.1 (nx n v l[i].toNat).2.2 true (acc ++ (nx n v l[i].toNat).1) (by omega) (by omega) hx.1 hx.2.1 (by simp; omega)
    refine ⟨n', v', b', h1, h2, ?_, ?_⟩
    · rw [code_Letters_l0, if_pos (by omega), idx_nat, List.getElem?_eq_getElem hlt]
      simp only [Option.bind_some]
      rw [w_id (by omega), show ((n : Int) + 8) = ((n + 8 : Nat) : Int) by omega, lL1 Fu hn hv l[i] Fu (by omega) b acc (by omega)]
      simp only [Option.bind_some]
      rw [orB h16, maskN _ _ (by omega) (by omega), w_id (by omega), show ((i : Int) + 1) = ((i + 1 : Nat) : Int) by omega]
      have e : (v * 256 + l[i].toNat) % 2 ^ (nx n v l[i].toNat).2.1 = (nx n v l[i].toNat).2.2 := by unfold nx; split <;> rfl
      rw [e, h3, List.drop_eq_getElem_cons hlt, sp_cons]
      generalize sp (nx n v l[i].toNat).2.1 (nx n v l[i].toNat).2.2 (l.drop (i + 1)) = R at h4 ⊢
      have hR : (sp n' v' []).length ≤ R.length := by rw [h4]; simp
      rw [List.append_assoc, List.length_append, Nat.add_sub_assoc hR, List.take_length_add_append]
    · rw [List.drop_eq_getElem_cons hlt, sp_cons]
      generalize sp (nx n v l[i].toNat).2.1 (nx n v l[i].toNat).2.2 (l.drop (i + 1)) = R at h4 ⊢
      have hR : (sp n' v' []).length ≤ R.length := by rw [h4]; simp
      rw [List.length_append, Nat.add_sub_assoc hR, List.take_length_add_append, List.append_assoc, ← h4]
theorem cLetters (Fu : Nat) (hF : 300 ≤ Fu) (l : List UInt8) (hl : l.length < 300) : code_Letters Fu l = some (sp 0 0 l) := by
  obtain ⟨n', v', b', h1, h2, h3, h4⟩ := lL0 Fu hF l (by omega) l.length 0 Fu 0 0 false [] (by omega) (by omega) (by omega) (by simp) (by simp)
  rw [List.drop_zero] at h3 h4
  have hlen := sp_len l 0 0 (by omega)
  rw [show ((0 : Nat) : Int) = 0 from rfl] at h3
  unfold code_Letters
  rw [h3]
  simp only [Option.bind_some, List.nil_append]
  by_cases hz : 0 < n'
  · rw [if_pos (by omega), w_id (by omega), show (5 : Int) - (n' : Int) = ((5 - n' : Nat) : Int) by omega, u_nat (by omega), shlN _ _ (by omega) (by have := v16 h1 h2; omega)]
    have hp : v' * 2 ^ (5 - n') < 1000000 := by
      have a1 := v16 h1 h2
      have a2 := pow_le (5 - n') (by omega)
      have : v' * 2 ^ (5 - n') ≤ 16 * 4096 := Nat.mul_le_mul (by omega) a2
      omega
    rw [and31 _ hp, idxAL (Nat.mod_lt _ (by omega))]
    simp only [Option.bind_some]
    rw [wByte _ _ _ _ (by simp; omega)]
    simp only [Option.bind_some]
    unfold strings_Builder_String
    simp only [Option.bind_some]
    rw [sp, if_pos hz] at h4
    rw [sp, if_pos hz, ← h4]
  · rw [if_neg (by omega)]
    simp only [Option.bind_some]
    unfold strings_Builder_String
    simp only [Option.bind_some]
    rw [sp, if_neg hz, List.append_nil] at h4
    rw [sp, if_neg hz, ← h4]
end
end
section
/-- the n low bits, the highest first -/
def bD (x : Nat) : Nat → List Nat
  | 0 => []
  | n + 1 => x / 2 ^ n % 2 :: bD x n
theorem bD_len (x n : Nat) : (bD x n).length = n := by
  induction n with
  | zero => rfl
  | succ n ih => rw [bD, List.length_cons, ih]
theorem bD_app (x a b : Nat) : bD x (a + b) = bD (x / 2 ^ b) a ++ bD x b := by
  induction a with
  | zero => rw [Nat.zero_add]; rfl
  | succ a ih =>
    rw [show a + 1 + b = (a + b) + 1 by omega, bD, bD, ih, List.cons_append, Nat.div_div_eq_div_mul, ← Nat.pow_add, Nat.add_comm b a]
theorem bD_mod (x a b : Nat) (h : a ≤ b) : bD (x % 2 ^ b) a = bD x a := by
  induction a with
  | zero => rfl
  | succ a ih =>
    rw [bD, bD, ih (by omega)]
    congr 1
    obtain ⟨e, rfl⟩ : ∃ e, b = a + (1 + e) := ⟨b - (a + 1), by omega⟩
    rw [Nat.pow_add, Nat.mod_mul_right_div_self, Nat.mod_mod_of_dvd _ (show 2 ∣ 2 ^ (1 + e) from ⟨2 ^ e, by rw [Nat.pow_add]⟩)]
def enc : List Nat → List UInt8
  | a :: b :: c :: d :: e :: r => al (16 * a + 8 * b + 4 * c + 2 * d + e) :: enc r
  | _ => []
def pad (l : List Nat) : List Nat := l ++ List.replicate ((5 - l.length % 5) % 5) 0
theorem bD5 (y : Nat) : 16 * (y / 2 ^ 4 % 2) + 8 * (y / 2 ^ 3 % 2) + 4 * (y / 2 ^ 2 % 2) + 2 * (y / 2 ^ 1 % 2) + y / 2 ^ 0 % 2 = y % 32 := by omega
theorem enc_bD (y : Nat) (r : List Nat) : enc (bD y 5 ++ r) = al (y % 32) :: enc r := by
  simp only [bD, List.cons_append, List.nil_append]
  rw [enc, bD5]
theorem pad_bD (y : Nat) (r : List Nat) : pad (bD y 5 ++ r) = bD y 5 ++ pad r := by
  unfold pad
  rw [List.length_append, bD_len, Nat.add_mod_left, List.append_assoc]
theorem sp_nil_all : ∀ n : Fin 5, ∀ v : Fin 16, v.val < 2 ^ n.val → enc (pad (bD v.val n.val)) = sp n.val v.val [] := by decide +kernel
def bitsN (l : List UInt8) : List Nat := l.flatMap fun c => bD c.toNat 8
theorem enc_sp : ∀ (l : List UInt8) (n v : Nat), n < 5 → v < 2 ^ n → enc (pad (bD v n ++ bitsN l)) = sp n v l
  | [], n, v, hn, hv => by
    have := sp_nil_all ⟨n, hn⟩ ⟨v, v16 hn hv⟩ hv
    simpa [bitsN] using this
  | c :: cs, n, v, hn, hv => by
    have hc := c.toNat_lt
    have hx := nx_n n v c.toNat hn
    have ih := enc_sp cs (nx n v c.toNat).2.1 (nx n v c.toNat).2.2 hx.1 hx.2.1
    have e1 : bD v n ++ bD c.toNat 8 = bD (v * 256 + c.toNat) (n + 8) := by
      rw [bD_app]
      congr 1
      · rw [show (2 : Nat) ^ 8 = 256 from rfl]; congr 1; omega
      · rw [← bD_mod (v * 256 + c.toNat) 8 8 (Nat.le_refl _)]
        congr 1
        rw [show (2 : Nat) ^ 8 = 256 from rfl]; omega
    have e2 : bD v n ++ bitsN (c :: cs) = bD (v * 256 + c.toNat) (n + 8) ++ bitsN cs := by
      rw [← e1, List.append_assoc]; rfl
    rw [sp_cons, ← ih, e2]
    unfold nx
    split
    · dsimp only
      rw [bD_mod _ _ _ (Nat.le_refl _), show n + 8 = 5 + (n + 3) by omega, bD_app, List.append_assoc, pad_bD, enc_bD]
      rfl
    · dsimp only
      rw [bD_mod _ _ _ (Nat.le_refl _), show n + 8 = 5 + (n + 3) by omega, bD_app, List.append_assoc, pad_bD, enc_bD]
      rw [show bD (v * 256 + c.toNat) (n + 3) = bD (v * 256 + c.toNat) (5 + (n - 2)) by congr 1; omega, bD_app, List.append_assoc, pad_bD, enc_bD]
      rfl
end
end Go.Proofs.YtcjleeclpmgbjaaDoor
