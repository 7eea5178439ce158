/- Blocks, enciphered and deciphered, round by round; the words of a key. -/
import Derived.Test.YthaoiajbgadcjaaE04A
set_option linter.unusedVariables false
set_option linter.unusedSimpArgs false
namespace Go.Proofs.Ythaoiajbgadcjaa
open Go.RowKit
def stepE (ws : List UInt32) (n j : Nat) (s : List UInt8) : List UInt8 := ad (if j < n then mixS (sw bx 1 s) else sw bx 1 s) (rk ws j)
def stepD (ws : List UInt32) (n j : Nat) (s : List UInt8) : List UInt8 := sw bk 3 (if j < n then mixS (preS (ad s (rk ws j))) else ad s (rk ws j))
def encN (ws : List UInt32) (n : Nat) : Nat → List UInt8 → List UInt8
  | 0, s => s
  | j + 1, s => stepE ws n (j + 1) (encN ws n j s)
def decN (ws : List UInt32) (n : Nat) : Nat → List UInt8 → List UInt8
  | 0, s => s
  | j + 1, s => decN ws n j (stepD ws n (j + 1) s)
def enc (ws : List UInt32) (n : Nat) (s : List UInt8) : List UInt8 := encN ws n n (ad s (rk ws 0))
def dec (ws : List UInt32) (n : Nat) (s : List UInt8) : List UInt8 := ad (decN ws n n s) (rk ws 0)
section
variable {ws : List UInt32} {n : Nat} (hn : 4 * n + 4 ≤ ws.length)
theorem stepE_len (hn : 4 * n + 4 ≤ ws.length) {j : Nat} (hj : j ≤ n) (s : List UInt8) : (stepE ws n j s).length = 16 := by
  unfold stepE
  refine ad_len _ _ ?_ (rk_len ws j (by omega))
  split
  · exact mixS_len _ (sw_len _ _ _)
  · exact sw_len _ _ _
theorem stepD_len (j : Nat) (s : List UInt8) : (stepD ws n j s).length = 16 := sw_len _ _ _
theorem encN_len (hn : 4 * n + 4 ≤ ws.length) {s : List UInt8} (hs : s.length = 16) : ∀ j, j ≤ n → (encN ws n j s).length = 16
  | 0, _ => hs
  | j + 1, h => stepE_len hn h _
theorem decN_len : ∀ j (s : List UInt8), s.length = 16 → (decN ws n j s).length = 16
  | 0, _, h => h
  | j + 1, s, h => decN_len j _ (stepD_len _ _)
theorem enc_len (hn : 4 * n + 4 ≤ ws.length) {s : List UInt8} (hs : s.length = 16) : (enc ws n s).length = 16 := encN_len hn (ad_len _ _ hs (rk_len ws 0 (by omega))) n (Nat.le_refl _)
theorem dec_len (hn : 4 * n + 4 ≤ ws.length) {s : List UInt8} (hs : s.length = 16) : (dec ws n s).length = 16 := ad_len _ _ (decN_len n s hs) (rk_len ws 0 (by omega))
theorem mix_unmix {s : List UInt8} (h : s.length = 16) : mixS (mixS (preS s)) = s := by
  rw [mix_mix, pre_pre 4 s (by omega)]
theorem stepED (hn : 4 * n + 4 ≤ ws.length) {j : Nat} (hj : j ≤ n) {s : List UInt8} (h : s.length = 16) : stepE ws n j (stepD ws n j s) = s := by
  have hk := rk_len ws j (by omega)
  have ha := ad_len s (rk ws j) h hk
  unfold stepD stepE
  by_cases hjn : j < n
  · simp only [if_pos hjn]
    rw [sw13 _ (mixS_len _ (preS_len _ ha)), mix_unmix ha, ad_ad _ _ (by omega)]
  · simp only [if_neg hjn]
    rw [sw13 _ ha, ad_ad _ _ (by omega)]
theorem encN_decN (hn : 4 * n + 4 ≤ ws.length) : ∀ j, j ≤ n → ∀ s : List UInt8, s.length = 16 → encN ws n j (decN ws n j s) = s
  | 0, _, _, _ => rfl
  | j + 1, h, s, hs => by
    rw [encN, decN, encN_decN hn j (by omega) _ (stepD_len _ _), stepED hn h hs]
theorem enc_dec (hn : 4 * n + 4 ≤ ws.length) {s : List UInt8} (hs : s.length = 16) : enc ws n (dec ws n s) = s := by
  have hk := rk_len ws 0 (by omega)
  unfold dec enc
  rw [ad_ad _ _ (by rw [decN_len n s hs]; omega), encN_decN hn n (Nat.le_refl _) s hs]
theorem pRounds {b q : List UInt8} (hw : ws.length = 4 * (n + 1)) (hn : n ≤ 20) : aes_Cipher_Rounds 300 (ws, b, q) = some (n : Int) := by
  unfold aes_Cipher_Rounds aes_Cipher_is
  simp only [Option.bind_some, hw]
  rw [if_neg (by simp; omega), show Int.tdiv ((4 * (n + 1) : Nat) : Int) 4 = (n : Int) + 1 by rw [show (4 : Int) = ((4 : Nat) : Int) from rfl, ← Int.ofNat_tdiv, Nat.mul_div_cancel_left _ (by decide)]; rfl, k_id (x := (n : Int) + 1) (by omega), k_id (by omega)]
  congr 1
  omega
theorem pIs {b q : List UInt8} (hw : ws.length = 4 * (n + 1)) : aes_Cipher_is 300 (ws, b, q) = some true := by
  unfold aes_Cipher_is
  simp only [hw]
  congr 1
  simp; omega
theorem pEnc_l0 (hw : ws.length = 4 * (n + 1)) (hn : n ≤ 20) (s : List UInt8) (hs : s.length = 16) : ∀ d k j, j + d = n → d < k → aes_Cipher_Encrypt_l0 300 (ws, bxL, bkL) (n : Int) k ((j : Int) + 1) (encN ws n j s) = some (encN ws n n s) := by
  intro d
  induction d with
  | zero =>
    intro k j hj hk
    obtain ⟨k, rfl⟩ : ∃ m, k = m + 1 := ⟨k - 1, by omega⟩
    obtain rfl : j = n := by omega
    rw [aes_Cipher_Encrypt_l0, if_neg (by omega)]
  | succ d ih =>
    intro k j hj hk
    obtain ⟨k, rfl⟩ : ∃ m, k = m + 1 := ⟨k - 1, by omega⟩
    have hl := encN_len (ws := ws) (n := n) (by omega) hs j (by omega)
    rw [aes_Cipher_Encrypt_l0, if_pos (by omega), pSwap1 _ _ _ hl]
    simp only [Option.bind_some]
    have hm : (if (j : Int) + 1 < (n : Int) then (aes_mix 300 (sw bx 1 (encN ws n j s))).bind fun x68 => some x68 else some (sw bx 1 (encN ws n j s))) = some (if j + 1 < n then mixS (sw bx 1 (encN ws n j s)) else sw bx 1 (encN ws n j s)) := by
      by_cases h1 : j + 1 < n
      · rw [if_pos (by omega), if_pos h1, pMix _ (sw_len _ _ _)]; rfl
      · rw [if_neg (by omega), if_neg h1]
    rw [hm]
    simp only [Option.bind_some]
    rw [show (j : Int) + 1 = ((j + 1 : Nat) : Int) by omega, pAdd ws _ _ _ (j + 1) (by omega) (by omega) (by
      split
      · exact mixS_len _ (sw_len _ _ _)
      · exact sw_len _ _ _)]
    simp only [Option.bind_some]
    rw [k_id (by omega)]
    exact ih k (j + 1) (by omega) (by omega)
theorem pEnc (hw : ws.length = 4 * (n + 1)) (hn : n ≤ 20) {s : List UInt8} (hs : s.length = 16) : aes_Cipher_Encrypt 300 (ws, bxL, bkL) s = some (enc ws n s) := by
  unfold aes_Cipher_Encrypt
  rw [pIs hw]
  simp only [Option.bind_some]
  rw [if_neg (by decide), pRounds hw hn]
  simp only [Option.bind_some]
  rw [show (0 : Int) = ((0 : Nat) : Int) from rfl, pAdd ws _ _ _ 0 (by omega) (by omega) hs]
  simp only [Option.bind_some]
  have := pEnc_l0 hw hn (ad s (rk ws 0)) (ad_len _ _ hs (rk_len ws 0 (by omega))) n 300 0 (by omega) (by omega)
  rw [show ((0 : Nat) : Int) + 1 = 1 from rfl] at this
  rw [show encN ws n 0 (ad s (rk ws 0)) = ad s (rk ws 0) from rfl] at this
  rw [this]
  rfl
theorem pDec_l0 (hw : ws.length = 4 * (n + 1)) (hn : n ≤ 20) : ∀ j k (s : List UInt8), s.length = 16 → j ≤ n → j < k → aes_Cipher_Decrypt_l0 300 (ws, bxL, bkL) (n : Int) k (j : Int) s = some (decN ws n j s) := by
  intro j
  induction j with
  | zero =>
    intro k s hs hj hk
    obtain ⟨k, rfl⟩ : ∃ m, k = m + 1 := ⟨k - 1, by omega⟩
    rw [aes_Cipher_Decrypt_l0, if_neg (by omega)]; rfl
  | succ j ih =>
    intro k s hs hj hk
    obtain ⟨k, rfl⟩ : ∃ m, k = m + 1 := ⟨k - 1, by omega⟩
    have ha := ad_len s (rk ws (j + 1)) hs (rk_len ws (j + 1) (by omega))
    rw [aes_Cipher_Decrypt_l0, if_pos (by omega), pAdd ws _ _ _ (j + 1) (by omega) (by omega) hs]
    simp only [Option.bind_some]
    have hm : (if ((j + 1 : Nat) : Int) < (n : Int) then (aes_unmix 300 (ad s (rk ws (j + 1)))).bind fun x47 => some x47 else some (ad s (rk ws (j + 1)))) = some (if j + 1 < n then mixS (preS (ad s (rk ws (j + 1)))) else ad s (rk ws (j + 1))) := by
      by_cases h1 : j + 1 < n
      · rw [if_pos (by omega), if_pos h1, pUnmix _ ha]; rfl
      · rw [if_neg (by omega), if_neg h1]
    rw [hm]
    simp only [Option.bind_some]
    rw [pSwap3 _ _ _ (by
      split
      · exact mixS_len _ (preS_len _ ha)
      · exact ha)]
    simp only [Option.bind_some]
    rw [k_id (by omega), show ((j + 1 : Nat) : Int) - 1 = (j : Int) by omega]
    exact ih k _ (sw_len _ _ _) (by omega) (by omega)
theorem pDec (hw : ws.length = 4 * (n + 1)) (hn : n ≤ 20) {s : List UInt8} (hs : s.length = 16) : aes_Cipher_Decrypt 300 (ws, bxL, bkL) s = some (dec ws n s) := by
  unfold aes_Cipher_Decrypt
  rw [pIs hw]
  simp only [Option.bind_some]
  rw [if_neg (by decide), pRounds hw hn]
  simp only [Option.bind_some]
  rw [pDec_l0 hw hn n 300 s hs (Nat.le_refl _) (by omega)]
  simp only [Option.bind_some]
  rw [show (0 : Int) = ((0 : Nat) : Int) from rfl, pAdd ws _ _ _ 0 (by omega) (by omega) (decN_len n s hs)]
  rfl
end
/-! words and their bytes -/
def mk4 (a b c d : UInt8) : UInt32 := (((u32_shl (UInt32.ofNat a.toNat) 24) ||| (u32_shl (UInt32.ofNat b.toNat) 16)) ||| (u32_shl (UInt32.ofNat c.toNat) 8)) ||| (UInt32.ofNat d.toNat)
def by0 (w : UInt32) : UInt8 := UInt8.ofNat (u32_shr w 24).toNat
def by1 (w : UInt32) : UInt8 := UInt8.ofNat (u32_shr w 16).toNat
def by2 (w : UInt32) : UInt8 := UInt8.ofNat (u32_shr w 8).toNat
def by3 (w : UInt32) : UInt8 := UInt8.ofNat (u32_shr w 0).toNat
theorem p4_by (w : UInt32) : p4 w = [by0 w, by1 w, by2 w, by3 w] := rfl
theorem by0_nat (w : UInt32) : (by0 w).toNat = w.toNat / 16777216 := by
  have := w.toNat_lt
  unfold by0 u32_shr
  rw [UInt8.toNat_ofNat', UInt32.toNat_ofNat']
  show w.toNat / 16777216 % 4294967296 % 256 = _
  omega
theorem by1_nat (w : UInt32) : (by1 w).toNat = w.toNat / 65536 % 256 := by
  have := w.toNat_lt
  unfold by1 u32_shr
  rw [UInt8.toNat_ofNat', UInt32.toNat_ofNat']
  show w.toNat / 65536 % 4294967296 % 256 = _
  omega
theorem by2_nat (w : UInt32) : (by2 w).toNat = w.toNat / 256 % 256 := by
  have := w.toNat_lt
  unfold by2 u32_shr
  rw [UInt8.toNat_ofNat', UInt32.toNat_ofNat']
  show w.toNat / 256 % 4294967296 % 256 = _
  omega
theorem by3_nat (w : UInt32) : (by3 w).toNat = w.toNat % 256 := by
  have := w.toNat_lt
  unfold by3 u32_shr
  rw [UInt8.toNat_ofNat', UInt32.toNat_ofNat']
  show w.toNat / 1 % 4294967296 % 256 = _
  omega
theorem shl_nat (x : Nat) (n : Nat) (hx : x < 256) (hn : n = 24 ∨ n = 16 ∨ n = 8) : (u32_shl (UInt32.ofNat x) n).toNat = 2 ^ n * x := by
  unfold u32_shl
  rw [UInt32.toNat_ofNat', UInt32.toNat_ofNat']
  rcases hn with rfl | rfl | rfl
  · show x % 4294967296 * 16777216 % 4294967296 = 16777216 * x; omega
  · show x % 4294967296 * 65536 % 4294967296 = 65536 * x; omega
  · show x % 4294967296 * 256 % 4294967296 = 256 * x; omega
theorem mk4_nat (a b c d : UInt8) : (mk4 a b c d).toNat = 16777216 * a.toNat + 65536 * b.toNat + 256 * c.toNat + d.toNat := by
  have ha := a.toNat_lt; have hb := b.toNat_lt; have hc := c.toNat_lt; have hd := d.toNat_lt
  unfold mk4
  rw [UInt32.toNat_or, UInt32.toNat_or, UInt32.toNat_or, shl_nat _ _ ha (.inl rfl), shl_nat _ _ hb (.inr (.inl rfl)), shl_nat _ _ hc (.inr (.inr rfl)), UInt32.toNat_ofNat']
  rw [← Nat.two_pow_add_eq_or_of_lt (i := 24) (show 2 ^ 16 * b.toNat < 2 ^ 24 by omega),
    show 2 ^ 24 * a.toNat + 2 ^ 16 * b.toNat = 2 ^ 16 * (256 * a.toNat + b.toNat) by omega,
    ← Nat.two_pow_add_eq_or_of_lt (i := 16) (show 2 ^ 8 * c.toNat < 2 ^ 16 by omega),
    show 2 ^ 16 * (256 * a.toNat + b.toNat) + 2 ^ 8 * c.toNat = 2 ^ 8 * (65536 * a.toNat + 256 * b.toNat + c.toNat) by omega,
    show d.toNat % 2 ^ 32 = d.toNat by omega, ← Nat.two_pow_add_eq_or_of_lt (i := 8) (show d.toNat < 2 ^ 8 by omega)]
theorem bytes_of {n a b c d : Nat} (h : n = 16777216 * a + 65536 * b + 256 * c + d) (ha : a < 256) (hb : b < 256) (hc : c < 256) (hd : d < 256) : n / 16777216 = a ∧ n / 65536 % 256 = b ∧ n / 256 % 256 = c ∧ n % 256 = d := by subst h; omega
theorem p4_mk4 (a b c d : UInt8) : p4 (mk4 a b c d) = [a, b, c, d] := by
  have ha := a.toNat_lt; have hb := b.toNat_lt; have hc := c.toNat_lt; have hd := d.toNat_lt
  have h := mk4_nat a b c d
  rw [p4_by]
  have e0 : by0 (mk4 a b c d) = a := by apply UInt8.toNat_inj.1; rw [by0_nat, h]; omega
  have e1 : by1 (mk4 a b c d) = b := by apply UInt8.toNat_inj.1; rw [by1_nat, h]; omega
  have e2 : by2 (mk4 a b c d) = c := by apply UInt8.toNat_inj.1; rw [by2_nat, h]; omega
  have e3 : by3 (mk4 a b c d) = d := by apply UInt8.toNat_inj.1; rw [by3_nat, h]; omega
  rw [e0, e1, e2, e3]
theorem p4_val (w : UInt32) : w.toNat = 16777216 * (by0 w).toNat + 65536 * (by1 w).toNat + 256 * (by2 w).toNat + (by3 w).toNat := by
  have := w.toNat_lt
  rw [by0_nat, by1_nat, by2_nat, by3_nat]; omega
theorem p4_xor (a b : UInt32) : p4 (a ^^^ b) = ad (p4 a) (p4 b) := by
  have d24 : (a.toNat ^^^ b.toNat) / 2 ^ 24 = a.toNat / 2 ^ 24 ^^^ b.toNat / 2 ^ 24 := Nat.xor_div_two_pow
  have d16 : (a.toNat ^^^ b.toNat) / 2 ^ 16 % 2 ^ 8 = (a.toNat / 2 ^ 16 % 2 ^ 8) ^^^ (b.toNat / 2 ^ 16 % 2 ^ 8) := by rw [Nat.xor_div_two_pow, Nat.xor_mod_two_pow]
  have d8 : (a.toNat ^^^ b.toNat) / 2 ^ 8 % 2 ^ 8 = (a.toNat / 2 ^ 8 % 2 ^ 8) ^^^ (b.toNat / 2 ^ 8 % 2 ^ 8) := by rw [Nat.xor_div_two_pow, Nat.xor_mod_two_pow]
  have d0 : (a.toNat ^^^ b.toNat) % 2 ^ 8 = (a.toNat % 2 ^ 8) ^^^ (b.toNat % 2 ^ 8) := Nat.xor_mod_two_pow
  have e0 : by0 (a ^^^ b) = by0 a ^^^ by0 b := by apply UInt8.toNat_inj.1; rw [by0_nat, UInt8.toNat_xor, by0_nat, by0_nat, UInt32.toNat_xor]; exact d24
  have e1 : by1 (a ^^^ b) = by1 a ^^^ by1 b := by apply UInt8.toNat_inj.1; rw [by1_nat, UInt8.toNat_xor, by1_nat, by1_nat, UInt32.toNat_xor]; exact d16
  have e2 : by2 (a ^^^ b) = by2 a ^^^ by2 b := by apply UInt8.toNat_inj.1; rw [by2_nat, UInt8.toNat_xor, by2_nat, by2_nat, UInt32.toNat_xor]; exact d8
  have e3 : by3 (a ^^^ b) = by3 a ^^^ by3 b := by apply UInt8.toNat_inj.1; rw [by3_nat, UInt8.toNat_xor, by3_nat, by3_nat, UInt32.toNat_xor]; exact d0
  rw [p4_by, p4_by, p4_by, e0, e1, e2, e3]; rfl
def rotw (w : UInt32) : UInt32 := (u32_shr w 24) ||| (u32_shl w 8)
theorem pRotate (w : UInt32) : word_Rotate 300 w (-8) = some (rotw w) := rfl
theorem rotw_nat (w : UInt32) : (rotw w).toNat = w.toNat % 16777216 * 256 + w.toNat / 16777216 := by
  have := w.toNat_lt
  unfold rotw
  rw [UInt32.toNat_or]
  have h1 : (u32_shr w 24).toNat = w.toNat / 16777216 := by unfold u32_shr; rw [UInt32.toNat_ofNat']; show w.toNat / 16777216 % 4294967296 = _; omega
  have h2 : (u32_shl w 8).toNat = 2 ^ 8 * (w.toNat % 16777216) := by unfold u32_shl; rw [UInt32.toNat_ofNat']; show w.toNat * 256 % 4294967296 = 256 * (w.toNat % 16777216); omega
  rw [h1, h2, Nat.or_comm, ← Nat.two_pow_add_eq_or_of_lt (i := 8) (show w.toNat / 16777216 < 2 ^ 8 by omega)]
  omega
theorem p4_rotw (w : UInt32) : p4 (rotw w) = [by1 w, by2 w, by3 w, by0 w] := by
  have ha := (by0 w).toNat_lt; have hb := (by1 w).toNat_lt; have hc := (by2 w).toNat_lt; have hd := (by3 w).toNat_lt
  have hv := p4_val w
  have h : (rotw w).toNat = 16777216 * (by1 w).toNat + 65536 * (by2 w).toNat + 256 * (by3 w).toNat + (by0 w).toNat := by rw [rotw_nat, hv]; omega
  rw [p4_by]
  clear hv
  obtain ⟨q0, q1, q2, q3⟩ := bytes_of h hb hc hd ha
  have e0 : by0 (rotw w) = by1 w := by apply UInt8.toNat_inj.1; rw [by0_nat, q0]
  have e1 : by1 (rotw w) = by2 w := by apply UInt8.toNat_inj.1; rw [by1_nat, q1]
  have e2 : by2 (rotw w) = by3 w := by apply UInt8.toNat_inj.1; rw [by2_nat, q2]
  have e3 : by3 (rotw w) = by0 w := by apply UInt8.toNat_inj.1; rw [by3_nat, q3]
  rw [e0, e1, e2, e3]
theorem p4_plus (a : UInt8) : p4 (u32_shl (UInt32.ofNat a.toNat) 24) = [a, 0, 0, 0] := by
  have ha := a.toNat_lt
  have h := shl_nat a.toNat 24 ha (.inl rfl)
  rw [p4_by]
  have e0 : by0 (u32_shl (UInt32.ofNat a.toNat) 24) = a := by apply UInt8.toNat_inj.1; rw [by0_nat, h]; omega
  have e1 : by1 (u32_shl (UInt32.ofNat a.toNat) 24) = 0 := by apply UInt8.toNat_inj.1; rw [by1_nat, h]; show _ = 0; omega
  have e2 : by2 (u32_shl (UInt32.ofNat a.toNat) 24) = 0 := by apply UInt8.toNat_inj.1; rw [by2_nat, h]; show _ = 0; omega
  have e3 : by3 (u32_shl (UInt32.ofNat a.toNat) 24) = 0 := by apply UInt8.toNat_inj.1; rw [by3_nat, h]; show _ = 0; omega
  rw [e0, e1, e2, e3]
def swpd (w : UInt32) : UInt32 := mk4 (bx (by0 w)) (bx (by1 w)) (bx (by2 w)) (bx (by3 w))
theorem p4_swpd (w : UInt32) : p4 (swpd w) = [bx (by0 w), bx (by1 w), bx (by2 w), bx (by3 w)] := p4_mk4 _ _ _ _
theorem and255 (x : UInt32) : (x &&& (255 : UInt32)).toNat = x.toNat % 256 := by
  rw [UInt32.toNat_and]
  exact Nat.and_two_pow_sub_one_eq_mod x.toNat 8
theorem pSwapped (ws : List UInt32) (q : List UInt8) (w : UInt32) : aes_swapped_at0_aes_Cipher_1 300 (ws, bxL, q) w = some (swpd w, (ws, bxL, q)) := by
  have := w.toNat_lt
  have h0 : (u32_shr w 24).toNat = (by0 w).toNat := by rw [by0_nat]; unfold u32_shr; rw [UInt32.toNat_ofNat']; show w.toNat / 16777216 % 4294967296 = _; omega
  have h1 : ((u32_shr w 16) &&& (255 : UInt32)).toNat = (by1 w).toNat := by rw [and255, by1_nat]; unfold u32_shr; rw [UInt32.toNat_ofNat']; show w.toNat / 65536 % 4294967296 % 256 = _; omega
  have h2 : ((u32_shr w 8) &&& (255 : UInt32)).toNat = (by2 w).toNat := by rw [and255, by2_nat]; unfold u32_shr; rw [UInt32.toNat_ofNat']; show w.toNat / 256 % 4294967296 % 256 = _; omega
  have h3 : (w &&& (255 : UInt32)).toNat = (by3 w).toNat := by rw [and255, by3_nat]
  unfold aes_swapped_at0_aes_Cipher_1
  rw [h0, h1, h2, h3, ix_nat (UInt8.toNat_lt _), ix_nat (UInt8.toNat_lt _), ix_nat (UInt8.toNat_lt _), ix_nat (UInt8.toNat_lt _)]
  simp only [Option.bind_some, bxL_get]
  rfl
theorem pTimes2 (p : UInt8) : gf_Times 300 p 2 = some (tw p) := all8 (p := fun p => gf_Times 300 p 2 = some (tw p)) (by decide +kernel) p
end Go.Proofs.Ythaoiajbgadcjaa
