/- Blocks, enciphered and deciphered, round by round; the words of a key. -/
import Derived.Test.YtohgmggdfmjgnaaE04A
set_option linter.unusedVariables false
set_option linter.unusedSimpArgs false
namespace Go.Proofs.Ytohgmggdfmjgnaa
open Go.RowKit
def stepE (ws : List UInt32) (n j : Nat) (s : List UInt8) : List UInt8 := ad (if j < n then mixS (sw bx 1 s) else sw bx 1 s) (rk ws j)
def stepD (ws : List UInt32) (n j : Nat) (s : List UInt8) : List UInt8 := sw bk 3 (if j < n then mixS (preS (ad s (rk ws j))) else ad s (rk ws j))
def encN (ws : List UInt32) (n : Nat) : Nat → List UInt8 → List UInt8
  | 0, s => s
  | j + 1, s => stepE ws n (j + 1) (encN ws n j s)
def decN (ws : List UInt32) (n : Nat) : Nat → List UInt8 → List UInt8
  | 0, s => s
  | j + 1, s => decN ws n j (stepD ws n (j + 1) s)
def enc (ws : List UInt32) (n : Nat) (s : List UInt8) : List UInt8 := encN ws n n (ad s (rk ws 0))
def dec (ws : List UInt32) (n : Nat) (s : List UInt8) : List UInt8 := ad (decN ws n n s) (rk ws 0)
section
variable {ws : List UInt32} {n : Nat} (hn : 4 * n + 4 ≤ ws.length)
theorem stepE_len (hn : 4 * n + 4 ≤ ws.length) {j : Nat} (hj : j ≤ n) (s : List UInt8) : (stepE ws n j s).length = 16 := by
  unfold stepE
  refine ad_len _ _ ?_ (rk_len ws j (by omega))
  split
  · exact mixS_len _ (sw_len _ _ _)
  · exact sw_len _ _ _
theorem stepD_len (j : Nat) (s : List UInt8) : (stepD ws n j s).length = 16 := sw_len _ _ _
theorem encN_len (hn : 4 * n + 4 ≤ ws.length) {s : List UInt8} (hs : s.length = 16) : ∀ j, j ≤ n → (encN ws n j s).length = 16
  | 0, _ => hs
  | j + 1, h => stepE_len hn h _
theorem decN_len : ∀ j (s : List UInt8), s.length = 16 → (decN ws n j s).length = 16
  | 0, _, h => h
  | j + 1, s, h => decN_len j _ (stepD_len _ _)
theorem enc_len (hn : 4 * n + 4 ≤ ws.length) {s : List UInt8} (hs : s.length = 16) : (enc ws n s).length = 16 := encN_len hn (ad_len _ _ hs (rk_len ws 0 (by omega))) n (Nat.le_refl _)
theorem dec_len (hn : 4 * n + 4 ≤ ws.length) {s : List UInt8} (hs : s.length = 16) : (dec ws n s).length = 16 := ad_len _ _ (decN_len n s hs) (rk_len ws 0 (by omega))
theorem unmix_mix {s : List UInt8} (h : s.length = 16) : mixS (preS (mixS s)) = s := by
  rw [← mix_mix (mixS s), mix_mix, mix_mix, pre_pre 4 s (by omega)]
theorem mix_unmix {s : List UInt8} (h : s.length = 16) : mixS (mixS (preS s)) = s := by
  rw [mix_mix, pre_pre 4 s (by omega)]
theorem stepDE (hn : 4 * n + 4 ≤ ws.length) {j : Nat} (hj : j ≤ n) {s : List UInt8} (h : s.length = 16) : stepD ws n j (stepE ws n j s) = s := by
  have hk := rk_len ws j (by omega)
  unfold stepD stepE
  by_cases hjn : j < n
  · simp only [if_pos hjn]
    rw [ad_ad _ _ (by rw [mixS_len _ (sw_len _ _ _), hk]; omega), unmix_mix (sw_len _ _ _), sw31 s h]
  · simp only [if_neg hjn]
    rw [ad_ad _ _ (by rw [sw_len, hk]; omega), sw31 s h]
theorem stepED (hn : 4 * n + 4 ≤ ws.length) {j : Nat} (hj : j ≤ n) {s : List UInt8} (h : s.length = 16) : stepE ws n j (stepD ws n j s) = s := by
  have hk := rk_len ws j (by omega)
  have ha := ad_len s (rk ws j) h hk
  unfold stepD stepE
  by_cases hjn : j < n
  · simp only [if_pos hjn]
    rw [sw13 _ (mixS_len _ (preS_len _ ha)), mix_unmix ha, ad_ad _ _ (by omega)]
  · simp only [if_neg hjn]
    rw [sw13 _ ha, ad_ad _ _ (by omega)]
theorem decN_encN (hn : 4 * n + 4 ≤ ws.length) : ∀ j, j ≤ n → ∀ s : List UInt8, s.length = 16 → decN ws n j (encN ws n j s) = s
  | 0, _, _, _ => rfl
  | j + 1, h, s, hs => by
    rw [encN, decN, stepDE hn h (encN_len hn hs j (by omega)), decN_encN hn j (by omega) s hs]
theorem encN_decN (hn : 4 * n + 4 ≤ ws.length) : ∀ j, j ≤ n → ∀ s : List UInt8, s.length = 16 → encN ws n j (decN ws n j s) = s
  | 0, _, _, _ => rfl
  | j + 1, h, s, hs => by
    rw [encN, decN, encN_decN hn j (by omega) _ (stepD_len _ _), stepED hn h hs]
theorem dec_enc (hn : 4 * n + 4 ≤ ws.length) {s : List UInt8} (hs : s.length = 16) : dec ws n (enc ws n s) = s := by
  have hk := rk_len ws 0 (by omega)
  unfold dec enc
  rw [decN_encN hn n (Nat.le_refl _) _ (ad_len _ _ hs hk), ad_ad _ _ (by omega)]
theorem enc_dec (hn : 4 * n + 4 ≤ ws.length) {s : List UInt8} (hs : s.length = 16) : enc ws n (dec ws n s) = s := by
  have hk := rk_len ws 0 (by omega)
  unfold dec enc
  rw [ad_ad _ _ (by rw [decN_len n s hs]; omega), encN_decN hn n (Nat.le_refl _) s hs]
theorem pRounds {b q : List UInt8} (hw : ws.length = 4 * (n + 1)) (hn : n ≤ 20) : aes_Cipher_Rounds 300 (ws, b, q) = some (n : Int) := by
  unfold aes_Cipher_Rounds aes_Cipher_is
  simp only [Option.bind_some, hw]
  rw [if_neg (by simp; omega), show Int.tdiv ((4 * (n + 1) : Nat) : Int) 4 = (n : Int) + 1 by rw [show (4 : Int) = ((4 : Nat) : Int) from rfl, ← Int.ofNat_tdiv, Nat.mul_div_cancel_left _ (by decide)]; rfl, k_id (x := (n : Int) + 1) (by omega), k_id (by omega)]
  congr 1
  omega
theorem pIs {b q : List UInt8} (hw : ws.length = 4 * (n + 1)) : aes_Cipher_is 300 (ws, b, q) = some true := by
  unfold aes_Cipher_is
  simp only [hw]
  congr 1
  simp; omega
theorem pEnc_l0 (hw : ws.length = 4 * (n + 1)) (hn : n ≤ 20) (s : List UInt8) (hs : s.length = 16) : ∀ d k j, j + d = n → d < k → aes_Cipher_Encrypt_l0 300 (ws, bxL, bkL) (n : Int) k ((j : Int) + 1) (encN ws n j s) = some (encN ws n n s) := by
  intro d
  induction d with
  | zero =>
    intro k j hj hk
    obtain ⟨k, rfl⟩ : ∃ m, k = m + 1 := ⟨k - 1, by omega⟩
    obtain rfl : j = n := by omega
    rw [aes_Cipher_Encrypt_l0, if_neg (by omega)]
  | succ d ih =>
    intro k j hj hk
    obtain ⟨k, rfl⟩ : ∃ m, k = m + 1 := ⟨k - 1, by omega⟩
    have hl := encN_len (ws := ws) (n := n) (by omega) hs j (by omega)
    rw [aes_Cipher_Encrypt_l0, if_pos (by omega), pSwap1 _ _ _ hl]
    simp only [Option.bind_some]
    have hm : (if (j : Int) + 1 < (n : Int) then (aes_mix 300 (sw bx 1 (encN ws n j s))).bind fun x68 => some x68 else some (sw bx 1 (encN ws n j s))) = some (if j + 1 < n then mixS (sw bx 1 (encN ws n j s)) else sw bx 1 (encN ws n j s)) := by
      by_cases h1 : j + 1 < n
      · rw [if_pos (by omega), if_pos h1, pMix _ (sw_len _ _ _)]; rfl
      · rw [if_neg (by omega), if_neg h1]
    rw [hm]
    simp only [Option.bind_some]
    rw [show (j : Int) + 1 = ((j + 1 : Nat) : Int) by omega, pAdd ws _ _ _ (j + 1) (by omega) (by omega) (by
      split
      · exact mixS_len _ (sw_len _ _ _)
      · exact sw_len _ _ _)]
    simp only [Option.bind_some]
    rw [k_id (by omega)]
    exact ih k (j + 1) (by omega) (by omega)
theorem pEnc (hw : ws.length = 4 * (n + 1)) (hn : n ≤ 20) {s : List UInt8} (hs : s.length = 16) : aes_Cipher_Encrypt 300 (ws, bxL, bkL) s = some (enc ws n s) := by
  unfold aes_Cipher_Encrypt
  rw [pIs hw]
  simp only [Option.bind_some]
  rw [if_neg (by decide), pRounds hw hn]
  simp only [Option.bind_some]
  rw [show (0 : Int) = ((0 : Nat) : Int) from rfl, pAdd ws _ _ _ 0 (by omega) (by omega) hs]
  simp only [Option.bind_some]
  have := pEnc_l0 hw hn (ad s (rk ws 0)) (ad_len _ _ hs (rk_len ws 0 (by omega))) n 300 0 (by omega) (by omega)
  rw [show ((0 : Nat) : Int) + 1 = 1 from rfl] at this
  rw [show encN ws n 0 (ad s (rk ws 0)) = ad s (rk ws 0) from rfl] at this
  rw [this]
  rfl
theorem pDec_l0 (hw : ws.length = 4 * (n + 1)) (hn : n ≤ 20) : ∀ j k (s : List UInt8), s.length = 16 → j ≤ n → j < k → aes_Cipher_Decrypt_l0 300 (ws, bxL, bkL) (n : Int) k (j : Int) s = some (decN ws n j s) := by
  intro j
  induction j with
  | zero =>
    intro k s hs hj hk
    obtain ⟨k, rfl⟩ : ∃ m, k = m + 1 := ⟨k - 1, by omega⟩
    rw [aes_Cipher_Decrypt_l0, if_neg (by omega)]; rfl
  | succ j ih =>
    intro k s hs hj hk
    obtain ⟨k, rfl⟩ : ∃ m, k = m + 1 := ⟨k - 1, by omega⟩
    have ha := ad_len s (rk ws (j + 1)) hs (rk_len ws (j + 1) (by omega))
    rw [aes_Cipher_Decrypt_l0, if_pos (by omega), pAdd ws _ _ _ (j + 1) (by omega) (by omega) hs]
    simp only [Option.bind_some]
    have hm : (if ((j + 1 : Nat) : Int) < (n : Int) then (aes_unmix 300 (ad s (rk ws (j + 1)))).bind fun x47 => some x47 else some (ad s (rk ws (j + 1)))) = some (if j + 1 < n then mixS (preS (ad s (rk ws (j + 1)))) else ad s (rk ws (j + 1))) := by
      by_cases h1 : j + 1 < n
      · rw [if_pos (by omega), if_pos h1, pUnmix _ ha]; rfl
      · rw [if_neg (by omega), if_neg h1]
    rw [hm]
    simp only [Option.bind_some]
    rw [pSwap3 _ _ _ (by
      split
      · exact mixS_len _ (preS_len _ ha)
      · exact ha)]
    simp only [Option.bind_some]
    rw [k_id (by omega), show ((j + 1 : Nat) : Int) - 1 = (j : Int) by omega]
    exact ih k _ (sw_len _ _ _) (by omega) (by omega)
theorem pDec (hw : ws.length = 4 * (n + 1)) (hn : n ≤ 20) {s : List UInt8} (hs : s.length = 16) : aes_Cipher_Decrypt 300 (ws, bxL, bkL) s = some (dec ws n s) := by
  unfold aes_Cipher_Decrypt
  rw [pIs hw]
  simp only [Option.bind_some]
  rw [if_neg (by decide), pRounds hw hn]
  simp only [Option.bind_some]
  rw [pDec_l0 hw hn n 300 s hs (Nat.le_refl _) (by omega)]
  simp only [Option.bind_some]
  rw [show (0 : Int) = ((0 : Nat) : Int) from rfl, pAdd ws _ _ _ 0 (by omega) (by omega) (decN_len n s hs)]
  rfl
end
/-! words and their bytes -/
def mk4 (a b c d : UInt8) : UInt32 := (((u32_shl (UInt32.ofNat a.toNat) 24) ||| (u32_shl (UInt32.ofNat b.toNat) 16)) ||| (u32_shl (UInt32.ofNat c.toNat) 8)) ||| (UInt32.ofNat d.toNat)
def by0 (w : UInt32) : UInt8 := UInt8.ofNat (u32_shr w 24).toNat
def by1 (w : UInt32) : UInt8 := UInt8.ofNat (u32_shr w 16).toNat
def by2 (w : UInt32) : UInt8 := UInt8.ofNat (u32_shr w 8).toNat
def by3 (w : UInt32) : UInt8 := UInt8.ofNat (u32_shr w 0).toNat
theorem by0_nat (w : UInt32) : (by0 w).toNat = w.toNat / 16777216 := by
  have := w.toNat_lt
  unfold by0 u32_shr
  rw [UInt8.toNat_ofNat', UInt32.toNat_ofNat']
  show w.toNat / 16777216 % 4294967296 % 256 = _
  omega
theorem by1_nat (w : UInt32) : (by1 w).toNat = w.toNat / 65536 % 256 := by
  have := w.toNat_lt
  unfold by1 u32_shr
  rw [UInt8.toNat_ofNat', UInt32.toNat_ofNat']
  show w.toNat / 65536 % 4294967296 % 256 = _
  omega
theorem by2_nat (w : UInt32) : (by2 w).toNat = w.toNat / 256 % 256 := by
  have := w.toNat_lt
  unfold by2 u32_shr
  rw [UInt8.toNat_ofNat', UInt32.toNat_ofNat']
  show w.toNat / 256 % 4294967296 % 256 = _
  omega
theorem by3_nat (w : UInt32) : (by3 w).toNat = w.toNat % 256 := by
  have := w.toNat_lt
  unfold by3 u32_shr
  rw [UInt8.toNat_ofNat', UInt32.toNat_ofNat']
  show w.toNat / 1 % 4294967296 % 256 = _
  omega
def rotw (w : UInt32) : UInt32 := (u32_shr w 24) ||| (u32_shl w 8)
theorem pRotate (w : UInt32) : word_Rotate 300 w (-8) = some (rotw w) := rfl
def swpd (w : UInt32) : UInt32 := mk4 (bx (by0 w)) (bx (by1 w)) (bx (by2 w)) (bx (by3 w))
theorem and255 (x : UInt32) : (x &&& (255 : UInt32)).toNat = x.toNat % 256 := by
  rw [UInt32.toNat_and]
  exact Nat.and_two_pow_sub_one_eq_mod x.toNat 8
theorem pSwapped (ws : List UInt32) (q : List UInt8) (w : UInt32) : aes_swapped_at0_aes_Cipher_1 300 (ws, bxL, q) w = some (swpd w, (ws, bxL, q)) := by
  have := w.toNat_lt
  have h0 : (u32_shr w 24).toNat = (by0 w).toNat := by rw [by0_nat]; unfold u32_shr; rw [UInt32.toNat_ofNat']; show w.toNat / 16777216 % 4294967296 = _; omega
  have h1 : ((u32_shr w 16) &&& (255 : UInt32)).toNat = (by1 w).toNat := by rw [and255, by1_nat]; unfold u32_shr; rw [UInt32.toNat_ofNat']; show w.toNat / 65536 % 4294967296 % 256 = _; omega
  have h2 : ((u32_shr w 8) &&& (255 : UInt32)).toNat = (by2 w).toNat := by rw [and255, by2_nat]; unfold u32_shr; rw [UInt32.toNat_ofNat']; show w.toNat / 256 % 4294967296 % 256 = _; omega
  have h3 : (w &&& (255 : UInt32)).toNat = (by3 w).toNat := by rw [and255, by3_nat]
  unfold aes_swapped_at0_aes_Cipher_1
  rw [h0, h1, h2, h3, ix_nat (UInt8.toNat_lt _), ix_nat (UInt8.toNat_lt _), ix_nat (UInt8.toNat_lt _), ix_nat (UInt8.toNat_lt _)]
  simp only [Option.bind_some, bxL_get]
  rfl
theorem pTimes2 (p : UInt8) : gf_Times 300 p 2 = some (tw p) := all8 (p := fun p => gf_Times 300 p 2 = some (tw p)) (by decide +kernel) p
end Go.Proofs.Ytohgmggdfmjgnaa
