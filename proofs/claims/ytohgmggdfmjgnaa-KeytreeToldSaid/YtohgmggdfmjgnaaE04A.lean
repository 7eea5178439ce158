/- Blocks, enciphered and deciphered, told over lists: what is deciphered is enciphered to what it was, and the other way round. -/
import Derived.Test.YtohgmggdfmjgnaaAe
import Derived.Test.YtohgmggdfmjgnaaSpec
set_option linter.unusedVariables false
set_option linter.unusedSimpArgs false
namespace Go.Proofs.Ytohgmggdfmjgnaa
open Go.RowKit
theorem k_id {x : Int} (h : -1000000000 ≤ x ∧ x ≤ 1000000000) : w64 x = x := w64_of (by omega)
theorem all8 {p : UInt8 → Prop} (h : ∀ i : Fin 256, p (UInt8.ofNat i.val)) (x : UInt8) : p x := by
  have := h ⟨x.toNat, x.toNat_lt⟩
  simpa using this
/-! loops that fill a row -/
theorem set_take {α : Type} (xs : List α) (i : Nat) (a : α) (h : i < xs.length) : (xs.set i a).take (i + 1) = xs.take i ++ [a] := by
  rw [List.set_eq_take_append_cons_drop, if_pos h]
  have hl : (xs.take i).length = i := by rw [List.length_take]; omega
  rw [List.take_append, hl, List.take_of_length_le (by omega), show i + 1 - i = 1 by omega]
  simp
theorem fill_loop {α : Type} (n : Nat) (L : Nat → Int → List α → Option (List α)) (f : Nat → α)
    (hs : ∀ k (i : Nat) xs, i < n → xs.length = n → L (k + 1) (i : Int) xs = L k ((i + 1 : Nat) : Int) (xs.set i (f i)))
    (he : ∀ k xs, L (k + 1) (n : Int) xs = some xs) (k : Nat) (xs : List α) (hx : xs.length = n) (hk : n < k) : L k 0 xs = some ((List.range n).map f) := by
  have key : ∀ d k i xs, i + d = n → d < k → xs.length = n → L k (i : Int) xs = some (xs.take i ++ ((List.range n).drop i).map f) := by
    intro d
    induction d with
    | zero =>
      intro k i xs hi hk hx
      obtain ⟨k, rfl⟩ : ∃ m, k = m + 1 := ⟨k - 1, by omega⟩
      obtain rfl : i = n := by omega
      rw [he, List.take_of_length_le (by omega), List.drop_of_length_le (by simp)]; simp
    | succ d ih =>
      intro k i xs hi hk hx
      obtain ⟨k, rfl⟩ : ∃ m, k = m + 1 := ⟨k - 1, by omega⟩
      rw [hs k i xs (by omega) hx, ih k (i + 1) _ (by omega) (by omega) (by simpa using hx), set_take _ _ _ (by omega)]
      rw [List.drop_eq_getElem_cons (show i < (List.range n).length by simp; omega)]
      simp
  have := key n k 0 xs (by omega) hk hx
  simpa using this
theorem l16 {α : Type} (s : List α) (h : s.length = 16) : ∃ a0 a1 a2 a3 a4 a5 a6 a7 a8 a9 a10 a11 a12 a13 a14 a15, s = [a0, a1, a2, a3, a4, a5, a6, a7, a8, a9, a10, a11, a12, a13, a14, a15] := by
  match s, h with
  | [a0, a1, a2, a3, a4, a5, a6, a7, a8, a9, a10, a11, a12, a13, a14, a15], _ => exact ⟨_, _, _, _, _, _, _, _, _, _, _, _, _, _, _, _, rfl⟩
/-! the boxes -/
def bxL : List UInt8 := [99, 124, 119, 123, 242, 107, 111, 197, 48, 1, 103, 43, 254, 215, 171, 118, 202, 130, 201, 125, 250, 89, 71, 240, 173, 212, 162, 175, 156, 164, 114, 192, 183, 253, 147, 38, 54, 63, 247, 204, 52, 165, 229, 241, 113, 216, 49, 21, 4, 199, 35, 195, 24, 150, 5, 154, 7, 18, 128, 226, 235, 39, 178, 117, 9, 131, 44, 26, 27, 110, 90, 160, 82, 59, 214, 179, 41, 227, 47, 132, 83, 209, 0, 237, 32, 252, 177, 91, 106, 203, 190, 57, 74, 76, 88, 207, 208, 239, 170, 251, 67, 77, 51, 133, 69, 249, 2, 127, 80, 60, 159, 168, 81, 163, 64, 143, 146, 157, 56, 245, 188, 182, 218, 33, 16, 255, 243, 210, 205, 12, 19, 236, 95, 151, 68, 23, 196, 167, 126, 61, 100, 93, 25, 115, 96, 129, 79, 220, 34, 42, 144, 136, 70, 238, 184, 20, 222, 94, 11, 219, 224, 50, 58, 10, 73, 6, 36, 92, 194, 211, 172, 98, 145, 149, 228, 121, 231, 200, 55, 109, 141, 213, 78, 169, 108, 86, 244, 234, 101, 122, 174, 8, 186, 120, 37, 46, 28, 166, 180, 198, 232, 221, 116, 31, 75, 189, 139, 138, 112, 62, 181, 102, 72, 3, 246, 14, 97, 53, 87, 185, 134, 193, 29, 158, 225, 248, 152, 17, 105, 217, 142, 148, 155, 30, 135, 233, 206, 85, 40, 223, 140, 161, 137, 13, 191, 230, 66, 104, 65, 153, 45, 15, 176, 84, 187, 22]
def bkL : List UInt8 := [82, 9, 106, 213, 48, 54, 165, 56, 191, 64, 163, 158, 129, 243, 215, 251, 124, 227, 57, 130, 155, 47, 255, 135, 52, 142, 67, 68, 196, 222, 233, 203, 84, 123, 148, 50, 166, 194, 35, 61, 238, 76, 149, 11, 66, 250, 195, 78, 8, 46, 161, 102, 40, 217, 36, 178, 118, 91, 162, 73, 109, 139, 209, 37, 114, 248, 246, 100, 134, 104, 152, 22, 212, 164, 92, 204, 93, 101, 182, 146, 108, 112, 72, 80, 253, 237, 185, 218, 94, 21, 70, 87, 167, 141, 157, 132, 144, 216, 171, 0, 140, 188, 211, 10, 247, 228, 88, 5, 184, 179, 69, 6, 208, 44, 30, 143, 202, 63, 15, 2, 193, 175, 189, 3, 1, 19, 138, 107, 58, 145, 17, 65, 79, 103, 220, 234, 151, 242, 207, 206, 240, 180, 230, 115, 150, 172, 116, 34, 231, 173, 53, 133, 226, 249, 55, 232, 28, 117, 223, 110, 71, 241, 26, 113, 29, 41, 197, 137, 111, 183, 98, 14, 170, 24, 190, 27, 252, 86, 62, 75, 198, 210, 121, 32, 154, 219, 192, 254, 120, 205, 90, 244, 31, 221, 168, 51, 136, 7, 199, 49, 177, 18, 16, 89, 39, 128, 236, 95, 96, 81, 127, 169, 25, 181, 74, 13, 45, 229, 122, 159, 147, 201, 156, 239, 160, 224, 59, 77, 174, 42, 245, 176, 200, 235, 187, 60, 131, 83, 153, 97, 23, 43, 4, 126, 186, 119, 214, 38, 225, 105, 20, 99, 85, 33, 12, 125]
def bx (x : UInt8) : UInt8 := bxL.getD x.toNat 0
def bk (x : UInt8) : UInt8 := bkL.getD x.toNat 0
set_option maxRecDepth 100000 in
theorem box_is : sbox_Box 300 = some bxL := by decide +kernel
set_option maxRecDepth 100000 in
theorem swap_is : sbox_Swap 300 bxL = some (bkL, true) := by decide +kernel
theorem getD_some {α : Type} {s : List α} {i : Nat} (d : α) (h : i < s.length) : s[i]? = some (s.getD i d) := by simp [List.getD, List.getElem?_eq_getElem h]
theorem bxL_len : bxL.length = 256 := by decide +kernel
theorem bkL_len : bkL.length = 256 := by decide +kernel
theorem bxL_get (x : UInt8) : bxL[x.toNat]? = some (bx x) := getD_some 0 (by rw [bxL_len]; exact x.toNat_lt)
theorem bkL_get (x : UInt8) : bkL[x.toNat]? = some (bk x) := getD_some 0 (by rw [bkL_len]; exact x.toNat_lt)
theorem bk_bx (x : UInt8) : bk (bx x) = x := all8 (p := fun x => bk (bx x) = x) (by decide +kernel) x
theorem bx_bk (x : UInt8) : bx (bk x) = x := all8 (p := fun x => bx (bk x) = x) (by decide +kernel) x
/-! steps of a round -/
def place (p i : Nat) : Nat := i % 4 + 4 * ((i / 4 + p * (i % 4)) % 4)
def sw (b : UInt8 → UInt8) (p : Nat) (s : List UInt8) : List UInt8 := (List.range 16).map fun i => b (s.getD (place p i) 0)
theorem place_lt (p i : Nat) : place p i < 16 := by unfold place; omega
theorem place1 : ∀ i : Fin 16, ix 16 (w64 ((Int.tmod (i.val : Int) 4) + (w64 (4 * (i64_and (w64 ((w64 (Int.tdiv (i.val : Int) 4)) + (w64 (1 * (Int.tmod (i.val : Int) 4))))) 3))))) = some (place 1 i.val) := by decide +kernel
theorem place3 : ∀ i : Fin 16, ix 16 (w64 ((Int.tmod (i.val : Int) 4) + (w64 (4 * (i64_and (w64 ((w64 (Int.tdiv (i.val : Int) 4)) + (w64 (3 * (Int.tmod (i.val : Int) 4))))) 3))))) = some (place 3 i.val) := by decide +kernel
theorem sw_len (b : UInt8 → UInt8) (p : Nat) (s : List UInt8) : (sw b p s).length = 16 := by simp [sw]
theorem pSwap1 (ws : List UInt32) (q s : List UInt8) (h : s.length = 16) : aes_swap_fat1_aes_Cipher_1 300 s (ws, bxL, q) 1 = some (sw bx 1 s) := by
  unfold aes_swap_fat1_aes_Cipher_1
  rw [fill_loop 16 (aes_swap_fat1_aes_Cipher_1_l0 300 s (ws, bxL, q) 1) (fun i => bx (s.getD (place 1 i) 0)) (fun k i xs hi hx => ?_) (fun k xs => ?_) 300 _ (by simp) (by omega)]
  · rfl
  · rw [aes_swap_fat1_aes_Cipher_1_l0, if_pos (by omega), place1 ⟨i, hi⟩]
    simp only [Option.bind_some]
    rw [getD_some 0 (show place 1 i < s.length by rw [h]; exact place_lt _ _)]
    simp only [Option.bind_some]
    rw [ix_nat (UInt8.toNat_lt _)]
    simp only [Option.bind_some]
    rw [bxL_get, ix_nat hi, k_id (by omega)]
    rfl
  · rw [aes_swap_fat1_aes_Cipher_1_l0, if_neg (by decide)]
theorem pSwap3 (ws : List UInt32) (q s : List UInt8) (h : s.length = 16) : aes_swap_fat1_aes_Cipher_257 300 s (ws, q, bkL) 3 = some (sw bk 3 s) := by
  unfold aes_swap_fat1_aes_Cipher_257
  rw [fill_loop 16 (aes_swap_fat1_aes_Cipher_257_l0 300 s (ws, q, bkL) 3) (fun i => bk (s.getD (place 3 i) 0)) (fun k i xs hi hx => ?_) (fun k xs => ?_) 300 _ (by simp) (by omega)]
  · rfl
  · rw [aes_swap_fat1_aes_Cipher_257_l0, if_pos (by omega), place3 ⟨i, hi⟩]
    simp only [Option.bind_some]
    rw [getD_some 0 (show place 3 i < s.length by rw [h]; exact place_lt _ _)]
    simp only [Option.bind_some]
    rw [ix_nat (UInt8.toNat_lt _)]
    simp only [Option.bind_some]
    rw [bkL_get, ix_nat hi, k_id (by omega)]
    rfl
  · rw [aes_swap_fat1_aes_Cipher_257_l0, if_neg (by decide)]
theorem sw31 (s : List UInt8) (h : s.length = 16) : sw bk 3 (sw bx 1 s) = s := by
  obtain ⟨a0, a1, a2, a3, a4, a5, a6, a7, a8, a9, a10, a11, a12, a13, a14, a15, rfl⟩ := l16 s h
  show [bk (bx _), bk (bx _), bk (bx _), bk (bx _), bk (bx _), bk (bx _), bk (bx _), bk (bx _), bk (bx _), bk (bx _), bk (bx _), bk (bx _), bk (bx _), bk (bx _), bk (bx _), bk (bx _)] = _
  simp only [bk_bx]
  rfl
theorem sw13 (s : List UInt8) (h : s.length = 16) : sw bx 1 (sw bk 3 s) = s := by
  obtain ⟨a0, a1, a2, a3, a4, a5, a6, a7, a8, a9, a10, a11, a12, a13, a14, a15, rfl⟩ := l16 s h
  show [bx (bk _), bx (bk _), bx (bk _), bx (bk _), bx (bk _), bx (bk _), bx (bk _), bx (bk _), bx (bk _), bx (bk _), bx (bk _), bx (bk _), bx (bk _), bx (bk _), bx (bk _), bx (bk _)] = _
  simp only [bx_bk]
  rfl
/-! columns, mixed -/
theorem xl (a b c : UInt8) : a ^^^ (b ^^^ c) = b ^^^ (a ^^^ c) := by rw [← UInt8.xor_assoc, UInt8.xor_comm a b, UInt8.xor_assoc]
theorem xc (a b : UInt8) : a ^^^ (a ^^^ b) = b := by rw [← UInt8.xor_assoc, UInt8.xor_self, UInt8.zero_xor]
def tw (x : UInt8) : UInt8 := (u8_shl x 1) ^^^ ((27 : UInt8) &&& (-(u8_shr x 7)))
theorem tw_xor (a b : UInt8) : tw (a ^^^ b) = tw a ^^^ tw b := by
  have h : ∀ x : UInt8, tw x = (x <<< 1) ^^^ (if x.toNat.testBit 7 then 27 else 0) := all8 (p := fun x => tw x = (x <<< 1) ^^^ (if x.toNat.testBit 7 then 27 else 0)) (by decide +kernel)
  have h2 : (a ^^^ b) <<< 1 = (a <<< 1) ^^^ (b <<< 1) := UInt8.shiftLeft_xor
  rw [h, h, h, h2, UInt8.toNat_xor, Nat.testBit_xor]
  cases a.toNat.testBit 7 <;> cases b.toNat.testBit 7 <;> simp [UInt8.xor_assoc, UInt8.xor_comm, xl, xc]
def mixS : List UInt8 → List UInt8
  | a :: b :: c :: d :: l => ((a ^^^ (((a ^^^ b) ^^^ c) ^^^ d)) ^^^ tw (a ^^^ b)) :: ((b ^^^ (((a ^^^ b) ^^^ c) ^^^ d)) ^^^ tw (b ^^^ c)) :: ((c ^^^ (((a ^^^ b) ^^^ c) ^^^ d)) ^^^ tw (c ^^^ d)) :: ((d ^^^ (((a ^^^ b) ^^^ c) ^^^ d)) ^^^ tw (d ^^^ a)) :: mixS l
  | _ => []
def preS : List UInt8 → List UInt8
  | a :: b :: c :: d :: l => (a ^^^ tw (tw (a ^^^ c))) :: (b ^^^ tw (tw (b ^^^ d))) :: (c ^^^ tw (tw (a ^^^ c))) :: (d ^^^ tw (tw (b ^^^ d))) :: preS l
  | _ => []
theorem mix_mix : ∀ s : List UInt8, mixS (mixS s) = preS s
  | a :: b :: c :: d :: l => by
    rw [mixS, mixS, preS, mix_mix l]
    simp only [tw_xor]
    refine congr (congrArg List.cons ?_) (congr (congrArg List.cons ?_) (congr (congrArg List.cons ?_) (congr (congrArg List.cons ?_) rfl))) <;>
      simp [UInt8.xor_assoc, UInt8.xor_comm, xl, xc]
  | [] => rfl
  | [_] => rfl
  | [_, _] => rfl
  | [_, _, _] => rfl
theorem pre_pre : ∀ (n : Nat) (s : List UInt8), s.length = 4 * n → preS (preS s) = s
  | n + 1, a :: b :: c :: d :: l, h => by
    rw [preS, preS, pre_pre n l (by simp only [List.length_cons] at h; omega)]
    simp only [tw_xor]
    refine congr (congrArg List.cons ?_) (congr (congrArg List.cons ?_) (congr (congrArg List.cons ?_) (congr (congrArg List.cons ?_) rfl))) <;>
      simp [UInt8.xor_assoc, UInt8.xor_comm, xl, xc]
  | 0, [], _ => rfl
  | n + 1, [], h => by simp at h
  | n + 1, [_], h => by simp at h; omega
  | n + 1, [_, _], h => by simp at h; omega
  | n + 1, [_, _, _], h => by simp at h; omega
theorem mixS_len (s : List UInt8) (h : s.length = 16) : (mixS s).length = 16 := by
  obtain ⟨a0, a1, a2, a3, a4, a5, a6, a7, a8, a9, a10, a11, a12, a13, a14, a15, rfl⟩ := l16 s h
  rfl
theorem preS_len (s : List UInt8) (h : s.length = 16) : (preS s).length = 16 := by
  obtain ⟨a0, a1, a2, a3, a4, a5, a6, a7, a8, a9, a10, a11, a12, a13, a14, a15, rfl⟩ := l16 s h
  rfl
theorem pMix (s : List UInt8) (h : s.length = 16) : aes_mix 300 s = some (mixS s) := by
  obtain ⟨a0, a1, a2, a3, a4, a5, a6, a7, a8, a9, a10, a11, a12, a13, a14, a15, rfl⟩ := l16 s h
  rfl
theorem pUnmix (s : List UInt8) (h : s.length = 16) : aes_unmix 300 s = some (mixS (preS s)) := by
  have h2 : aes_unmix_l0 300 300 0 s = some (preS s) := by
    obtain ⟨a0, a1, a2, a3, a4, a5, a6, a7, a8, a9, a10, a11, a12, a13, a14, a15, rfl⟩ := l16 s h
    rfl
  unfold aes_unmix
  rw [h2]
  simp only [Option.bind_some]
  rw [pMix _ (preS_len s h)]
  rfl
/-! a round key -/
def p4 (w : UInt32) : List UInt8 := [UInt8.ofNat (u32_shr w 24).toNat, UInt8.ofNat (u32_shr w 16).toNat, UInt8.ofNat (u32_shr w 8).toNat, UInt8.ofNat (u32_shr w 0).toNat]
def ad (s k : List UInt8) : List UInt8 := List.zipWith (· ^^^ ·) s k
def rk (ws : List UInt32) (j : Nat) : List UInt8 := ((ws.drop (4 * j)).take 4).flatMap p4
theorem pAdd (ws : List UInt32) (b q s : List UInt8) (j : Nat) (hj : 4 * j + 4 ≤ ws.length) (hw : ws.length ≤ 100) (h : s.length = 16) : aes_Cipher_add 300 (ws, b, q) s (j : Int) = some (ad s (rk ws j)) := by
  unfold aes_Cipher_add
  rw [k_id (x := 4 * (j : Int)) (by omega), k_id (by omega)]
  have e : sub ws (4 * (j : Int)) (4 * (j : Int) + 4) = some ((ws.drop (4 * j)).take 4) := by
    unfold sub
    rw [if_pos (by omega), show (4 * (j : Int) + 4).toNat = 4 + 4 * j by omega, show (4 * (j : Int)).toNat = 4 * j by omega, List.take_drop, Nat.add_comm 4]
  show (sub ws _ _).bind _ = _
  rw [e]
  have hl : ((ws.drop (4 * j)).take 4).length = 4 := by rw [List.length_take, List.length_drop]; omega
  unfold rk
  generalize (ws.drop (4 * j)).take 4 = t at *
  match t, hl with
  | [w0, w1, w2, w3], _ =>
    obtain ⟨a0, a1, a2, a3, a4, a5, a6, a7, a8, a9, a10, a11, a12, a13, a14, a15, rfl⟩ := l16 s h
    rfl
theorem rk_len (ws : List UInt32) (j : Nat) (hj : 4 * j + 4 ≤ ws.length) : (rk ws j).length = 16 := by
  have hl : ((ws.drop (4 * j)).take 4).length = 4 := by rw [List.length_take, List.length_drop]; omega
  unfold rk
  generalize (ws.drop (4 * j)).take 4 = t at *
  match t, hl with
  | [w0, w1, w2, w3], _ => rfl
theorem ad_len (s k : List UInt8) (h : s.length = 16) (hk : k.length = 16) : (ad s k).length = 16 := by simp [ad, h, hk]
theorem ad_ad : ∀ (s k : List UInt8), s.length ≤ k.length → ad (ad s k) k = s
  | [], _, _ => rfl
  | a :: s, [], h => by simp at h
  | a :: s, b :: k, h => by
    have := ad_ad s k (by simpa using h)
    unfold ad at this ⊢
    simp only [List.zipWith_cons_cons, List.cons.injEq]
    refine ⟨?_, this⟩
    rw [UInt8.xor_assoc, UInt8.xor_self, UInt8.xor_zero]
end Go.Proofs.Ytohgmggdfmjgnaa
