/- The words of a key, and the document's cipher: it is the program's. -/
import Derived.Test.YthaoiajbgadcjaaE04B
import Derived.Test.YthaoiajbgadcjaaCs
set_option linter.unusedVariables false
set_option linter.unusedSimpArgs false
namespace Go.Proofs.Ythaoiajbgadcjaa
open Go.RowKit
def getW (key : List UInt8) (i : Nat) : UInt32 := mk4 (key.getD (4 * i) 0) (key.getD (4 * i + 1) 0) (key.getD (4 * i + 2) 0) (key.getD (4 * i + 3) 0)
def nxT (k i : Nat) (plus : UInt8) (pre : List UInt32) : UInt32 :=
  if i % k = 0 then swpd (rotw (pre.getD (i - 1) 0)) ^^^ u32_shl (UInt32.ofNat plus.toNat) 24 else if k = 8 ∧ i % 8 = 4 then swpd (pre.getD (i - 1) 0) else pre.getD (i - 1) 0
def nxW (k i : Nat) (plus : UInt8) (pre : List UInt32) : UInt32 := pre.getD (i - k) 0 ^^^ nxT k i plus pre
def nxP (k i : Nat) (plus : UInt8) : UInt8 := if i % k = 0 then tw plus else plus
def sch (k : Nat) : Nat → Nat → UInt8 → List UInt32 → List UInt32
  | 0, _, _, pre => pre
  | d + 1, i, plus, pre => sch k d (i + 1) (nxP k i plus) (pre ++ [nxW k i plus pre])
def kws (key : List UInt8) (k : Nat) : List UInt32 := (List.range k).map (getW key)
def schedA (key : List UInt8) : List UInt32 := sch (key.length / 4) (4 * (key.length / 4 + 7) - key.length / 4) (key.length / 4) 1 (kws key (key.length / 4))
theorem sch_len (k : Nat) : ∀ d i plus pre, (sch k d i plus pre).length = pre.length + d
  | 0, _, _, _ => rfl
  | d + 1, i, plus, pre => by rw [sch, sch_len k d]; simp; omega
theorem sched_len {key : List UInt8} (h : key.length = 16 ∨ key.length = 32) : (schedA key).length = 4 * (key.length / 4 + 6 + 1) := by
  unfold schedA kws
  rw [sch_len]
  simp only [List.length_map, List.length_range]
  rcases h with h | h <;> rw [h]
theorem set_mid {α : Type} (pre : List α) (d : Nat) (z v : α) : (pre ++ List.replicate (d + 1) z).set pre.length v = (pre ++ [v]) ++ List.replicate d z := by
  rw [List.set_append_right _ _ (Nat.le_refl _), Nat.sub_self, List.replicate_succ, List.set_cons_zero, List.append_assoc]; rfl
theorem sub4 (key : List UInt8) (i : Nat) (h : 4 * i + 4 ≤ key.length) : sub key (4 * (i : Int)) (4 * (i : Int) + 4) = some [key.getD (4 * i) 0, key.getD (4 * i + 1) 0, key.getD (4 * i + 2) 0, key.getD (4 * i + 3) 0] := by
  unfold sub
  rw [if_pos (by omega), show (4 * (i : Int) + 4).toNat = 4 * i + 4 by omega, show (4 * (i : Int)).toNat = 4 * i by omega, ← List.take_drop]
  congr 1
  apply List.ext_getElem?
  intro j
  rw [List.getElem?_take]
  rcases j with _ | _ | _ | _ | j
  · rw [if_pos (by omega), List.getElem?_drop, getD_some 0 (by omega)]; rfl
  · rw [if_pos (by omega), List.getElem?_drop, getD_some 0 (by omega)]; rfl
  · rw [if_pos (by omega), List.getElem?_drop, getD_some 0 (by omega)]; rfl
  · rw [if_pos (by omega), List.getElem?_drop, getD_some 0 (by omega)]; rfl
  · rw [if_neg (by omega)]; rfl
section
variable {key : List UInt8} {k N : Nat} {q : List UInt8}
theorem tdiv4 (h : key.length = 4 * k) (hk : k ≤ 8) : w64 (Int.tdiv (key.length : Int) 4) = (k : Int) := by
  rw [show (4 : Int) = ((4 : Nat) : Int) from rfl, ← Int.ofNat_tdiv, h, Nat.mul_div_cancel_left _ (by decide)]
  exact k_id (by omega)
theorem out_get {pre : List UInt32} {d m : Nat} {z : UInt32} (h : m < pre.length) : (pre ++ List.replicate d z)[m]? = some (pre.getD m 0) := by
  rw [List.getElem?_append_left h, getD_some 0 h]
theorem remI_nat {i k : Nat} (h : k ≠ 0) : remI (i : Int) (k : Int) = some ((i % k : Nat) : Int) := by
  unfold remI
  rw [if_neg (by omega), ← Int.ofNat_tmod]
theorem ex1 (h : key.length = 4 * k) (hk : k ≤ 8) (K i d : Nat) (plus : UInt8) (pre : List UInt32) (hp : pre.length = i) (hi : i < k) (hN : i + (d + 1) = N) (hN2 : N ≤ 100) :
    aes_expand_at0_aes_Cipher_1_l0 300 key (K + 1) plus (N : Int) (i : Int) [] bxL q (pre ++ List.replicate (d + 1) 0) = aes_expand_at0_aes_Cipher_1_l0 300 key K plus (N : Int) ((i + 1 : Nat) : Int) [] bxL q ((pre ++ [getW key i]) ++ List.replicate d 0) := by
  rw [aes_expand_at0_aes_Cipher_1_l0, if_pos (by omega), tdiv4 h hk, if_pos (by omega), k_id (x := 4 * (i : Int)) (by omega), k_id (x := 4 * (i : Int) + 4) (by omega), sub4 key i (by omega)]
  simp only [Option.bind_some]
  rw [show word_Get32 300 [key.getD (4 * i) 0, key.getD (4 * i + 1) 0, key.getD (4 * i + 2) 0, key.getD (4 * i + 3) 0] = some (getW key i, true) from rfl]
  simp only [Option.bind_some]
  rw [ix_nat (by simp; omega)]
  simp only [Option.bind_some]
  rw [← hp, set_mid, hp, k_id (by omega)]
  rfl
theorem ex2 (h : key.length = 4 * k) (hk : k ≤ 8) (hk0 : 0 < k) (K i d : Nat) (plus : UInt8) (pre : List UInt32) (hp : pre.length = i) (hi : k ≤ i) (hN : i + (d + 1) = N) (hN2 : N ≤ 100) :
    aes_expand_at0_aes_Cipher_1_l0 300 key (K + 1) plus (N : Int) (i : Int) [] bxL q (pre ++ List.replicate (d + 1) 0) = aes_expand_at0_aes_Cipher_1_l0 300 key K (nxP k i plus) (N : Int) ((i + 1 : Nat) : Int) [] bxL q ((pre ++ [nxW k i plus pre]) ++ List.replicate d 0) := by
  rw [aes_expand_at0_aes_Cipher_1_l0, if_pos (by omega), tdiv4 h hk, if_neg (by omega), k_id (x := (i : Int) - 1) (by omega), show (i : Int) - 1 = ((i - 1 : Nat) : Int) by omega, ix_nat (by simp; omega)]
  simp only [Option.bind_some]
  rw [out_get (by omega)]
  simp only [Option.bind_some]
  rw [remI_nat (by omega)]
  simp only [Option.bind_some]
  have e : (if ((i % k : Nat) : Int) = 0 then
          ((word_Rotate 300 (pre.getD (i - 1) 0) (-8)).bind fun x147 =>
            (aes_swapped_at0_aes_Cipher_1 300 ([], bxL, q) x147).bind fun x150 =>
              (gf_Times 300 plus (2 : UInt8)).bind fun x165 => some (x165, (x150.1 ^^^ (u32_shl (UInt32.ofNat plus.toNat) 24)), x150.2.1, x150.2.2.1, x150.2.2.2))
        else (if ((decide ((k : Int) = 8)) && (decide (Int.tmod (i : Int) 8 = 4))) = true then ((aes_swapped_at0_aes_Cipher_1 300 ([], bxL, q) (pre.getD (i - 1) 0)).bind fun x170 => some (plus, x170.1, x170.2.1, x170.2.2.1, x170.2.2.2)) else (some (plus, pre.getD (i - 1) 0, [], bxL, q)))) =
      some (nxP k i plus, nxT k i plus pre, [], bxL, q) := by
    unfold nxP nxT
    by_cases h1 : i % k = 0
    · rw [if_pos (by omega), if_pos h1, if_pos h1, pRotate]
      simp only [Option.bind_some]
      rw [pSwapped]
      simp only [Option.bind_some]
      rw [pTimes2]
      rfl
    · rw [if_neg (by omega), if_neg h1, if_neg h1]
      by_cases h2 : k = 8 ∧ i % 8 = 4
      · rw [if_pos (by rw [show (8 : Int) = ((8 : Nat) : Int) from rfl, ← Int.ofNat_tmod]; simp; omega), if_pos h2, pSwapped]
        rfl
      · rw [if_neg (by rw [show (8 : Int) = ((8 : Nat) : Int) from rfl, ← Int.ofNat_tmod]; simp; omega), if_neg h2]
  rw [e]
  simp only [Option.bind_some]
  rw [k_id (x := (i : Int) - (k : Int)) (by omega), show (i : Int) - (k : Int) = ((i - k : Nat) : Int) by omega, ix_nat (by simp; omega)]
  simp only [Option.bind_some]
  rw [out_get (by omega)]
  simp only [Option.bind_some]
  rw [ix_nat (by simp; omega)]
  simp only [Option.bind_some]
  rw [show (pre ++ List.replicate (d + 1) (0 : UInt32)).set i (pre.getD (i - k) 0 ^^^ nxT k i plus pre) = (pre ++ [nxW k i plus pre]) ++ List.replicate d 0 by rw [← hp, set_mid, hp]; rfl, k_id (by omega)]
  rfl
theorem exA (h : key.length = 4 * k) (hk : k ≤ 8) (hk0 : 0 < k) (hN2 : N ≤ 100) : ∀ d K i plus (pre : List UInt32), pre.length = i → k ≤ i → i + d = N → d < K →
    aes_expand_at0_aes_Cipher_1_l0 300 key K plus (N : Int) (i : Int) [] bxL q (pre ++ List.replicate d 0) = some ([], bxL, q, sch k d i plus pre) := by
  intro d
  induction d with
  | zero =>
    intro K i plus pre hp hi hN hK
    obtain ⟨K, rfl⟩ : ∃ m, K = m + 1 := ⟨K - 1, by omega⟩
    rw [aes_expand_at0_aes_Cipher_1_l0, if_neg (by omega)]
    simp [sch]
  | succ d ih =>
    intro K i plus pre hp hi hN hK
    obtain ⟨K, rfl⟩ : ∃ m, K = m + 1 := ⟨K - 1, by omega⟩
    rw [ex2 h hk hk0 K i d plus pre hp hi hN hN2, ih K (i + 1) _ _ (by simp [hp]) (by omega) (by omega) (by omega)]
    rfl
theorem exB (h : key.length = 4 * k) (hk : k ≤ 8) (hk0 : 0 < k) (hN2 : N ≤ 100) (hkN : k ≤ N) (hNK : N < 200) : ∀ e i K, i + e = k → N - i < K →
    aes_expand_at0_aes_Cipher_1_l0 300 key K 1 (N : Int) (i : Int) [] bxL q ((List.range i).map (getW key) ++ List.replicate (N - i) 0) = some ([], bxL, q, sch k (N - k) k 1 (kws key k)) := by
  intro e
  induction e with
  | zero =>
    intro i K hi hK
    obtain rfl : i = k := by omega
    exact exA h hk hk0 hN2 (N - i) K i 1 _ (by simp) (Nat.le_refl _) (by omega) hK
  | succ e ih =>
    intro i K hi hK
    obtain ⟨K, rfl⟩ : ∃ m, K = m + 1 := ⟨K - 1, by omega⟩
    obtain ⟨d, hd⟩ : ∃ d, N - i = d + 1 := ⟨N - i - 1, by omega⟩
    rw [hd, ex1 h hk K i d 1 _ (by simp) (by omega) (by omega) hN2, ← ih (i + 1) K (by omega) (by omega), show N - (i + 1) = d by omega, List.range_succ, List.map_append]
    rfl
theorem pExpand (h : key.length = 16 ∨ key.length = 32) : aes_expand_at0_aes_Cipher_1 300 ([], bxL, q) key = some (schedA key, ([], bxL, q)) := by
  unfold aes_expand_at0_aes_Cipher_1 aes_rounds
  rcases h with h | h
  · have := exB (N := 44) (q := q) (k := 4) (key := key) (by omega) (by omega) (by omega) (by omega) (by omega) (by omega) 4 0 300 (by omega) (by omega)
    rw [show (((44 : Nat) : Int)) = (44 : Int) from rfl] at this
    unfold schedA
    rw [h]
    show (aes_expand_at0_aes_Cipher_1_l0 300 key 300 1 (44 : Int) 0 [] bxL q (List.replicate 44 0)).bind _ = _
    rw [show (List.replicate 44 (0 : UInt32)) = (List.range 0).map (getW key) ++ List.replicate (44 - 0) 0 from rfl, show (0 : Int) = ((0 : Nat) : Int) from rfl, this]
    rfl
  · have := exB (N := 60) (q := q) (k := 8) (key := key) (by omega) (by omega) (by omega) (by omega) (by omega) (by omega) 8 0 300 (by omega) (by omega)
    rw [show (((60 : Nat) : Int)) = (60 : Int) from rfl] at this
    unfold schedA
    rw [h]
    show (aes_expand_at0_aes_Cipher_1_l0 300 key 300 1 (60 : Int) 0 [] bxL q (List.replicate 60 0)).bind _ = _
    rw [show (List.replicate 60 (0 : UInt32)) = (List.range 0).map (getW key) ++ List.replicate (60 - 0) 0 from rfl, show (0 : Int) = ((0 : Nat) : Int) from rfl, this]
    rfl
theorem pNew (h : key.length = 16 ∨ key.length = 32) : aes_New 300 key = some (.inr ((schedA key, bxL, bkL), 0)) := by
  unfold aes_New
  have e : aes_rounds 300 (key.length : Int) = some (if key.length = 16 then 10 else 14) := by
    unfold aes_rounds
    rcases h with h | h <;> rw [h] <;> rfl
  rw [e]
  simp only [Option.bind_some]
  rw [if_neg (by split <;> decide), box_is]
  simp only [Option.bind_some]
  rw [swap_is]
  simp only [Option.bind_some]
  rw [pExpand h]
  rfl
theorem pNewBad (h : key.length ≠ 16 ∧ key.length ≠ 32) : aes_New 300 key = some (.inl 20) := by
  unfold aes_New aes_rounds
  rw [if_neg (by omega), if_neg (by omega)]
  rfl
end
end Go.Proofs.Ythaoiajbgadcjaa
