/- Texts put together. -/
import Derived.Test.YtcjleeclpmgbjaaDoorE46D
set_option linter.unusedVariables false
set_option linter.unusedSimpArgs false
namespace Go.Proofs.YtcjleeclpmgbjaaDoor
open Go.RowKit
section
/-- a letter's number -/
def lt5 (b : UInt8) : Option Nat := if 97 ≤ b.toNat ∧ b.toNat ≤ 122 then some (b.toNat - 97) else if 50 ≤ b.toNat ∧ b.toNat ≤ 55 then some (b.toNat - 50 + 26) else none
def numL : List UInt8 → Option (List Nat)
  | [] => some []
  | b :: s => match lt5 b with
    | none => none
    | some k => match numL s with
      | none => none
      | some K => some (k :: K)
def okL (b : Nat) : Bool := match lt5 (UInt8.ofNat b) with
  | some k => decide (k < 32) && decide (al k = UInt8.ofNat b) && decide (b ≤ 126) && decide (Lib.indexByte AL (u8I (b : Int)) = (k : Int))
  | none => decide (Lib.indexByte AL (u8I (b : Int)) < 0)
theorem lt_all : ∀ b : Fin 256, okL b.val = true := by decide +kernel
theorem lt_some {b : UInt8} {k : Nat} (h : lt5 b = some k) : k < 32 ∧ al k = b ∧ b.toNat ≤ 126 ∧ Lib.indexByte AL (u8I (b.toNat : Int)) = (k : Int) := by
  have := lt_all ⟨b.toNat, b.toNat_lt⟩
  unfold okL at this
  dsimp only at this
  rw [UInt8.ofNat_toNat, h] at this
  simp only [Bool.and_eq_true, decide_eq_true_eq] at this
  exact ⟨this.1.1.1, this.1.1.2, this.1.2, this.2⟩
theorem lt_none {b : UInt8} (h : lt5 b = none) : Lib.indexByte AL (u8I (b.toNat : Int)) < 0 := by
  have := lt_all ⟨b.toNat, b.toNat_lt⟩
  unfold okL at this
  dsimp only at this
  rw [UInt8.ofNat_toNat, h] at this
  simp only [Bool.and_eq_true, decide_eq_true_eq] at this
  exact this
theorem numL_al : ∀ (s : List UInt8) (K : List Nat), numL s = some K → s = K.map al ∧ ∀ k ∈ K, k < 32
  | [], K, h => by obtain rfl := Option.some.inj h; exact ⟨rfl, fun k hk => by cases hk⟩
  | b :: s, K, h => by
    rw [numL] at h
    split at h
    · cases h
    · rename_i k hk
      split at h
      · cases h
      · rename_i K' hK
        obtain rfl := Option.some.inj h
        have ih := numL_al s K' hK
        have h1 := lt_some hk
        refine ⟨by rw [List.map_cons, h1.2.1, ← ih.1], fun x hx => ?_⟩
        rcases List.mem_cons.1 hx with rfl | hx
        · exact h1.1
        · exact ih.2 x hx
theorem dec_ge (s : ByteArray) (i : Nat) (h : 128 ≤ (s.get! (i + 0)).toNat) : 128 ≤ (Utf8.decode s i).1 := by
  unfold Utf8.decode
  simp only []
  repeat' split
  all_goals (simp only [Utf8.runeError, Bool.and_eq_true, decide_eq_true_eq, ge_iff_le] at *; try omega)
end
section
theorem or5_all : ∀ v : Fin 128, ∀ k : Fin 32, i64_or (i64_shl (v.val : Int) 5) (k.val : Int) = ((v.val * 32 + k.val : Nat) : Int) := by decide +kernel
theorem i8_nat (x : Nat) : i8 (x : Int) = UInt8.ofNat x := by
  unfold i8
  rw [show ((x : Int) % 256).toNat = x % 256 by omega]
  apply UInt8.toNat_inj.1
  rw [UInt8.toNat_ofNat', UInt8.toNat_ofNat']; omega
theorem lt_128 {b : UInt8} (h : 128 ≤ b.toNat) : lt5 b = none := by
  unfold lt5
  rw [if_neg (by omega), if_neg (by omega)]
theorem rnx_big {s : List UInt8} {i : Nat} (hi : i < s.length) (h : 128 ≤ s[i].toNat) : ∃ y : Int × Nat, rnx s i = .inr y ∧ 126 < y.1 := by
  unfold rnx
  rw [if_pos hi]
  refine ⟨_, rfl, ?_⟩
  have e : (sb s).get! (i + 0) = s[i] := by
    show (sb s).data[i]! = s[i]
    simp [sb, hi]
  have := dec_ge (sb s) i (by rw [e]; exact h)
  dsimp only
  omega
theorem v128 {n v : Nat} (h : n < 8) (hv : v < 2 ^ n) : v < 128 := Nat.lt_of_lt_of_le hv (Nat.pow_le_pow_right (by omega) (show n ≤ 7 by omega))
theorem cB (Fu : Nat) (s : List UInt8) (hs : s.length ≤ 1000) : ∀ (d i k n v : Nat) (acc : List UInt8), i + d = s.length → d < k → n < 8 → v < 2 ^ n → acc.length ≤ i →
    code_Bytes_l0 Fu s k acc (v : Int) (n : Int) i = some (match numL (s.drop i) with | some K => .inr (acc ++ (ub n v K).1, ((ub n v K).2.2 : Int), ((ub n v K).2.1 : Int)) | none => .inl ([], 11)) := by
  intro d
  induction d with
  | zero =>
    intro i k n v acc hi hk hn hv ha
    obtain ⟨k, rfl⟩ : ∃ m, k = m + 1 := ⟨k - 1, by omega⟩
    have hr : rnx s i = .inl () := by unfold rnx; rw [if_neg (by omega)]
    rw [code_Bytes_l0, hr, List.drop_of_length_le (by omega)]; simp [numL, ub]
  | succ d ih =>
    intro i k n v acc hi hk hn hv ha
    obtain ⟨k, rfl⟩ : ∃ m, k = m + 1 := ⟨k - 1, by omega⟩
    have hlt : i < s.length := by omega
    rw [code_Bytes_l0, List.drop_eq_getElem_cons hlt, numL]
    by_cases hb : s[i].toNat < 128
    · rw [rnx_ascii (List.getElem?_eq_getElem hlt) hb]
      dsimp only
      rw [show strings_IndexByte Fu AL (u8I (s[i].toNat : Int)) = some (Lib.indexByte AL (u8I (s[i].toNat : Int))) from rfl]
      simp only [Option.bind_some]
      cases hl : lt5 s[i] with
      | none =>
        have := lt_none hl
        rw [if_pos (by simp [this])]
      | some q =>
        have hq := lt_some hl
        have hv7 := v128 hn hv
        have ho := or5_all ⟨v, hv7⟩ ⟨q, hq.1⟩
        dsimp only at ho
        have hx := nb_n hn hv hq.1
        rw [hq.2.2.2, if_neg (by simp; omega), ho, w_id (by omega), show (n : Int) + 5 = ((n + 5 : Nat) : Int) by omega]
        have ih' := fun acc' (h : acc'.length ≤ i + 1) => ih (i + 1) k (nb n v q).2.1 (nb n v q).2.2 acc' (by omega) (by omega) hx.1 hx.2 h
        by_cases h3 : n < 3
        · rw [if_neg (by omega)]
          simp only [Option.bind_some]
          have hvk := vk_lt hv hq.1
          rw [maskN _ _ (by omega) (by omega), Nat.mod_eq_of_lt hvk]
          have := ih' acc (by omega)
          unfold nb at this
          rw [if_pos h3] at this
          dsimp only at this
          rw [this]
          cases numL (s.drop (i + 1)) with
          | none => rfl
          | some K => dsimp only; rw [ub]; unfold nb; rw [if_pos h3]; rfl
        · rw [if_pos (by omega), w_id (by omega), show ((n + 5 : Nat) : Int) - 8 = ((n - 3 : Nat) : Int) by omega, u_nat (by omega), shrN _ _ (by omega), i8_nat]
          have e1 : app 1 acc [UInt8.ofNat ((v * 32 + q) / 2 ^ (n - 3))] = some (acc ++ [UInt8.ofNat ((v * 32 + q) / 2 ^ (n - 3))]) := by unfold app; rw [if_pos (by unfold maxLen; simp; omega)]
          rw [e1]
          simp only [Option.bind_some]
          rw [maskN _ _ (by omega) (by omega)]
          have := ih' (acc ++ [UInt8.ofNat ((v * 32 + q) / 2 ^ (n - 3))]) (by simp; omega)
          unfold nb at this
          rw [if_neg h3] at this
          dsimp only at this
          rw [this]
          cases numL (s.drop (i + 1)) with
          | none => rfl
          | some K => dsimp only; rw [ub]; unfold nb; rw [if_neg h3]; simp
    · obtain ⟨y, hy, hy2⟩ := rnx_big hlt (by omega)
      rw [hy, lt_128 (by omega)]
      dsimp only
      rw [show strings_IndexByte Fu AL (u8I y.1) = some (Lib.indexByte AL (u8I y.1)) from rfl]
      simp only [Option.bind_some]
      rw [if_pos (by simp [hy2])]
theorem cBytes (Fu : Nat) (hF : 2000 ≤ Fu) (s : List UInt8) (hs : s.length ≤ 1000) : code_Bytes Fu s = some (match numL s with | some K => if (ub 0 0 K).2.1 < 5 ∧ (ub 0 0 K).2.2 = 0 then ((ub 0 0 K).1, 0) else ([], 11) | none => ([], 11)) := by
  have h := cB Fu s hs s.length 0 Fu 0 0 [] (by omega) (by omega) (by omega) (by simp) (by simp)
  rw [List.drop_zero] at h
  unfold code_Bytes
  rw [show ((0 : Nat) : Int) = 0 from rfl] at h
  rw [h]
  simp only [Option.bind_some]
  cases numL s with
  | none => rfl
  | some K =>
    dsimp only
    rw [List.nil_append]
    by_cases hc : (ub 0 0 K).2.1 < 5 ∧ (ub 0 0 K).2.2 = 0
    · rw [if_pos hc, if_neg (by simp; omega)]
    · rw [if_neg hc, if_pos (by simp; omega)]
end
end Go.Proofs.YtcjleeclpmgbjaaDoor
