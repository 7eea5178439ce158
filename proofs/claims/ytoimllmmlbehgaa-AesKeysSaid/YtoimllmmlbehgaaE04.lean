/- The laws of AES, over lists. -/
import Derived.Test.YtoimllmmlbehgaaE04E
import Derived.Test.YtoimllmmlbehgaaAl
import Derived.Test.YtoimllmmlbehgaaPo
set_option linter.unusedVariables false
set_option linter.unusedSimpArgs false
namespace Go.Proofs.Ytoimllmmlbehgaa
open Go.RowKit
set_option maxRecDepth 100000 in
theorem aes_awake : chatelainelaw04_awake 300 = some true := by decide +kernel
theorem len16 {a : List UInt8} (h : (tyA 16 ty8).has a) : a.length = 16 := by
  obtain ⟨_, _, _, h⟩ := h; exact h
section
variable {key : List UInt8}
theorem sched_n (h : key.length = 16 ∨ key.length = 32) : ∃ n, key.length / 4 + 6 = n ∧ (sched key).length = 4 * (n + 1) ∧ n ≤ 20 := ⟨_, rfl, sched_len h, by omega⟩
theorem cb_sub {ws : List UInt32} {i : Nat} (hi : i < ws.length) (hl : ws.length ≤ 100) : sub (cb ws) (w64 (4 * (i : Int))) (w64 ((w64 (4 * (i : Int))) + 4)) = some (ci (p4 (ws.getD i 0))) := by
  rw [k_id (x := 4 * (i : Int)) (by omega), k_id (by omega)]
  unfold sub
  rw [if_pos (by rw [cb_len]; omega), show (4 * (i : Int) + 4).toNat = 4 * i + 4 by omega, show (4 * (i : Int)).toNat = 4 * i by omega, ← List.take_drop]
  unfold cb ci
  have e : ((ws.flatMap p4).drop (4 * i)).take 4 = p4 (ws.getD i 0) := by
    rw [fm_drop]
    have := fm_take 1 (ws.drop i)
    rw [Nat.mul_one] at this
    rw [this, List.drop_eq_getElem_cons hi, List.take_succ_cons, List.take_zero, List.flatMap_cons, List.flatMap_nil, List.append_nil]
    simp [List.getD, List.getElem?_eq_getElem hi]
  rw [← List.map_drop, ← List.map_take, e]
theorem keys_l1 {ws : List UInt32} {n : Int} {bs : List Int} (hl : ws.length ≤ 100) : ∀ d K i, i + d = ws.length → d < K → chatelainelaw04_AesKeys_l1 300 (ws, 0) (n, cb ws, bs) K (i : Int) = some (.inr ()) := by
  intro d
  induction d with
  | zero =>
    intro K i hi hK
    obtain ⟨K, rfl⟩ : ∃ m, K = m + 1 := ⟨K - 1, by omega⟩
    rw [chatelainelaw04_AesKeys_l1, if_neg (by dsimp only; omega)]
  | succ d ih =>
    intro K i hi hK
    obtain ⟨K, rfl⟩ : ∃ m, K = m + 1 := ⟨K - 1, by omega⟩
    rw [chatelainelaw04_AesKeys_l1, if_pos (by dsimp only; omega)]
    refine (bnd_eq (show idx ws (i : Int) = some (ws.getD i 0) by rw [idx_nat, getD_some 0 (by omega)]) _).trans ?_
    refine (bnd_eq (cb_sub (by omega) hl) _).trans ?_
    generalize ws.getD i 0 = w
    refine (bnd_eq (show idx (ci (p4 w)) 0 = some ((by0 w).toNat : Int) from rfl) _).trans ?_
    refine (bnd_eq (show idx (ci (p4 w)) 1 = some ((by1 w).toNat : Int) from rfl) _).trans ?_
    refine (bnd_eq (show idx (ci (p4 w)) 2 = some ((by2 w).toNat : Int) from rfl) _).trans ?_
    refine (bnd_eq (show idx (ci (p4 w)) 3 = some ((by3 w).toNat : Int) from rfl) _).trans ?_
    have hv := p4_val w
    have ha := (by0 w).toNat_lt; have hb := (by1 w).toNat_lt; have hc := (by2 w).toNat_lt; have hd := (by3 w).toNat_lt
    rw [w64_of (x := 16777216 * ((by0 w).toNat : Int)) (by omega), w64_of (x := 65536 * ((by1 w).toNat : Int)) (by omega), w64_of (x := 256 * ((by2 w).toNat : Int)) (by omega), w64_of (x := 16777216 * ((by0 w).toNat : Int) + 65536 * ((by1 w).toNat : Int)) (by omega), w64_of (x := 16777216 * ((by0 w).toNat : Int) + 65536 * ((by1 w).toNat : Int) + 256 * ((by2 w).toNat : Int)) (by omega), w64_of (by omega)]
    rw [if_neg (by omega), k_id (by omega)]
    exact ih K (i + 1) (by omega) (by omega)
theorem pWords (h : key.length = 16 ∨ key.length = 32) : aes_Words 300 key = some (sched key, 0) := by
  unfold aes_Words
  rw [pNew h]
  rfl
theorem pWordsBad (h : key.length ≠ 16 ∧ key.length ≠ 32) : aes_Words 300 key = some ([], 20) := by
  unfold aes_Words
  rw [pNewBad h]
  rfl
end
theorem chatelainelaw04_AesKeys_true (key : List UInt8) (_ : ∀ x ∈ key, ty8.has x) : ∃ Fu, chatelainelaw04_AesKeys Fu key = some true := by
  refine ⟨300, ?_⟩
  unfold chatelainelaw04_AesKeys
  refine (bnd_eq aes_awake _).trans ?_
  rw [if_neg (by decide)]
  by_cases h100 : 100 < (key.length : Int)
  · rw [if_pos h100]
  · rw [if_neg h100]
    by_cases h : key.length = 16 ∨ key.length = 32
    · obtain ⟨n, hn, hw, hn20⟩ := sched_n h
      refine (bnd_eq (pNew h) _).trans ?_
      dsimp only
      refine (bnd_eq (pWords h) _).trans ?_
      rw [if_neg (by simp; omega)]
      refine (bnd_eq (rMake h) _).trans ?_
      rw [hn]
      refine (bnd_eq (x := false) ?_ _).trans ?_
      · rw [if_neg (by simp)]
        refine (bnd_eq (pRounds hw hn20) _).trans ?_
        simp
      · rw [if_neg (by
          dsimp only
          rw [cb_len, w64_of (by omega)]
          simp)]
        refine (bnd_eq (keys_l1 (by omega) (sched key).length 300 0 (by omega) (by omega)) _).trans ?_
        rfl
    · refine (bnd_eq (pNewBad (by omega)) _).trans ?_
      dsimp only
      refine (bnd_eq (pWordsBad (by omega)) _).trans ?_
      rw [if_pos (by simp; omega)]
      rfl
theorem chatelainelaw04_AesBlocks_true (key : List UInt8) (_ : ∀ x ∈ key, ty8.has x) (b : List UInt8) (hb : (tyA 16 ty8).has b) : ∃ Fu, chatelainelaw04_AesBlocks Fu key b = some true := by
  refine ⟨300, ?_⟩
  have hb := len16 hb
  unfold chatelainelaw04_AesBlocks
  refine (bnd_eq aes_awake _).trans ?_
  rw [if_neg (by decide)]
  by_cases h : key.length = 16 ∨ key.length = 32
  · obtain ⟨n, hn, hw, hn20⟩ := sched_n h
    have hl : 4 * n + 4 ≤ (sched key).length := by omega
    rw [if_neg (by simp; omega)]
    refine (bnd_eq (pNew h) _).trans ?_
    dsimp only
    rw [if_neg (by decide)]
    refine (bnd_eq (pEnc hw hn20 hb) _).trans ?_
    refine (bnd_eq (rMake h) _).trans ?_
    rw [hn]
    refine (bnd_eq (rEnc hw hn20 hb) _).trans ?_
    refine (bnd_eq (x := true) ?_ _).trans rfl
    rw [if_pos rfl]
    refine (bnd_eq (pDec hw hn20 (enc_len hl hb)) _).trans ?_
    rw [dec_enc hl hb]
    simp
  · rw [if_pos (by simp; omega)]
theorem chatelainelaw04_AesBack_true (key : List UInt8) (_ : ∀ x ∈ key, ty8.has x) (a : List UInt8) (ha : (tyA 16 ty8).has a) (b : List UInt8) (hb : (tyA 16 ty8).has b) : ∃ Fu, chatelainelaw04_AesBack Fu key a b = some true := by
  refine ⟨300, ?_⟩
  have ha := len16 ha
  have hb := len16 hb
  unfold chatelainelaw04_AesBack
  refine (bnd_eq aes_awake _).trans ?_
  rw [if_neg (by decide)]
  by_cases h : key.length = 16 ∨ key.length = 32
  · obtain ⟨n, hn, hw, hn20⟩ := sched_n h
    have hl : 4 * n + 4 ≤ (sched key).length := by omega
    refine (bnd_eq (pNew h) _).trans ?_
    dsimp only
    rw [if_neg (by decide)]
    refine (bnd_eq (pEnc hw hn20 ha) _).trans ?_
    refine (bnd_eq (pEnc hw hn20 hb) _).trans ?_
    refine (bnd_eq (pDec hw hn20 ha) _).trans ?_
    refine (bnd_eq (pEnc hw hn20 (dec_len hl ha)) _).trans ?_
    rw [enc_dec hl ha, if_pos rfl]
    refine (bnd_eq (x := true) ?_ _).trans ?_
    · refine (bnd_eq (pEnc hw hn20 ha) _).trans ?_
      refine (bnd_eq (pDec hw hn20 (enc_len hl ha)) _).trans ?_
      rw [dec_enc hl ha]
      simp
    · rw [Bool.true_and]
      congr 1
      by_cases e : a = b
      · subst e; simp
      · have : enc (sched key) n a ≠ enc (sched key) n b := fun e' => e (by rw [← dec_enc hl ha, e', dec_enc hl hb])
        simp [e, this]
  · refine (bnd_eq (pNewBad (by omega)) _).trans ?_
    dsimp only
    rw [if_pos (by decide)]
    congr 1
    simp; omega
end Go.Proofs.Ytoimllmmlbehgaa
