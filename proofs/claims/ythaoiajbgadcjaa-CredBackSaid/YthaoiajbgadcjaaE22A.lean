/- CredChecks: the plain law; the chapter's example. -/
import Derived.Test.YthaoiajbgadcjaaE22
import Derived.Test.YthaoiajbgadcjaaCt
set_option linter.unusedVariables false
set_option linter.unusedSimpArgs false
namespace Go.Proofs.Ythaoiajbgadcjaa
open Go.RowKit
theorem credAwake : chatelainelaw22_awake 300 = some true := by
  unfold chatelainelaw22_awake
  refine (bnd_eqW (show mkN 1 8 = some 8 from rfl) _).trans ?_
  refine (bnd_eqW (show mkN 1 32 = some 32 from rfl) _).trans ?_
  refine (bnd_eqW (pSeal _ _ rfl _ _) _).trans ?_
  unfold sealR
  rw [if_neg (by decide), if_neg (by simp)]
  rw [sealL_len _ _ _ _ (by simp)]
  rfl
theorem pCheckC (c : List UInt8) (n : Int) : cred_Check 300 c n = some (if rightC c = false then (List.replicate 32 ((0 : UInt8) : UInt8), 30) else if ¬ (0 ≤ n ∧ n ≤ 16) then (List.replicate 32 ((0 : UInt8) : UInt8), 2) else (derS c lCheck n.toNat, 0)) := by
  unfold cred_Check
  refine (bnd_eqW (show cred_Right 300 c = some (rightC c) from rfl) _).trans ?_
  by_cases h : rightC c = true
  · have hc := rightC_iff.1 h
    rw [if_neg (show ¬ (!rightC c) = true by rw [h]; simp), if_neg (show ¬ rightC c = false by rw [h]; simp)]
    by_cases hn : 0 ≤ n ∧ n ≤ 16
    · rw [if_neg (by simp only [Bool.or_eq_true, decide_eq_true_eq]; omega), if_neg (fun z => z hn)]
      refine (bnd_eqW (show bnd 32 0 32 = some (0, 32) from rfl) _).trans ?_
      refine (bnd_eqW (pDerived c (by omega) lCheck okCheck n hn.1 (by omega)) _).trans ?_
      have e : cpy (List.replicate 32 ((0 : UInt8) : UInt8)) 0 32 (derS c lCheck n.toNat) = derS c lCheck n.toNat := by
        have hl := derS_len c lCheck n.toNat
        unfold cpy
        rw [List.take_zero, List.nil_append, Nat.sub_zero, List.take_of_length_le (by omega), Nat.zero_add, hl]
        simp
      dsimp only
      rw [e]
    · rw [if_pos (by simp only [Bool.or_eq_true, decide_eq_true_eq]; omega), if_pos hn]
  · have h' : rightC c = false := by cases h2 : rightC c <;> simp_all
    rw [if_pos (by rw [h']; rfl), if_pos h']
theorem pIsC (c : List UInt8) (n : Int) (x : List UInt8) (hx : x.length = 32) : cred_Is 300 c n x = some (if rightC c = false then false else if ¬ (0 ≤ n ∧ n ≤ 16) then false else decide (derS c lCheck n.toNat = x)) := by
  unfold cred_Is
  refine (bnd_eqW (pCheckC c n) _).trans ?_
  by_cases h : rightC c = false
  · rw [if_pos h, if_pos h, if_neg (by simp)]; rfl
  · rw [if_neg h, if_neg h]
    by_cases hn : 0 ≤ n ∧ n ≤ 16
    · have hnn : ¬ ¬ (0 ≤ n ∧ n ≤ 16) := fun z => z hn
      rw [if_neg hnn, if_neg hnn, if_pos rfl]
      refine (bnd_eqW (x := decide (derS c lCheck n.toNat = x)) ?_ _).trans rfl
      refine (bnd_eqW (show bnd 32 0 32 = some (0, 32) from rfl) _).trans ?_
      refine (bnd_eqW (show bnd 32 0 32 = some (0, 32) from rfl) _).trans ?_
      dsimp only
      rw [td _ 32 (derS_len _ _ _), td _ 32 hx]
      exact (bnd_eqW (pSameB _ _ (by rw [derS_len, hx]) (by rw [derS_len]; omega)) _).trans rfl
    · have hnn : ¬ (0 ≤ n ∧ n ≤ 16) := hn
      rw [if_pos hnn, if_pos hnn, if_neg (by simp)]; rfl
theorem chatelainelaw22_CredChecks_true (c : List UInt8) (_ : ∀ x ∈ c, ty8.has x) (_ : c.length ≤ maxLen) (n : Int) (_ : r64 n) (check : List UInt8) (hk : (tyA 32 ty8).has check) : ∃ Fu, chatelainelaw22_CredChecks Fu c n check = some true := by
  have hck : check.length = 32 := (has_A hk).1
  refine ⟨300, ?_⟩
  unfold chatelainelaw22_CredChecks
  refine (bnd_eqW credAwake _).trans ?_
  rw [if_neg (by simp)]
  by_cases hl : 100 < (c.length : Int)
  · rw [if_pos hl]
  rw [if_neg hl]
  refine (bnd_eqW (pCheckC c n) _).trans ?_
  refine (bnd_eqW (show cred_Right 300 c = some (rightC c) from rfl) _).trans ?_
  refine (bnd_eqW (show chatelaineref22_Right 300 c = some (rightC c) from rfl) _).trans ?_
  rw [if_neg (by cases rightC c <;> simp)]
  refine (bnd_eqW (show chatelaineref22_Right 300 c = some (rightC c) from rfl) _).trans ?_
  by_cases h : rightC c = false
  · rw [if_pos (show (!rightC c) = true by rw [h]; rfl), if_pos h]
    refine (bnd_eqW (x := true) ?_ _).trans rfl
    rw [if_pos (by simp)]
    refine (bnd_eqW (pIsC c n _ (by simp)) _).trans ?_
    rw [if_pos h]; rfl
  · have h' : rightC c = true := by cases h2 : rightC c <;> simp_all
    have hc := rightC_iff.1 h'
    rw [if_neg (show ¬ (!rightC c) = true by rw [h']; simp), if_neg h]
    by_cases hn : 0 ≤ n ∧ n ≤ 16
    · rw [if_neg (by simp only [Bool.or_eq_true, decide_eq_true_eq]; omega), if_neg (fun z => z hn)]
      refine (bnd_eqW (rDerived c (by omega) lCheck okCheck n hn.1 (by omega)) _).trans ?_
      refine (bnd_eqW (x := true) ?_ _).trans ?_
      · rw [if_pos rfl]
        refine (bnd_eqW (show bnd 32 0 32 = some (0, 32) from rfl) _).trans ?_
        dsimp only
        rw [td _ 32 (derS_len _ _ _)]
        refine (bnd_eqW (same8 300 _ _ (by rw [derS_len]; omega) (by rw [derS_len]; omega)) _).trans ?_
        simp
      · refine (bnd_eqW (x := true) ?_ _).trans ?_
        · rw [if_pos rfl]
          refine (bnd_eqW (pIsC c n _ (derS_len _ _ _)) _).trans ?_
          rw [if_neg h, if_neg (fun z => z hn)]
          simp
        · refine (bnd_eqW (x := true) ?_ _).trans rfl
          rw [if_pos rfl]
          refine (bnd_eqW (pIsC c n check hck) _).trans ?_
          rw [if_neg h, if_neg (fun z => z hn)]
          refine (bnd_eqW (show bnd 32 0 32 = some (0, 32) from rfl) _).trans ?_
          dsimp only
          rw [td _ 32 hck]
          refine (bnd_eqW (same8 300 _ _ (by omega) (by omega)) _).trans ?_
          by_cases e : check = derS c lCheck n.toNat
          · rw [decide_eq_true e, decide_eq_true e.symm]; rfl
          · rw [decide_eq_false e, decide_eq_false (fun z => e z.symm)]; rfl
    · rw [if_pos (by simp only [Bool.or_eq_true, decide_eq_true_eq]; omega), if_pos hn]
      refine (bnd_eqW (x := true) ?_ _).trans rfl
      rw [if_pos (by simp)]
      refine (bnd_eqW (pIsC c n _ (by simp)) _).trans ?_
      rw [if_neg h, if_pos hn]; rfl
end Go.Proofs.Ythaoiajbgadcjaa
