/- CredSeals: the plain law. -/
import Derived.Test.YthaoiajbgadcjaaE22A
import Derived.Test.YthaoiajbgadcjaaCu
set_option linter.unusedVariables false
set_option linter.unusedSimpArgs false
namespace Go.Proofs.Ythaoiajbgadcjaa
open Go.RowKit
theorem sealR_len (c root : List UInt8) (n : Int) (key : List UInt8) : (sealR c root n key).1.length ≤ 48 := by
  unfold sealR
  split
  · simp
  · split
    · simp
    · rename_i h
      rw [sealL_len _ _ _ _ (by omega)]; omega
theorem chatelainelaw22_CredSeals_true (x : List UInt8 × List UInt8 × Int × List UInt8) (hx : (tyP (tyL ty8) (tyP (tyA 32 ty8) (tyP tyI (tyL ty8)))).has x) (b : List UInt8) (_ : ∀ x ∈ b, ty8.has x) (_ : b.length ≤ maxLen) : ∃ Fu, chatelainelaw22_CredSeals Fu x b = some true := by
  obtain ⟨c, root, n, key⟩ := x
  have hr : root.length = 32 := (has_A (has_P (has_P hx).2).1).1
  refine ⟨300, ?_⟩
  unfold chatelainelaw22_CredSeals
  refine (bnd_eqW credAwake _).trans ?_
  rw [if_neg (by simp)]
  dsimp only
  by_cases hl : ((decide (100 < (c.length : Int)) || decide (100 < (key.length : Int))) || decide (100 < (b.length : Int))) = true
  · rw [if_pos hl]
  rw [if_neg hl]
  simp only [Bool.or_eq_true, decide_eq_true_eq] at hl
  refine (bnd_eqW (pSeal c root hr n key) _).trans ?_
  refine (bnd_eqW (rSeal c root hr n key) _).trans ?_
  have hs := sealR_len c root n key
  refine (bnd_eqW (same8 300 _ _ (by omega) (by omega)) _).trans ?_
  rw [if_neg (by simp)]
  refine (bnd_eqW (pOpen c root hr n b) _).trans ?_
  refine (bnd_eqW (show chatelaineref22_Right 300 c = some (rightC c) from rfl) _).trans ?_
  by_cases h : rightC c = false
  · rw [if_pos (by rw [h]; rfl)]
    unfold openR
    rw [if_pos h]; rfl
  · have h' : rightC c = true := by cases h2 : rightC c <;> simp_all
    rw [if_neg (show ¬ (!rightC c) = true by rw [h']; simp)]
    by_cases hn : 0 ≤ n ∧ n ≤ 64 ∧ b.length = 48
    · rw [if_neg (by simp only [Bool.or_eq_true, decide_eq_true_eq]; omega)]
      rcases open_cases c root n b h' hn with e | ⟨k, e, hk, hb⟩
      · rw [e, if_pos rfl]; rfl
      · rw [e, if_neg (by simp)]
        refine (bnd_eqW (rSeal c root hr n k) _).trans ?_
        have e2 : sealR c root n k = (b, 0) := by
          unfold sealR
          rw [if_neg h, if_neg (fun z => z ⟨hn.1, hn.2.1, hk⟩), hb]
        rw [e2]
        refine (bnd_eqW (x := true) ?_ _).trans rfl
        rw [if_pos (by simp)]
        refine (bnd_eqW (same8 300 b b (by omega) (by omega)) _).trans ?_
        simp
    · rw [if_pos (by simp only [Bool.or_eq_true, decide_eq_true_eq]; omega)]
      unfold openR
      rw [if_neg h, if_pos hn]; rfl
end Go.Proofs.Ythaoiajbgadcjaa
