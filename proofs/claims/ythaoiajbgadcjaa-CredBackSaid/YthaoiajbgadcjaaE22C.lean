/- CredBack: the plain law. -/
import Derived.Test.YthaoiajbgadcjaaE22A
import Derived.Test.YthaoiajbgadcjaaCv
set_option linter.unusedVariables false
set_option linter.unusedSimpArgs false
namespace Go.Proofs.Ythaoiajbgadcjaa
open Go.RowKit
theorem chatelainelaw22_CredBack_true (x : List UInt8 × List UInt8 × Int × List UInt8) (hx : (tyP (tyL ty8) (tyP (tyA 32 ty8) (tyP tyI (tyL ty8)))).has x) (to_ : List UInt8) (ht : (tyA 32 ty8).has to_) (other : List UInt8) (_ : ∀ x ∈ other, ty8.has x) (_ : other.length ≤ maxLen) : ∃ Fu, chatelainelaw22_CredBack Fu x to_ other = some true := by
  obtain ⟨c, root, n, key⟩ := x
  have hr : root.length = 32 := (has_A (has_P (has_P hx).2).1).1
  have hto : to_.length = 32 := (has_A ht).1
  refine ⟨300, ?_⟩
  unfold chatelainelaw22_CredBack
  refine (bnd_eqW credAwake _).trans ?_
  rw [if_neg (by simp)]
  dsimp only
  by_cases hl : ((decide (100 < (c.length : Int)) || decide (100 < (key.length : Int))) || decide (100 < (other.length : Int))) = true
  · rw [if_pos hl]
  rw [if_neg hl]
  simp only [Bool.or_eq_true, decide_eq_true_eq] at hl
  refine (bnd_eqW (pSeal c root hr n key) _).trans ?_
  by_cases hg : rightC c = true ∧ 0 ≤ n ∧ n ≤ 64 ∧ key.length = 32
  · obtain ⟨h', hn⟩ := hg
    have h : ¬ rightC c = false := by rw [h']; simp
    have es : sealR c root n key = (sealL c root n key, 0) := by
      unfold sealR
      rw [if_neg h, if_neg (fun z => z hn)]
    rw [es, if_neg (by simp)]
    dsimp only
    have hs48 := sealL_len c root n key hn.2.2
    have h40 := wrapL_40 (kek := inKc c n) (inK_len c n) hn.2.2
    refine (bnd_eqW (pOpen c root hr n _) _).trans ?_
    rw [open_seal c root n key h' hn]
    refine (bnd_eqW (pTurn root to_ hr hto n _) _).trans ?_
    have e1 : unwrapR (outKc root n) (sealL c root n key) = (wrapL (inKc c n) key, 0) := back_one (outK_len _ _) (by omega)
    have e2 : wrapR (outKc to_ n) (wrapL (inKc c n) key) = (sealL c to_ n key, 0) := wrapR_ok (outK_len _ _) (by omega)
    rw [if_neg (fun z => z ⟨hn.1, hn.2.1, hs48⟩), e1, if_neg (by simp)]
    dsimp only
    rw [e2]
    refine (bnd_eqW (pOpen c to_ hto n _) _).trans ?_
    rw [open_seal c to_ n key h' hn]
    have hsame : (chatelaineref01_Same 300 key key).bind (fun x92 => some (!x92)) = some false := by
      refine (bnd_eqW (same8 300 _ _ (by omega) (by omega)) _).trans ?_
      simp
    refine (bnd_eqW (x := false) ?_ _).trans ?_
    · rw [if_neg (by simp)]; exact hsame
    refine (bnd_eqW (x := false) ?_ _).trans ?_
    · rw [if_neg (by simp)]; exact hsame
    rw [if_neg (by simp)]
    have hch : cred_Change 300 c other root n (sealL c root n key) = some (sealR other root n key) := by
      unfold cred_Change
      refine (bnd_eqW (pOpen c root hr n _) _).trans ?_
      rw [open_seal c root n key h' hn, if_neg (by simp)]
      exact (bnd_eqW (pSeal other root hr n key) _).trans rfl
    refine (bnd_eqW hch _).trans ?_
    refine (bnd_eqW (show chatelaineref22_Right 300 other = some (rightC other) from rfl) _).trans ?_
    by_cases ho : rightC other = true
    · rw [if_neg (show ¬ (!rightC other) = true by rw [ho]; simp)]
      have es2 : sealR other root n key = (sealL other root n key, 0) := by
        unfold sealR
        rw [if_neg (by rw [ho]; simp), if_neg (fun z => z hn)]
      rw [es2]
      have hs2 := sealL_len other root n key hn.2.2
      dsimp only
      refine (bnd_eqW (pOpen other root hr n _) _).trans ?_
      rw [open_seal other root n key ho hn]
      refine (bnd_eqW (pSeal other root hr n key) _).trans ?_
      rw [es2]
      refine (bnd_eqW (x := true) ?_ _).trans ?_
      · rw [if_pos (by simp)]
        refine (bnd_eqW (same8 300 key key (by omega) (by omega)) _).trans ?_
        simp
      · refine (bnd_eqW (x := true) ?_ _).trans rfl
        rw [if_pos rfl]
        refine (bnd_eqW (same8 300 _ _ (by dsimp only; omega) (by dsimp only; omega)) _).trans ?_
        simp
    · have ho' : rightC other = false := by cases h2 : rightC other <;> simp_all
      rw [if_pos (by rw [ho']; rfl)]
      unfold sealR
      rw [if_pos ho']; rfl
  · have hb : (sealR c root n key).1 = [] ∧ (sealR c root n key).2 ≠ 0 := by
      unfold sealR
      split
      · simp
      · rename_i h1
        rw [if_pos]
        · simp
        · intro hn
          exact hg ⟨by cases h2 : rightC c <;> simp_all, hn⟩
    rw [if_pos hb.2, hb.1]
    refine (bnd_eqW (pTurn root to_ hr hto n []) _).trans ?_
    rw [if_pos (by simp)]; rfl
end Go.Proofs.Ythaoiajbgadcjaa
