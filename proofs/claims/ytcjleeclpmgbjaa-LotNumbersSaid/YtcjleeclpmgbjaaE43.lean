/- LotNumbers: the plain law. -/
import Derived.Test.YtcjleeclpmgbjaaE43A
import Derived.Test.YtcjleeclpmgbjaaLp
set_option linter.unusedVariables false
set_option linter.unusedSimpArgs false
namespace Go.Proofs.Ytcjleeclpmgbjaa
open Go.RowKit
theorem nums_l0 (seed : List UInt8) (hs : seed.length ≤ 100) (a1 : List Int) (ha : a1.length ≤ 60) : ∀ (d k i t : Nat), i + d = a1.length → d < k → t ≤ i → ∃ t' : Nat, t' ≤ 60 ∧ chatelainelaw43_LotNumbers_l0 300 a1 k (i : Int) (seed, UInt64.ofNat t, true) (seed, (t : Int)) = some (.inr ((seed, UInt64.ofNat t', true), (seed, (t' : Int)))) := by
  intro d
  induction d with
  | zero =>
    intro k i t hi hk ht
    obtain ⟨k, rfl⟩ : ∃ m, k = m + 1 := ⟨k - 1, by omega⟩
    exact ⟨t, by omega, by rw [chatelainelaw43_LotNumbers_l0, if_neg (by omega)]⟩
  | succ d ih =>
    intro k i t hi hk ht
    obtain ⟨k, rfl⟩ : ∃ m, k = m + 1 := ⟨k - 1, by omega⟩
    have hlt : i < a1.length := by omega
    rw [chatelainelaw43_LotNumbers_l0, if_pos (by omega), idx_nat]
    generalize hn : a1[i] = n
    have hw : w64 ((i : Int) + 1) = ((i + 1 : Nat) : Int) := by rw [w64_of (by omega)]; omega
    have hb : (if 1 ≤ n ∧ n ≤ 16 then some true else some false : Option Bool) = some (decide (1 ≤ n) && decide (n ≤ 16)) := by
      by_cases h : 1 ≤ n ∧ n ≤ 16
      · rw [if_pos h]; simp [h.1, h.2]
      · rw [if_neg h]; simp only [Option.some.injEq]; symm; simp only [Bool.and_eq_false_iff, decide_eq_false_iff_not]; omega
    by_cases h1 : 1 ≤ n
    · obtain ⟨t', ht', hr⟩ := ih k (i + 1) (t + 1) (by omega) (by omega) (by omega)
      refine ⟨t', ht', ?_⟩
      refine (bnd_eqL (by rw [List.getElem?_eq_getElem hlt, hn]) _).trans ?_
      refine (bnd_eqL (x := (Int.tmod (nx seed t : Int) n, (seed, ((t + 1 : Nat) : Int)))) ?_ _).trans ?_
      · rw [if_pos h1]
        exact (bnd_eqL (rBelow seed hs t (by omega) n h1) _).trans rfl
      · dsimp only
        refine (bnd_eqL (pBelow seed hs t (by omega) n h1) _).trans ?_
        rw [if_neg (by simp)]
        by_cases h2 : n ≤ 16
        · refine (bnd_eqL (pCred n h1 h2).1 _).trans ?_
          refine (bnd_eqL (x := false) ?_ _).trans ?_
          · rw [if_pos (by simp [h1, h2])]
            refine (bnd_eqL (pCred n h1 h2).2 _).trans ?_
            refine (bnd_eqL (same8 300 _ _ (by simp [credL]) (by simp [credL])) _).trans ?_
            simp
          · rw [if_neg (by simp only [Bool.false_or, Bool.or_eq_true, Bool.and_eq_true, decide_eq_true_eq]; omega), hw]
            exact hr
        · refine (bnd_eqL (pCred0 n (by omega)) _).trans ?_
          refine (bnd_eqL (x := false) ?_ _).trans ?_
          · rw [if_neg (by simp [h2])]
          · rw [if_neg (by simp), hw]
            exact hr
    · obtain ⟨t', ht', hr⟩ := ih k (i + 1) t (by omega) (by omega) (by omega)
      refine ⟨t', ht', ?_⟩
      refine (bnd_eqL (by rw [List.getElem?_eq_getElem hlt, hn]) _).trans ?_
      refine (bnd_eqL (x := (0, (seed, (t : Int)))) ?_ _).trans ?_
      · rw [if_neg h1]
      · dsimp only
        refine (bnd_eqL (show lot_Lot_Below 300 (seed, UInt64.ofNat t, true) n = some (0, (seed, UInt64.ofNat t, true)) from ?_) _).trans ?_
        · unfold lot_Lot_Below; rw [if_pos (by omega)]
        rw [if_neg (by simp)]
        refine (bnd_eqL (pCred0 n (by omega)) _).trans ?_
        refine (bnd_eqL (x := false) ?_ _).trans ?_
        · rw [if_neg (by simp [h1])]
        · rw [if_neg (by simp), hw]
          exact hr
theorem chatelainelaw43_LotNumbers_true (a0 : List UInt8) (_ : ∀ x ∈ a0, ty8.has x) (_ : a0.length ≤ maxLen) (a1 : List Int) (_ : ∀ x ∈ a1, tyI.has x) (_ : a1.length ≤ maxLen) (a2 : Ld) (_ : (tyP tyI (tyP tyI (tyP tyI (tyP tyI (tyP tyI tyI))))).has a2) : ∃ Fu, chatelainelaw43_LotNumbers Fu a0 a1 a2 = some true := by
  refine ⟨300, ?_⟩
  unfold chatelainelaw43_LotNumbers
  refine (bnd_eqL awakeL _).trans ?_
  rw [if_neg (by simp)]
  by_cases hs : a0.length ≤ 100 ∧ a1.length ≤ 60
  · rw [if_neg (by simp only [Bool.or_eq_true, decide_eq_true_eq]; omega)]
    refine (bnd_eqL (show lot_Lot_Next_nil0 300 = some 0 from rfl) _).trans ?_
    refine (bnd_eqL (show lot_Lot_Below_nil0 300 5 = some 0 from by decide +kernel) _).trans ?_
    rw [if_neg (by decide)]
    refine (bnd_eqL (pNew a0 hs.1) _).trans ?_
    obtain ⟨t, ht, hr⟩ := nums_l0 a0 hs.1 a1 hs.2 a1.length 300 0 0 (by omega) (by omega) (by omega)
    refine (bnd_eqL hr _).trans ?_
    dsimp only
    refine (bnd_eqL (pNext a0 hs.1 t (by omega)) _).trans ?_
    refine (bnd_eqL (rNext a0 hs.1 t (by omega)) _).trans ?_
    rw [if_pos rfl]
    refine (bnd_eqL (x := true) ?_ _).trans ?_
    · refine (bnd_eqL (pCheck a2) _).trans ?_
      refine (bnd_eqL (rMay a2) _).trans ?_
      cases mayL a2 <;> simp
    · rw [if_pos rfl]
      refine (bnd_eqL (x := true) ?_ _).trans rfl
      refine (bnd_eqL (rMay a2) _).trans ?_
      refine (bnd_eqL (x := true) ?_ _).trans rfl
      rw [pCheck]
      cases mayL a2 <;> simp
  · rw [if_pos]
    simp only [Bool.or_eq_true, decide_eq_true_eq]; omega
end Go.Proofs.Ytcjleeclpmgbjaa
