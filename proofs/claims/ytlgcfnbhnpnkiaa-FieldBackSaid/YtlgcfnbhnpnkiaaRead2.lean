/- The readers of the package field: numbers, bytes. -/
import Derived.Test.YtlgcfnbhnpnkiaaRead
set_option linter.unusedVariables false
set_option linter.unusedSimpArgs false
namespace Go.Proofs.Ytlgcfnbhnpnkiaa
open Go.RowKit
/-- a number is read -/
def sizeR (z : Int) (s : RSt) : RSt := if z < 1 ∨ 8 < z then failR 2 s else s
def numBad (b : List UInt8) (most : Int) : Bool := decide (getE b ≠ 0 ∨ most < getN b)
def numR (z most : Int) (s : RSt) : RSt := if (takeR z (sizeR z s)).1 = 0 then (if numBad (takeV z (sizeR z s)) most = true then failR 11 (takeR z (sizeR z s)) else takeR z (sizeR z s)) else takeR z (sizeR z s)
def numV (z most : Int) (s : RSt) : Int := if (takeR z (sizeR z s)).1 = 0 then (if numBad (takeV z (sizeR z s)) most = true then 0 else getN (takeV z (sizeR z s))) else 0
theorem numR_fail {z most : Int} {s : RSt} (h : (takeR z (sizeR z s)).1 ≠ 0) : numR z most s = takeR z (sizeR z s) ∧ numV z most s = 0 := by simp [numR, numV, h]
theorem takeV_len (n : Int) (s : RSt) : (takeV n s).length ≤ s.2.length := by
  unfold takeV; split
  · split
    · rw [List.length_take]; omega
    · exact Nat.zero_le _
  · exact Nat.zero_le _
theorem RO.len {w : World} {g : Nat} {s : RSt} (h : RO w g s) : s.2.length ≤ 9223372036854775807 := by
  obtain ⟨A, c, _, h2, h3, _⟩ := h; omega
theorem rdnum_ok (w : World) (g : Nat) (s : RSt) (z most : Int) (h : RO w g s) :
    Calls Try.prog 54 #[.pointer (some ⟨g, 0, none⟩), .int .i64 z, .int .i64 most] w fun e w' => e = .returned (.int .i64 (numV z most s)) ∧ RO w' g (numR z most s) ∧ Chg w w' (fun k => k = g) := by
  have H := hid h
  clear h
  have hz : (z < 1 ∧ sizeR z s = failR 2 s) ∨ (¬ z < 1 ∧ 8 < z ∧ sizeR z s = failR 2 s) ∨ (¬ z < 1 ∧ ¬ 8 < z ∧ sizeR z s = s) := by
    by_cases h1 : z < 1
    · exact .inl ⟨h1, by simp [sizeR, h1]⟩
    · by_cases h2 : 8 < z
      · exact .inr (.inl ⟨h1, h2, by simp [sizeR, h2]⟩)
      · exact .inr (.inr ⟨h1, h2, by simp [sizeR, h1, h2]⟩)
  go_enter Try.func54, Try.ntmps54
  go_wp2_with fail
  refine (rmade_ok w g s H.out).mono ?_
  rintro e w1 ⟨rfl, rfl⟩
  rcases hz with ⟨h1, hs⟩ | ⟨h1, h2, hs⟩ | ⟨h1, h2, hs⟩
  · have g1 : decide (z < 1) = true := decide_eq_true h1
    have HS := hid hs
    clear h1 hs
    go_wp2_with fail
    refine (rfail_ok w1 g s 2 H.out).mono ?_
    rintro e w2 ⟨rfl, hr2, hk2⟩
    rw [← HS.out] at hr2
    have HR2 := hid hr2
    have HK2 := hid hk2
    clear hr2 hk2 g1 HS
    go_wp2_with fail
    refine (rtake_ok w2 g (sizeR z s) z HR2.out).mono ?_
    rintro e w3 ⟨v, rfl, hv, hr3, hk3⟩
    obtain ⟨A, c, rfl, hvc, hvm, hvr⟩ := hv
    have HR3 := hid hr3
    have HK3 := hid hk3
    have HV := hid hvr
    clear hr3 hk3 hvr
    go_wp2_with fail
    refine (rgood_ok w3 g _ HR3.out).mono ?_
    rintro e w4 ⟨rfl, rfl⟩
    by_cases he : (takeR z (sizeR z s)).1 = 0
    · have ge : ((takeR z (sizeR z s)).1 == 0) = true := beq_iff_eq.mpr he
      have HE := hid he
      clear he
      go_wp2_with fail
      refine (get_ok A (takeV z (sizeR z s)) c w4 HV.out (by omega)).mono ?_
      rintro e w5 ⟨rfl, rfl⟩
      by_cases hb : getE (takeV z (sizeR z s)) ≠ 0 ∨ most < getN (takeV z (sizeR z s))
      · have gb : numBad (takeV z (sizeR z s)) most = true := decide_eq_true hb
        have GB := hid gb
        clear gb
        have hend : ∀ w6, RO w6 g (failR 11 (takeR z (sizeR z s))) → Chg w5 w6 (fun k => k = g) → Ending.returned (Value.int .i64 0) = Ending.returned (.int .i64 (numV z most s)) ∧ RO w6 g (numR z most s) ∧ Chg w1 w6 (fun k => k = g) := by
          intro w6 h6 k6
          refine ⟨?_, ?_, (HK2.out.trans HK3.out (fun k hk => .inl hk)).trans k6 (fun k hk => .inl hk)⟩
          · rw [numV, if_pos HE.out, if_pos GB.out]
          · rw [numR, if_pos HE.out, if_pos GB.out]; exact h6
        have HEND := hid hend
        clear hend
        by_cases hb1 : getE (takeV z (sizeR z s)) = 0
        · have q1 : (getE (takeV z (sizeR z s)) != 0) = false := by rw [hb1]; rfl
          have q2 : decide (most < getN (takeV z (sizeR z s))) = true := decide_eq_true (hb.resolve_left (fun h => h hb1))
          clear hb hb1
          go_wp2_with fail
          refine (rfail_ok w5 g _ 11 HR3.out).mono ?_
          rintro e w6 ⟨rfl, hr6, hk6⟩
          have H6 := hid (⟨hr6, hk6⟩ : _ ∧ _)
          clear hr6 hk6
          go_wp2_with fail
          go_ret
          exact HEND.out _ H6.out.1 H6.out.2
        · have q1 : (getE (takeV z (sizeR z s)) != 0) = true := bne_iff_ne.mpr hb1
          clear hb hb1
          go_wp2_with fail
          refine (rfail_ok w5 g _ 11 HR3.out).mono ?_
          rintro e w6 ⟨rfl, hr6, hk6⟩
          have H6 := hid (⟨hr6, hk6⟩ : _ ∧ _)
          clear hr6 hk6
          go_wp2_with fail
          go_ret
          exact HEND.out _ H6.out.1 H6.out.2
      · have gb : numBad (takeV z (sizeR z s)) most = false := decide_eq_false hb
        have GB := hid gb
        clear gb
        have q1 : (getE (takeV z (sizeR z s)) != 0) = false := by rw [bne_eq_false_iff_eq]; by_cases h0 : getE (takeV z (sizeR z s)) = 0; exact h0; exact absurd (.inl h0) hb
        have q2 : decide (most < getN (takeV z (sizeR z s))) = false := decide_eq_false (fun h => hb (.inr h))
        clear hb
        go_wp2_with fail
        go_ret
        refine ⟨?_, ?_, HK2.out.trans HK3.out (fun k hk => .inl hk)⟩
        · rw [numV, if_pos HE.out, if_neg (by rw [GB.out]; simp)]; rfl
        · rw [numR, if_pos HE.out, if_neg (by rw [GB.out]; simp)]; exact HR3.out
    · have ge : ((takeR z (sizeR z s)).1 == 0) = false := beq_eq_false_iff_ne.mpr he
      have hf := hid (numR_fail (most := most) he)
      clear he
      go_wp2_with fail
      go_ret
      rw [hf.out.1, hf.out.2]
      exact ⟨rfl, HR3.out, HK2.out.trans HK3.out (fun k hk => .inl hk)⟩
  · have g1 : decide (z < 1) = false := decide_eq_false (by omega)
    have g2 : decide (8 < z) = true := decide_eq_true (by omega)
    have HS := hid hs
    clear h1 h2 hs
    go_wp2_with fail
    refine (rfail_ok w1 g s 2 H.out).mono ?_
    rintro e w2 ⟨rfl, hr2, hk2⟩
    rw [← HS.out] at hr2
    have HR2 := hid hr2
    have HK2 := hid hk2
    clear hr2 hk2 g1 g2 HS
    go_wp2_with fail
    refine (rtake_ok w2 g (sizeR z s) z HR2.out).mono ?_
    rintro e w3 ⟨v, rfl, hv, hr3, hk3⟩
    obtain ⟨A, c, rfl, hvc, hvm, hvr⟩ := hv
    have HR3 := hid hr3
    have HK3 := hid hk3
    have HV := hid hvr
    clear hr3 hk3 hvr
    go_wp2_with fail
    refine (rgood_ok w3 g _ HR3.out).mono ?_
    rintro e w4 ⟨rfl, rfl⟩
    by_cases he : (takeR z (sizeR z s)).1 = 0
    · have ge : ((takeR z (sizeR z s)).1 == 0) = true := beq_iff_eq.mpr he
      have HE := hid he
      clear he
      go_wp2_with fail
      refine (get_ok A (takeV z (sizeR z s)) c w4 HV.out (by omega)).mono ?_
      rintro e w5 ⟨rfl, rfl⟩
      by_cases hb : getE (takeV z (sizeR z s)) ≠ 0 ∨ most < getN (takeV z (sizeR z s))
      · have gb : numBad (takeV z (sizeR z s)) most = true := decide_eq_true hb
        have GB := hid gb
        clear gb
        have hend : ∀ w6, RO w6 g (failR 11 (takeR z (sizeR z s))) → Chg w5 w6 (fun k => k = g) → Ending.returned (Value.int .i64 0) = Ending.returned (.int .i64 (numV z most s)) ∧ RO w6 g (numR z most s) ∧ Chg w1 w6 (fun k => k = g) := by
          intro w6 h6 k6
          refine ⟨?_, ?_, (HK2.out.trans HK3.out (fun k hk => .inl hk)).trans k6 (fun k hk => .inl hk)⟩
          · rw [numV, if_pos HE.out, if_pos GB.out]
          · rw [numR, if_pos HE.out, if_pos GB.out]; exact h6
        have HEND := hid hend
        clear hend
        by_cases hb1 : getE (takeV z (sizeR z s)) = 0
        · have q1 : (getE (takeV z (sizeR z s)) != 0) = false := by rw [hb1]; rfl
          have q2 : decide (most < getN (takeV z (sizeR z s))) = true := decide_eq_true (hb.resolve_left (fun h => h hb1))
          clear hb hb1
          go_wp2_with fail
          refine (rfail_ok w5 g _ 11 HR3.out).mono ?_
          rintro e w6 ⟨rfl, hr6, hk6⟩
          have H6 := hid (⟨hr6, hk6⟩ : _ ∧ _)
          clear hr6 hk6
          go_wp2_with fail
          go_ret
          exact HEND.out _ H6.out.1 H6.out.2
        · have q1 : (getE (takeV z (sizeR z s)) != 0) = true := bne_iff_ne.mpr hb1
          clear hb hb1
          go_wp2_with fail
          refine (rfail_ok w5 g _ 11 HR3.out).mono ?_
          rintro e w6 ⟨rfl, hr6, hk6⟩
          have H6 := hid (⟨hr6, hk6⟩ : _ ∧ _)
          clear hr6 hk6
          go_wp2_with fail
          go_ret
          exact HEND.out _ H6.out.1 H6.out.2
      · have gb : numBad (takeV z (sizeR z s)) most = false := decide_eq_false hb
        have GB := hid gb
        clear gb
        have q1 : (getE (takeV z (sizeR z s)) != 0) = false := by rw [bne_eq_false_iff_eq]; by_cases h0 : getE (takeV z (sizeR z s)) = 0; exact h0; exact absurd (.inl h0) hb
        have q2 : decide (most < getN (takeV z (sizeR z s))) = false := decide_eq_false (fun h => hb (.inr h))
        clear hb
        go_wp2_with fail
        go_ret
        refine ⟨?_, ?_, HK2.out.trans HK3.out (fun k hk => .inl hk)⟩
        · rw [numV, if_pos HE.out, if_neg (by rw [GB.out]; simp)]; rfl
        · rw [numR, if_pos HE.out, if_neg (by rw [GB.out]; simp)]; exact HR3.out
    · have ge : ((takeR z (sizeR z s)).1 == 0) = false := beq_eq_false_iff_ne.mpr he
      have hf := hid (numR_fail (most := most) he)
      clear he
      go_wp2_with fail
      go_ret
      rw [hf.out.1, hf.out.2]
      exact ⟨rfl, HR3.out, HK2.out.trans HK3.out (fun k hk => .inl hk)⟩
  · have g1 : decide (z < 1) = false := decide_eq_false (by omega)
    have g2 : decide (8 < z) = false := decide_eq_false (by omega)
    have HR2 : Hid (RO w1 g (sizeR z s)) := hid (by rw [hs]; exact H.out)
    have HK2 : Hid (Chg w1 w1 (fun k => k = g)) := hid (Chg.refl _ _)
    clear h1 h2 hs
    go_wp2_with fail
    refine (rtake_ok w1 g (sizeR z s) z HR2.out).mono ?_
    rintro e w3 ⟨v, rfl, hv, hr3, hk3⟩
    obtain ⟨A, c, rfl, hvc, hvm, hvr⟩ := hv
    have HR3 := hid hr3
    have HK3 := hid hk3
    have HV := hid hvr
    clear hr3 hk3 hvr
    go_wp2_with fail
    refine (rgood_ok w3 g _ HR3.out).mono ?_
    rintro e w4 ⟨rfl, rfl⟩
    by_cases he : (takeR z (sizeR z s)).1 = 0
    · have ge : ((takeR z (sizeR z s)).1 == 0) = true := beq_iff_eq.mpr he
      have HE := hid he
      clear he
      go_wp2_with fail
      refine (get_ok A (takeV z (sizeR z s)) c w4 HV.out (by omega)).mono ?_
      rintro e w5 ⟨rfl, rfl⟩
      by_cases hb : getE (takeV z (sizeR z s)) ≠ 0 ∨ most < getN (takeV z (sizeR z s))
      · have gb : numBad (takeV z (sizeR z s)) most = true := decide_eq_true hb
        have GB := hid gb
        clear gb
        have hend : ∀ w6, RO w6 g (failR 11 (takeR z (sizeR z s))) → Chg w5 w6 (fun k => k = g) → Ending.returned (Value.int .i64 0) = Ending.returned (.int .i64 (numV z most s)) ∧ RO w6 g (numR z most s) ∧ Chg w1 w6 (fun k => k = g) := by
          intro w6 h6 k6
          refine ⟨?_, ?_, (HK2.out.trans HK3.out (fun k hk => .inl hk)).trans k6 (fun k hk => .inl hk)⟩
          · rw [numV, if_pos HE.out, if_pos GB.out]
          · rw [numR, if_pos HE.out, if_pos GB.out]; exact h6
        have HEND := hid hend
        clear hend
        by_cases hb1 : getE (takeV z (sizeR z s)) = 0
        · have q1 : (getE (takeV z (sizeR z s)) != 0) = false := by rw [hb1]; rfl
          have q2 : decide (most < getN (takeV z (sizeR z s))) = true := decide_eq_true (hb.resolve_left (fun h => h hb1))
          clear hb hb1
          go_wp2_with fail
          refine (rfail_ok w5 g _ 11 HR3.out).mono ?_
          rintro e w6 ⟨rfl, hr6, hk6⟩
          have H6 := hid (⟨hr6, hk6⟩ : _ ∧ _)
          clear hr6 hk6
          go_wp2_with fail
          go_ret
          exact HEND.out _ H6.out.1 H6.out.2
        · have q1 : (getE (takeV z (sizeR z s)) != 0) = true := bne_iff_ne.mpr hb1
          clear hb hb1
          go_wp2_with fail
          refine (rfail_ok w5 g _ 11 HR3.out).mono ?_
          rintro e w6 ⟨rfl, hr6, hk6⟩
          have H6 := hid (⟨hr6, hk6⟩ : _ ∧ _)
          clear hr6 hk6
          go_wp2_with fail
          go_ret
          exact HEND.out _ H6.out.1 H6.out.2
      · have gb : numBad (takeV z (sizeR z s)) most = false := decide_eq_false hb
        have GB := hid gb
        clear gb
        have q1 : (getE (takeV z (sizeR z s)) != 0) = false := by rw [bne_eq_false_iff_eq]; by_cases h0 : getE (takeV z (sizeR z s)) = 0; exact h0; exact absurd (.inl h0) hb
        have q2 : decide (most < getN (takeV z (sizeR z s))) = false := decide_eq_false (fun h => hb (.inr h))
        clear hb
        go_wp2_with fail
        go_ret
        refine ⟨?_, ?_, HK2.out.trans HK3.out (fun k hk => .inl hk)⟩
        · rw [numV, if_pos HE.out, if_neg (by rw [GB.out]; simp)]; rfl
        · rw [numR, if_pos HE.out, if_neg (by rw [GB.out]; simp)]; exact HR3.out
    · have ge : ((takeR z (sizeR z s)).1 == 0) = false := beq_eq_false_iff_ne.mpr he
      have hf := hid (numR_fail (most := most) he)
      clear he
      go_wp2_with fail
      go_ret
      rw [hf.out.1, hf.out.2]
      exact ⟨rfl, HR3.out, HK2.out.trans HK3.out (fun k hk => .inl hk)⟩
end Go.Proofs.Ytlgcfnbhnpnkiaa
