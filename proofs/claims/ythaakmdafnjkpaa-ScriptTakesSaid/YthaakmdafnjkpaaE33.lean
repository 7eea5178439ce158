/- Bytes as events and scripts: ScriptTakes. -/
import Derived.Test.YthaakmdafnjkpaaSl
import Derived.Test.YthaakmdafnjkpaaE29B
set_option linter.unusedVariables false
set_option linter.unusedSimpArgs false
namespace Go.Proofs.Ythaakmdafnjkpaa
open Go.RowKit
abbrev EvT := OpT × Int × Int × List UInt8
def numsP (o : OpT) : Prop := (0 ≤ o.1 ∧ o.1 ≤ 1099511627776) ∧ (0 ≤ o.2.1 ∧ o.2.1 ≤ 1099511627776) ∧ (0 ≤ o.2.2.1 ∧ o.2.2.1 ≤ 1099511627776) ∧ (0 ≤ o.2.2.2.1 ∧ o.2.2.2.1 ≤ 1099511627776) ∧ (0 ≤ o.2.2.2.2.1 ∧ o.2.2.2.2.1 ≤ 1099511627776)
instance (o : OpT) : Decidable (numsP o) := by unfold numsP; infer_instance
def zOp : OpT := (0, 0, 0, 0, 0, [], [])
def RightE (e : EvT) (z : Int) : Prop :=
  if e.2.1 = 0 then numsP e.1 ∧ e.2.2.1 = 0 ∧ e.2.2.2.length = 0 ∧ e.1.2.2.2.2.2.1.length ≤ 512 ∧ e.1.2.2.2.2.2.2.length ≤ 512
  else e.1 = zOp ∧ 0 ≤ e.2.2.1 ∧ (if e.2.1 = 1 then e.2.2.1 ≤ 1099511627776 ∧ e.2.2.2.length ≤ 64 else if e.2.1 = 2 then e.2.2.1 = 0 ∧ e.2.2.2.length = 0 else if e.2.1 = 3 then e.2.2.1 ≤ 1048575 ∧ (e.2.2.2.length : Int) = z ∧ e.2.2.2.length ≤ 512 else (e.2.1 = 4 ∨ e.2.1 = 5) ∧ e.2.2.1 ≤ 7 ∧ e.2.2.2.length = 0)
instance (e : EvT) (z : Int) : Decidable (RightE e z) := by unfold RightE; infer_instance
theorem pl_step (Fu : Nat) (o : OpT) (k : Nat) (i x : Int) (hi : i < 5) (hx : idx ([o.1, o.2.1, o.2.2.1, o.2.2.2.1, o.2.2.2.2.1]) i = some x) : script_plain_l0 Fu o (k + 1) i = if 0 ≤ x ∧ x ≤ 1099511627776 then script_plain_l0 Fu o k (w64 (i + 1)) else some (.inl false) := by
  rw [script_plain_l0, if_pos hi, hx]
  unfold script_within
  simp only [Option.bind_some]
  by_cases h : 0 ≤ x ∧ x ≤ 1099511627776
  · rw [if_neg (by simp; omega), if_pos h]
  · rw [if_pos (by simp; omega), if_neg h]
theorem pl_ok (Fu : Nat) (o : OpT) (k : Nat) : script_plain_l0 Fu o (k + 6) 0 = some (if numsP o then .inr () else .inl false) := by
  rw [pl_step (x := o.1) Fu o (k + 5) 0 (hi := by decide) (hx := rfl), show w64 (0 + 1) = 1 from by decide, pl_step (x := o.2.1) Fu o (k + 4) 1 (hi := by decide) (hx := rfl), show w64 (1 + 1) = 2 from by decide, pl_step (x := o.2.2.1) Fu o (k + 3) 2 (hi := by decide) (hx := rfl), show w64 (2 + 1) = 3 from by decide, pl_step (x := o.2.2.2.1) Fu o (k + 2) 3 (hi := by decide) (hx := rfl), show w64 (3 + 1) = 4 from by decide, pl_step (x := o.2.2.2.2.1) Fu o (k + 1) 4 (hi := by decide) (hx := rfl), show w64 (4 + 1) = 5 from by decide, script_plain_l0, if_neg (show ¬ ((5 : Int) < 5) by decide)]
  by_cases h1 : 0 ≤ o.1 ∧ o.1 ≤ 1099511627776
  · by_cases h2 : 0 ≤ o.2.1 ∧ o.2.1 ≤ 1099511627776
    · by_cases h3 : 0 ≤ o.2.2.1 ∧ o.2.2.1 ≤ 1099511627776
      · by_cases h4 : 0 ≤ o.2.2.2.1 ∧ o.2.2.2.1 ≤ 1099511627776
        · by_cases h5 : 0 ≤ o.2.2.2.2.1 ∧ o.2.2.2.2.1 ≤ 1099511627776
          · rw [if_pos h1, if_pos h2, if_pos h3, if_pos h4, if_pos h5, if_pos (show numsP o from ⟨h1, h2, h3, h4, h5⟩)]
          · rw [if_pos h1, if_pos h2, if_pos h3, if_pos h4, if_neg h5, if_neg (show ¬ numsP o from fun h => h5 h.2.2.2.2)]
        · rw [if_pos h1, if_pos h2, if_pos h3, if_neg h4, if_neg (show ¬ numsP o from fun h => h4 h.2.2.2.1)]
      · rw [if_pos h1, if_pos h2, if_neg h3, if_neg (show ¬ numsP o from fun h => h3 h.2.2.1)]
    · rw [if_pos h1, if_neg h2, if_neg (show ¬ numsP o from fun h => h2 h.2.1)]
  · rw [if_neg h1, if_neg (show ¬ numsP o from fun h => h1 h.1)]
theorem rl_step (Fu : Nat) (l : List Int) (k : Nat) (i : Nat) (x : Int) (hi : i < 5) (hl : l.length = 5) (hx : l[i]? = some x) : chatelaineref33_Right_l0 Fu l (k + 1) (i : Int) = if 0 ≤ x ∧ x ≤ 1099511627776 then chatelaineref33_Right_l0 Fu l k ((i + 1 : Nat) : Int) else some (.inl false) := by
  rw [chatelaineref33_Right_l0, if_pos (by omega), ix_nat (by omega)]
  simp only [Option.bind_some]
  rw [hx]
  simp only [Option.bind_some]
  rw [show w64 ((i : Int) + 1) = ((i + 1 : Nat) : Int) by rw [v_id (by omega)]; omega]
  by_cases h0 : x < 0
  · rw [if_pos h0]; simp only [Option.bind_some]; rw [if_pos trivial, if_neg (by omega)]
  · rw [if_neg h0]
    simp only [Option.bind_some]
    by_cases h : 0 ≤ x ∧ x ≤ 1099511627776
    · rw [if_neg (by simp; omega), if_pos h]
    · rw [if_pos (by simp; omega), if_neg h]
theorem rl_ok (Fu : Nat) (o : OpT) (k : Nat) : chatelaineref33_Right_l0 Fu ([o.1, o.2.1, o.2.2.1, o.2.2.2.1, o.2.2.2.2.1]) (k + 6) 0 = some (if numsP o then .inr () else .inl false) := by
  rw [show (0 : Int) = ((0 : Nat) : Int) from rfl, rl_step (x := o.1) Fu _ (k + 5) 0 (hi := by decide) (hl := rfl) (hx := rfl), rl_step (x := o.2.1) Fu _ (k + 4) 1 (hi := by decide) (hl := rfl) (hx := rfl), rl_step (x := o.2.2.1) Fu _ (k + 3) 2 (hi := by decide) (hl := rfl) (hx := rfl), rl_step (x := o.2.2.2.1) Fu _ (k + 2) 3 (hi := by decide) (hl := rfl) (hx := rfl), rl_step (x := o.2.2.2.2.1) Fu _ (k + 1) 4 (hi := by decide) (hl := rfl) (hx := rfl), chatelaineref33_Right_l0, if_neg (show ¬ (((4 + 1 : Nat) : Int) < 5) by decide)]
  by_cases h1 : 0 ≤ o.1 ∧ o.1 ≤ 1099511627776
  · by_cases h2 : 0 ≤ o.2.1 ∧ o.2.1 ≤ 1099511627776
    · by_cases h3 : 0 ≤ o.2.2.1 ∧ o.2.2.1 ≤ 1099511627776
      · by_cases h4 : 0 ≤ o.2.2.2.1 ∧ o.2.2.2.1 ≤ 1099511627776
        · by_cases h5 : 0 ≤ o.2.2.2.2.1 ∧ o.2.2.2.2.1 ≤ 1099511627776
          · rw [if_pos h1, if_pos h2, if_pos h3, if_pos h4, if_pos h5, if_pos (show numsP o from ⟨h1, h2, h3, h4, h5⟩)]
          · rw [if_pos h1, if_pos h2, if_pos h3, if_pos h4, if_neg h5, if_neg (show ¬ numsP o from fun h => h5 h.2.2.2.2)]
        · rw [if_pos h1, if_pos h2, if_pos h3, if_neg h4, if_neg (show ¬ numsP o from fun h => h4 h.2.2.2.1)]
      · rw [if_pos h1, if_pos h2, if_neg h3, if_neg (show ¬ numsP o from fun h => h3 h.2.2.1)]
    · rw [if_pos h1, if_neg h2, if_neg (show ¬ numsP o from fun h => h2 h.2.1)]
  · rw [if_neg h1, if_neg (show ¬ numsP o from fun h => h1 h.1)]
theorem pRightE (Fu : Nat) (hF : 20 ≤ Fu) (e : EvT) (z : Int) : script_Right Fu e z = some (decide (RightE e z)) := by
  apply some_dec
  obtain ⟨o, K, N, d⟩ := e
  obtain ⟨f, rfl⟩ : ∃ m, Fu = m + 6 := ⟨Fu - 6, by omega⟩
  unfold script_Right script_plain script_within RightE
  rw [pl_ok, pSame]
  dsimp only
  generalize hZ : decide (o = ((0, 0, 0, 0, 0, [], []) : OpT)) = bz
  have hz : bz = true ↔ o = zOp := by rw [← hZ, decide_eq_true_eq]; rfl
  simp only [Option.bind_some]
  generalize d.length = ld
  by_cases h0 : K = 0
  · rw [if_pos h0, if_pos h0]
    by_cases hn : N = 0 ∧ ld = 0
    · rw [if_pos (by simp; omega)]
      by_cases hp : numsP o
      · rw [if_pos hp]; exact ⟨_, rfl, by simp [hp, hn]; omega⟩
      · rw [if_neg hp]; exact ⟨_, rfl, by simp [hp]⟩
    · rw [if_neg (by simp; omega)]; exact ⟨_, rfl, by simp; omega⟩
  · rw [if_neg h0, if_neg h0]
    by_cases h1 : K = 1
    · subst h1
      simp only [if_true, Option.bind_some]
      cases hA : (decide (0 ≤ N) && decide (N ≤ 1099511627776)) <;> cases hB : (decide ((0 : Int) ≤ (ld : Int)) && decide ((ld : Int) ≤ 64)) <;> simp only [Bool.and_eq_true, Bool.and_eq_false_iff, decide_eq_true_eq, decide_eq_false_iff_not] at hA hB <;> cases bz <;> simp at hz <;> simp [hz] <;> omega
    · by_cases h3 : K = 3
      · subst h3
        simp (config := { decide := true }) only [if_true, if_false, Option.bind_some]
        obtain ⟨mm, hm⟩ : ∃ mm, mm = mn z 512 := ⟨_, rfl⟩
        have hmm : mm ≤ z ∧ mm ≤ 512 ∧ (mm = z ∨ mm = 512) := by rw [hm, mn_min]; omega
        rw [← hm]
        clear hm
        cases hA : (decide (0 ≤ N) && decide (N ≤ 1048575)) <;> cases hB : (decide (z ≤ (ld : Int)) && decide ((ld : Int) ≤ mm)) <;> simp only [Bool.and_eq_true, Bool.and_eq_false_iff, decide_eq_true_eq, decide_eq_false_iff_not] at hA hB <;> cases bz <;> simp at hz <;> simp [hz] <;> omega
      · by_cases h4 : K = 4 ∨ K = 5
        · have e4 : ∀ {α : Type} (a b c d e f : α), (if K = 1 then a else if K = 3 then b else if K = 4 then c else if K = 5 then c else if K = 2 then e else f) = c := by
            intro α a b c d e f
            rw [if_neg h1, if_neg h3]
            rcases h4 with h | h
            · rw [if_pos h]
            · rw [if_neg (by omega), if_pos h]
          rw [e4 _ _ _ (some (.inl false)) _ _, if_neg h1, if_neg (show ¬ K = 2 by omega), if_neg h3]
          simp only [Option.bind_some]
          cases hA : (decide (0 ≤ N) && decide (N ≤ 7)) <;> cases hB : (decide ((0 : Int) ≤ (ld : Int)) && decide ((ld : Int) ≤ 0)) <;> simp only [Bool.and_eq_true, Bool.and_eq_false_iff, decide_eq_true_eq, decide_eq_false_iff_not] at hA hB <;> cases bz <;> simp at hz <;> simp [hz, h4] <;> omega
        · by_cases h2 : K = 2
          · subst h2
            simp (config := { decide := true }) only [if_true, if_false, Option.bind_some]
            cases hA : (decide (0 ≤ N) && decide (N ≤ 0)) <;> cases hB : (decide ((0 : Int) ≤ (ld : Int)) && decide ((ld : Int) ≤ 0)) <;> simp only [Bool.and_eq_true, Bool.and_eq_false_iff, decide_eq_true_eq, decide_eq_false_iff_not] at hA hB <;> cases bz <;> simp at hz <;> simp [hz] <;> omega
          · rw [if_neg h1, if_neg h3, if_neg (by omega), if_neg (by omega), if_neg h2, if_neg h1, if_neg h2, if_neg h3]
            exact ⟨_, rfl, by simp [h4]⟩
theorem rRightE (Fu : Nat) (hF : 10000 ≤ Fu) (e : EvT) (z : Int) (h1 : e.1.2.2.2.2.2.1.length ≤ 2000) (h2 : e.1.2.2.2.2.2.2.length ≤ 2000) : chatelaineref33_Right Fu e z = some (decide (RightE e z)) := by
  apply some_dec
  unfold chatelaineref33_Right chatelaineref33_numbers
  rw [rSame29 Fu _ _ (by omega) (by omega) (by omega) (by omega)]
  obtain ⟨o, K, N, d⟩ := e
  obtain ⟨f, rfl⟩ : ∃ m, Fu = m + 6 := ⟨Fu - 6, by omega⟩
  unfold RightE
  dsimp only
  simp only [Option.bind_some]
  rw [rl_ok]
  generalize hZ : decide (o = ((0, 0, 0, 0, 0, [], []) : OpT)) = bz
  have hz : bz = true ↔ o = zOp := by rw [← hZ, decide_eq_true_eq]; rfl
  simp only [Option.bind_some]
  generalize d.length = ld
  by_cases h0 : K = 0
  · rw [if_pos h0, if_pos h0]
    by_cases hp : numsP o
    · rw [if_pos hp]; exact ⟨_, rfl, by simp [hp, and_assoc]; intros; omega⟩
    · rw [if_neg hp]; exact ⟨_, rfl, by simp [hp]⟩
  · rw [if_neg h0, if_neg h0]
    by_cases hb : bz = true ∧ 0 ≤ N
    · rw [if_neg (by simp [hb])]
      have ho := hz.1 hb.1
      by_cases k1 : K = 1
      · rw [if_pos k1, if_pos k1]; exact ⟨_, rfl, by simp [ho, hb.2]; intros; omega⟩
      · by_cases k2 : K = 2
        · rw [if_neg k1, if_neg k1, if_pos k2, if_pos k2]; exact ⟨_, rfl, by simp [ho, hb.2]⟩
        · by_cases k3 : K = 3
          · rw [if_neg k1, if_neg k1, if_neg k2, if_neg k2, if_pos k3, if_pos k3]; exact ⟨_, rfl, by simp [ho, hb.2, and_assoc]; intros; omega⟩
          · rw [if_neg k1, if_neg k1, if_neg k2, if_neg k2, if_neg k3, if_neg k3]; exact ⟨_, rfl, by simp [ho, hb.2, and_assoc]⟩
    · rw [if_pos (by cases bz <;> simp at hb ⊢; omega)]
      refine ⟨_, rfl, ?_⟩
      simp only [Bool.false_eq_true, false_iff]
      rintro ⟨a, b, _⟩
      exact hb ⟨hz.2 a, b⟩
/-! an event is taken -/
def TEf (e : EvT) (f z : Int) : EvT × Int := if f ≠ 0 then ((zOp, 0, 0, []), f) else if RightE e z then (e, 0) else ((zOp, 0, 0, []), 2)
def M33 : Int := 1099511627776
def evA (s : FSt) (k : Int) : EvT := (zOp, k, nmV 8 M33 s, byV 512 (nmR 8 M33 s))
def enA (s : FSt) : FSt := byR 512 (nmR 8 M33 s)
def s5 (s : FSt) : FSt := nmR 8 M33 (nmR 8 M33 (nmR 8 M33 (nmR 8 M33 (nmR 8 M33 s))))
def evB (s : FSt) (k : Int) : EvT := ((nmV 8 M33 s, nmV 8 M33 (nmR 8 M33 s), nmV 8 M33 (nmR 8 M33 (nmR 8 M33 s)), nmV 8 M33 (nmR 8 M33 (nmR 8 M33 (nmR 8 M33 s))), nmV 8 M33 (nmR 8 M33 (nmR 8 M33 (nmR 8 M33 (nmR 8 M33 s)))), byV 512 (s5 s), byV 512 (byR 512 (s5 s))), k, 0, [])
def enB (s : FSt) : FSt := byR 512 (byR 512 (s5 s))
def TE (b : List UInt8) (z : Int) : EvT × Int := if nmV 1 5 (0, b) = 0 then TEf (evB (nmR 1 5 (0, b)) (nmV 1 5 (0, b))) (rdE (enB (nmR 1 5 (0, b)))) z else TEf (evA (nmR 1 5 (0, b)) (nmV 1 5 (0, b))) (rdE (enA (nmR 1 5 (0, b)))) z
theorem TEf_eq (e : EvT) (f z : Int) : ((if f = 0 then (some (decide (RightE e z))).bind fun x => some (!x) else some false).bind fun z114 => if z114 = true then some (2 : Int) else some f).bind (fun x => if x ≠ 0 then some ((((0, 0, 0, 0, 0, [], []), 0, 0, []) : EvT), x) else some (e, 0)) = some (TEf e f z) := by
  unfold TEf zOp
  by_cases hf : f = 0 <;> by_cases hR : RightE e z <;> simp [hf, hR]
theorem s5_len (s : FSt) : (s5 s).2.length ≤ s.2.length := by
  unfold s5
  exact Nat.le_trans (nmR_len ..) (Nat.le_trans (nmR_len ..) (Nat.le_trans (nmR_len ..) (Nat.le_trans (nmR_len ..) (nmR_len 8 M33 s))))
def evS (e : EvT) (N : Nat) : Prop := e.1.2.2.2.2.2.1.length ≤ N ∧ e.1.2.2.2.2.2.2.length ≤ N ∧ e.2.2.2.length ≤ N
theorem evA_len (s : FSt) (k : Int) : evS (evA s k) s.2.length := by
  have h := Nat.le_trans (byV_len 512 (nmR 8 M33 s)) (nmR_len 8 M33 s)
  refine ⟨?_, ?_, ?_⟩
  · simp only [evA, zOp]; exact Nat.zero_le _
  · simp only [evA, zOp]; exact Nat.zero_le _
  · simp only [evA]; exact h
theorem evB_len (s : FSt) (k : Int) : evS (evB s k) s.2.length := by
  have h1 := Nat.le_trans (byV_len 512 (s5 s)) (s5_len s)
  have h2 := Nat.le_trans (byV_len 512 (byR 512 (s5 s))) (Nat.le_trans (byR_len 512 (s5 s)) (s5_len s))
  refine ⟨?_, ?_, ?_⟩
  · simp only [evB]; exact h1
  · simp only [evB]; exact h2
  · simp only [evB]; exact Nat.zero_le _
theorem TEf_len (e : EvT) (f z : Int) (N : Nat) (h : evS e N) : evS (TEf e f z).1 N := by
  unfold TEf
  split
  · exact ⟨Nat.zero_le _, Nat.zero_le _, Nat.zero_le _⟩
  · split
    · exact h
    · exact ⟨Nat.zero_le _, Nat.zero_le _, Nat.zero_le _⟩
theorem evS.mono {e : EvT} {M N : Nat} (h : evS e M) (k : M ≤ N) : evS e N := ⟨Nat.le_trans h.1 k, Nat.le_trans h.2.1 k, Nat.le_trans h.2.2 k⟩
theorem TE_len (b : List UInt8) (z : Int) : evS (TE b z).1 b.length := by
  have hl : (nmR 1 5 (0, b)).2.length ≤ b.length := nmR_len 1 5 (0, b)
  have a1 := (evA_len (nmR 1 5 (0, b)) (nmV 1 5 (0, b))).mono hl
  have a2 := (evB_len (nmR 1 5 (0, b)) (nmV 1 5 (0, b))).mono hl
  unfold TE
  generalize evA (nmR 1 5 (0, b)) (nmV 1 5 (0, b)) = x1 at *
  generalize evB (nmR 1 5 (0, b)) (nmV 1 5 (0, b)) = x2 at *
  split
  · exact TEf_len _ _ _ _ a2
  · exact TEf_len _ _ _ _ a1
theorem pTakeE (Fu : Nat) (hF : 20 ≤ Fu) (b : List UInt8) (z : Int) (hb : b.length ≤ 100000) : script_Take Fu b z = some (TE b z) := by
  unfold script_Take field_Read TE
  simp only [Option.bind_some]
  have hl : (nmR 1 5 (0, b)).2.length ≤ b.length := nmR_len 1 5 (0, b)
  rw [show ((0, b, true) : Int × List UInt8 × Bool) = pr (0, b) from rfl, prNum Fu hF _ _ _ (by decide)]
  simp only [Option.bind_some]
  generalize nmR 1 5 (0, b) = s at *
  generalize nmV 1 5 (0, b) = K
  rw [show (1099511627776 : Int) = M33 from rfl]
  by_cases hk : K = 0
  · rw [if_neg (by simp [hk]), if_pos hk, prNum Fu hF _ _ _ (by decide)]
    simp only [Option.bind_some]
    rw [prNum Fu hF _ _ _ (by decide)]
    simp only [Option.bind_some]
    rw [prNum Fu hF _ _ _ (by decide)]
    simp only [Option.bind_some]
    rw [prNum Fu hF _ _ _ (by decide)]
    simp only [Option.bind_some]
    rw [prNum Fu hF _ _ _ (by decide)]
    simp only [Option.bind_some]
    have l5 := s5_len s
    rw [show nmR 8 M33 (nmR 8 M33 (nmR 8 M33 (nmR 8 M33 (nmR 8 M33 s)))) = s5 s from rfl, prByt Fu hF _ _ (by omega)]
    simp only [Option.bind_some]
    have l6 := byR_len 512 (s5 s)
    rw [prByt Fu hF _ _ (by omega)]
    simp only [Option.bind_some]
    rw [prDone]
    simp only [Option.bind_some]
    rw [pRightE Fu hF]
    exact TEf_eq (evB s K) (rdE (enB s)) z
  · rw [if_pos hk, if_neg hk, prNum Fu hF _ _ _ (by decide)]
    simp only [Option.bind_some]
    have l1 := nmR_len 8 M33 s
    rw [prByt Fu hF _ _ (by omega)]
    simp only [Option.bind_some]
    rw [prDone]
    simp only [Option.bind_some]
    rw [pRightE Fu hF]
    exact TEf_eq (evA s K) (rdE (enA s)) z
theorem rTakeE (Fu : Nat) (hF : 10000 ≤ Fu) (b : List UInt8) (z : Int) (hb : b.length ≤ 2000) : chatelaineref33_Take Fu b z = some (TE b z) := by
  unfold chatelaineref33_Take TE
  have hl : (nmR 1 5 (0, b)).2.length ≤ b.length := nmR_len 1 5 (0, b)
  rw [show ((b, 0) : List UInt8 × Int) = fl (0, b) from rfl, rrNum Fu (by omega) _ _ _ (by decide)]
  simp only [Option.bind_some]
  generalize nmR 1 5 (0, b) = s at *
  generalize nmV 1 5 (0, b) = K
  rw [show (1099511627776 : Int) = M33 from rfl]
  by_cases hk : K = 0
  · rw [if_pos hk, if_pos hk, rrNum Fu (by omega) _ _ _ (by decide)]
    simp only [Option.bind_some]
    rw [rrNum Fu (by omega) _ _ _ (by decide)]
    simp only [Option.bind_some]
    rw [rrNum Fu (by omega) _ _ _ (by decide)]
    simp only [Option.bind_some]
    rw [rrNum Fu (by omega) _ _ _ (by decide)]
    simp only [Option.bind_some]
    rw [rrNum Fu (by omega) _ _ _ (by decide)]
    simp only [Option.bind_some]
    rw [show nmR 8 M33 (nmR 8 M33 (nmR 8 M33 (nmR 8 M33 (nmR 8 M33 s)))) = s5 s from rfl, rrByt Fu (by omega)]
    simp only [Option.bind_some]
    rw [rrByt Fu (by omega)]
    simp only [Option.bind_some]
    rw [rrDone]
    simp only [Option.bind_some]
    have hB := (evB_len s K).mono hl
    have := rRightE Fu hF (evB s K) z (Nat.le_trans hB.1 hb) (Nat.le_trans hB.2.1 hb)
    unfold evB at this
    rw [this]
    exact TEf_eq (evB s K) (rdE (enB s)) z
  · rw [if_neg hk, if_neg hk, rrNum Fu (by omega) _ _ _ (by decide)]
    simp only [Option.bind_some]
    rw [rrByt Fu (by omega)]
    simp only [Option.bind_some]
    rw [rrDone]
    simp only [Option.bind_some]
    have hA := (evA_len s K).mono hl
    have := rRightE Fu hF (evA s K) z (Nat.le_trans hA.1 hb) (Nat.le_trans hA.2.1 hb)
    unfold evA zOp at this
    rw [this]
    exact TEf_eq (evA s K) (rdE (enA s)) z
/-! a script is unpacked -/
def rdL : Nat → FSt → List (List UInt8)
  | 0, _ => []
  | n + 1, s => byV 65535 s :: rdL n (byR 65535 s)
def rdS : Nat → FSt → FSt
  | 0, s => s
  | n + 1, s => rdS n (byR 65535 s)
theorem rdL_len : ∀ (n : Nat) (s : FSt), (rdL n s).length = n
  | 0, _ => rfl
  | n + 1, s => by rw [rdL, List.length_cons, rdL_len n]
theorem rdL_le : ∀ (n : Nat) (s : FSt), ∀ x ∈ rdL n s, x.length ≤ s.2.length
  | 0, _, x, h => by cases h
  | n + 1, s, x, h => by
    rcases List.mem_cons.1 h with rfl | h
    · exact byV_len _ _
    · exact Nat.le_trans (rdL_le n _ x h) (byR_len _ _)
theorem by36 (s : FSt) : byR 65536 s = byR 65535 s ∧ byV 65536 s = byV 65535 s := by
  have : mn 65536 65535 = mn 65535 65535 := by decide
  unfold byR byV; rw [this]; exact ⟨rfl, rfl⟩
theorem app24 (l : List (List UInt8)) (x : List UInt8) (h : l.length ≤ 100000) : app 24 l [x] = some (l ++ [x]) := by
  unfold app; rw [if_pos (by unfold maxLen; simp; omega)]
theorem app128 (l : List EvT) (x : EvT) (h : l.length ≤ 100000) : app 128 l [x] = some (l ++ [x]) := by
  unfold app; rw [if_pos (by unfold maxLen; simp; omega)]
theorem pUn_l0 (Fu : Nat) (hF : 20 ≤ Fu) (n : Nat) (hn : n ≤ 4096) (q : Int × List UInt8 × Bool) : ∀ d k i acc (s : FSt), i + d = n → d < k → acc.length = i → s.2.length ≤ 100000 → script_Unpack_l0 Fu ((n : Int), q) k acc (i : Int) (pr s) = some (acc ++ rdL d s, pr (rdS d s)) := by
  intro d
  induction d with
  | zero =>
    intro k i acc s hi hk ha hs
    obtain ⟨k, rfl⟩ : ∃ m, k = m + 1 := ⟨k - 1, by omega⟩
    rw [script_Unpack_l0, if_neg (by dsimp only; omega)]
    simp [rdL, rdS]
  | succ d ih =>
    intro k i acc s hi hk ha hs
    obtain ⟨k, rfl⟩ : ∃ m, k = m + 1 := ⟨k - 1, by omega⟩
    rw [script_Unpack_l0, if_pos (by dsimp only; omega), prByt Fu hF s _ (by omega)]
    simp only [Option.bind_some]
    rw [(by36 s).1, (by36 s).2, app24 _ _ (by omega)]
    simp only [Option.bind_some]
    have h1 := byR_len 65535 s
    rw [show w64 ((i : Int) + 1) = ((i + 1 : Nat) : Int) by rw [v_id (by omega)]; omega, ih k (i + 1) _ _ (by omega) (by omega) (by simp; omega) (by omega)]
    simp [rdL, rdS]
theorem rUn_l0 (Fu : Nat) (hF : 20 ≤ Fu) (n : Nat) (hn : n ≤ 4096) (q : List UInt8 × Int) : ∀ d k i acc (s : FSt), i + d = n → d < k → acc.length = i → chatelaineref33_Unpack_l0 Fu ((n : Int), q) k acc (i : Int) (fl s) = some (acc ++ rdL d s, fl (rdS d s)) := by
  intro d
  induction d with
  | zero =>
    intro k i acc s hi hk ha
    obtain ⟨k, rfl⟩ : ∃ m, k = m + 1 := ⟨k - 1, by omega⟩
    rw [chatelaineref33_Unpack_l0, if_neg (by dsimp only; omega)]
    simp [rdL, rdS]
  | succ d ih =>
    intro k i acc s hi hk ha
    obtain ⟨k, rfl⟩ : ∃ m, k = m + 1 := ⟨k - 1, by omega⟩
    rw [chatelaineref33_Unpack_l0, if_pos (by dsimp only; omega), rrByt Fu hF s _]
    simp only [Option.bind_some]
    rw [app24 _ _ (by omega)]
    simp only [Option.bind_some]
    rw [show w64 ((i : Int) + 1) = ((i + 1 : Nat) : Int) by rw [v_id (by omega)]; omega, ih k (i + 1) _ _ (by omega) (by omega) (by simp; omega)]
    simp [rdL, rdS]
def tkL (z : Int) : List (List UInt8) → List EvT → Sum (List EvT × Int) (List EvT)
  | [], acc => .inr acc
  | x :: l, acc => if (TE x z).2 ≠ 0 then .inl ([], (TE x z).2) else tkL z l (acc ++ [(TE x z).1])
theorem pUn_l1 (Fu : Nat) (hF : 20 ≤ Fu) (z : Int) (L : List (List UInt8)) (hL : L.length ≤ 4096) (hx : ∀ x ∈ L, x.length ≤ 2000) : ∀ d k i acc, i + d = L.length → d < k → acc.length = i → script_Unpack_l1 Fu z L k acc (i : Int) = some (tkL z (L.drop i) acc) := by
  intro d
  induction d with
  | zero =>
    intro k i acc hi hk ha
    obtain ⟨k, rfl⟩ : ∃ m, k = m + 1 := ⟨k - 1, by omega⟩
    rw [script_Unpack_l1, if_neg (by omega), List.drop_of_length_le (by omega)]; rfl
  | succ d ih =>
    intro k i acc hi hk ha
    obtain ⟨k, rfl⟩ : ∃ m, k = m + 1 := ⟨k - 1, by omega⟩
    have hlt : i < L.length := by omega
    rw [script_Unpack_l1, if_pos (by omega), ix_nat hlt]
    simp only [Option.bind_some]
    rw [List.getElem?_eq_getElem hlt]
    simp only [Option.bind_some]
    have := hx _ (List.getElem_mem hlt)
    rw [pTakeE Fu hF _ z (by omega)]
    simp only [Option.bind_some]
    rw [List.drop_eq_getElem_cons hlt, tkL]
    generalize TE L[i] z = q
    by_cases hq : q.2 = 0
    · rw [if_neg (by simp [hq]), if_neg (by simp [hq]), app128 _ _ (by omega)]
      simp only [Option.bind_some]
      rw [show w64 ((i : Int) + 1) = ((i + 1 : Nat) : Int) by rw [v_id (by omega)]; omega, ih k (i + 1) _ (by omega) (by omega) (by simp; omega)]
    · rw [if_pos hq, if_pos hq]
theorem rUn_l1 (Fu : Nat) (hF : 10000 ≤ Fu) (z : Int) (L : List (List UInt8)) (q0 : List UInt8 × Int) (hL : L.length ≤ 4096) (hx : ∀ x ∈ L, x.length ≤ 2000) : ∀ d k i acc, i + d = L.length → d < k → acc.length = i → chatelaineref33_Unpack_l1 Fu z ((L.length : Int), q0) L k acc (i : Int) = some (tkL z (L.drop i) acc) := by
  intro d
  induction d with
  | zero =>
    intro k i acc hi hk ha
    obtain ⟨k, rfl⟩ : ∃ m, k = m + 1 := ⟨k - 1, by omega⟩
    rw [chatelaineref33_Unpack_l1, if_neg (by dsimp only; omega), List.drop_of_length_le (by omega)]; rfl
  | succ d ih =>
    intro k i acc hi hk ha
    obtain ⟨k, rfl⟩ : ∃ m, k = m + 1 := ⟨k - 1, by omega⟩
    have hlt : i < L.length := by omega
    rw [chatelaineref33_Unpack_l1, if_pos (by dsimp only; omega), ix_nat hlt]
    simp only [Option.bind_some]
    rw [List.getElem?_eq_getElem hlt]
    simp only [Option.bind_some]
    have := hx _ (List.getElem_mem hlt)
    rw [rTakeE Fu hF _ z (by omega)]
    simp only [Option.bind_some]
    rw [List.drop_eq_getElem_cons hlt, tkL]
    generalize TE L[i] z = q
    by_cases hq : q.2 = 0
    · rw [if_neg (by simp [hq]), if_neg (by simp [hq]), app128 _ _ (by omega)]
      simp only [Option.bind_some]
      rw [show w64 ((i : Int) + 1) = ((i + 1 : Nat) : Int) by rw [v_id (by omega)]; omega, ih k (i + 1) _ (by omega) (by omega) (by simp; omega)]
    · rw [if_pos hq, if_pos hq]
theorem tkL_len (z : Int) : ∀ (L : List (List UInt8)) (acc : List EvT), (∀ x ∈ L, x.length ≤ 2000) → (∀ e ∈ acc, evS e 2000) → (match tkL z L acc with | .inl r => r.1 = [] | .inr l => (∀ e ∈ l, evS e 2000) ∧ l.length ≤ acc.length + L.length)
  | [], acc, _, h => ⟨h, by simp⟩
  | x :: L, acc, hx, h => by
    rw [tkL]
    have h1 := (TE_len x z).mono (hx x (List.mem_cons_self ..))
    generalize TE x z = q at *
    by_cases hq : q.2 = 0
    · rw [if_neg (by simp [hq])]
      have := tkL_len z L (acc ++ [q.1]) (fun y hy => hx y (List.mem_cons_of_mem _ hy)) (fun e he => by
        rcases List.mem_append.1 he with h2 | h2
        · exact h e h2
        · rw [List.mem_singleton.1 h2]; exact h1)
      split at this
      · exact this
      · refine ⟨this.1, ?_⟩; have := this.2; simp at this ⊢; omega
    · rw [if_pos hq]
def UP (b : List UInt8) (z : Int) : List EvT × Int :=
  if rdE (rdS (nmV 4 4096 (0, b)).toNat (nmR 4 4096 (0, b))) ≠ 0 then ([], rdE (rdS (nmV 4 4096 (0, b)).toNat (nmR 4 4096 (0, b)))) else (match tkL z (rdL (nmV 4 4096 (0, b)).toNat (nmR 4 4096 (0, b))) [] with | .inl r => r | .inr l => (l, 0))
theorem nmV_le (z m : Int) (hm : 0 ≤ m) (s : FSt) : nmV z m s ≤ m := by
  unfold nmV
  split
  · split
    · exact hm
    · rename_i h; unfold nbad at h; simp at h; omega
  · exact hm
theorem pUn (Fu : Nat) (hF : 10000 ≤ Fu) (b : List UInt8) (z : Int) (hb : b.length ≤ 2000) : script_Unpack Fu b z = some (UP b z) := by
  unfold script_Unpack field_Read UP
  simp only [Option.bind_some]
  have hl : (nmR 4 4096 (0, b)).2.length ≤ b.length := nmR_len 4 4096 (0, b)
  have hv := nmV_le 4 4096 (by decide) (0, b)
  have hn := nmV_nn 4 4096 (0, b)
  rw [show ((0, b, true) : Int × List UInt8 × Bool) = pr (0, b) from rfl, prNum Fu (by omega) _ _ _ (by decide)]
  simp only [Option.bind_some]
  generalize nmR 4 4096 (0, b) = s at *
  generalize nmV 4 4096 (0, b) = K at *
  obtain ⟨n, rfl⟩ : ∃ n : Nat, K = (n : Int) := ⟨K.toNat, by omega⟩
  rw [show ((n : Int)).toNat = n from rfl]
  have h0 := pUn_l0 Fu (by omega) n (by omega) (pr s) n Fu 0 [] s (by omega) (by omega) rfl (by omega)
  rw [show ((0 : Nat) : Int) = 0 from rfl, List.nil_append] at h0
  rw [h0]
  simp only [Option.bind_some]
  rw [prDone]
  simp only [Option.bind_some]
  rw [show (if (rdS n s).1 = 0 then (if 0 < (rdS n s).2.length then (13 : Int) else 0) else (rdS n s).1) = rdE (rdS n s) from rfl]
  by_cases he : rdE (rdS n s) = 0
  · rw [if_neg (by simp [he]), if_neg (by simp [he])]
    have h1 := pUn_l1 Fu (by omega) z (rdL n s) (by rw [rdL_len]; omega) (fun x hx => by have := rdL_le n s x hx; omega) n Fu 0 [] (by rw [rdL_len]; omega) (by omega) rfl
    rw [show ((0 : Nat) : Int) = 0 from rfl, List.drop_zero] at h1
    rw [h1]
    simp only [Option.bind_some]
    cases tkL z (rdL n s) [] <;> rfl
  · rw [if_pos he, if_pos he]
theorem rUn (Fu : Nat) (hF : 10000 ≤ Fu) (b : List UInt8) (z : Int) (hb : b.length ≤ 2000) : chatelaineref33_Unpack Fu b z = some (UP b z) := by
  unfold chatelaineref33_Unpack UP
  have hl : (nmR 4 4096 (0, b)).2.length ≤ b.length := nmR_len 4 4096 (0, b)
  have hv := nmV_le 4 4096 (by decide) (0, b)
  have hn := nmV_nn 4 4096 (0, b)
  rw [show ((b, 0) : List UInt8 × Int) = fl (0, b) from rfl, rrNum Fu (by omega) _ _ _ (by decide)]
  simp only [Option.bind_some]
  generalize nmR 4 4096 (0, b) = s at *
  generalize nmV 4 4096 (0, b) = K at *
  obtain ⟨n, rfl⟩ : ∃ n : Nat, K = (n : Int) := ⟨K.toNat, by omega⟩
  rw [show ((n : Int)).toNat = n from rfl]
  have h0 := rUn_l0 Fu (by omega) n (by omega) (fl s) n Fu 0 [] s (by omega) (by omega) rfl
  rw [show ((0 : Nat) : Int) = 0 from rfl, List.nil_append] at h0
  rw [h0]
  simp only [Option.bind_some]
  rw [rrDone]
  simp only [Option.bind_some]
  rw [show (if (rdS n s).1 = 0 then (if 0 < (rdS n s).2.length then (13 : Int) else 0) else (rdS n s).1) = rdE (rdS n s) from rfl]
  by_cases he : rdE (rdS n s) = 0
  · rw [if_neg (by simp [he]), if_neg (by simp [he])]
    have h1 := rUn_l1 Fu hF z (rdL n s) (fl s) (by rw [rdL_len]; omega) (fun x hx => by have := rdL_le n s x hx; omega) n Fu 0 [] (by rw [rdL_len]; omega) (by omega) rfl
    rw [show ((0 : Nat) : Int) = 0 from rfl, List.drop_zero, rdL_len] at h1
    rw [h1]
    simp only [Option.bind_some]
    cases tkL z (rdL n s) [] <;> rfl
  · rw [if_pos he, if_pos he]
theorem UP_len (b : List UInt8) (z : Int) (hb : b.length ≤ 2000) : (∀ e ∈ (UP b z).1, evS e 2000) ∧ (UP b z).1.length ≤ 4096 := by
  have hl : (nmR 4 4096 (0, b)).2.length ≤ b.length := nmR_len 4 4096 (0, b)
  have hv := nmV_le 4 4096 (by decide) (0, b)
  have hn := nmV_nn 4 4096 (0, b)
  unfold UP
  generalize nmR 4 4096 (0, b) = s at *
  generalize nmV 4 4096 (0, b) = K at *
  split
  · exact ⟨fun e he => (by cases he), Nat.zero_le _⟩
  · have := tkL_len z (rdL K.toNat s) [] (fun x hx => by have := rdL_le K.toNat s x hx; omega) (fun e he => by cases he)
    split at this
    · rw [this]; exact ⟨fun e he => (by cases he), Nat.zero_le _⟩
    · refine ⟨this.1, ?_⟩; have := this.2; rw [rdL_len] at this; simp at this; dsimp only; omega
theorem sameE (Fu : Nat) (hF : 10000 ≤ Fu) (e : EvT) (h : evS e 2000) : chatelaineref33_Same Fu e e = some true := by
  unfold chatelaineref33_Same
  obtain ⟨h1, h2, h3⟩ := h
  rw [rSame29 Fu _ _ (by omega) (by omega) (by omega) (by omega), same8 Fu _ _ (by omega) (by omega)]
  simp
theorem sameL_l0 (Fu : Nat) (hF : 10000 ≤ Fu) (l : List EvT) (hl : l.length ≤ 4096) (hx : ∀ e ∈ l, evS e 2000) : ∀ d k i, i + d = l.length → d < k → chatelainelaw33_same_l0 Fu l l k (i : Int) = some (.inr ()) := by
  intro d
  induction d with
  | zero =>
    intro k i hi hk
    obtain ⟨k, rfl⟩ : ∃ m, k = m + 1 := ⟨k - 1, by omega⟩
    rw [chatelainelaw33_same_l0, if_neg (by omega)]
  | succ d ih =>
    intro k i hi hk
    obtain ⟨k, rfl⟩ : ∃ m, k = m + 1 := ⟨k - 1, by omega⟩
    have hlt : i < l.length := by omega
    rw [chatelainelaw33_same_l0, if_pos (by omega), idx_nat, List.getElem?_eq_getElem hlt]
    simp only [Option.bind_some]
    rw [sameE Fu hF _ (hx _ (List.getElem_mem hlt))]
    simp only [Option.bind_some, Bool.not_true, Bool.false_eq_true, if_false]
    rw [show w64 ((i : Int) + 1) = ((i + 1 : Nat) : Int) by rw [v_id (by omega)]; omega, ih k (i + 1) (by omega) (by omega)]
theorem sameL (Fu : Nat) (hF : 10000 ≤ Fu) (l : List EvT) (hl : l.length ≤ 4096) (hx : ∀ e ∈ l, evS e 2000) : chatelainelaw33_same Fu l l = some true := by
  unfold chatelainelaw33_same
  have := sameL_l0 Fu hF l hl hx l.length Fu 0 (by omega) (by omega)
  rw [show ((0 : Nat) : Int) = 0 from rfl] at this
  rw [if_neg (by simp), this]; rfl
theorem awake33 (Fu : Nat) (hF : 20 ≤ Fu) : chatelainelaw33_awake Fu = some true := by
  unfold chatelainelaw33_awake script_Pack
  rw [if_neg (by decide), pwNum Fu hF _ _ _ (by decide)]
  simp only [Option.bind_some]
  rw [wNum_good (may4 (n := (([] : List EvT).length : Int)) (by decide))]
  obtain ⟨f, rfl⟩ : ∃ m, Fu = m + 1 := ⟨Fu - 1, by omega⟩
  rw [script_Pack_l0, if_neg (by decide)]
  simp only [Option.bind_some]
  rw [pwOut _ _ (by decide)]
  simp only [Option.bind_some, if_true]
  rw [same8 _ _ _ (by simp [be_length]; omega) (by simp [be_length])]
  decide +kernel
theorem chatelainelaw33_ScriptTakes_true (a : List UInt8) (_ : ∀ x ∈ a, ty8.has x) (b : List UInt8) (_ : ∀ x ∈ b, ty8.has x) (z : Int) (_ : r64 z) : ∃ Fu, chatelainelaw33_ScriptTakes Fu a b z = some true := by
  refine ⟨100000, ?_⟩
  unfold chatelainelaw33_ScriptTakes
  rw [awake33 _ (by decide)]
  simp only [Option.bind_some, Bool.not_true, Bool.false_eq_true, if_false]
  by_cases hs : ((decide (700 < (a.length : Int))) || (decide (2000 < (b.length : Int)))) = true
  · rw [if_pos hs]
  rw [if_neg hs]
  simp at hs
  rw [pTakeE _ (by decide) a z (by omega), rTakeE _ (by decide) a z (by omega), pUn _ (by decide) b z (by omega), rUn _ (by decide) b z (by omega)]
  have h1 := (TE_len a z).mono (show a.length ≤ 2000 by omega)
  have h2 := UP_len b z (by omega)
  generalize TE a z = q at *
  generalize UP b z = u at *
  simp only [Option.bind_some]
  rw [sameE _ (by decide) _ h1, sameL _ (by decide) _ h2.2 h2.1]
  simp
end Go.Proofs.Ythaakmdafnjkpaa
