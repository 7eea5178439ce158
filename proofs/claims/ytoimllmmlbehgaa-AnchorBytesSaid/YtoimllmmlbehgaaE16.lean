/- The law of slots as bytes, over lists. -/
import Derived.Test.YtoimllmmlbehgaaE16A
import Derived.Test.YtoimllmmlbehgaaAo
import Derived.Test.YtoimllmmlbehgaaPo
set_option linter.unusedVariables false
set_option linter.unusedSimpArgs false
namespace Go.Proofs.Ytoimllmmlbehgaa
open Go.RowKit
theorem bnd_eqN {α β : Type} {o : Option α} {x : α} (h : o = some x) (f : α → Option β) : o.bind f = f x := by rw [h]; rfl
abbrev Mx : Int := 1099511627776
theorem anchor_awake : chatelainelaw16_awake 300 = some true := by decide +kernel
theorem prFix (Fu : Nat) (s : FSt) (n : Int) (hn : 0 ≤ n) (hl : s.2.length ≤ 1000000) : field_Reader_Fixed Fu (pr s) n = some (tkV n s, pr (tkR n s)) := by
  have h2 := tkV_len n s
  have ha := app1_ok [] (tkV n s) (by simp; omega)
  unfold field_Reader_Fixed field_Reader_made slices_Clone___byte_byte
  simp only [Option.bind_some]
  rw [if_neg (by simp [pr]), if_neg (by omega)]
  simp only [Option.bind_some]
  rw [prTake]
  simp only [Option.bind_some]
  rw [ha]
  rfl
theorem pwFix (Fu : Nat) (s : FSt) (b : List UInt8) (h : s.2.length + b.length ≤ 100000000) : field_Writer_Fixed Fu s b = some (wPut s b 0) := by
  unfold field_Writer_Fixed
  rw [pwPut Fu s b 0 h]; rfl
theorem tk0 (r : List UInt8) (n : Nat) (h : n ≤ r.length) : tkR (n : Int) (0, r) = (0, r.drop n) ∧ tkV (n : Int) (0, r) = r.take n := by
  unfold tkR tkV
  dsimp only
  rw [if_pos (by omega), if_pos rfl, if_pos (by omega), if_pos rfl]
  exact ⟨rfl, rfl⟩
theorem tk11 (r : List UInt8) (n : Nat) (h : n ≤ r.length) : tkR (n : Int) (11, r) = (11, r) ∧ tkV (n : Int) (11, r) = [] := by
  unfold tkR tkV
  dsimp only
  rw [if_pos (by omega), if_neg (by decide), if_pos (by omega), if_neg (by decide)]
  exact ⟨rfl, rfl⟩
theorem nm0 (r : List UInt8) (h : 8 ≤ r.length) : nmR 8 Mx (0, r) = (if nbad (r.take 8) Mx = true then 11 else 0, r.drop 8) ∧ nmV 8 Mx (0, r) = if nbad (r.take 8) Mx = true then 0 else getN (r.take 8) := by
  obtain ⟨h1, h2⟩ := tk0 r 8 h
  unfold nmR nmV
  rw [show (8 : Int) = ((8 : Nat) : Int) from rfl, h1, h2]
  dsimp only
  rw [if_pos rfl, if_pos rfl]
  refine ⟨?_, rfl⟩
  split <;> rfl
theorem nm11 (r : List UInt8) (h : 8 ≤ r.length) : nmR 8 Mx (11, r) = (11, r) ∧ nmV 8 Mx (11, r) = 0 := by
  obtain ⟨h1, h2⟩ := tk11 r 8 h
  unfold nmR nmV
  rw [show (8 : Int) = ((8 : Nat) : Int) from rfl, h1]
  exact ⟨rfl, rfl⟩
theorem cpy32 (b : List UInt8) (h : b.length = 32) : cpy (List.replicate 32 (0 : UInt8)) 0 32 b = b := by
  unfold cpy
  rw [List.take_zero, List.nil_append, Nat.sub_zero, Nat.zero_add, Nat.min_eq_left (by omega), List.take_of_length_le (by omega), List.drop_of_length_le (by simp; omega), List.append_nil]
abbrev Slot := (Int × List UInt8 × List UInt8) × Int × Bool
def badOf (b : List UInt8) : Bool := nbad (b.take 8) Mx || nbad ((b.drop 8).take 8) Mx || decide (getN ((b.drop 8).take 8) < getN (b.take 8))
def slotOf (b : List UInt8) : Slot := ((getN (b.take 8), (b.drop 16).take 32, (b.drop 48).take 32), getN ((b.drop 8).take 8), true)
theorem pOf (b : List UInt8) (hb : b.length = 80) : anchor_Of 300 b = some (if badOf b = true then .inl 11 else .inr (slotOf b, 0)) := by
  have l8 : (b.drop 8).length = 72 := by rw [List.length_drop]; omega
  have l16 : (b.drop 16).length = 64 := by rw [List.length_drop]; omega
  have l48 : (b.drop 48).length = 32 := by rw [List.length_drop]; omega
  have d16 : (b.drop 8).drop 8 = b.drop 16 := by rw [List.drop_drop]
  have d48 : (b.drop 16).drop 32 = b.drop 48 := by rw [List.drop_drop]
  obtain ⟨r1, v1⟩ := nm0 b (by omega)
  obtain ⟨r2, v2⟩ := nm0 (b.drop 8) (by omega)
  rw [d16] at r2
  unfold anchor_Of field_Read
  rw [if_neg (by omega), if_neg (by omega)]
  simp only [Option.bind_some]
  refine (bnd_eqN (prNum 300 (by omega) (0, b) 8 Mx (by omega)) _).trans ?_
  dsimp only
  rw [r1, v1]
  by_cases n1 : nbad (b.take 8) Mx = true
  · rw [if_pos n1, if_pos n1]
    obtain ⟨r3, v3⟩ := nm11 (b.drop 8) (by omega)
    refine (bnd_eqN (prNum 300 (by omega) (11, b.drop 8) 8 Mx (by omega)) _).trans ?_
    dsimp only
    rw [r3, v3]
    obtain ⟨r4, v4⟩ := tk11 (b.drop 8) 32 (by omega)
    refine (bnd_eqN (prFix 300 (11, b.drop 8) 32 (by omega) (by dsimp only; omega)) _).trans ?_
    dsimp only
    rw [show (32 : Int) = ((32 : Nat) : Int) from rfl, r4, v4]
    refine (bnd_eqN (prFix 300 (11, b.drop 8) ((32 : Nat) : Int) (by omega) (by dsimp only; omega)) _).trans ?_
    dsimp only
    rw [r4, v4]
    refine (bnd_eqN (prDone 300 (11, b.drop 8)) _).trans ?_
    have : badOf b = true := by unfold badOf; rw [n1]; rfl
    rw [this]; rfl
  · rw [if_neg n1, if_neg n1]
    refine (bnd_eqN (prNum 300 (by omega) (0, b.drop 8) 8 Mx (by omega)) _).trans ?_
    dsimp only
    rw [r2, v2]
    by_cases n2 : nbad ((b.drop 8).take 8) Mx = true
    · rw [if_pos n2, if_pos n2]
      obtain ⟨r4, v4⟩ := tk11 (b.drop 16) 32 (by omega)
      refine (bnd_eqN (prFix 300 (11, b.drop 16) 32 (by omega) (by dsimp only; omega)) _).trans ?_
      dsimp only
      rw [show (32 : Int) = ((32 : Nat) : Int) from rfl, r4, v4]
      refine (bnd_eqN (prFix 300 (11, b.drop 16) ((32 : Nat) : Int) (by omega) (by dsimp only; omega)) _).trans ?_
      dsimp only
      rw [r4, v4]
      refine (bnd_eqN (prDone 300 (11, b.drop 16)) _).trans ?_
      have : badOf b = true := by unfold badOf; rw [n2]; simp
      rw [this]; rfl
    · rw [if_neg n2, if_neg n2]
      obtain ⟨r4, v4⟩ := tk0 (b.drop 16) 32 (by omega)
      obtain ⟨r5, v5⟩ := tk0 (b.drop 48) 32 (by omega)
      rw [d48] at r4
      refine (bnd_eqN (prFix 300 (0, b.drop 16) 32 (by omega) (by dsimp only; omega)) _).trans ?_
      dsimp only
      rw [show (32 : Int) = ((32 : Nat) : Int) from rfl, r4, v4]
      refine (bnd_eqN (prFix 300 (0, b.drop 48) ((32 : Nat) : Int) (by omega) (by dsimp only; omega)) _).trans ?_
      dsimp only
      rw [r5, v5]
      have hd : field_Reader_Done 300 (pr (0, (b.drop 48).drop 32)) = some 0 := by
        rw [prDone]; dsimp only; rw [if_pos rfl, if_neg (by simp; omega)]
      refine (bnd_eqN hd _).trans ?_
      rw [cpy32 _ (by rw [List.length_take]; omega), cpy32 _ (by rw [List.length_take]; omega)]
      unfold badOf slotOf
      rw [Bool.eq_false_iff.2 n1, Bool.eq_false_iff.2 n2]
      by_cases h : getN ((b.drop 8).take 8) < getN (b.take 8)
      · simp [h]
      · simp [h]
theorem bad_iff (b : List UInt8) : ((((decide (getE (b.take 8) ≠ 0)) || (decide (getE ((b.drop 8).take 8) ≠ 0))) || (decide (1099511627776 < getN ((b.drop 8).take 8)))) || (decide (getN ((b.drop 8).take 8) < getN (b.take 8)))) = badOf b := by
  have hM : Mx = 1099511627776 := rfl
  unfold badOf nbad
  rw [Bool.eq_iff_iff]
  simp only [Bool.or_eq_true, decide_eq_true_eq]
  constructor
  · rintro (((h | h) | h) | h)
    · exact .inl (.inl (.inl h))
    · exact .inl (.inr (.inl h))
    · exact .inl (.inr (.inr h))
    · exact .inr h
  · rintro (((h | h) | (h | h)) | h)
    · exact .inl (.inl (.inl h))
    · by_cases h2 : getN ((b.drop 8).take 8) < getN (b.take 8)
      · exact .inr h2
      · exact .inl (.inr (by omega))
    · exact .inl (.inl (.inr h))
    · exact .inl (.inr h)
    · exact .inr h
theorem put_back {l : List UInt8} (hl : l.length = 8) (h : nbad l Mx ≠ true) : mayPut (getN l) 8 = true ∧ be 8 (getN l).toNat = l := by
  have hM : Mx = 1099511627776 := rfl
  unfold nbad at h
  simp only [ne_eq, Bool.or_eq_true, decide_eq_true_eq, not_or] at h
  have he : getE l = 0 := by omega
  have hn := getN_ok he
  refine ⟨(mayPut_iff _ _).2 ⟨by decide, by decide, getN_nn l, by omega, .inl rfl⟩, ?_⟩
  rw [hn, show ((num l : Nat) : Int).toNat = num l by omega]
  have := be_num l
  rw [hl] at this
  exact this
theorem pBytes (b : List UInt8) (hb : b.length = 80) (h : badOf b ≠ true) : anchor_Slot_Bytes 300 (slotOf b) = some b := by
  unfold badOf at h
  simp only [ne_eq, Bool.or_eq_true, not_or] at h
  have l8 : (b.take 8).length = 8 := by rw [List.length_take]; omega
  have l82 : ((b.drop 8).take 8).length = 8 := by rw [List.length_take, List.length_drop]; omega
  obtain ⟨m1, e1⟩ := put_back l8 h.1.1
  obtain ⟨m2, e2⟩ := put_back l82 h.1.2
  unfold anchor_Slot_Bytes anchor_Slot_made slotOf
  simp only [Option.bind_some]
  rw [if_neg (by simp)]
  refine (bnd_eqN (pwNum 300 (by omega) (0, []) _ 8 (by simp)) _).trans ?_
  rw [wNum_good m1, show (8 : Int).toNat = 8 from rfl, e1, List.nil_append]
  refine (bnd_eqN (pwNum 300 (by omega) (0, b.take 8) _ 8 (by dsimp only; omega)) _).trans ?_
  rw [wNum_good m2, show (8 : Int).toNat = 8 from rfl, e2]
  have l32 : ((b.drop 16).take 32).length = 32 := by rw [List.length_take, List.length_drop]; omega
  have l322 : ((b.drop 48).take 32).length = 32 := by rw [List.length_take, List.length_drop]; omega
  refine (bnd_eqN (pwFix 300 (0, b.take 8 ++ (b.drop 8).take 8) _ (by simp only [List.length_append]; omega)) _).trans ?_
  rw [show wPut (0, b.take 8 ++ (b.drop 8).take 8) ((b.drop 16).take 32) 0 = (0, b.take 8 ++ (b.drop 8).take 8 ++ (b.drop 16).take 32) from rfl]
  refine (bnd_eqN (pwFix 300 (0, b.take 8 ++ (b.drop 8).take 8 ++ (b.drop 16).take 32) _ (by simp only [List.length_append]; omega)) _).trans ?_
  rw [show wPut (0, b.take 8 ++ (b.drop 8).take 8 ++ (b.drop 16).take 32) ((b.drop 48).take 32) 0 = (0, b.take 8 ++ (b.drop 8).take 8 ++ (b.drop 16).take 32 ++ (b.drop 48).take 32) from rfl]
  refine (bnd_eqN (pwOut 300 _ (by simp only [List.length_append]; omega)) _).trans ?_
  rw [if_pos rfl]
  have e : b.take 8 ++ (b.drop 8).take 8 ++ (b.drop 16).take 32 ++ (b.drop 48).take 32 = b := by
    rw [List.take_of_length_le (show (b.drop 48).length ≤ 32 by rw [List.length_drop]; omega), show b.drop 48 = (b.drop 16).drop 32 by rw [List.drop_drop], List.append_assoc, List.take_append_drop, show b.drop 16 = (b.drop 8).drop 8 by rw [List.drop_drop], List.append_assoc, List.take_append_drop, List.take_append_drop]
  exact congrArg some e
theorem chatelainelaw16_AnchorBytes_true (b : List UInt8) (_ : ∀ x ∈ b, ty8.has x) : ∃ Fu, chatelainelaw16_AnchorBytes Fu b = some true := by
  refine ⟨300, ?_⟩
  unfold chatelainelaw16_AnchorBytes
  refine (bnd_eqN anchor_awake _).trans ?_
  rw [if_neg (by decide)]
  refine (bnd_eqN (show anchor_Slot_Get_nil0 300 = some (0, List.replicate 32 0, List.replicate 32 0) from rfl) _).trans ?_
  refine (bnd_eqN (x := false) (by rw [if_neg (by simp)]; rfl) _).trans ?_
  refine (bnd_eqN (x := false) (by rw [if_neg (by decide)]; rfl) _).trans ?_
  refine (bnd_eqN (x := false) (by rw [if_neg (by decide)]; rfl) _).trans ?_
  refine (bnd_eqN (x := false) (by rw [if_neg (by decide)]; rfl) _).trans ?_
  rw [if_neg (by decide)]
  by_cases h300 : 300 < (b.length : Int)
  · rw [if_pos h300]
  · rw [if_neg h300]
    by_cases h1 : b.length < 80
    · refine (bnd_eqN (show anchor_Of 300 b = some (.inl 10) by unfold anchor_Of; rw [if_pos (by omega)]) _).trans ?_
      dsimp only
      rw [if_pos (by omega)]; rfl
    · by_cases h2 : 80 < b.length
      · refine (bnd_eqN (show anchor_Of 300 b = some (.inl 13) by unfold anchor_Of; rw [if_neg (by omega), if_pos (by omega)]) _).trans ?_
        dsimp only
        rw [if_neg (by omega), if_pos (by omega)]; rfl
      · have hb : b.length = 80 := by omega
        have s1 : sub b 0 8 = some (b.take 8) := by unfold sub; rw [if_pos (by omega)]; rfl
        have s2 : sub b 8 16 = some ((b.drop 8).take 8) := by
          unfold sub; rw [if_pos (by omega)]
          show some ((b.take 16).drop 8) = _
          rw [List.drop_take]
        have s3 : sub b 16 48 = some ((b.drop 16).take 32) := by
          unfold sub; rw [if_pos (by omega)]
          show some ((b.take 48).drop 16) = _
          rw [List.drop_take]
        have s4 : sub b 48 (b.length : Int) = some ((b.drop 48).take 32) := by
          unfold sub; rw [if_pos (by omega), show ((b.length : Int)).toNat = b.length by omega, List.take_length, List.take_of_length_le (show (b.drop 48).length ≤ 32 by rw [List.length_drop]; omega)]
          rfl
        have g1 := rGet 300 (by omega) (b.take 8)
        have g2 := rGet 300 (by omega) ((b.drop 8).take 8)
        refine (bnd_eqN (pOf b hb) _).trans ?_
        by_cases hbad : badOf b = true
        · rw [if_pos hbad]
          dsimp only
          rw [if_neg (by omega), if_neg (by omega)]
          refine (bnd_eqN s1 _).trans ?_
          refine (bnd_eqN g1 _).trans ?_
          refine (bnd_eqN s2 _).trans ?_
          refine (bnd_eqN g2 _).trans ?_
          dsimp only
          rw [if_pos ((bad_iff b).trans hbad)]
          rfl
        · rw [if_neg hbad]
          dsimp only
          rw [if_neg (by omega), if_neg (by omega)]
          refine (bnd_eqN s1 _).trans ?_
          refine (bnd_eqN g1 _).trans ?_
          refine (bnd_eqN s2 _).trans ?_
          refine (bnd_eqN g2 _).trans ?_
          dsimp only
          rw [if_neg (fun z => hbad ((bad_iff b).symm.trans z))]
          refine (bnd_eqN (show anchor_Slot_Get 300 (slotOf b) = some (slotOf b).1 from rfl) _).trans ?_
          refine (bnd_eqN (x := true) ?_ _).trans ?_
          · rw [if_pos rfl]
            refine (bnd_eqN (show anchor_Slot_Limit 300 (slotOf b) = some (slotOf b).2.1 from rfl) _).trans ?_
            unfold slotOf; simp
          refine (bnd_eqN (x := true) ?_ _).trans ?_
          · rw [if_pos (by unfold slotOf; simp)]
            refine (bnd_eqN s3 _).trans ?_
            refine (bnd_eqN (same8 300 _ _ (by unfold slotOf; simp; omega) (by unfold slotOf; simp; omega)) _).trans ?_
            unfold slotOf; simp
          refine (bnd_eqN (x := true) ?_ _).trans ?_
          · rw [if_pos rfl]
            refine (bnd_eqN s4 _).trans ?_
            refine (bnd_eqN (same8 300 _ _ (by unfold slotOf; simp; omega) (by unfold slotOf; simp; omega)) _).trans ?_
            unfold slotOf; simp
          refine (bnd_eqN (x := true) ?_ _).trans rfl
          rw [if_pos rfl]
          refine (bnd_eqN (pBytes b hb hbad) _).trans ?_
          refine (bnd_eqN (same8 300 b b (by omega) (by omega)) _).trans ?_
          simp
end Go.Proofs.Ytoimllmmlbehgaa
