/- The laws of wrapping, over lists. -/
import Derived.Test.YtoimllmmlbehgaaE09C
import Derived.Test.YtoimllmmlbehgaaWl
import Derived.Test.YtoimllmmlbehgaaEsm
import Derived.Test.YtoimllmmlbehgaaPo
set_option linter.unusedVariables false
set_option linter.unusedSimpArgs false
namespace Go.Proofs.Ytoimllmmlbehgaa
open Go.RowKit
set_option maxRecDepth 100000 in
theorem wrap_awake : chatelainelaw09_awake 300 = some true := by decide +kernel
theorem wrapL_len {kek key : List UInt8} (h : kek.length = 16 ∨ kek.length = 32) (hk : key.length % 8 = 0 ∧ 16 ≤ key.length ∧ key.length ≤ 64) : (wrapL kek key).length = key.length + 8 := by
  have hw := sched_len h
  have hf : ∀ s, s.length = 16 → (enc (sched kek) (kek.length / 4 + 6) s).length = 16 := fun s h => enc_len (by omega) h
  unfold wrapL
  rw [flW_len (wN_ok hf (n := key.length / 8) (by omega) (begW_ok hk.1) _)]
  omega
theorem ofW_flW {n : Nat} {s : WS} (h : okW n s) : ofW (flW s) = s := by
  obtain ⟨A, R⟩ := s
  have hl := flW_len h
  obtain ⟨h1, h2, h3⟩ := h
  dsimp only at h1 h2 h3
  unfold ofW
  rw [hl, show 8 * (n + 1) / 8 - 1 = n by omega]
  unfold flW
  dsimp only
  rw [List.take_left' h1, List.drop_left' h1, ← h2, chunk_of R h3]
theorem back_one {kek key : List UInt8} (h : kek.length = 16 ∨ kek.length = 32) (hk : key.length % 8 = 0 ∧ 16 ≤ key.length ∧ key.length ≤ 64) : unwrapR kek (wrapL kek key) = (key, 0) := by
  have hw := sched_len h
  have hf : ∀ s, s.length = 16 → (enc (sched kek) (kek.length / 4 + 6) s).length = 16 := fun s h => enc_len (by omega) h
  have hl := wrapL_len h hk
  unfold unwrapR
  rw [if_neg (fun z => z h), hl, if_neg (fun z => z (by omega))]
  unfold undoW
  rw [hl, show (key.length + 8) / 8 - 1 = key.length / 8 by omega]
  have e : ofW (wrapL kek key) = wN (enc (sched kek) (kek.length / 4 + 6)) (key.length / 8) (6 * (key.length / 8)) (begW key) := ofW_flW (wN_ok hf (by omega) (begW_ok hk.1) _)
  rw [e, uN_wN hf (fun s hs => dec_enc (ws := sched kek) (n := kek.length / 4 + 6) (by omega) hs) (by omega) (begW_ok hk.1)]
  unfold finW begW
  rw [if_pos rfl, chunk_flat _ _ (by omega)]
/-- what is unwrapped, or why not -/
theorem unwrap_cases (kek b : List UInt8) (h : kek.length = 16 ∨ kek.length = 32) (hb : b.length % 8 = 0 ∧ 24 ≤ b.length ∧ b.length ≤ 72) :
    (unwrapR kek b = ([], 21)) ∨ (∃ key, unwrapR kek b = (key, 0) ∧ (key.length % 8 = 0 ∧ 16 ≤ key.length ∧ key.length ≤ 64) ∧ wrapL kek key = b) := by
  have hw := sched_len h
  have hg : ∀ s, s.length = 16 → (dec (sched kek) (kek.length / 4 + 6) s).length = 16 := fun s h => dec_len (by omega) h
  have ho := uN_ok hg (n := b.length / 8 - 1) (by omega) (6 * (b.length / 8 - 1)) (ofW b) (ofW_ok hb.1 (by omega))
  unfold unwrapR
  rw [if_neg (fun z => z h), if_neg (fun z => z hb)]
  have hwn := wN_uN (f := enc (sched kek) (kek.length / 4 + 6)) hg (fun s hs => enc_dec (ws := sched kek) (n := kek.length / 4 + 6) (by omega) hs) (n := b.length / 8 - 1) (by omega) (6 * (b.length / 8 - 1)) (ofW b) (ofW_ok hb.1 (by omega))
  unfold undoW finW
  generalize uN (dec (sched kek) (kek.length / 4 + 6)) (b.length / 8 - 1) (6 * (b.length / 8 - 1)) (ofW b) = s at *
  by_cases hm : s.1 = marksL
  · right
    rw [if_pos hm]
    have hl : s.2.flatten.length = 8 * (b.length / 8 - 1) := by rw [fl8_len _ ho.2.2, ho.2.1]
    refine ⟨s.2.flatten, rfl, by omega, ?_⟩
    have e : begW s.2.flatten = s := by
      unfold begW
      rw [hl, Nat.mul_div_cancel_left _ (by decide), ← ho.2.1, chunk_of _ ho.2.2, ← hm]
    unfold wrapL
    rw [e, hl, Nat.mul_div_cancel_left _ (by decide), hwn, ofW_fl hb.1 (by omega)]
  · left; rw [if_neg hm]
theorem chatelainelaw09_WrapWraps_true (kek : List UInt8) (_ : ∀ x ∈ kek, ty8.has x) (key : List UInt8) (_ : ∀ x ∈ key, ty8.has x) (n : Int) (_ : r64 n) : ∃ Fu, chatelainelaw09_WrapWraps Fu kek key n = some true := by
  refine ⟨300, ?_⟩
  unfold chatelainelaw09_WrapWraps
  refine (bnd_eqW wrap_awake _).trans ?_
  rw [if_neg (by decide)]
  by_cases hl : ((decide (100 < (kek.length : Int))) || (decide (100 < (key.length : Int)))) = true
  · rw [if_pos hl]
  · rw [if_neg hl]
    simp only [Bool.or_eq_true, decide_eq_true_eq] at hl
    refine (bnd_eqW (pWrap kek key (by omega)) _).trans ?_
    refine (bnd_eqW (rWrap kek key (by omega)) _).trans ?_
    refine (bnd_eqW (pSize n) _).trans ?_
    have hwl : (wrapR kek key).1.length ≤ 200 := by
      unfold wrapR
      by_cases h : kek.length = 16 ∨ kek.length = 32
      · rw [if_neg (fun z => z h)]
        by_cases hk : key.length % 8 = 0 ∧ 16 ≤ key.length ∧ key.length ≤ 64
        · rw [if_neg (fun z => z hk), wrapL_len h hk]; omega
        · rw [if_pos hk]; simp
      · rw [if_pos h]; simp
    refine (bnd_eqW (same8 300 _ (wrapR kek key).1 (by omega) (by omega)) _).trans ?_
    congr 1
    by_cases hn : Int.tmod n 8 = 0 ∧ 16 ≤ n ∧ n ≤ 64
    · rw [if_pos hn, k_id (by omega)]; simp [hn]
    · rw [if_neg hn]
      have : (((decide (16 ≤ n)) && (decide (n ≤ 64))) && (decide (Int.tmod n 8 = 0))) = false := by
        rw [Bool.eq_false_iff]; simp; omega
      simp [this]
theorem chatelainelaw09_WrapUnwraps_true (kek : List UInt8) (_ : ∀ x ∈ kek, ty8.has x) (b : List UInt8) (_ : ∀ x ∈ b, ty8.has x) : ∃ Fu, chatelainelaw09_WrapUnwraps Fu kek b = some true := by
  refine ⟨300, ?_⟩
  unfold chatelainelaw09_WrapUnwraps
  refine (bnd_eqW wrap_awake _).trans ?_
  rw [if_neg (by decide)]
  by_cases hl : ((decide (100 < (kek.length : Int))) || (decide (100 < (b.length : Int)))) = true
  · rw [if_pos hl]
  · rw [if_neg hl]
    simp only [Bool.or_eq_true, decide_eq_true_eq] at hl
    refine (bnd_eqW (pUnwrap kek b (by omega)) _).trans ?_
    by_cases h : kek.length = 16 ∨ kek.length = 32
    · rw [if_neg (show ¬((decide ((kek.length : Int) ≠ 16)) && (decide ((kek.length : Int) ≠ 32))) = true by simp; omega)]
      by_cases hb : b.length % 8 = 0 ∧ 24 ≤ b.length ∧ b.length ≤ 72
      · rw [if_neg (show ¬(((decide (Int.tmod (b.length : Int) 8 ≠ 0)) || (decide ((b.length : Int) < 24))) || (decide (72 < (b.length : Int)))) = true by rw [tmod8]; simp; omega)]
        rcases unwrap_cases kek b h hb with e | ⟨key, e, hk, hwb⟩
        · rw [e, if_pos rfl]; rfl
        · rw [e, if_neg (by simp)]
          refine (bnd_eqW (rWrap kek key (by omega)) _).trans ?_
          have ew : wrapR kek key = (b, 0) := by unfold wrapR; rw [if_neg (fun z => z h), if_neg (fun z => z hk), hwb]
          rw [ew]
          refine (bnd_eqW (x := true) ?_ _).trans rfl
          rw [if_pos (by simp)]
          refine (bnd_eqW (same8 300 b b (by omega) (by omega)) _).trans ?_
          simp
      · rw [if_pos (show (((decide (Int.tmod (b.length : Int) 8 ≠ 0)) || (decide ((b.length : Int) < 24))) || (decide (72 < (b.length : Int)))) = true by rw [tmod8]; simp; omega)]
        have : unwrapR kek b = ([], 2) := by unfold unwrapR; rw [if_neg (fun z => z h), if_pos hb]
        rw [this]; rfl
    · rw [if_pos (show ((decide ((kek.length : Int) ≠ 16)) && (decide ((kek.length : Int) ≠ 32))) = true by simp; omega)]
      have : unwrapR kek b = ([], 20) := by unfold unwrapR; rw [if_pos h]
      rw [this]; rfl
theorem pAgain (kek to b : List UInt8) (hl : b.length ≤ 1000) (hk : (unwrapR kek b).1.length ≤ 1000) : wrap_Again 300 kek to b = some (if (unwrapR kek b).2 ≠ 0 then ([], (unwrapR kek b).2) else wrapR to (unwrapR kek b).1) := by
  unfold wrap_Again
  refine (bnd_eqW (pUnwrap kek b hl) _).trans ?_
  by_cases h : (unwrapR kek b).2 ≠ 0
  · rw [if_pos h, if_pos h]
  · rw [if_neg h, if_neg h, pWrap to _ hk]; rfl
theorem chatelainelaw09_WrapBack_true (kek : List UInt8) (_ : ∀ x ∈ kek, ty8.has x) (to : List UInt8) (_ : ∀ x ∈ to, ty8.has x) (key : List UInt8) (_ : ∀ x ∈ key, ty8.has x) : ∃ Fu, chatelainelaw09_WrapBack Fu kek to key = some true := by
  refine ⟨300, ?_⟩
  unfold chatelainelaw09_WrapBack
  refine (bnd_eqW wrap_awake _).trans ?_
  rw [if_neg (by decide)]
  by_cases hl : (((decide (100 < (kek.length : Int))) || (decide (100 < (to.length : Int)))) || (decide (100 < (key.length : Int)))) = true
  · rw [if_pos hl]
  · rw [if_neg hl]
    simp only [Bool.or_eq_true, decide_eq_true_eq] at hl
    refine (bnd_eqW (pWrap kek key (by omega)) _).trans ?_
    by_cases h : kek.length = 16 ∨ kek.length = 32
    · by_cases hk : key.length % 8 = 0 ∧ 16 ≤ key.length ∧ key.length ≤ 64
      · have ew : wrapR kek key = (wrapL kek key, 0) := by unfold wrapR; rw [if_neg (fun z => z h), if_neg (fun z => z hk)]
        have hbl := wrapL_len h hk
        have eu := back_one h hk
        rw [ew, if_neg (by simp)]
        dsimp only
        generalize wrapL kek key = b at *
        refine (bnd_eqW (pUnwrap kek b (by omega)) _).trans ?_
        rw [eu]
        refine (bnd_eqW (x := false) ?_ _).trans ?_
        · rw [if_neg (by simp)]
          refine (bnd_eqW (same8 300 key key (by omega) (by omega)) _).trans ?_
          simp
        rw [if_neg (by decide)]
        have ea := pAgain kek to b (by omega) (by rw [eu]; show key.length ≤ 1000; omega)
        rw [eu] at ea
        refine (bnd_eqW ea _).trans ?_
        dsimp only
        rw [if_neg (show ¬((0 : Int) ≠ 0) by simp)]
        by_cases ht : to.length = 16 ∨ to.length = 32
        · rw [if_neg (show ¬((decide ((to.length : Int) ≠ 16)) && (decide ((to.length : Int) ≠ 32))) = true by simp; omega)]
          have et : wrapR to key = (wrapL to key, 0) := by unfold wrapR; rw [if_neg (fun z => z ht), if_neg (fun z => z hk)]
          have htl := wrapL_len ht hk
          have eu2 := back_one ht hk
          rw [et]
          dsimp only
          refine (bnd_eqW (pUnwrap to (wrapL to key) (by omega)) _).trans ?_
          rw [eu2]
          rcases unwrap_cases to b ht (by omega) with e3 | ⟨k3, e3, hk3, _⟩
          · have e4 := pAgain to kek b (by omega) (by rw [e3]; simp)
            rw [e3] at e4
            refine (bnd_eqW e4 _).trans ?_
            refine (bnd_eqW (pUnwrap to b (by omega)) _).trans ?_
            rw [e3]
            refine (bnd_eqW (x := true) ?_ _).trans ?_
            · rw [if_pos (by simp)]
              refine (bnd_eqW (same8 300 key key (by omega) (by omega)) _).trans ?_
              simp
            rfl
          · have e4 := pAgain to kek b (by omega) (by rw [e3]; show k3.length ≤ 1000; omega)
            rw [e3] at e4
            refine (bnd_eqW e4 _).trans ?_
            refine (bnd_eqW (pUnwrap to b (by omega)) _).trans ?_
            rw [e3]
            refine (bnd_eqW (x := true) ?_ _).trans ?_
            · rw [if_pos (by simp)]
              refine (bnd_eqW (same8 300 key key (by omega) (by omega)) _).trans ?_
              simp
            have e5 : wrapR kek k3 = (wrapL kek k3, 0) := by unfold wrapR; rw [if_neg (fun z => z h), if_neg (fun z => z hk3)]
            dsimp only
            rw [if_neg (show ¬((0 : Int) ≠ 0) by simp), e5]
            simp
        · rw [if_pos (show ((decide ((to.length : Int) ≠ 16)) && (decide ((to.length : Int) ≠ 32))) = true by simp; omega)]
          have et : wrapR to key = ([], 20) := by unfold wrapR; rw [if_pos ht]
          rw [et]; rfl
      · have ew : wrapR kek key = ([], 2) := by unfold wrapR; rw [if_neg (fun z => z h), if_pos hk]
        rw [ew]; rfl
    · have ew : wrapR kek key = ([], 20) := by unfold wrapR; rw [if_pos h]
      rw [ew]; rfl
end Go.Proofs.Ytoimllmmlbehgaa
