/- The laws of sectors, over lists. -/
import Derived.Test.YtoimllmmlbehgaaE10C
import Derived.Test.YtoimllmmlbehgaaXl
import Derived.Test.YtoimllmmlbehgaaEsm
import Derived.Test.YtoimllmmlbehgaaPo
set_option linter.unusedVariables false
set_option linter.unusedSimpArgs false
namespace Go.Proofs.Ytoimllmmlbehgaa
open Go.RowKit
set_option maxRecDepth 100000 in
theorem xts_awake : chatelainelaw10_awake 300 = some true := by decide +kernel
theorem chatelainelaw10_XtsSectors_true (key : List UInt8) (_ : ∀ x ∈ key, ty8.has x) (number : Int) (_ : r64 number) (b : List UInt8) (_ : ∀ x ∈ b, ty8.has x) : ∃ Fu, chatelainelaw10_XtsSectors Fu key number b = some true := by
  refine ⟨300, ?_⟩
  unfold chatelainelaw10_XtsSectors chatelainelaw10_right
  refine (bnd_eq xts_awake _).trans ?_
  rw [if_neg (by decide)]
  by_cases hlen : ((decide (100 < (key.length : Int))) || (decide (200 < (b.length : Int)))) = true
  · rw [if_pos hlen]
  · rw [if_neg hlen]
    have hbl : b.length ≤ 200 := by simp at hlen; omega
    by_cases h : key.length = 32 ∨ key.length = 64
    · have hk : (key.take (key.length / 2)).length = 16 ∨ (key.take (key.length / 2)).length = 32 := by rw [List.length_take]; omega
      have hk2 : (key.drop (key.length / 2)).length = 16 ∨ (key.drop (key.length / 2)).length = 32 := by rw [List.length_drop]; omega
      obtain ⟨m, hm, hw, hm20⟩ := sched_len' hk
      obtain ⟨mt, hmt, hwt, hmt20⟩ := sched_len' hk2
      refine (bnd_eq (pXNew h) _).trans ?_
      dsimp only
      simp only [Option.bind_some]
      rw [if_neg (by simp; omega), if_neg (by decide)]
      refine (bnd_eq (sEnc hw hm20 hwt hmt20 number b (by omega)) _).trans ?_
      refine (bnd_eq (sDec hw hm20 hwt hmt20 number b (by omega)) _).trans ?_
      by_cases hmay : mayX number b = true
      · have hmay' := hmay
        unfold mayX at hmay'
        simp only [Bool.and_eq_true, decide_eq_true_eq] at hmay'
        obtain ⟨⟨⟨hn0, hn1⟩, hb0⟩, hb16⟩ := hmay'
        rw [hmay, if_pos rfl, if_pos rfl]
        have etm : Int.tmod (b.length : Int) 16 = ((b.length % 16 : Nat) : Int) := by rw [show (16 : Int) = ((16 : Nat) : Int) from rfl, ← Int.ofNat_tmod]
        rw [if_neg (by rw [etm]; simp only [Bool.or_eq_true, decide_eq_true_eq]; omega)]
        generalize htw : enc (sched (key.drop (key.length / 2))) mt (num8 number.toNat) = tw
        have htl : tw.length = 16 := by rw [← htw]; exact enc_len (by omega) (num8_len _)
        have hbn : b.length = 16 * (b.length / 16) := by omega
        have hfe : ∀ s : List UInt8, s.length = 16 → (enc (sched (key.take (key.length / 2))) m s).length = 16 := fun s hs => enc_len (by omega) hs
        have hfd : ∀ s : List UInt8, s.length = 16 → (dec (sched (key.take (key.length / 2))) m s).length = 16 := fun s hs => dec_len (by omega) hs
        have hle := secB_len _ hfe (b.length / 16) tw b htl hbn
        have hld := secB_len _ hfd (b.length / 16) tw b htl hbn
        have hed := secB_inv _ _ hfe (fun s hs => dec_enc (ws := sched (key.take (key.length / 2))) (n := m) (by omega) hs) (b.length / 16) tw b htl hbn
        have hde := secB_inv _ _ hfd (fun s hs => enc_dec (ws := sched (key.take (key.length / 2))) (n := m) (by omega) hs) (b.length / 16) tw b htl hbn
        dsimp only
        generalize hx : secB (enc (sched (key.take (key.length / 2))) m) (b.length / 16) tw b = x at *
        generalize hy : secB (dec (sched (key.take (key.length / 2))) m) (b.length / 16) tw b = y at *
        have hmx : mayX number x = true := by unfold mayX; simp only [Bool.and_eq_true, decide_eq_true_eq]; omega
        have hz := sDec hw hm20 hwt hmt20 number x (by omega)
        rw [hmx, if_pos rfl, htw, show x.length / 16 = b.length / 16 by omega, hed] at hz
        refine (bnd_eq hz _).trans ?_
        have hr := rXts h number ⟨hn0, hn1⟩ b (by omega) hb16 hm hmt
        rw [htw, hx] at hr
        have hry := rXts h number ⟨hn0, hn1⟩ y (by omega) (by omega) hm hmt
        rw [htw, show y.length / 16 = b.length / 16 by omega, hde] at hry
        refine (bnd_eq (x := true) ?_ _).trans ?_
        · rw [if_pos (by simp)]
          refine (bnd_eq hr _).trans ?_
          refine (bnd_eq (same8 300 x x (by omega) (by omega)) _).trans ?_
          simp
        refine (bnd_eq (x := true) ?_ _).trans ?_
        · rw [if_pos rfl]
          refine (bnd_eq (same8 300 b b (by omega) (by omega)) _).trans ?_
          simp
        refine (bnd_eq (x := true) ?_ _).trans rfl
        rw [if_pos rfl]
        refine (bnd_eq hry _).trans ?_
        refine (bnd_eq (same8 300 b b (by omega) (by omega)) _).trans ?_
        simp
      · rw [if_neg hmay, if_neg hmay]
        have hmay' := hmay
        unfold mayX at hmay'
        simp only [Bool.and_eq_true, decide_eq_true_eq] at hmay'
        have etm : Int.tmod (b.length : Int) 16 = ((b.length % 16 : Nat) : Int) := by rw [show (16 : Int) = ((16 : Nat) : Int) from rfl, ← Int.ofNat_tmod]
        rw [if_pos (by rw [etm]; simp only [Bool.or_eq_true, decide_eq_true_eq]; omega)]
        rfl
    · refine (bnd_eq (pXNewBad h) _).trans ?_
      dsimp only
      simp only [Option.bind_some]
      rw [if_pos (by simp; omega)]
      rfl
end Go.Proofs.Ytoimllmmlbehgaa
