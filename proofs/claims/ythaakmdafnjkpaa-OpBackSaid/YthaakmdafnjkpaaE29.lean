/- Ops as bytes: OpPuts, OpTakes, OpBack. -/
import Derived.Test.YthaakmdafnjkpaaOl
import Derived.Test.YthaakmdafnjkpaaE29A
set_option linter.unusedVariables false
set_option linter.unusedSimpArgs false
namespace Go.Proofs.Ythaakmdafnjkpaa
open Go.RowKit
abbrev OpT := Int × Int × Int × Int × Int × (List UInt8) × (List UInt8)
def RightP (o : OpT) (z : Int) : Prop :=
  1 ≤ o.1 ∧ o.1 ≤ 10 ∧ 1 ≤ o.2.1 ∧ o.2.1 ≤ 16 ∧ o.2.2.2.2.2.1.length ≤ 64 ∧ (if o.1 = 1 ∨ o.1 = 5 ∨ o.1 = 6 then o.2.2.1 = 0 else 1 ≤ o.2.2.1 ∧ o.2.2.1 ≤ 64) ∧ 0 ≤ o.2.2.2.1 ∧ o.2.2.2.1 ≤ 4096 ∧ (o.1 = 2 ∨ o.1 = 3 → o.2.2.2.1 ≠ 0) ∧ (o.1 = 4 ∨ o.1 = 5 ∨ o.1 = 6 → o.2.2.2.1 = 0) ∧ (if o.1 = 9 ∨ o.1 = 10 then 1 ≤ o.2.2.2.2.1 ∧ o.2.2.2.2.1 ≤ 4096 else o.2.2.2.2.1 = 0) ∧ (if o.1 = 1 ∨ o.1 = 5 then 8 ≤ o.2.2.2.2.2.2.length ∧ o.2.2.2.2.2.2.length ≤ 64 else if o.1 = 8 then (o.2.2.2.2.2.2.length : Int) = z else o.2.2.2.2.2.2.length = 0)
instance (o : OpT) (z : Int) : Decidable (RightP o z) := by unfold RightP; infer_instance
theorem ten {k : Int} (h : 1 ≤ k ∧ k ≤ 10) : k = 1 ∨ k = 2 ∨ k = 3 ∨ k = 4 ∨ k = 5 ∨ k = 6 ∨ k = 7 ∨ k = 8 ∨ k = 9 ∨ k = 10 := by omega
theorem ite_sm {c : Prop} [Decidable c] {α : Type} (a b : α) : (if c then some a else some b) = some (if c then a else b) := by split <;> rfl
theorem some_dec {x : Option Bool} {p : Prop} [Decidable p] (h : ∃ v, x = some v ∧ (v = true ↔ p)) : x = some (decide p) := by
  obtain ⟨v, rfl, h⟩ := h
  rw [Option.some.injEq, Bool.eq_iff_iff, h, decide_eq_true_eq]
theorem pRight (Fu : Nat) (o : OpT) (z : Int) : op_Right Fu o z = some (decide (RightP o z)) := by
  apply some_dec
  obtain ⟨k, t, s, n, m, c, d⟩ := o
  unfold op_Right op_within op_numbers op_data cred_Right op_within op_spaceless RightP
  simp only [Option.bind_some]
  generalize c.length = lc
  generalize d.length = ld
  by_cases hk : 1 ≤ k ∧ k ≤ 10
  · by_cases ht : 1 ≤ t ∧ t ≤ 16
    · by_cases hc : lc ≤ 64
      · have hk' := ten hk
        rw [show (decide (1 ≤ k) && decide (k ≤ 10)) = true by simp [hk], show (decide (1 ≤ t) && decide (t ≤ 16)) = true by simp [ht]]
        simp only [Bool.not_true, Bool.false_eq_true, if_false, Option.bind_some, Bool.false_or]
        rw [if_neg (by simp; omega)]
        clear hk
        rcases hk' with h | h | h | h | h | h | h | h | h | h <;> subst h <;> simp (config := { decide := true }) only [if_true, if_false, Option.bind_some, ite_sm] <;> refine ⟨_, rfl, ?_⟩ <;> (repeat' split) <;> simp_all <;> omega
      · refine ⟨false, ?_, by simp; omega⟩
        rw [show (decide (1 ≤ k) && decide (k ≤ 10)) = true by simp [hk], show (decide (1 ≤ t) && decide (t ≤ 16)) = true by simp [ht]]
        simp only [Bool.not_true, Bool.false_eq_true, if_false, Option.bind_some, Bool.false_or]
        rw [if_pos (by simp; omega)]
    · refine ⟨false, ?_, by simp; omega⟩
      rw [show (decide (1 ≤ k) && decide (k ≤ 10)) = true by simp [hk], show (decide (1 ≤ t) && decide (t ≤ 16)) = false by simp; omega]
      rfl
  · refine ⟨false, ?_, by simp; omega⟩
    rw [show (decide (1 ≤ k) && decide (k ≤ 10)) = false by simp; omega]
    rfl
theorem rRight (Fu : Nat) (o : OpT) (z : Int) : chatelaineref29_Right Fu o z = some (decide (RightP o z)) := by
  apply some_dec
  obtain ⟨k, t, s, n, m, c, d⟩ := o
  unfold chatelaineref29_Right chatelaineref29_from RightP
  simp only [Option.bind_some]
  generalize c.length = lc
  generalize d.length = ld
  by_cases hk : 1 ≤ k ∧ k ≤ 10
  · by_cases ht : 1 ≤ t ∧ t ≤ 16
    · by_cases hn : 0 ≤ n ∧ n ≤ 4096
      · by_cases hc : lc ≤ 64
        · have hk' := ten hk
          rw [show (decide (1 ≤ k) && decide (k ≤ 10)) = true by simp [hk], show (decide (1 ≤ t) && decide (t ≤ 16)) = true by simp [ht], show (decide (0 ≤ n) && decide (n ≤ 4096)) = true by simp [hn]]
          simp only [Bool.not_true, Bool.false_eq_true, if_false, Option.bind_some, Bool.false_or]
          rw [if_neg (by simp; omega)]
          clear hk
          cases hsb : (decide (1 ≤ s) && decide (s ≤ 64)) <;> cases hmb : (decide (1 ≤ m) && decide (m ≤ 4096)) <;> simp only [Bool.and_eq_true, Bool.and_eq_false_iff, decide_eq_true_eq, decide_eq_false_iff_not] at hsb hmb <;> by_cases hs0 : s = 0 <;> by_cases hm0 : m = 0 <;> by_cases hn0 : n = 0 <;> rcases hk' with h | h | h | h | h | h | h | h | h | h <;> subst h <;> simp (config := { decide := true }) [hs0, hm0, hn0, ht, hn, hc] <;> omega
        · refine ⟨false, ?_, by simp; omega⟩
          rw [show (decide (1 ≤ k) && decide (k ≤ 10)) = true by simp [hk], show (decide (1 ≤ t) && decide (t ≤ 16)) = true by simp [ht], show (decide (0 ≤ n) && decide (n ≤ 4096)) = true by simp [hn]]
          simp only [Bool.not_true, Bool.false_eq_true, if_false, Option.bind_some, Bool.false_or]
          rw [if_pos (by simp; omega)]
      · refine ⟨false, ?_, by simp; omega⟩
        rw [show (decide (1 ≤ k) && decide (k ≤ 10)) = true by simp [hk], show (decide (1 ≤ t) && decide (t ≤ 16)) = true by simp [ht], show (decide (0 ≤ n) && decide (n ≤ 4096)) = false by simp; omega]
        rfl
    · refine ⟨false, ?_, by simp; omega⟩
      rw [show (decide (1 ≤ k) && decide (k ≤ 10)) = true by simp [hk], show (decide (1 ≤ t) && decide (t ≤ 16)) = false by simp; omega]
      rfl
  · refine ⟨false, ?_, by simp; omega⟩
    rw [show (decide (1 ≤ k) && decide (k ≤ 10)) = false by simp; omega]
    rfl
/-! writing -/
def opW (o : OpT) : FSt := wByt (wByt (wNum (wNum (wNum (wNum (wNum (0, []) o.1 1) o.2.1 1) o.2.2.1 1) o.2.2.2.1 4) o.2.2.2.2.1 4) o.2.2.2.2.2.1) o.2.2.2.2.2.2
def encO (o : OpT) : List UInt8 := be 1 o.1.toNat ++ (be 1 o.2.1.toNat ++ (be 1 o.2.2.1.toNat ++ (be 4 o.2.2.2.1.toNat ++ (be 4 o.2.2.2.2.1.toNat ++ (be 2 o.2.2.2.2.2.1.length ++ o.2.2.2.2.2.1 ++ (be 2 o.2.2.2.2.2.2.length ++ o.2.2.2.2.2.2))))))
theorem may1 {n : Int} (h : 0 ≤ n ∧ n ≤ 255) : mayPut n 1 = true := (mayPut_iff n 1).2 ⟨by decide, by decide, h.1, by omega, .inr (by show n < 256; omega)⟩
theorem may4 {n : Int} (h : 0 ≤ n ∧ n ≤ 4096) : mayPut n 4 = true := (mayPut_iff n 4).2 ⟨by decide, by decide, h.1, by omega, .inr (by show n < 4294967296; omega)⟩
theorem RightP.nums {o : OpT} {z : Int} (h : RightP o z) : (0 ≤ o.1 ∧ o.1 ≤ 255) ∧ (0 ≤ o.2.1 ∧ o.2.1 ≤ 255) ∧ (0 ≤ o.2.2.1 ∧ o.2.2.1 ≤ 64) ∧ (0 ≤ o.2.2.2.1 ∧ o.2.2.2.1 ≤ 4096) ∧ (0 ≤ o.2.2.2.2.1 ∧ o.2.2.2.2.1 ≤ 4096) := by
  obtain ⟨h1, h2, h3, h4, h5, h6, h7, h8, h9, h10, h11, h12⟩ := h
  refine ⟨by omega, by omega, ?_, by omega, ?_⟩
  · split at h6 <;> omega
  · split at h11 <;> omega
theorem RightP.dat {o : OpT} {z : Int} (h : RightP o z) : (o.2.2.2.2.2.2.length : Int) ≤ max 64 z := by
  obtain ⟨h1, h2, h3, h4, h5, h6, h7, h8, h9, h10, h11, h12⟩ := h
  split at h12
  · omega
  · split at h12 <;> omega
theorem opW_good {o : OpT} {z : Int} (h : RightP o z) (hd : o.2.2.2.2.2.2.length ≤ 600) : opW o = (0, encO o) := by
  obtain ⟨a1, a2, a3, a4, a5⟩ := h.nums
  have hc := h.2.2.2.2.1
  unfold opW
  rw [wNum_good (may1 a1), wNum_good (may1 a2), wNum_good (may1 (by omega)), wNum_good (may4 a4), wNum_good (may4 a5), wByt_good (by omega), wByt_good (by omega)]
  simp [encO]
theorem pPutO (Fu : Nat) (hF : 20 ≤ Fu) (o : OpT) (z : Int) (hd : o.2.2.2.2.2.2.length ≤ 600) : op_Put Fu o z = some (if RightP o z then (encO o, 0) else ([], 2)) := by
  unfold op_Put
  rw [pRight]
  simp only [Option.bind_some]
  by_cases h : RightP o z
  · have hc := h.2.2.2.2.1
    rw [if_neg (by simp [h]), if_pos h]
    have l1 := wNum_len (0, []) o.1 1
    have l2 := wNum_len (wNum (0, []) o.1 1) o.2.1 1
    have l3 := wNum_len (wNum (wNum (0, []) o.1 1) o.2.1 1) o.2.2.1 1
    have l4 := wNum_len (wNum (wNum (wNum (0, []) o.1 1) o.2.1 1) o.2.2.1 1) o.2.2.2.1 4
    have l5 := wNum_len (wNum (wNum (wNum (wNum (0, []) o.1 1) o.2.1 1) o.2.2.1 1) o.2.2.2.1 4) o.2.2.2.2.1 4
    have l0 : ((0, []) : FSt).2.length = 0 := rfl
    have hg := opW_good h hd
    have l7 : (encO o).length ≤ 1000 := by simp only [encO, List.length_append, be_length]; omega
    rw [pwNum Fu hF _ _ _ (by omega)]
    simp only [Option.bind_some]
    rw [pwNum Fu hF _ _ _ (by omega)]
    simp only [Option.bind_some]
    rw [pwNum Fu hF _ _ _ (by omega)]
    simp only [Option.bind_some]
    rw [pwNum Fu hF _ _ _ (by omega)]
    simp only [Option.bind_some]
    rw [pwNum Fu hF _ _ _ (by omega)]
    simp only [Option.bind_some]
    rw [pwByt Fu hF _ _ (by omega) (by omega)]
    simp only [Option.bind_some]
    have l6 : (wByt (wNum (wNum (wNum (wNum (wNum (0, []) o.1 1) o.2.1 1) o.2.2.1 1) o.2.2.2.1 4) o.2.2.2.2.1 4) o.2.2.2.2.2.1).2.length ≤ 1000 := by
      have a := wPut_len (wNum (wNum (wNum (wNum (wNum (wNum (0, []) o.1 1) o.2.1 1) o.2.2.1 1) o.2.2.2.1 4) o.2.2.2.2.1 4) o.2.2.2.2.2.1.length 2) o.2.2.2.2.2.1 0
      have b := wNum_len (wNum (wNum (wNum (wNum (wNum (0, []) o.1 1) o.2.1 1) o.2.2.1 1) o.2.2.2.1 4) o.2.2.2.2.1 4) o.2.2.2.2.2.1.length 2
      unfold wByt; omega
    rw [pwByt Fu hF _ _ (by omega) (by omega)]
    simp only [Option.bind_some]
    rw [show wByt (wByt (wNum (wNum (wNum (wNum (wNum (0, []) o.1 1) o.2.1 1) o.2.2.1 1) o.2.2.2.1 4) o.2.2.2.2.1 4) o.2.2.2.2.2.1) o.2.2.2.2.2.2 = (0, encO o) from hg, pwOut Fu _ (by dsimp only; omega)]
    rfl
  · rw [if_pos (by simp [h]), if_neg h]
theorem rwOut (Fu : Nat) (s : FSt) : chatelaineref12_Writer_Out_own0 Fu (fl s) = some (if s.1 = 0 then (s.2, 0) else ([], s.1)) := by
  unfold chatelaineref12_Writer_Out_own0 fl
  by_cases hx : s.1 = 0 <;> simp [hx]
theorem rPutO (Fu : Nat) (hF : 20 ≤ Fu) (o : OpT) (z : Int) (h : RightP o z) (hd : o.2.2.2.2.2.2.length ≤ 600) : chatelaineref29_Put Fu o = some (encO o) := by
  have hc := h.2.2.2.2.1
  unfold chatelaineref29_Put
  have l1 := wNum_len (0, []) o.1 1
  have l2 := wNum_len (wNum (0, []) o.1 1) o.2.1 1
  have l3 := wNum_len (wNum (wNum (0, []) o.1 1) o.2.1 1) o.2.2.1 1
  have l4 := wNum_len (wNum (wNum (wNum (0, []) o.1 1) o.2.1 1) o.2.2.1 1) o.2.2.2.1 4
  have l5 := wNum_len (wNum (wNum (wNum (wNum (0, []) o.1 1) o.2.1 1) o.2.2.1 1) o.2.2.2.1 4) o.2.2.2.2.1 4
  have l0 : ((0, []) : FSt).2.length = 0 := rfl
  have hg := opW_good h hd
  have l6 : (wByt (wNum (wNum (wNum (wNum (wNum (0, []) o.1 1) o.2.1 1) o.2.2.1 1) o.2.2.2.1 4) o.2.2.2.2.1 4) o.2.2.2.2.2.1).2.length ≤ 1000 := by
    have a := wPut_len (wNum (wNum (wNum (wNum (wNum (wNum (0, []) o.1 1) o.2.1 1) o.2.2.1 1) o.2.2.2.1 4) o.2.2.2.2.1 4) o.2.2.2.2.2.1.length 2) o.2.2.2.2.2.1 0
    have b := wNum_len (wNum (wNum (wNum (wNum (wNum (0, []) o.1 1) o.2.1 1) o.2.2.1 1) o.2.2.2.1 4) o.2.2.2.2.1 4) o.2.2.2.2.2.1.length 2
    unfold wByt; omega
  rw [show (([], 0) : List UInt8 × Int) = fl (0, []) from rfl, rwNum Fu hF _ _ _ (by omega)]
  simp only [Option.bind_some]
  rw [rwNum Fu hF _ _ _ (by omega)]
  simp only [Option.bind_some]
  rw [rwNum Fu hF _ _ _ (by omega)]
  simp only [Option.bind_some]
  rw [rwNum Fu hF _ _ _ (by omega)]
  simp only [Option.bind_some]
  rw [rwNum Fu hF _ _ _ (by omega)]
  simp only [Option.bind_some]
  rw [rwByt Fu hF _ _ (by omega) (by omega)]
  simp only [Option.bind_some]
  rw [rwByt Fu hF _ _ (by omega) (by omega)]
  simp only [Option.bind_some]
  rw [show wByt (wByt (wNum (wNum (wNum (wNum (wNum (0, []) o.1 1) o.2.1 1) o.2.2.1 1) o.2.2.2.1 4) o.2.2.2.2.1 4) o.2.2.2.2.2.1) o.2.2.2.2.2.2 = (0, encO o) from hg, rwOut Fu]
  rfl
/-! reading -/
def TKf (o : OpT) (e z : Int) : OpT × Int := if e ≠ 0 then ((0, 0, 0, 0, 0, [], []), e) else if RightP o z then (o, 0) else ((0, 0, 0, 0, 0, [], []), 2)
def rd5 (b : List UInt8) : FSt := nmR 4 4096 (nmR 4 4096 (nmR 1 64 (nmR 1 16 (nmR 1 10 (0, b)))))
def rdO (b : List UInt8) (z : Int) : OpT := (nmV 1 10 (0, b), nmV 1 16 (nmR 1 10 (0, b)), nmV 1 64 (nmR 1 16 (nmR 1 10 (0, b))), nmV 4 4096 (nmR 1 64 (nmR 1 16 (nmR 1 10 (0, b)))), nmV 4 4096 (nmR 4 4096 (nmR 1 64 (nmR 1 16 (nmR 1 10 (0, b))))), byV 64 (rd5 b), byV (mx 64 z) (byR 64 (rd5 b)))
def rdE (s : FSt) : Int := if s.1 = 0 then (if 0 < s.2.length then 13 else 0) else s.1
def TK (b : List UInt8) (z : Int) : OpT × Int := TKf (rdO b z) (rdE (byR (mx 64 z) (byR 64 (rd5 b)))) z
theorem TKf_eq (o : OpT) (e z : Int) : ((if e = 0 then (some (decide (RightP o z))).bind fun x => some (!x) else some false).bind fun z114 => if z114 = true then some (2 : Int) else some e).bind (fun x => if x ≠ 0 then some (((0, 0, 0, 0, 0, [], []) : OpT), x) else some (o, 0)) = some (TKf o e z) := by
  unfold TKf
  by_cases he : e = 0 <;> by_cases hR : RightP o z <;> simp [he, hR]
theorem pTakeO (Fu : Nat) (hF : 20 ≤ Fu) (b : List UInt8) (z : Int) (hb : b.length ≤ 1000000) : op_Take Fu b z = some (TK b z) := by
  unfold op_Take field_Read TK rdO
  simp only [Option.bind_some]
  rw [show ((0, b, true) : Int × List UInt8 × Bool) = pr (0, b) from rfl, prNum Fu hF _ _ _ (by decide)]
  simp only [Option.bind_some]
  rw [prNum Fu hF _ _ _ (by decide)]
  simp only [Option.bind_some]
  rw [prNum Fu hF _ _ _ (by decide)]
  simp only [Option.bind_some]
  rw [prNum Fu hF _ _ _ (by decide)]
  simp only [Option.bind_some]
  rw [prNum Fu hF _ _ _ (by decide)]
  simp only [Option.bind_some]
  have l0 : ((0, b) : FSt).2.length = b.length := rfl
  have l1 := nmR_len 1 10 (0, b)
  have l2 := nmR_len 1 16 (nmR 1 10 (0, b))
  have l3 := nmR_len 1 64 (nmR 1 16 (nmR 1 10 (0, b)))
  have l4 := nmR_len 4 4096 (nmR 1 64 (nmR 1 16 (nmR 1 10 (0, b))))
  have l5 := nmR_len 4 4096 (nmR 4 4096 (nmR 1 64 (nmR 1 16 (nmR 1 10 (0, b)))))
  have l6 := byR_len 64 (nmR 4 4096 (nmR 4 4096 (nmR 1 64 (nmR 1 16 (nmR 1 10 (0, b))))))
  rw [prByt Fu hF _ _ (by omega)]
  simp only [Option.bind_some]
  rw [prByt Fu hF _ _ (by omega)]
  simp only [Option.bind_some]
  rw [prDone]
  simp only [Option.bind_some]
  rw [pRight]
  exact TKf_eq _ _ _
theorem rTakeO (Fu : Nat) (hF : 20 ≤ Fu) (b : List UInt8) (z : Int) : chatelaineref29_Take Fu b z = some (TK b z) := by
  unfold chatelaineref29_Take TK rdO
  rw [show ((b, 0) : List UInt8 × Int) = fl (0, b) from rfl, rrNum Fu hF _ _ _ (by decide)]
  simp only [Option.bind_some]
  rw [rrNum Fu hF _ _ _ (by decide)]
  simp only [Option.bind_some]
  rw [rrNum Fu hF _ _ _ (by decide)]
  simp only [Option.bind_some]
  rw [rrNum Fu hF _ _ _ (by decide)]
  simp only [Option.bind_some]
  rw [rrNum Fu hF _ _ _ (by decide)]
  simp only [Option.bind_some]
  rw [rrByt Fu hF]
  simp only [Option.bind_some]
  have e1 : (if 64 < z then some z else some (64 : Int)) = some (mx 64 z) := by unfold mx; split <;> rfl
  rw [e1]
  simp only [Option.bind_some]
  rw [rrByt Fu hF]
  simp only [Option.bind_some]
  rw [rrDone]
  simp only [Option.bind_some]
  rw [rRight]
  exact TKf_eq _ _ _
theorem TKf_len (o : OpT) (e z : Int) (N : Nat) (h1 : o.2.2.2.2.2.1.length ≤ N) (h2 : o.2.2.2.2.2.2.length ≤ N) : (TKf o e z).1.2.2.2.2.2.1.length ≤ N ∧ (TKf o e z).1.2.2.2.2.2.2.length ≤ N := by
  unfold TKf
  split
  · exact ⟨Nat.zero_le _, Nat.zero_le _⟩
  · split
    · exact ⟨h1, h2⟩
    · exact ⟨Nat.zero_le _, Nat.zero_le _⟩
theorem rd5_len (b : List UInt8) : (rd5 b).2.length ≤ b.length := by
  unfold rd5
  exact Nat.le_trans (nmR_len ..) (Nat.le_trans (nmR_len ..) (Nat.le_trans (nmR_len ..) (Nat.le_trans (nmR_len ..) (nmR_len 1 10 (0, b)))))
theorem TK_len (b : List UInt8) (z : Int) : (TK b z).1.2.2.2.2.2.1.length ≤ b.length ∧ (TK b z).1.2.2.2.2.2.2.length ≤ b.length := by
  have a1 : (byV 64 (rd5 b)).length ≤ b.length := Nat.le_trans (byV_len 64 (rd5 b)) (rd5_len b)
  have a2 : (byV (mx 64 z) (byR 64 (rd5 b))).length ≤ b.length := Nat.le_trans (byV_len (mx 64 z) (byR 64 (rd5 b))) (Nat.le_trans (byR_len 64 (rd5 b)) (rd5_len b))
  unfold TK
  generalize rdE (byR (mx 64 z) (byR 64 (rd5 b))) = e
  have e1 : (rdO b z).2.2.2.2.2.1 = byV 64 (rd5 b) := by simp only [rdO]
  have e2 : (rdO b z).2.2.2.2.2.2 = byV (mx 64 z) (byR 64 (rd5 b)) := by simp only [rdO]
  rw [← e1] at a1
  rw [← e2] at a2
  generalize rdO b z = o at *
  exact TKf_len o e z b.length a1 a2
instance dq2 : DecidableEq (List UInt8 × List UInt8) := fun a b => instDecidableEqProd a b
instance dq3 : DecidableEq (Int × List UInt8 × List UInt8) := fun a b => instDecidableEqProd a b
instance dq4 : DecidableEq (Int × Int × List UInt8 × List UInt8) := fun a b => instDecidableEqProd a b
instance dq5 : DecidableEq (Int × Int × Int × List UInt8 × List UInt8) := fun a b => instDecidableEqProd a b
instance dq6 : DecidableEq (Int × Int × Int × Int × List UInt8 × List UInt8) := fun a b => instDecidableEqProd a b
instance dq7 : DecidableEq OpT := fun a b => instDecidableEqProd a b
theorem pSame (Fu : Nat) (a b : OpT) : op_Same Fu a b = some (decide (a = b)) := by
  obtain ⟨k, t, s, n, m, c, d⟩ := a
  obtain ⟨k', t', s', n', m', c', d'⟩ := b
  unfold op_Same bytes_Equal
  by_cases h1 : k = k' <;> by_cases h2 : t = t' <;> by_cases h3 : s = s' <;> by_cases h4 : n = n' <;> by_cases h5 : m = m' <;> by_cases h6 : c = c' <;> simp [h1, h2, h3, h4, h5, h6]
theorem rSame29 (Fu : Nat) (a b : OpT) (h1 : a.2.2.2.2.2.1.length < Fu) (h2 : a.2.2.2.2.2.2.length < Fu) (h3 : a.2.2.2.2.2.1.length < 1000000) (h4 : a.2.2.2.2.2.2.length < 1000000) : chatelaineref29_Same Fu a b = some (decide (a = b)) := by
  unfold chatelaineref29_Same
  rw [same8 Fu _ _ h1 h3, same8 Fu _ _ h2 h4]
  obtain ⟨k, t, s, n, m, c, d⟩ := a
  obtain ⟨k', t', s', n', m', c', d'⟩ := b
  by_cases h1 : k = k' <;> by_cases h2 : t = t' <;> by_cases h3 : s = s' <;> by_cases h4 : n = n' <;> by_cases h5 : m = m' <;> by_cases h6 : c = c' <;> simp [h1, h2, h3, h4, h5, h6]
theorem TK_enc {o : OpT} {z : Int} (h : RightP o z) (hd : o.2.2.2.2.2.2.length ≤ 600) : TK (encO o) z = (o, 0) := by
  obtain ⟨a1, a2, a3, a4, a5⟩ := h.nums
  have hc := h.2.2.2.2.1
  have hdat := h.dat
  obtain ⟨b1, v1⟩ := nm_good (may1 a1) (be 1 o.2.1.toNat ++ (be 1 o.2.2.1.toNat ++ (be 4 o.2.2.2.1.toNat ++ (be 4 o.2.2.2.2.1.toNat ++ (be 2 o.2.2.2.2.2.1.length ++ o.2.2.2.2.2.1 ++ (be 2 o.2.2.2.2.2.2.length ++ o.2.2.2.2.2.2)))))) 10 h.2.1
  obtain ⟨b2, v2⟩ := nm_good (may1 a2) (be 1 o.2.2.1.toNat ++ (be 4 o.2.2.2.1.toNat ++ (be 4 o.2.2.2.2.1.toNat ++ (be 2 o.2.2.2.2.2.1.length ++ o.2.2.2.2.2.1 ++ (be 2 o.2.2.2.2.2.2.length ++ o.2.2.2.2.2.2))))) 16 h.2.2.2.1
  obtain ⟨b3, v3⟩ := nm_good (may1 (n := o.2.2.1) (by omega)) (be 4 o.2.2.2.1.toNat ++ (be 4 o.2.2.2.2.1.toNat ++ (be 2 o.2.2.2.2.2.1.length ++ o.2.2.2.2.2.1 ++ (be 2 o.2.2.2.2.2.2.length ++ o.2.2.2.2.2.2)))) 64 a3.2
  obtain ⟨b4, v4⟩ := nm_good (may4 a4) (be 4 o.2.2.2.2.1.toNat ++ (be 2 o.2.2.2.2.2.1.length ++ o.2.2.2.2.2.1 ++ (be 2 o.2.2.2.2.2.2.length ++ o.2.2.2.2.2.2))) 4096 a4.2
  obtain ⟨b5, v5⟩ := nm_good (may4 a5) (be 2 o.2.2.2.2.2.1.length ++ o.2.2.2.2.2.1 ++ (be 2 o.2.2.2.2.2.2.length ++ o.2.2.2.2.2.2)) 4096 a5.2
  obtain ⟨b6, v6⟩ := by_good o.2.2.2.2.2.1 (be 2 o.2.2.2.2.2.2.length ++ o.2.2.2.2.2.2) 64 (by omega) (by omega)
  obtain ⟨b7, v7⟩ := by_good o.2.2.2.2.2.2 [] (mx 64 z) (by omega) (by unfold mx; split <;> omega)
  rw [List.append_nil] at b7 v7
  rw [show (1 : Int).toNat = 1 from rfl] at b1 v1 b2 v2 b3 v3
  rw [show (4 : Int).toNat = 4 from rfl] at b4 v4 b5 v5
  unfold TK rdO rd5 encO
  rw [b1, v1, b2, v2, b3, v3, b4, v4, b5, v5, b6, v6, b7, v7]
  unfold TKf rdE
  simp [h]
/-! the laws -/
theorem awake29 (Fu : Nat) (hF : 20 ≤ Fu) : chatelainelaw29_awake Fu = some true := by
  unfold chatelainelaw29_awake
  rw [pPutO Fu hF _ _ (by decide), if_pos (by decide)]
  simp only [Option.bind_some]
  rw [show (encO (6, 1, 0, 0, 0, [], [])).length = 15 by simp [encO, be_length]]; rfl
theorem draws_eq (k : Int) (Fu : Nat) : op_Draws Fu k = some (((decide (2 ≤ k)) && (decide (k ≤ 5))) || (decide (k = 10))) := by
  unfold op_Draws
  by_cases h2 : k = 2
  · subst h2; rfl
  by_cases h3 : k = 3
  · subst h3; rfl
  by_cases h4 : k = 4
  · subst h4; rfl
  by_cases h5 : k = 5
  · subst h5; rfl
  by_cases h10 : k = 10
  · subst h10; rfl
  simp [h2, h3, h4, h5, h10]; omega
theorem chatelainelaw29_OpPuts_true (o : OpT) (_ : (tyP tyI (tyP tyI (tyP tyI (tyP tyI (tyP tyI (tyP (tyL ty8) (tyL ty8))))))).has o) (z : Int) (_ : r64 z) (q : Int) (_ : r64 q) : ∃ Fu, chatelainelaw29_OpPuts Fu o z q = some true := by
  refine ⟨100000, ?_⟩
  unfold chatelainelaw29_OpPuts
  rw [awake29 _ (by decide)]
  simp only [Option.bind_some, Bool.not_true, Bool.false_eq_true, if_false]
  by_cases hs : ((decide (300 < (o.2.2.2.2.2.1.length : Int))) || (decide (600 < (o.2.2.2.2.2.2.length : Int)))) = true
  · rw [if_pos hs]
  rw [if_neg hs]
  simp at hs
  rw [pPutO _ (by decide) o z (by omega), pRight, rRight]
  unfold op_Record op_Changes op_within
  rw [pSame, draws_eq]
  simp only [Option.bind_some, decide_true, Bool.not_true, Bool.false_eq_true, if_false, beq_self_eq_true]
  by_cases hR : RightP o z
  · rw [if_pos hR, rPutO _ (by decide) o z hR (by omega)]
    simp only [Option.bind_some]
    rw [same8 _ _ _ (by simp only [encO, List.length_append, be_length]; omega) (by simp only [encO, List.length_append, be_length]; omega)]
    simp [hR]
  · rw [if_neg hR]
    simp [hR]
theorem chatelainelaw29_OpTakes_true (b : List UInt8) (_ : ∀ x ∈ b, ty8.has x) (z : Int) (_ : r64 z) : ∃ Fu, chatelainelaw29_OpTakes Fu b z = some true := by
  refine ⟨100000, ?_⟩
  unfold chatelainelaw29_OpTakes
  rw [awake29 _ (by decide)]
  simp only [Option.bind_some, Bool.not_true, Bool.false_eq_true, if_false]
  by_cases hs : 600 < (b.length : Int)
  · rw [if_pos hs]
  rw [if_neg hs, pTakeO _ (by decide) b z (by omega), rTakeO _ (by decide)]
  have := TK_len b z
  generalize TK b z = q at this ⊢
  simp only [Option.bind_some]
  rw [rSame29 _ _ _ (by omega) (by omega) (by omega) (by omega)]
  simp
theorem enc_inj {a b : OpT} {z : Int} (ha : RightP a z) (hb : RightP b z) (h1 : a.2.2.2.2.2.2.length ≤ 600) (h2 : b.2.2.2.2.2.2.length ≤ 600) (h : encO a = encO b) : a = b := by
  have e1 := TK_enc ha h1
  have e2 := TK_enc hb h2
  rw [h, e2] at e1
  exact (Prod.mk.inj e1).1.symm
theorem chatelainelaw29_OpBack_true (a : OpT) (_ : (tyP tyI (tyP tyI (tyP tyI (tyP tyI (tyP tyI (tyP (tyL ty8) (tyL ty8))))))).has a) (b : OpT) (_ : (tyP tyI (tyP tyI (tyP tyI (tyP tyI (tyP tyI (tyP (tyL ty8) (tyL ty8))))))).has b) (z : Int) (_ : r64 z) : ∃ Fu, chatelainelaw29_OpBack Fu a b z = some true := by
  refine ⟨100000, ?_⟩
  unfold chatelainelaw29_OpBack
  rw [awake29 _ (by decide)]
  simp only [Option.bind_some, Bool.not_true, Bool.false_eq_true, if_false]
  by_cases hs : ((((decide (300 < (a.2.2.2.2.2.1.length : Int))) || (decide (600 < (a.2.2.2.2.2.2.length : Int)))) || (decide (300 < (b.2.2.2.2.2.1.length : Int)))) || (decide (600 < (b.2.2.2.2.2.2.length : Int)))) = true
  · rw [if_pos hs]
  rw [if_neg hs]
  simp at hs
  rw [pPutO _ (by decide) a z (by omega), pPutO _ (by decide) b z (by omega), pSame, rSame29 _ a b (by omega) (by omega) (by omega) (by omega)]
  simp only [Option.bind_some, beq_self_eq_true, Bool.not_true, Bool.false_eq_true, if_false]
  by_cases hA : RightP a z
  · by_cases hB : RightP b z
    · rw [if_pos hA, if_pos hB]
      dsimp only
      rw [if_neg (by simp), pTakeO _ (by decide) _ z (by simp only [encO, List.length_append, be_length]; have := hA.2.2.2.2.1; omega), TK_enc hA (by omega)]
      simp only [Option.bind_some]
      rw [pSame, same8 _ _ _ (by simp only [encO, List.length_append, be_length]; have := hA.2.2.2.2.1; omega) (by simp only [encO, List.length_append, be_length]; have := hA.2.2.2.2.1; omega)]
      by_cases e : a = b
      · subst e; simp
      · have : encO a ≠ encO b := fun h => e (enc_inj hA hB (by omega) (by omega) h)
        simp [e, this]
    · rw [if_pos hA, if_neg hB]; simp
  · rw [if_neg hA]; simp
end Go.Proofs.Ythaakmdafnjkpaa
