/- The statement CodeBack, told over lists. -/
import Derived.Test.YtcjleeclpmgbjaaDoorE46U
import Derived.Test.YtcjleeclpmgbjaaDoorCy
import Derived.Test.YtcjleeclpmgbjaaDoorE46T
set_option linter.unusedVariables false
set_option linter.unusedSimpArgs false
namespace Go.Proofs.YtcjleeclpmgbjaaDoor
open Go.RowKit
theorem gd_len5 : ∀ (t : List UInt8) (i : Nat), (gd i t).length + (i + 4) / 5 ≤ t.length + (i + t.length + 4) / 5
  | [], i => by simp [gd]
  | c :: t, i => by
    have := gd_len5 t (i + 1)
    rw [gd]
    split <;> simp <;> omega
theorem gd_mem : ∀ (t : List UInt8) (i : Nat) (c : UInt8), c ∈ gd i t → c = 45 ∨ c ∈ t
  | [], i, c, h => by simp [gd] at h
  | x :: t, i, c, h => by
    rw [gd] at h
    rcases List.mem_append.1 h with h | h
    · split at h
      · simp at h; exact .inl h
      · cases h
    · rcases List.mem_cons.1 h with rfl | h
      · exact .inr (by simp)
      · rcases gd_mem t (i + 1) c h with h | h
        · exact .inl h
        · exact .inr (by simp [h])
theorem cd_len {a : List UInt8} (h : a.length ≤ 64) : (cd a).length ≤ 200 := by
  have h1 := sp_len2 (a ++ [chk a])
  have h2 := gd_len5 (sp 0 0 (a ++ [chk a])) 0
  simp at h1
  unfold cd
  omega
theorem cd_mem {a : List UInt8} {c : UInt8} (h : c ∈ cd a) : c = 45 ∨ ∃ k, k < 32 ∧ c = al k := by
  rcases gd_mem _ _ _ h with h | h
  · exact .inl h
  · exact .inr (sp_no45 _ c h)
theorem cd_noD (a : List UInt8) : noD (cd a) = sp 0 0 (a ++ [chk a]) := gd_noD _ _ fun c hc => by
  obtain ⟨k, hk, rfl⟩ := sp_no45 _ c hc
  exact al_no45 hk
theorem tk_cd {a : List UInt8} (h1 : 1 ≤ a.length) (h2 : a.length ≤ 64) : tk (cd a) = (a, 0) := by
  unfold tk
  have hl := cd_len h2
  rw [if_neg (by omega), cd_noD, byO_sp]
  dsimp only
  have e1 : (a ++ [chk a]).length - 1 = a.length := by simp
  have e2 : (a ++ [chk a]).take a.length = a := by simp
  have e3 : (a ++ [chk a]).getD a.length 0 = chk a := by simp [List.getD]
  rw [e1, e2, e3, if_neg (by simp [cd]; omega), if_neg (by simp)]
theorem tk_ok {s x : List UInt8} (h : tk s = (x, 0)) : s = cd x ∧ 1 ≤ x.length ∧ x.length ≤ 64 := by
  unfold tk at h
  split at h
  · cases h
  · split at h
    · cases h
    · rename_i y hb
      split at h
      · cases h
      · rename_i hc
        split at h
        · cases h
        · rename_i hk
          obtain ⟨rfl, _⟩ := Prod.mk.inj h
          simp only [not_or, Decidable.not_not] at hc
          obtain ⟨c1, c2, c3⟩ := hc
          simp only [ne_eq, Decidable.not_not] at hk
          refine ⟨?_, by simp; omega, by simp; omega⟩
          have e : y.take (y.length - 1) ++ [chk (y.take (y.length - 1))] = y := by
            rw [hk]
            have hlt : y.length - 1 < y.length := by omega
            rw [List.getD, List.getElem?_eq_getElem hlt, Option.getD_some, List.take_append_getElem hlt, List.take_of_length_le (by omega)]
          unfold cd
          rw [e, byO_some hb, c3]
/-- a sign as it should be -/
def td (b : UInt8) : Option UInt8 := (code_tidy 0 (b.toNat : Int)).bind fun v => if 0 ≤ v then some (u8I v) else none
theorem td_some : ∀ b : Fin 256, (code_tidy 0 (b.val : Int)).isSome = true := by decide +kernel
theorem tidy_at (Fu : Nat) (b : UInt8) : ∃ v, code_tidy Fu (b.toNat : Int) = some v ∧ td b = if 0 ≤ v then some (u8I v) else none := by
  have h := td_some ⟨b.toNat, b.toNat_lt⟩
  obtain ⟨v, hv⟩ := Option.isSome_iff_exists.1 h
  exact ⟨v, hv, by unfold td; rw [hv]; rfl⟩
theorem tidy0 (Fu : Nat) (a : List UInt8) (ha : a.length ≤ 1000) : ∀ (d i k : Nat) (acc : List UInt8), i + d = a.length → d < k → acc.length ≤ i →
    code_Tidy_l0 Fu a k acc (i : Int) = some (acc ++ (a.drop i).filterMap td) := by
  intro d
  induction d with
  | zero =>
    intro i k acc hi hk hl
    obtain ⟨k, rfl⟩ : ∃ m, k = m + 1 := ⟨k - 1, by omega⟩
    rw [code_Tidy_l0, if_neg (by omega), List.drop_of_length_le (by omega)]; simp
  | succ d ih =>
    intro i k acc hi hk hl
    obtain ⟨k, rfl⟩ : ∃ m, k = m + 1 := ⟨k - 1, by omega⟩
    have hlt : i < a.length := by omega
    rw [code_Tidy_l0, if_pos (by omega), idx_nat, List.getElem?_eq_getElem hlt, w_id (by omega), show ((i : Int) + 1) = ((i + 1 : Nat) : Int) by omega, List.drop_eq_getElem_cons hlt, List.filterMap_cons]
    simp only [Option.bind_some]
    obtain ⟨v, hv, ht⟩ := tidy_at Fu a[i]
    rw [hv, ht]
    simp only [Option.bind_some]
    by_cases h0 : 0 ≤ v
    · rw [if_pos h0, if_pos h0, app1 _ _ (by simp; omega)]
      simp only [Option.bind_some]
      rw [ih (i + 1) k _ (by omega) (by omega) (by simp; omega), List.append_assoc]; rfl
    · rw [if_neg h0, if_neg h0]
      simp only [Option.bind_some]
      rw [ih (i + 1) k _ (by omega) (by omega) (by omega)]
theorem tidyL (Fu : Nat) (hF : 2000 ≤ Fu) (a : List UInt8) (ha : a.length ≤ 1000) : code_Tidy Fu a = some (a.filterMap td) := by
  unfold code_Tidy
  have := tidy0 Fu a ha a.length 0 Fu [] (by omega) (by omega) (by simp)
  rw [show ((0 : Nat) : Int) = 0 from rfl] at this
  rw [this]; simp
/-- as people write it -/
def lc (x : UInt8) : UInt8 := if (((((decide (97 ≤ (x.toNat : Int))) && (decide ((x.toNat : Int) ≤ 122))) && (decide ((x.toNat : Int) ≠ 111))) && (decide ((x.toNat : Int) ≠ 108))) && (decide ((x.toNat : Int) ≠ 98))) = true then (x - 97) + 65 else if (x.toNat : Int) = 111 then 48 else if (x.toNat : Int) = 108 then 49 else if (x.toNat : Int) = 98 then 56 else x
theorem lc_td : ∀ k : Fin 32, td (lc (al k.val)) = some (al k.val) ∧ td (al k.val) = some (al k.val) := by decide +kernel
theorem lc_45 : td (lc 45) = some 45 ∧ td 45 = some 45 := by decide +kernel
theorem td_32 : td 32 = none := by decide +kernel
theorem cd_td {a : List UInt8} {c : UInt8} (h : c ∈ cd a) : td (lc c) = some c ∧ td c = some c := by
  rcases cd_mem h with rfl | ⟨k, hk, rfl⟩
  · exact lc_45
  · exact lc_td ⟨k, hk⟩
theorem loud0 (Fu : Nat) (p : List UInt8) (e : Int) (hp : p.length ≤ 300) : ∀ (d i k : Nat) (acc : List UInt8), i + d = p.length → d < k → acc.length ≤ 2 * i + 1 →
    chatelainelaw46_CodeBack_l0 Fu (p, e) k acc (i : Int) = some (acc ++ (p.drop i).flatMap (fun c => [lc c, 32])) := by
  intro d
  induction d with
  | zero =>
    intro i k acc hi hk hl
    obtain ⟨k, rfl⟩ : ∃ m, k = m + 1 := ⟨k - 1, by omega⟩
    rw [chatelainelaw46_CodeBack_l0, if_neg (by show ¬ ((i : Int) < (p.length : Int)); omega), List.drop_of_length_le (by omega)]; simp
  | succ d ih =>
    intro i k acc hi hk hl
    obtain ⟨k, rfl⟩ : ∃ m, k = m + 1 := ⟨k - 1, by omega⟩
    have hlt : i < p.length := by omega
    rw [chatelainelaw46_CodeBack_l0, if_pos (by show (i : Int) < (p.length : Int); omega)]
    show ((idx p (i : Int)).bind _) = _
    rw [idx_nat, List.getElem?_eq_getElem hlt, w_id (by omega), show ((i : Int) + 1) = ((i + 1 : Nat) : Int) by omega, List.drop_eq_getElem_cons hlt, List.flatMap_cons]
    simp only [Option.bind_some]
    generalize p[i] = x
    have e1 : (if (((((decide (97 ≤ (x.toNat : Int))) && (decide ((x.toNat : Int) ≤ 122))) && (decide ((x.toNat : Int) ≠ 111))) && (decide ((x.toNat : Int) ≠ 108))) && (decide ((x.toNat : Int) ≠ 98))) = true then (some ((x - (97 : UInt8)) + (65 : UInt8))) else (if (x.toNat : Int) = 111 then (some (48 : UInt8)) else (if (x.toNat : Int) = 108 then (some (49 : UInt8)) else (if (x.toNat : Int) = 98 then (some (56 : UInt8)) else (some x))))) = some (lc x) := by
      unfold lc
      repeat' split
      all_goals rfl
    rw [e1]
    simp only [Option.bind_some]
    rw [sapp_ok _ _ (by simp)]
    simp only [Option.bind_some]
    rw [sapp_ok _ _ (by simp; omega)]
    simp only [Option.bind_some]
    rw [ih (i + 1) k _ (by omega) (by omega) (by simp; omega), List.append_assoc]; rfl
theorem loud_td : ∀ p : List UInt8, (∀ c ∈ p, td (lc c) = some c) → (p.flatMap (fun c => [lc c, 32])).filterMap td = p
  | [], _ => rfl
  | c :: p, h => by
    rw [List.flatMap_cons, List.filterMap_append, loud_td p (fun x hx => h x (by simp [hx])), List.filterMap_cons, h c (by simp)]
    simp [td_32]
theorem plain_td : ∀ p : List UInt8, (∀ c ∈ p, td c = some c) → p.filterMap td = p
  | [], _ => rfl
  | c :: p, h => by rw [List.filterMap_cons, h c (by simp), plain_td p (fun x hx => h x (by simp [hx]))]
theorem loud_len : ∀ p : List UInt8, (p.flatMap (fun c => [lc c, 32])).length = 2 * p.length
  | [] => rfl
  | c :: p => by rw [List.flatMap_cons, List.length_append, loud_len p]; simp; omega
theorem back_ok (Fu : Nat) (hA : chatelainelaw46_awake Fu = some true) (hF : 2000 ≤ Fu) (a b s : List UInt8) : chatelainelaw46_CodeBack Fu a b s = some true := by
  unfold chatelainelaw46_CodeBack
  rw [hA]
  simp only [Option.bind_some, Bool.not_true, Bool.false_eq_true, if_false]
  by_cases hs : (((decide (64 < (a.length : Int))) || (decide (64 < (b.length : Int)))) || (decide (300 < (s.length : Int)))) = true
  · rw [if_pos hs]
  rw [if_neg hs]
  simp at hs
  have hfirst : ((code_Take Fu s).bind fun x13 => if x13.2 = 0 then ((code_Put Fu x13.1).bind fun x23 => if ((decide (x23.2 ≠ 0)) || (!(decide (x23.1 = s)))) = true then (some (.inl false)) else (some (.inr ()))) else (some (.inr ())) : Option (Sum Bool Unit)) = some (.inr ()) := by
    rw [cTake Fu hF s (by omega)]
    simp only [Option.bind_some]
    by_cases h0 : (tk s).2 = 0
    · rw [if_pos h0]
      have h := tk_ok (s := s) (x := (tk s).1) (Prod.ext rfl h0)
      rw [cPut Fu hF _ h.2.1 h.2.2]
      simp only [Option.bind_some]
      rw [if_neg (by simp; exact h.1.symm)]
    · rw [if_neg h0]
  rw [hfirst]
  simp only [Option.bind_some]
  by_cases he : ((decide ((a.length : Int) = 0)) || (decide ((b.length : Int) = 0))) = true
  · rw [if_pos he]
  rw [if_neg he]
  simp only [Bool.or_eq_true, decide_eq_true_eq, not_or] at he
  have ha1 : 1 ≤ a.length := by omega
  have hb1 : 1 ≤ b.length := by omega
  rw [cPut Fu hF a ha1 (by omega)]
  simp only [Option.bind_some]
  rw [cPut Fu hF b hb1 (by omega)]
  simp only [Option.bind_some]
  have hca := cd_len (a := a) (by omega)
  rw [cTake Fu hF _ (by omega), tk_cd ha1 (by omega)]
  simp only [Option.bind_some]
  rw [if_neg (by simp), same8 Fu a a (by omega) (by omega)]
  simp only [Option.bind_some, decide_true, Bool.not_true, Bool.false_eq_true, if_false]
  have hz : (if (a.length : Int) = (b.length : Int) then (chatelaineref01_Same Fu a b).bind fun x68 => some (!((decide (cd a = cd b)) == x68)) else some false) = some false := by
    by_cases hl : (a.length : Int) = (b.length : Int)
    · rw [if_pos hl, same8 Fu a b (by omega) (by omega)]
      simp only [Option.bind_some]
      by_cases hab : a = b
      · subst hab; simp
      · have : cd a ≠ cd b := fun e => hab (by
          have h1 := tk_cd ha1 (show a.length ≤ 64 by omega)
          have h2 := tk_cd hb1 (show b.length ≤ 64 by omega)
          rw [e, h2] at h1
          exact (Prod.mk.inj h1).1.symm)
        simp [hab, this]
    · rw [if_neg hl]
  rw [hz]
  simp only [Option.bind_some, Bool.false_eq_true, if_false]
  have hloud := loud0 Fu (cd a) 0 (by omega) (cd a).length 0 Fu [32] (by omega) (by omega) (by simp)
  rw [show ((0 : Nat) : Int) = 0 from rfl, List.drop_zero] at hloud
  rw [hloud]
  simp only [Option.bind_some]
  have hll := loud_len (cd a)
  rw [tidyL Fu hF _ (by rw [List.length_append, hll]; simp; omega)]
  simp only [Option.bind_some]
  have hlt : (([32] : List UInt8) ++ (cd a).flatMap (fun c => [lc c, 32])).filterMap td = cd a := by
    rw [List.singleton_append, List.filterMap_cons, td_32]
    exact loud_td _ (fun c hc => (cd_td hc).1)
  rw [hlt, if_pos rfl, tidyL Fu hF _ (by omega), plain_td _ (fun c hc => (cd_td hc).2)]
  simp
theorem chatelainelaw46_CodeBack_true (a0 : List UInt8) (h0 : ∀ x ∈ a0, ty8.has x) (a1 : List UInt8) (h1 : ∀ x ∈ a1, ty8.has x) (a2 : List UInt8) (h2 : a2.length ≤ maxLen) : ∃ Fu, chatelainelaw46_CodeBack Fu a0 a1 a2 = some true :=
  ⟨2000, back_ok 2000 awake46 (by omega) a0 a1 a2⟩
end Go.Proofs.YtcjleeclpmgbjaaDoor
