/- Forest's plain law: a space's sum, the order of spaces, the root. -/
import Derived.Test.YtlgcfnbhnpnkiaaFs
import Derived.Test.YtlgcfnbhnpnkiaaEsm
import Derived.Test.YtlgcfnbhnpnkiaaWqP
set_option linter.unusedVariables false
set_option linter.unusedSimpArgs false
namespace Go.Proofs.Ytlgcfnbhnpnkiaa
open Go.RowKit
abbrev Sp := Int × Int × Int × (List UInt8) × (List (Int × Int)) × (List (List UInt8)) × (List (List UInt8))
abbrev z0 : List UInt8 := List.replicate 32 ((0 : UInt8) : UInt8)
theorem bnd_eqF {α β : Type} {o : Option α} {x : α} (h : o = some x) (f : α → Option β) : o.bind f = f x := by rw [h]; rfl
theorem app_s {α : Type} {b : Nat} (hb : b ≤ 32) (l m : List α) (h : l.length + m.length ≤ 1000000) : app b l m = some (l ++ m) := by
  unfold app
  have := Nat.mul_le_mul h hb
  rw [if_pos ⟨by omega, by unfold maxLen; omega⟩]
theorem w_up (n : Nat) (h : n < 1000000) : w64 ((n : Int) + 1) = ((n + 1 : Nat) : Int) := by rw [w64_of (by omega)]; omega
theorem num_all : ∀ t : Fin 65, chatelaineref01_Put64 300 (u64I (t.val : Int)) = some (be 8 t.val) := by decide +kernel
theorem p64_mono (F G : Nat) (a : UInt64) (j : Nat) : ∀ (k : Nat) (x : List UInt8) (y : UInt64) (z : Int) (r : List UInt8), chatelaineref01_Put64_l0 F a k x y z = some r → chatelaineref01_Put64_l0 G a (k + j) x y z = some r := by
  intro k
  induction k with
  | zero => intro x y z r h; rw [chatelaineref01_Put64_l0] at h; cases h
  | succ k ih =>
    intro x y z r h
    rw [chatelaineref01_Put64_l0] at h
    rw [show k + 1 + j = (k + j) + 1 by omega, chatelaineref01_Put64_l0]
    by_cases hz : z < 8
    · rw [if_pos hz] at h ⊢
      obtain ⟨x1, h1, h⟩ := bsome h
      obtain ⟨x2, h2, h⟩ := bsome h
      obtain ⟨x3, h3, h⟩ := bsome h
      obtain ⟨x4, h4, h⟩ := bsome h
      refine (bnd_eqF h1 _).trans ?_
      refine (bnd_eqF h2 _).trans ?_
      refine (bnd_eqF h3 _).trans ?_
      refine (bnd_eqF h4 _).trans ?_
      exact ih _ _ _ _ h
    · rw [if_neg hz] at h ⊢; exact h
theorem numP {Fu : Nat} (hF : 300 ≤ Fu) {n : Int} (h1 : 0 ≤ n) (h2 : n ≤ 64) : kdf_Number Fu n = some (be 8 n.toNat) := by
  have hm : mayPut n 8 = true := (mayPut_iff _ _).2 ⟨by omega, by omega, h1, by omega, .inl rfl⟩
  unfold kdf_Number
  refine (bnd_eqF (pPut Fu (by omega) n 8) _).trans ?_
  rw [putE_good hm, putL_good hm]; rfl
theorem numR {Fu : Nat} (hF : 300 ≤ Fu) {n : Int} (h1 : 0 ≤ n) (h2 : n ≤ 64) : chatelaineref01_Put64 Fu (u64I n) = some (be 8 n.toNat) := by
  obtain ⟨t, rfl⟩ : ∃ t : Nat, n = (t : Int) := ⟨n.toNat, by omega⟩
  have h := num_all ⟨t, by omega⟩
  unfold chatelaineref01_Put64 at h ⊢
  obtain ⟨x, hx, h⟩ := bsome h
  refine (bnd_eqF (x := x) ?_ _).trans h
  have := p64_mono 300 Fu (u64I (t : Int)) (Fu - 300) 300 _ _ _ _ hx
  rwa [show 300 + (Fu - 300) = Fu by omega] at this
def sumsOf (s : Sp) : List (List UInt8) := s.2.2.2.2.2.2
def oneB (s : Sp) : Bool := decide (1 ≤ s.1) && decide (s.1 ≤ 64) && decide (0 ≤ s.2.1) && decide (s.2.1 ≤ 16) && decide (1 ≤ s.2.2.1) && decide (s.2.2.1 ≤ 4096) && decide ((s.2.2.2.2.2.2.length : Int) = s.2.2.1)
theorem oneB_iff {s : Sp} : oneB s = true ↔ 1 ≤ s.1 ∧ s.1 ≤ 64 ∧ 0 ≤ s.2.1 ∧ s.2.1 ≤ 16 ∧ 1 ≤ s.2.2.1 ∧ s.2.2.1 ≤ 4096 ∧ (s.2.2.2.2.2.2.length : Int) = s.2.2.1 := by
  unfold oneB; simp only [Bool.and_eq_true, decide_eq_true_eq, and_assoc]
theorem pOne (Fu : Nat) (s : Sp) : forest_one Fu s = some (oneB s) := by
  obtain ⟨a, b, c, d, e, f, g⟩ := s
  unfold forest_one forest_within oneB
  simp only [Option.bind_some]
  by_cases h1 : 1 ≤ a ∧ a ≤ 64
  · by_cases h2 : 0 ≤ b ∧ b ≤ 16
    · simp [h1, h2]
    · simp only [h1, and_self, decide_true, Bool.and_self, if_true, Option.bind_some]
      have h2' : (decide (0 ≤ b) && decide (b ≤ 16)) = false := by simpa using h2
      rw [h2']
      simp only [Bool.true_and, h2', Bool.false_and]
      rfl
  · have h1' : (decide (1 ≤ a) && decide (a ≤ 64)) = false := by simpa using h1
    rw [h1']
    simp
theorem pOneR (Fu : Nat) (s : Sp) : chatelaineref24_One Fu s = some (oneB s) := rfl
/-- a space whose sums are few -/
def few (s : Sp) : Prop := (sumsOf s).length ≤ 12 ∧ S32 (sumsOf s)
def headS (s : Sp) : List UInt8 := shaS ([2] ++ be 8 s.1.toNat ++ be 8 s.2.1.toNat ++ be 8 s.2.2.1.toNat ++ rootS (sumsOf s))
theorem headS_length (s : Sp) : (headS s).length = 32 := shaS_length _
theorem rList_l0 {Fu : Nat} (hF : 300 ≤ Fu) (r : List UInt8) (hr : r.length = 32) : ∀ (d k i : Nat), i + d = 32 → d < k → chatelaineref06_List_l0 Fu r k (r.take i) (i : Int) = some r := by
  intro d
  induction d with
  | zero =>
    intro k i hi hk
    obtain ⟨k, rfl⟩ : ∃ m, k = m + 1 := ⟨k - 1, by omega⟩
    rw [chatelaineref06_List_l0, if_neg (by omega), List.take_of_length_le (by omega)]
  | succ d ih =>
    intro k i hi hk
    obtain ⟨k, rfl⟩ : ∃ m, k = m + 1 := ⟨k - 1, by omega⟩
    have hl : i < r.length := by omega
    rw [chatelaineref06_List_l0, if_pos (by omega)]
    refine (bnd_eqF (ix_nat (show i < 32 by omega)) _).trans ?_
    refine (bnd_eqF (List.getElem?_eq_getElem hl) _).trans ?_
    refine (bnd_eqF (app_s (by omega) _ _ (by simp; omega)) _).trans ?_
    rw [w_up i (by omega), ← List.take_succ_eq_append_getElem hl]
    exact ih k (i + 1) (by omega) (by omega)
theorem rList {Fu : Nat} (hF : 300 ≤ Fu) (r : List UInt8) (hr : r.length = 32) : chatelaineref06_List Fu r = some r := by
  unfold chatelaineref06_List
  exact (bnd_eqF (rList_l0 hF r hr 32 Fu 0 (by omega) (by omega)) _).trans rfl
theorem pHead {Fu : Nat} (hF : 300 ≤ Fu) {a b c : Int} {r : List UInt8} (ha : 0 ≤ a ∧ a ≤ 64) (hb : 0 ≤ b ∧ b ≤ 64) (hc : 0 ≤ c ∧ c ≤ 64) (hr : r.length = 32) : forest_head Fu a b c r = some (shaS ([2] ++ be 8 a.toNat ++ be 8 b.toNat ++ be 8 c.toNat ++ r)) := by
  unfold forest_head
  refine (bnd_eqF (numP hF ha.1 ha.2) _).trans ?_
  refine (bnd_eqF (numP hF hb.1 hb.2) _).trans ?_
  refine (bnd_eqF (numP hF hc.1 hc.2) _).trans ?_
  refine (bnd_eqF (show bnd 32 0 (32 : Int) = some (0, 32) from rfl) _).trans ?_
  have hfl : [[(2 : UInt8)], be 8 a.toNat, be 8 b.toNat, be 8 c.toNat, ((r.take 32).drop 0)].flatten = [2] ++ be 8 a.toNat ++ be 8 b.toNat ++ be 8 c.toNat ++ r := by
    rw [List.drop_zero, List.take_of_length_le (by omega)]
    simp
  refine (bnd_eqF (x := shaS ([2] ++ be 8 a.toNat ++ be 8 b.toNat ++ be 8 c.toNat ++ r)) ?_ _).trans rfl
  unfold sha_Sum
  dsimp only
  rw [hfl, if_pos (by simp [be_length, hr])]
theorem pSum {Fu : Nat} (hF : 300 ≤ Fu) (s : Sp) (h : few s) : forest_Sum Fu s = some (if oneB s = true then (headS s, 0) else (z0, 2)) := by
  unfold forest_Sum
  refine (bnd_eqF (pOne Fu s) _).trans ?_
  by_cases ho : oneB s = true
  · rw [ho]
    obtain ⟨h1, h2, h3, h4, h5, h6, h7⟩ := oneB_iff.1 ho
    have h12 : s.2.2.2.2.2.2.length ≤ 12 := h.1
    have hk : okN s.2.2.2.2.2.2.length := ⟨by omega, by omega⟩
    rw [if_neg (by decide), if_pos rfl]
    refine (bnd_eqF (show merkle_Root Fu s.2.2.2.2.2.2 = some (rootS (sumsOf s), 0) by unfold merkle_Root rootV errV; rw [if_pos hk, if_pos hk]; rfl) _).trans ?_
    rw [if_neg (by simp)]
    exact (bnd_eqF (pHead hF ⟨by omega, by omega⟩ ⟨by omega, by omega⟩ ⟨by omega, by omega⟩ (rootS_length h.2)) _).trans rfl
  · rw [if_neg ho, Bool.not_eq_true] at *
    rw [ho]; rfl
theorem rSum {Fu : Nat} (hF : 300 ≤ Fu) (s : Sp) (h : few s) (ho : oneB s = true) : chatelaineref24_Sum Fu s = some (headS s) := by
  obtain ⟨h1, h2, h3, h4, h5, h6, h7⟩ := oneB_iff.1 ho
  have h12 : s.2.2.2.2.2.2.length ≤ 12 := h.1
  have hr : (rootS (sumsOf s)).length = 32 := rootS_length h.2
  unfold chatelaineref24_Sum
  refine (bnd_eqF (numR hF (by omega) (by omega)) _).trans ?_
  refine (bnd_eqF (app_s (by omega) _ _ (by simp [be_length])) _).trans ?_
  refine (bnd_eqF (numR hF (by omega) (by omega)) _).trans ?_
  refine (bnd_eqF (app_s (by omega) _ _ (by simp [be_length])) _).trans ?_
  refine (bnd_eqF (numR hF (by omega) (by omega)) _).trans ?_
  refine (bnd_eqF (app_s (by omega) _ _ (by simp [be_length])) _).trans ?_
  refine (bnd_eqF (show chatelaineref23_Root Fu s.2.2.2.2.2.2 = some (rootS (sumsOf s)) by unfold chatelaineref23_Root; rw [if_pos (by omega)]; rfl) _).trans ?_
  refine (bnd_eqF (rList hF _ hr) _).trans ?_
  refine (bnd_eqF (app_s (by omega) _ _ (by simp [be_length, hr])) _).trans ?_
  refine (bnd_eqF (x := headS s) ?_ _).trans rfl
  unfold chatelaineref05_Sum headS
  rw [if_pos (by simp [be_length, hr])]
/-! the order -/
theorem right_l0_eq (Fu : Nat) (a : List Sp) : ∀ (k : Nat) (x : Int), chatelaineref24_Right_l0 Fu a k x = forest_Right_l0 Fu a k x := by
  intro k
  induction k with
  | zero => intro x; rfl
  | succ k ih =>
    intro x
    rw [chatelaineref24_Right_l0, forest_Right_l0]
    by_cases hx : x < (a.length : Int)
    · rw [if_pos hx, if_pos hx]
      cases h : idx a x with
      | none => rfl
      | some s => simp only [h, Option.bind_some, pOne, pOneR, ih]
    · rw [if_neg hx, if_neg hx]
theorem right_eq (Fu : Nat) (a : List Sp) : chatelaineref24_Right Fu a = forest_Right Fu a := by
  unfold chatelaineref24_Right forest_Right
  rw [right_l0_eq]
  all_goals (refine congrArg _ (funext fun o => ?_); cases o <;> rfl)
theorem right_l0 {Fu : Nat} (hF : 300 ≤ Fu) (a : List Sp) (ha : a.length ≤ 1000) : ∀ (d k i : Nat), i + d = a.length → d < k →
    ∃ o, forest_Right_l0 Fu a k (i : Int) = some o ∧ (o = .inl false ∨ o = .inr () ∧ ∀ j s, i ≤ j → a[j]? = some s → oneB s = true) := by
  intro d
  induction d with
  | zero =>
    intro k i hi hk
    obtain ⟨k, rfl⟩ : ∃ m, k = m + 1 := ⟨k - 1, by omega⟩
    rw [forest_Right_l0, if_neg (by omega)]
    refine ⟨_, rfl, .inr ⟨rfl, fun j s hj hs => ?_⟩⟩
    have := (List.getElem?_eq_some_iff.1 hs).1
    omega
  | succ d ih =>
    intro k i hi hk
    obtain ⟨k, rfl⟩ : ∃ m, k = m + 1 := ⟨k - 1, by omega⟩
    have hl : i < a.length := by omega
    have hs : a[i]? = some a[i] := List.getElem?_eq_getElem hl
    rw [forest_Right_l0, if_pos (by omega), idx_nat, hs]
    simp only [Option.bind_some, pOne]
    by_cases ho : oneB a[i] = true
    · rw [ho]
      obtain ⟨o, h1, h2⟩ := ih k (i + 1) (by omega) (by omega)
      have go : ∃ o', forest_Right_l0 Fu a k (w64 ((i : Int) + 1)) = some o' ∧ (o' = .inl false ∨ o' = .inr () ∧ ∀ j s, i ≤ j → a[j]? = some s → oneB s = true) := by
        rw [w_up i (by omega)]
        refine ⟨o, h1, h2.imp id fun ⟨h3, h4⟩ => ⟨h3, fun j s hj hjs => ?_⟩⟩
        by_cases e : j = i
        · subst e; cases hs.symm.trans hjs; exact ho
        · exact h4 j s (by omega) hjs
      by_cases hi0 : 0 < i
      · rw [if_neg (by decide), if_pos (by omega), w64_of (by omega), show (i : Int) - 1 = ((i - 1 : Nat) : Int) by omega, idx_nat, List.getElem?_eq_getElem (show i - 1 < a.length by omega)]
        simp only [Option.bind_some]
        by_cases hc : a[i].1 ≤ (a[i - 1]'(by omega)).1
        · rw [if_pos (decide_eq_true hc)]; exact ⟨_, rfl, .inl rfl⟩
        · rw [if_neg (by simpa using hc)]; exact go
      · rw [if_neg (by decide), if_neg (by omega)]
        simp only [Option.bind_some]
        rw [if_neg (by decide)]
        exact go
    · rw [if_pos (by simpa using ho)]
      exact ⟨_, rfl, .inl rfl⟩
theorem pRight {Fu : Nat} (hF : 300 ≤ Fu) (a : List Sp) (ha : a.length ≤ 6) : ∃ b, forest_Right Fu a = some b ∧ (b = true → ∀ s ∈ a, oneB s = true) := by
  obtain ⟨o, h1, h2⟩ := right_l0 hF a (by omega) a.length Fu 0 (by omega) (by omega)
  unfold forest_Right
  rw [show (0 : Int) = ((0 : Nat) : Int) from rfl, h1]
  rcases h2 with rfl | ⟨rfl, h3⟩
  · exact ⟨false, rfl, fun h => by cases h⟩
  · refine ⟨_, rfl, fun _ s hs => ?_⟩
    obtain ⟨j, hj⟩ := List.mem_iff_getElem?.1 hs
    exact h3 j s (by omega) hj
theorem right_one {Fu : Nat} (hF : 300 ≤ Fu) (s : Sp) (h : oneB s = true) : forest_Right Fu [s] = some true := by
  have : forest_Right_l0 Fu [s] Fu 0 = some (.inr ()) := by
    obtain ⟨f, hf⟩ : ∃ f, Fu = f + 1 + 1 := ⟨Fu - 2, by omega⟩
    rw [show forest_Right_l0 Fu [s] Fu 0 = forest_Right_l0 Fu [s] (f + 1 + 1) 0 by rw [← hf], forest_Right_l0, if_pos (by simp)]
    refine (bnd_eqF (x := s) rfl _).trans ?_
    refine (bnd_eqF (pOne Fu s) _).trans ?_
    rw [h, forest_Right_l0]
    rfl
  unfold forest_Right
  exact (bnd_eqF this _).trans rfl
/-! the root -/
theorem pSums {Fu : Nat} (hF : 300 ≤ Fu) : ∀ (l : List Sp), (∀ s ∈ l, few s ∧ oneB s = true) → forest_sums Fu l = some (l.map headS)
  | [], _ => rfl
  | s :: l, h => by
    obtain ⟨h1, h2⟩ := h s (List.mem_cons_self ..)
    rw [forest_sums]
    refine (bnd_eqF (pSum hF s h1) _).trans ?_
    rw [if_pos h2]
    exact (bnd_eqF (pSums hF l fun x hx => h x (List.mem_cons_of_mem _ hx)) _).trans rfl
theorem pColl_r {Fu : Nat} (hF : 300 ≤ Fu) : ∀ (xs acc : List (List UInt8)), acc.length + xs.length ≤ 1000 → forest_collected_r0 Fu xs acc = some (acc ++ xs)
  | [], acc, _ => by rw [forest_collected_r0, List.append_nil]
  | x :: xs, acc, h => by
    rw [List.length_cons] at h
    rw [forest_collected_r0]
    refine (bnd_eqF (app_s (by omega) acc [x] (by simp; omega)) _).trans ?_
    rw [pColl_r hF xs (acc ++ [x]) (by simp; omega), List.append_assoc]; rfl
theorem pColl {Fu : Nat} (hF : 300 ≤ Fu) (l : List Sp) (hl : l.length ≤ 6) (h : ∀ s ∈ l, few s ∧ oneB s = true) : forest_collected Fu l = some (l.map headS) := by
  unfold forest_collected
  refine (bnd_eqF (pSums hF l h) _).trans ?_
  exact (bnd_eqF (pColl_r hF (l.map headS) [] (by simp; omega)) _).trans rfl
def rootF (l : List Sp) : List UInt8 := if l = [] then z0 else rootS (l.map headS)
theorem pRoot {Fu : Nat} (hF : 300 ≤ Fu) (l : List Sp) (hl : l.length ≤ 6) (hf : ∀ s ∈ l, few s) {b : Bool} (hb : forest_Right Fu l = some b) (h1 : b = true → ∀ s ∈ l, oneB s = true) : forest_Root Fu l = some (if b = true then (rootF l, 0) else (z0, 2)) := by
  unfold forest_Root
  refine (bnd_eqF hb _).trans ?_
  cases b with
  | false => rfl
  | true =>
    rw [if_neg (by decide), if_pos rfl]
    unfold rootF
    by_cases h0 : l = []
    · rw [if_pos h0, h0]; rfl
    · have hp : 0 < l.length := List.length_pos_iff.2 h0
      rw [if_neg (by omega), if_neg h0]
      refine (bnd_eqF (pColl hF l hl fun s hs => ⟨hf s hs, h1 rfl s hs⟩) _).trans ?_
      have hk : okN (l.map headS).length := by rw [List.length_map]; exact ⟨by omega, by omega⟩
      exact (bnd_eqF (show merkle_Root Fu (l.map headS) = some (rootS (l.map headS), 0) by unfold merkle_Root rootV errV; rw [if_pos hk, if_pos hk]) _).trans rfl
theorem rRoot_l0 {Fu : Nat} (hF : 300 ≤ Fu) (l : List Sp) (hl : l.length ≤ 6) (hf : ∀ s ∈ l, few s ∧ oneB s = true) : ∀ (d k i : Nat), i + d = l.length → d < k → chatelaineref24_Root_l0 Fu l k ((l.take i).map headS) (i : Int) = some (l.map headS) := by
  intro d
  induction d with
  | zero =>
    intro k i hi hk
    obtain ⟨k, rfl⟩ : ∃ m, k = m + 1 := ⟨k - 1, by omega⟩
    rw [chatelaineref24_Root_l0, if_neg (by omega), List.take_of_length_le (by omega)]
  | succ d ih =>
    intro k i hi hk
    obtain ⟨k, rfl⟩ : ∃ m, k = m + 1 := ⟨k - 1, by omega⟩
    have hlt : i < l.length := by omega
    obtain ⟨h1, h2⟩ := hf _ (List.getElem_mem hlt)
    rw [chatelaineref24_Root_l0, if_pos (by omega), idx_nat]
    refine (bnd_eqF (List.getElem?_eq_getElem hlt) _).trans ?_
    refine (bnd_eqF (rSum hF _ h1 h2) _).trans ?_
    refine (bnd_eqF (app_s (by omega) _ _ (by simp; omega)) _).trans ?_
    rw [w_up i (by omega)]
    have := ih k (i + 1) (by omega) (by omega)
    rw [List.take_succ_eq_append_getElem hlt, List.map_append] at this
    exact this
theorem rRoot {Fu : Nat} (hF : 300 ≤ Fu) (l : List Sp) (hl : l.length ≤ 6) (hf : ∀ s ∈ l, few s ∧ oneB s = true) : chatelaineref24_Root Fu l = some (rootF l) := by
  unfold chatelaineref24_Root rootF
  refine (bnd_eqF (rRoot_l0 hF l hl hf l.length Fu 0 (by omega) (by omega)) _).trans ?_
  by_cases h0 : l = []
  · rw [if_pos h0, h0]; rfl
  · have hp : 0 < l.length := List.length_pos_iff.2 h0
    rw [if_neg (by rw [List.length_map]; omega), if_neg h0]
    exact (bnd_eqF (show chatelaineref23_Root Fu (l.map headS) = some (rootS (l.map headS)) by unfold chatelaineref23_Root; rw [if_pos (by rw [List.length_map]; omega)]) _).trans rfl
theorem rootS_one (x : List UInt8) : rootS [x] = x := by
  unfold rootS wideL
  rfl
/-! the example -/
def absorbK : Nat → List UInt32 → List UInt8 → List UInt32
  | 0, s, _ => s
  | n + 1, s, l => absorbK n (pieceS s (l.take 64)) (l.drop 64)
theorem absorb_eqK (n : Nat) : ∀ (s : List UInt32) (l : List UInt8), l.length / 64 = n → (absorb s l).1 = absorbK n s l := by
  induction n with
  | zero => intro s l h; rw [absorb_lt s l (by omega)]; rfl
  | succ n ih => intro s l h; rw [absorb_ge s l (by omega), ih _ _ (by simp; omega)]; rfl
theorem shaS_evalK (m : List UInt8) : shaS m = wordsB (absorbK ((m ++ padL m.length).length / 64) beginL (m ++ padL m.length)) := by unfold shaS; rw [absorb_eqK _ _ _ rfl]
def sp1 : Sp := (1, 0, 1, [], [], [], [List.replicate 32 ((0 : UInt8) : UInt8)])
set_option maxRecDepth 1000000 in
theorem headS_sp1 : headS sp1 ≠ z0 := by
  unfold headS
  rw [show sumsOf sp1 = [z0] from rfl, rootS_one, shaS_evalK]
  decide +kernel
theorem few_sp1 : few sp1 := ⟨by decide, fun x hx => by rw [List.mem_singleton.1 (show x ∈ [z0] from hx)]; rfl⟩
theorem right_nil {Fu : Nat} (hF : 300 ≤ Fu) : forest_Right Fu [] = some true := by
  unfold forest_Right
  refine (bnd_eqF (x := .inr ()) ?_ _).trans rfl
  obtain ⟨f, hf⟩ : ∃ f, Fu = f + 1 := ⟨Fu - 1, by omega⟩
  rw [show forest_Right_l0 Fu [] Fu 0 = forest_Right_l0 Fu [] (f + 1) 0 by rw [← hf], forest_Right_l0, if_neg (by simp)]
theorem forest_awake {Fu : Nat} (hF : 300 ≤ Fu) : chatelainelaw24_awake Fu = some true := by
  unfold chatelainelaw24_awake
  refine (bnd_eqF (x := (z0, 0)) (pRoot hF [] (by decide) (fun s hs => by cases hs) (right_nil hF) (fun _ s hs => by cases hs)) _).trans ?_
  have ho : oneB sp1 = true := by decide
  have h := pRoot hF [sp1] (by decide) (fun s hs => by rw [List.mem_singleton.1 hs]; exact few_sp1) (right_one hF sp1 ho) (fun _ s hs => by rw [List.mem_singleton.1 hs]; exact ho)
  refine (bnd_eqF (x := (headS sp1, 0)) (h.trans ?_) _).trans ?_
  · rw [if_pos rfl]; unfold rootF; rw [if_neg (by simp)]; rw [List.map_cons, List.map_nil, rootS_one]
  · dsimp only
    rw [decide_eq_false headS_sp1]; rfl
theorem few_l0 {Fu : Nat} (l : List Sp) (hl : l.length ≤ maxLen) : ∀ (d k i : Nat), i + d = l.length → d < k → ∃ o, chatelainelaw24_Few_l0 Fu l k (i : Int) = some o ∧ (o = .inl false ∨ o = .inr () ∧ ∀ j s, i ≤ j → l[j]? = some s → (sumsOf s).length ≤ 12) := by
  intro d
  induction d with
  | zero =>
    intro k i hi hk
    obtain ⟨k, rfl⟩ : ∃ m, k = m + 1 := ⟨k - 1, by omega⟩
    rw [chatelainelaw24_Few_l0, if_neg (by omega)]
    refine ⟨_, rfl, .inr ⟨rfl, fun j s hj hs => ?_⟩⟩
    have := (List.getElem?_eq_some_iff.1 hs).1
    omega
  | succ d ih =>
    intro k i hi hk
    obtain ⟨k, rfl⟩ : ∃ m, k = m + 1 := ⟨k - 1, by omega⟩
    have hlt : i < l.length := by omega
    have hs : l[i]? = some l[i] := List.getElem?_eq_getElem hlt
    rw [chatelainelaw24_Few_l0, if_pos (by omega), idx_nat, hs]
    simp only [Option.bind_some]
    by_cases hc : (12 : Int) < (l[i].2.2.2.2.2.2.length : Int)
    · rw [if_pos hc]; exact ⟨_, rfl, .inl rfl⟩
    · rw [if_neg hc, show w64 ((i : Int) + 1) = ((i + 1 : Nat) : Int) from by rw [w64_of (by unfold maxLen at hl; omega)]; omega]
      obtain ⟨o, h1, h2⟩ := ih k (i + 1) (by omega) (by omega)
      refine ⟨o, h1, h2.imp id fun ⟨h3, h4⟩ => ⟨h3, fun j s hj hjs => ?_⟩⟩
      by_cases e : j = i
      · subst e; cases hs.symm.trans hjs; unfold sumsOf; omega
      · exact h4 j s (by omega) hjs
theorem pFew {Fu : Nat} (l : List Sp) (hl : l.length ≤ maxLen) (hF : l.length < Fu) : ∃ b, chatelainelaw24_Few Fu l = some b ∧ (b = true → l.length ≤ 6 ∧ ∀ s ∈ l, (sumsOf s).length ≤ 12) := by
  obtain ⟨o, h1, h2⟩ := few_l0 (Fu := Fu) l hl l.length Fu 0 (by omega) hF
  unfold chatelainelaw24_Few
  rw [show (0 : Int) = ((0 : Nat) : Int) from rfl, h1]
  rcases h2 with rfl | ⟨rfl, h3⟩
  · exact ⟨false, rfl, fun h => by cases h⟩
  · refine ⟨_, rfl, fun h => ⟨by have := of_decide_eq_true h; omega, fun s hs => ?_⟩⟩
    obtain ⟨j, hj⟩ := List.mem_iff_getElem?.1 hs
    exact h3 j s (by omega) hj
end Go.Proofs.Ytlgcfnbhnpnkiaa
