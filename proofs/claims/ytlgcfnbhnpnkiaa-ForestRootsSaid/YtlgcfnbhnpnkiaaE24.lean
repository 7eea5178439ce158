/- ForestRoots, ForestOrder: the plain laws. -/
import Derived.Test.YtlgcfnbhnpnkiaaE24A
import Derived.Test.YtlgcfnbhnpnkiaaFt
import Derived.Test.YtlgcfnbhnpnkiaaFu
set_option linter.unusedVariables false
set_option linter.unusedSimpArgs false
namespace Go.Proofs.Ytlgcfnbhnpnkiaa
open Go.RowKit
abbrev tSp := (tyP tyI (tyP tyI (tyP tyI (tyP (tyL ty8) (tyP (tyL (tyP tyI tyI)) (tyP (tyL (tyL ty8)) (tyL (tyA 32 ty8))))))))
theorem has_s32 {s : Sp} (h : tSp.has s) : S32 (sumsOf s) := fun x hx =>
  (has_A ((has_L (has_P (has_P (has_P (has_P (has_P (has_P h).2).2).2).2).2).2).2 x hx)).1
theorem roots_l0 {Fu : Nat} (hF : 300 ≤ Fu) (l : List Sp) (hl : l.length ≤ 6) (hf : ∀ s ∈ l, few s) : ∀ (d k i : Nat), i + d = l.length → d < k → chatelainelaw24_ForestRoots_l0 Fu l k (i : Int) = some (.inr ()) := by
  intro d
  induction d with
  | zero =>
    intro k i hi hk
    obtain ⟨k, rfl⟩ : ∃ m, k = m + 1 := ⟨k - 1, by omega⟩
    rw [chatelainelaw24_ForestRoots_l0, if_neg (by omega)]
  | succ d ih =>
    intro k i hi hk
    obtain ⟨k, rfl⟩ : ∃ m, k = m + 1 := ⟨k - 1, by omega⟩
    have hlt : i < l.length := by omega
    have h1 := hf _ (List.getElem_mem hlt)
    rw [chatelainelaw24_ForestRoots_l0, if_pos (by omega), idx_nat]
    refine (bnd_eqF (x := .inr ()) ?_ _).trans ?_
    · refine (bnd_eqF (List.getElem?_eq_getElem hlt) _).trans ?_
      refine (bnd_eqF (pSum hF _ h1) _).trans ?_
      refine (bnd_eqF (pOneR Fu _) _).trans ?_
      by_cases ho : oneB l[i] = true
      · rw [if_pos ho, if_pos ho]
        refine (bnd_eqF (x := false) ?_ _).trans rfl
        rw [if_neg (by simp)]
        refine (bnd_eqF (rSum hF _ h1 ho) _).trans ?_
        simp
      · rw [if_neg ho, if_neg ho]
        rfl
    · dsimp only
      rw [w_up i (by omega)]
      exact ih k (i + 1) (by omega) (by omega)
theorem chatelainelaw24_ForestRoots_true (a : List Sp) (h : ∀ x ∈ a, tSp.has x) (hl : a.length ≤ maxLen) : ∃ Fu, chatelainelaw24_ForestRoots Fu a = some true := by
  obtain ⟨Fu, hFu⟩ : ∃ F, F = a.length + 300 := ⟨_, rfl⟩
  have hF : 300 ≤ Fu := by omega
  refine ⟨Fu, ?_⟩
  unfold chatelainelaw24_ForestRoots
  refine (bnd_eqF (forest_awake hF) _).trans ?_
  rw [if_neg (by decide)]
  obtain ⟨b, hb, hb1⟩ := pFew (Fu := Fu) a hl (by omega)
  refine (bnd_eqF hb _).trans ?_
  cases b with
  | false => rfl
  | true =>
    rw [if_neg (by decide)]
    obtain ⟨h6, h12⟩ := hb1 rfl
    have hf : ∀ s ∈ a, few s := fun s hs => ⟨h12 s hs, has_s32 (h s hs)⟩
    refine (bnd_eqF (x := .inr ()) ?_ _).trans ?_
    · exact roots_l0 hF a h6 hf a.length Fu 0 (by omega) (by omega)
    · dsimp only
      obtain ⟨b, hr, hr1⟩ := pRight hF a h6
      refine (bnd_eqF (pRoot hF a h6 hf hr hr1) _).trans ?_
      refine (bnd_eqF hr _).trans ?_
      refine (bnd_eqF ((right_eq Fu a).trans hr) _).trans ?_
      rw [if_neg (by simp)]
      refine (bnd_eqF ((right_eq Fu a).trans hr) _).trans ?_
      cases b with
      | false => rfl
      | true =>
        rw [if_neg (by decide), if_pos rfl]
        refine (bnd_eqF (x := true) ?_ _).trans rfl
        rw [if_pos rfl]
        refine (bnd_eqF (rRoot hF a h6 fun s hs => ⟨hf s hs, hr1 rfl s hs⟩) _).trans ?_
        simp
theorem order_l0 {Fu : Nat} (hF : 300 ≤ Fu) (s : Sp) (hs : few s) : ∀ (d k i : Nat), i + d = (sumsOf s).length → d < k → chatelainelaw24_ForestOrder_l0 Fu (sumsOf s) s k (i : Int) = some (.inr ()) := by
  have h12 := hs.1
  intro d
  induction d with
  | zero =>
    intro k i hi hk
    obtain ⟨k, rfl⟩ : ∃ m, k = m + 1 := ⟨k - 1, by omega⟩
    rw [chatelainelaw24_ForestOrder_l0, if_neg (by unfold sumsOf at hi; omega)]
  | succ d ih =>
    intro k i hi hk
    obtain ⟨k, rfl⟩ : ∃ m, k = m + 1 := ⟨k - 1, by omega⟩
    have hlt : i < (sumsOf s).length := by omega
    have h32 := hs.2 _ (List.getElem_mem hlt)
    rw [chatelainelaw24_ForestOrder_l0, if_pos (by unfold sumsOf at hi; omega), show s.2.2.2.2.2.2 = sumsOf s from rfl, idx_nat]
    refine (bnd_eqF (List.getElem?_eq_getElem hlt) _).trans ?_
    refine (bnd_eqF (show bnd 32 0 (32 : Int) = some (0, 32) from rfl) _).trans ?_
    refine (bnd_eqF (List.getElem?_eq_getElem hlt) _).trans ?_
    dsimp only
    rw [List.drop_zero, List.take_of_length_le (by omega)]
    refine (bnd_eqF (same8 Fu _ _ (by omega) (by omega)) _).trans ?_
    rw [if_neg (by simp), w_up i (by omega)]
    exact ih k (i + 1) (by omega) (by omega)
theorem chatelainelaw24_ForestOrder_true (a : List Sp) (h : ∀ x ∈ a, tSp.has x) (hl : a.length ≤ maxLen) (n : UInt8) : ∃ Fu, chatelainelaw24_ForestOrder Fu a n = some true := by
  obtain ⟨Fu, hFu⟩ : ∃ F, F = a.length + 300 := ⟨_, rfl⟩
  have hF : 300 ≤ Fu := by omega
  refine ⟨Fu, ?_⟩
  unfold chatelainelaw24_ForestOrder
  refine (bnd_eqF (forest_awake hF) _).trans ?_
  rw [if_neg (by decide)]
  obtain ⟨b, hb, hb1⟩ := pFew (Fu := Fu) a hl (by omega)
  refine (bnd_eqF hb _).trans ?_
  cases b with
  | false => rfl
  | true =>
    obtain ⟨h6, h12⟩ := hb1 rfl
    have hf : ∀ s ∈ a, few s := fun s hs => ⟨h12 s hs, has_s32 (h s hs)⟩
    obtain ⟨b, hr, hr1⟩ := pRight hF a h6
    refine (bnd_eqF (x := !b) ?_ _).trans ?_
    · rw [if_neg (by decide)]
      exact (bnd_eqF ((right_eq Fu a).trans hr) _).trans rfl
    · by_cases hc : b = true ∧ a ≠ []
      · obtain ⟨rfl, hne⟩ := hc
        have hp : 0 < a.length := List.length_pos_iff.2 hne
        rw [if_neg (by simp; exact hne)]
        obtain ⟨i, hi⟩ : ∃ i, i = n.toNat % a.length := ⟨_, rfl⟩
        have hlt : i < a.length := by rw [hi]; exact Nat.mod_lt _ hp
        refine (bnd_eqF (x := (i : Int)) ?_ _).trans ?_
        · unfold remI
          rw [if_neg (by omega), hi]
          rfl
        have hx : idx a (i : Int) = some a[i] := by rw [idx_nat]; exact List.getElem?_eq_getElem hlt
        obtain ⟨s, hs⟩ : ∃ s, s = a[i] := ⟨_, rfl⟩
        rw [← hs] at hx
        have hsm : s ∈ a := by rw [hs]; exact List.getElem_mem hlt
        have hfs := hf s hsm
        have h12s := hfs.1
        have ho := hr1 rfl s hsm
        refine (bnd_eqF hx _).trans ?_
        refine (bnd_eqF (x := sumsOf s) (by exact (app_s (by omega) _ _ (by unfold sumsOf at h12s; simp; omega)).trans rfl) _).trans ?_
        refine (bnd_eqF hx _).trans ?_
        refine (bnd_eqF (pSum hF s hfs) _).trans ?_
        refine (bnd_eqF (pRoot hF a h6 hf hr hr1) _).trans ?_
        refine (bnd_eqF (x := [s]) ?_ _).trans ?_
        · rw [w_up i (by omega)]
          unfold sub
          rw [if_pos (by omega)]
          simp only [Int.toNat_natCast]
          rw [List.take_succ_eq_append_getElem hlt, List.drop_append_of_le_length (by simp; omega), List.drop_of_length_le (by simp; omega), ← hs]; rfl
        refine (bnd_eqF (pRoot hF [s] (by simp) (fun x hx => by rw [List.mem_singleton.1 hx]; exact hfs) (right_one hF s ho) (fun _ x hx => by rw [List.mem_singleton.1 hx]; exact ho)) _).trans ?_
        have e1 : rootF [s] = headS s := by unfold rootF; rw [if_neg (by simp), List.map_cons, List.map_nil, rootS_one]
        rw [if_pos ho, if_pos rfl, if_pos rfl, e1]
        have e2 : a.length = 1 → rootF a = headS s := by
          intro h1
          obtain ⟨y, rfl⟩ := List.length_eq_one_iff.1 h1
          rw [List.mem_singleton.1 hsm]
          unfold rootF; rw [if_neg (by simp), List.map_cons, List.map_nil, rootS_one]
        rw [if_neg (by
          simp only [ne_eq, not_true_eq_false, decide_false, Bool.or_self, decide_true, Bool.not_true, Bool.false_or, Bool.and_eq_true, decide_eq_true_eq, Bool.not_eq_true', decide_eq_false_iff_not, not_and, Decidable.not_not]
          intro h1
          exact e2 (by omega))]
        refine (bnd_eqF hx _).trans ?_
        exact (bnd_eqF (order_l0 hF s hfs (sumsOf s).length Fu 0 (by omega) (by omega)) _).trans rfl
      · rw [if_pos (by
          cases b with
          | false => rfl
          | true =>
            have : a = [] := Decidable.not_not.1 fun e => hc ⟨rfl, e⟩
            rw [this]; rfl)]
end Go.Proofs.Ytlgcfnbhnpnkiaa
