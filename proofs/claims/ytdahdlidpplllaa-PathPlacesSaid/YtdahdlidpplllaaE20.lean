/- The statements PathPlaces, PathWays, PathOnce, told over numbers. -/
import Derived.Test.YtdahdlidpplllaaE20A
set_option linter.unusedVariables false
set_option linter.unusedSimpArgs false
namespace Go.Proofs.Ytdahdlidpplllaa
open Go.RowKit
theorem lSum_l0 (Fu : Nat) {n : Nat} (hn : 1 ≤ n ∧ n ≤ 4096) : ∀ t k j, j + t = dep n + 1 → t < k → 1 ≤ j → chatelainelaw20_PathPlaces_l0 Fu (CL n) k (fs n j : Int) (j : Int) = some (fs n (dep n + 1) : Int) := by
  have hb := dep_b n
  intro t
  induction t with
  | zero =>
    intro k j hj hk h1
    obtain ⟨k, rfl⟩ : ∃ m, k = m + 1 := ⟨k - 1, by omega⟩
    rw [chatelainelaw20_PathPlaces_l0, if_neg (by rw [CL_len]; omega), show j = dep n + 1 by omega]
  | succ t ih =>
    intro k j hj hk h1
    obtain ⟨k, rfl⟩ : ∃ m, k = m + 1 := ⟨k - 1, by omega⟩
    have hf := fs_le hn.1 hn.2 j
    have hc := cn_le (n := n) (m := dep n - j) (by omega) hn.1
    rw [chatelainelaw20_PathPlaces_l0, if_pos (by rw [CL_len]; omega), ix_nat (by rw [CL_len]; omega)]
    simp only [Option.bind_some]
    rw [CL_at n (by omega)]
    simp only [Option.bind_some]
    rw [w_id (by omega), w_id (by omega)]
    have := ih k (j + 1) (by omega) (by omega) (by omega)
    rw [fs_succ n h1] at this
    rw [← this]; congr 1
theorem lSum (Fu : Nat) {n : Nat} (hn : 1 ≤ n ∧ n ≤ 4096) (h : 10 ≤ Fu) : chatelainelaw20_PathPlaces_l0 Fu (CL n) Fu (-1) 0 = some (fs n (dep n + 1) : Int) := by
  have hb := dep_b n
  obtain ⟨k, hk⟩ : ∃ m, Fu = m + 1 := ⟨Fu - 1, by omega⟩
  have e : chatelainelaw20_PathPlaces_l0 Fu (CL n) (k + 1) (-1) 0 = chatelainelaw20_PathPlaces_l0 Fu (CL n) k 0 1 := by
    rw [chatelainelaw20_PathPlaces_l0, if_pos (by rw [CL_len]; omega), show (0 : Int) = ((0 : Nat) : Int) from rfl, ix_nat (by rw [CL_len]; omega)]
    simp only [Option.bind_some]
    rw [CL_at n (by omega)]
    simp only [Option.bind_some]
    rw [show dep n - 0 = dep n by omega, cn_dep hn.1 hn.2]; rfl
  have := lSum_l0 Fu hn (dep n) k 1 (by omega) (by omega) (by omega)
  rw [fs_one] at this
  rw [show chatelainelaw20_PathPlaces_l0 Fu (CL n) Fu (-1) 0 = chatelainelaw20_PathPlaces_l0 Fu (CL n) (k + 1) (-1) 0 by rw [← hk], e]
  exact this
theorem place_cases {n : Nat} (hn : 1 ≤ n ∧ n ≤ 4096) (a i : Int) : (∃ l m j : Nat, a = (l : Int) ∧ i = (j : Int) ∧ 1 ≤ l ∧ l + m = dep n ∧ j < cn n m) ∨ (a < 1 ∨ (dep n : Int) < a ∨ i < 0 ∨ ∃ l m : Nat, a = (l : Int) ∧ l + m = dep n ∧ (cn n m : Int) ≤ i) := by
  by_cases h1 : a < 1
  · exact .inr (.inl h1)
  by_cases h2 : (dep n : Int) < a
  · exact .inr (.inr (.inl h2))
  by_cases h3 : i < 0
  · exact .inr (.inr (.inr (.inl h3)))
  by_cases h4 : (cn n (dep n - a.toNat) : Int) ≤ i
  · exact .inr (.inr (.inr (.inr ⟨a.toNat, dep n - a.toNat, by omega, by omega, h4⟩)))
  · exact .inl ⟨a.toNat, dep n - a.toNat, i.toNat, by omega, by omega, by omega, by omega, by omega⟩
theorem places_ok (Fu : Nat) {n : Nat} (hn : 1 ≤ n ∧ n ≤ 4096) (h : 10 ≤ Fu) (a i : Int) : chatelainelaw20_PathPlaces Fu (n : Int) a i = some true := by
  have hb := dep_b n
  obtain ⟨p, w, hp, hw, hc⟩ : ∃ p w, path_Place Fu (n : Int) a i = some p ∧ chatelaineref20_Place Fu (n : Int) a i = some w ∧ (((!(p.2 == (decide (0 ≤ w)))) || (p.2 && (decide (p.1 ≠ w)))) || ((!p.2) && (decide (p.1 ≠ 0)))) = false := by
    rcases place_cases hn a i with ⟨l, m, j, rfl, rfl, h1, hm, hj⟩ | ha
    · exact ⟨_, _, pPlace Fu hn h l m j h1 hm hj, rPlace Fu hn h l m j h1 hm hj, by simp; omega⟩
    · exact ⟨_, _, pPlace_off Fu hn h a i ha, rPlace_off Fu hn h a i ha, rfl⟩
  obtain ⟨q, hq, hz⟩ : ∃ q, path_Node Fu (n : Int) i = some q ∧ ((q.2.2 = true ∧ (0 ≤ i ∧ i < (fs n (dep n + 1) : Int)) ∧ chatelaineref20_Place Fu (n : Int) q.1 q.2.1 = some i) ∨ (q = (0, 0, false) ∧ ¬ (0 ≤ i ∧ i < (fs n (dep n + 1) : Int)))) := by
    by_cases hi : 0 ≤ i ∧ i < (fs n (dep n + 1) : Int)
    · obtain ⟨l, m, j, h1, hm, hj, he, hN⟩ := pNode Fu hn h i.toNat (by omega)
      rw [show ((i.toNat : Nat) : Int) = i by omega] at hN
      refine ⟨_, hN, .inl ⟨rfl, hi, ?_⟩⟩
      show chatelaineref20_Place Fu (n : Int) (l : Int) (j : Int) = some i
      rw [rPlace Fu hn h l m j h1 hm hj, ← he]; congr 1; omega
    · exact ⟨_, pNode_off Fu hn h i (by omega), .inr ⟨rfl, hi⟩⟩
  obtain ⟨c, hcnt, hx⟩ : ∃ c, path_Count Fu (n : Int) a = some c ∧ (if ((decide (0 ≤ a)) && (decide (a < ((CL n).length : Int)))) = true then ((ix (CL n).length a).bind fun m => ((CL n)[m]?).bind fun x => some x) else (some 0)) = some c := by
    rw [CL_len]
    by_cases h1 : 0 ≤ a ∧ a ≤ (dep n : Int)
    · obtain ⟨l, rfl⟩ : ∃ l : Nat, a = (l : Int) := ⟨a.toNat, by omega⟩
      refine ⟨_, pCount Fu hn h l (dep n - l) (by omega), ?_⟩
      rw [if_pos (by simp; omega), ix_nat (by omega)]
      simp only [Option.bind_some]
      rw [CL_at n (by omega)]; rfl
    · exact ⟨_, pCount_off Fu hn h a (by omega), by rw [if_neg (by simp; omega)]⟩
  have hd : w64 (((CL n).length : Int) - 1) = (dep n : Int) := by rw [CL_len, w_id (by omega)]; omega
  unfold chatelainelaw20_PathPlaces
  simp only [awake20 Fu h, hp, hw, hc, hq, rMay Fu hn, rCounts Fu hn h, lSum Fu hn h, hx, pDepth Fu hn h, pTotal Fu hn h, hcnt, hd, Option.bind_some, Bool.not_true, Bool.false_eq_true, if_false, ne_eq, not_true_eq_false, decide_false]
  rcases hz with ⟨h1, ⟨h2, h3⟩, h4⟩ | ⟨rfl, h2⟩
  · rw [h1, h4, decide_eq_true h2, decide_eq_true h3]; simp
  · have : ((decide (0 ≤ i)) && (decide (i < (fs n (dep n + 1) : Int)))) = false := by rw [← Bool.decide_and, decide_eq_false h2]
    rw [this]; simp
theorem places_b (Fu : Nat) (h : 10 ≤ Fu) {a : Int} (ha : ¬ (1 ≤ a ∧ a ≤ 4096)) (l i : Int) : chatelainelaw20_PathPlaces Fu a l i = some true := by
  unfold chatelainelaw20_PathPlaces
  simp only [awake20 Fu h, bPlace Fu ha, rPlace_b Fu ha, bNode Fu ha (by omega), rMay_b Fu ha, bDepth Fu ha, bTotal Fu ha (by omega), bCount Fu ha, Option.bind_some]
  simp
theorem chatelainelaw20_PathPlaces_true (a0 : Int) (h0 : r64 a0) (a1 : Int) (h1 : r64 a1) (a2 : Int) (h2 : r64 a2) : ∃ Fu, chatelainelaw20_PathPlaces Fu a0 a1 a2 = some true := by
  refine ⟨10, ?_⟩
  by_cases ha : 1 ≤ a0 ∧ a0 ≤ 4096
  · obtain ⟨n, rfl⟩ : ∃ n : Nat, a0 = (n : Int) := ⟨a0.toNat, by omega⟩
    exact places_ok 10 (n := n) (by omega) (by omega) a1 a2
  · exact places_b 10 (by omega) ha a1 a2
/-! ways -/
/-- the places down to a leaf -/
def WL (n leaf : Nat) (k : Nat) : Int := ((fs n (k + 1) + leaf / 4 ^ (dep n - (k + 1)) : Nat) : Int)
/-- what a level's node has below it: so many -/
def ch (n m i : Nat) : Nat := min 4 (cn n m - 4 * i)
def CH (s c : Nat) : List Int := (List.range' s c).map fun (x : Nat) => (x : Int)
theorem CH_zero (s : Nat) : CH s 0 = [] := rfl
theorem CH_succ (s c : Nat) : CH s (c + 1) = (s : Int) :: CH (s + 1) c := by simp [CH, List.range'_succ]
theorem CH_len (s c : Nat) : (CH s c).length = c := by simp [CH]
theorem mem_CH {s c x : Nat} : (x : Int) ∈ CH s c ↔ s ≤ x ∧ x < s + c := by
  unfold CH
  rw [List.mem_map]
  constructor
  · rintro ⟨y, hy, e⟩
    rw [List.mem_range'_1] at hy
    omega
  · intro hx
    exact ⟨x, by rw [List.mem_range'_1]; omega, rfl⟩
theorem pPath_r0 (Fu : Nat) {n : Nat} (hn : 1 ≤ n ∧ n ≤ 4096) (h : 10 ≤ Fu) (leaf : Nat) (hl : leaf < n) : ∀ t j, j + t = dep n + 1 → 1 ≤ j → path_Path_r0 Fu (n : Int) (leaf : Int) (lvF n j t) ((List.range (j - 1)).map (WL n leaf)) = some ((List.range (dep n)).map (WL n leaf)) := by
  have hb := dep_b n
  intro t
  induction t with
  | zero => intro j hj h1; rw [show j - 1 = dep n by omega]; rfl
  | succ t ih =>
    intro j hj h1
    have hf := fs_le hn.1 hn.2 j
    have h4 : 1 ≤ 4 ^ (dep n - j) := Nat.pow_pos (by omega)
    have hdl : leaf / 4 ^ (dep n - j) ≤ leaf := Nat.div_le_self ..
    obtain ⟨x, hx⟩ : ∃ x, leaf / 4 ^ (dep n - j) = x := ⟨_, rfl⟩
    rw [hx] at hdl
    show (path_width Fu (n : Int) (j : Int)).bind _ = _
    rw [pWidth Fu hn h j (dep n - j) (by omega)]
    simp only [Option.bind_some]
    unfold quoI
    rw [if_neg (by omega), Int.tdiv_eq_ediv_of_nonneg (by omega), ← Int.natCast_ediv, hx, w_id (by omega)]
    simp only [Option.bind_some]
    rw [w_id (by omega), app8 _ _ (by simp; omega)]
    simp only [Option.bind_some]
    have := ih (j + 1) (by omega) (by omega)
    rw [show j + 1 - 1 = j - 1 + 1 by omega, List.range_succ, List.map_append] at this
    rw [← this]
    simp [WL, show j - 1 + 1 = j by omega, hx]
theorem pPath (Fu : Nat) {n : Nat} (hn : 1 ≤ n ∧ n ≤ 4096) (h : 10 ≤ Fu) (leaf : Nat) (hl : leaf < n) : path_Path Fu (n : Int) (leaf : Int) = some ((List.range (dep n)).map (WL n leaf)) := by
  have hb := dep_b n
  unfold path_Path
  rw [pMay Fu hn, pLevels Fu hn h]
  simp only [Option.bind_some]
  rw [show (((!true) || decide ((leaf : Int) < 0)) || decide ((n : Int) ≤ (leaf : Int))) = false by simp; omega]
  simp only [Bool.false_eq_true, if_false]
  have := pPath_r0 Fu hn h leaf hl (dep n) 1 (by omega) (by omega)
  rw [show (List.range (1 - 1)).map (WL n leaf) = [] from rfl] at this
  rw [this]; rfl
theorem pChildren_l0 (Fu : Nat) {n : Nat} (hn : 1 ≤ n ∧ n ≤ 4096) (h : 10 ≤ Fu) (l m i : Nat) (hl : l + 1 + m = dep n) (hi : i ≤ 4096) : ∀ t j k (acc : List Int), j + t = 4 * i + 4 → t < k → acc.length + t ≤ 4 → path_Children_l0 Fu (n : Int) (l : Int) (i : Int) k acc (j : Int) = some (acc ++ CH (fs n (l + 1) + j) (min t (cn n m - j))) := by
  have hb := dep_b n
  intro t
  induction t with
  | zero =>
    intro j k acc hj hk hacc
    obtain ⟨k, rfl⟩ : ∃ m, k = m + 1 := ⟨k - 1, by omega⟩
    rw [path_Children_l0, w_id (x := 4 * (i : Int)) (by omega), w_id (x := 4 * (i : Int) + 4) (by omega), if_neg (by omega), Nat.zero_min, CH_zero, List.append_nil]
  | succ t ih =>
    intro j k acc hj hk hacc
    obtain ⟨k, rfl⟩ : ∃ m, k = m + 1 := ⟨k - 1, by omega⟩
    rw [path_Children_l0, w_id (x := 4 * (i : Int)) (by omega), w_id (x := 4 * (i : Int) + 4) (by omega), if_pos (by omega), w_id (x := (l : Int) + 1) (by omega), w_id (x := (j : Int) + 1) (by omega)]
    rw [show ((l : Int) + 1) = ((l + 1 : Nat) : Int) by omega, show ((j : Int) + 1) = ((j + 1 : Nat) : Int) by omega]
    by_cases hj' : j < cn n m
    · rw [pPlace Fu hn h (l + 1) m j (by omega) hl hj']
      simp only [Option.bind_some, if_true]
      rw [app8 _ _ (by omega)]
      simp only [Option.bind_some]
      rw [ih (j + 1) k _ (by omega) (by omega) (by simp; omega), show min (t + 1) (cn n m - j) = min t (cn n m - (j + 1)) + 1 by omega, CH_succ, List.append_assoc]; rfl
    · rw [pPlace_off Fu hn h _ _ (.inr (.inr (.inr ⟨l + 1, m, rfl, hl, by omega⟩)))]
      simp only [Option.bind_some, Bool.false_eq_true, if_false]
      rw [ih (j + 1) k _ (by omega) (by omega) (by omega), show min (t + 1) (cn n m - j) = 0 by omega, show min t (cn n m - (j + 1)) = 0 by omega]; rfl
theorem pChildren (Fu : Nat) {n : Nat} (hn : 1 ≤ n ∧ n ≤ 4096) (h : 10 ≤ Fu) (l m i : Nat) (hl : l + 1 + m = dep n) (hi : i < cn n (m + 1)) : path_Children Fu (n : Int) (l : Int) (i : Int) = some (CH (fs n (l + 1) + 4 * i) (ch n m i)) := by
  have hb := dep_b n
  have hc := cn_le (n := n) (m := m + 1) (by omega) hn.1
  unfold path_Children
  rw [if_neg (by omega), pCount Fu hn h l (m + 1) (by omega)]
  simp only [Option.bind_some]
  rw [decide_eq_false (by omega)]
  simp only [Bool.false_eq_true, if_false]
  rw [w_id (by omega)]
  have := pChildren_l0 Fu hn h l m i hl (by omega) 4 (4 * i) Fu [] (by omega) (by omega) (by simp)
  rw [show (4 * (i : Int)) = ((4 * i : Nat) : Int) by omega, this]; rfl
/-- the leaves have none -/
theorem pChildren_leaf_l0 (Fu : Nat) {n : Nat} (hn : 1 ≤ n ∧ n ≤ 4096) (h : 10 ≤ Fu) (i : Nat) (hi : i ≤ 4096) : ∀ t (j k : Nat), j + t = 4 * i + 4 → t < k → path_Children_l0 Fu (n : Int) (dep n : Int) (i : Int) k [] (j : Int) = some [] := by
  have hb := dep_b n
  intro t
  induction t with
  | zero =>
    intro j k hj hk
    obtain ⟨k, rfl⟩ : ∃ m, k = m + 1 := ⟨k - 1, by omega⟩
    rw [path_Children_l0, w_id (x := 4 * (i : Int)) (by omega), w_id (x := 4 * (i : Int) + 4) (by omega), if_neg (by omega)]
  | succ t ih =>
    intro j k hj hk
    obtain ⟨k, rfl⟩ : ∃ m, k = m + 1 := ⟨k - 1, by omega⟩
    rw [path_Children_l0, w_id (x := 4 * (i : Int)) (by omega), w_id (x := 4 * (i : Int) + 4) (by omega), if_pos (by omega), w_id (x := (dep n : Int) + 1) (by omega), w_id (x := (j : Int) + 1) (by omega)]
    rw [pPlace_off Fu hn h _ _ (.inr (.inl (by omega)))]
    simp only [Option.bind_some, Bool.false_eq_true, if_false]
    rw [show ((j : Int) + 1) = ((j + 1 : Nat) : Int) by omega, ih (j + 1) k (by omega) (by omega)]
theorem pChildren_leaf (Fu : Nat) {n : Nat} (hn : 1 ≤ n ∧ n ≤ 4096) (h : 10 ≤ Fu) (i : Nat) (hi : i < n) : path_Children Fu (n : Int) (dep n : Int) (i : Int) = some [] := by
  have hb := dep_b n
  unfold path_Children
  rw [if_neg (by omega), pCount Fu hn h (dep n) 0 (by omega), cn_zero]
  simp only [Option.bind_some]
  rw [decide_eq_false (by omega)]
  simp only [Bool.false_eq_true, if_false]
  rw [w_id (by omega), show (4 * (i : Int)) = ((4 * i : Nat) : Int) by omega, pChildren_leaf_l0 Fu hn h i (by omega) 4 (4 * i) Fu (by omega) (by omega)]; rfl
theorem pBelow (Fu : Nat) {n : Nat} (hn : 1 ≤ n ∧ n ≤ 4096) (h : 10 ≤ Fu) (l m i : Nat) (hl : l + m = dep n) (hi : i < cn n m) : path_Below Fu (n : Int) (l : Int) (i : Int) = some (((i * 4 ^ m : Nat) : Int), ((min (i * 4 ^ m + 4 ^ m) n : Nat) : Int)) := by
  have hb := dep_b n
  have hc := cn_le (n := n) (m := m) (by omega) hn.1
  have h4 : i * 4 ^ m ≤ 4096 ∧ 4 ^ m ≤ 4096 := by
    unfold cn at hi hc
    rcases pw (show m ≤ 6 by omega) with ⟨e, e'⟩ | ⟨e, e'⟩ | ⟨e, e'⟩ | ⟨e, e'⟩ | ⟨e, e'⟩ | ⟨e, e'⟩ | ⟨e, e'⟩ <;> rw [e'] at hi ⊢ <;> omega
  unfold path_Below
  rw [if_neg (by omega), pCount Fu hn h l m hl]
  simp only [Option.bind_some]
  rw [decide_eq_false (by omega)]
  simp only [Bool.false_eq_true, if_false]
  rw [pWidth Fu hn h l m hl]
  simp only [Option.bind_some]
  rw [show ((i : Int) * ((4 ^ m : Nat) : Int)) = ((i * 4 ^ m : Nat) : Int) by simp]
  generalize i * 4 ^ m = x at *
  generalize 4 ^ m = y at *
  rw [w_id (x := (x : Int)) (by omega), w_id (x := (x : Int) + (y : Int)) (by omega), mn_min]
  simp only [Option.some.injEq, Prod.mk.injEq, true_and]
  omega
theorem found_l1 (Fu : Nat) (W : List Int) (k : Nat) (hk1 : 1 ≤ k) (hk2 : k ≤ 10) (x : Int) (hW : W[k - 1]? = some x) (cs : List Int) (hcs : cs.length < 1000) : ∀ t j K (b : Bool), j + t = cs.length → t < K → chatelainelaw20_PathWays_l1 Fu W (k : Int) cs K b (j : Int) = some (b || decide (x ∈ cs.drop j)) := by
  intro t
  induction t with
  | zero =>
    intro j K b hj hK
    obtain ⟨K, rfl⟩ : ∃ m, K = m + 1 := ⟨K - 1, by omega⟩
    rw [chatelainelaw20_PathWays_l1, if_neg (by omega), List.drop_of_length_le (by omega)]; simp
  | succ t ih =>
    intro j K b hj hK
    obtain ⟨K, rfl⟩ : ∃ m, K = m + 1 := ⟨K - 1, by omega⟩
    have hlt := (List.getElem?_eq_some_iff.1 hW).1
    rw [chatelainelaw20_PathWays_l1, if_pos (by omega), ix_nat (by omega)]
    simp only [Option.bind_some]
    rw [List.getElem?_eq_getElem (by omega), w_id (x := (k : Int) - 1) (by omega), show (k : Int) - 1 = ((k - 1 : Nat) : Int) by omega, ix_nat hlt]
    simp only [Option.bind_some]
    rw [hW, w_id (by omega), List.drop_eq_getElem_cons (show j < cs.length by omega)]
    simp only [Option.bind_some]
    cases b with
    | true =>
      simp only [if_true, Option.bind_some]
      rw [show ((j : Int) + 1) = ((j + 1 : Nat) : Int) by omega, ih (j + 1) K true (by omega) (by omega)]; simp
    | false =>
      simp only [Bool.false_eq_true, if_false, Option.bind_some]
      rw [show ((j : Int) + 1) = ((j + 1 : Nat) : Int) by omega, ih (j + 1) K _ (by omega) (by omega)]
      simp only [List.mem_cons, Bool.false_or, Option.some.injEq]
      by_cases e : cs[j] = x
      · simp [e]
      · have e' : ¬ x = cs[j] := fun h => e h.symm
        simp [e, e']
theorem div_pow4 (leaf m : Nat) : leaf / 4 ^ m / 4 = leaf / 4 ^ (m + 1) := by rw [Nat.div_div_eq_div_mul, ← Nat.pow_succ]
theorem ways_l0 (Fu : Nat) {n : Nat} (hn : 1 ≤ n ∧ n ≤ 4096) (h : 100 ≤ Fu) (leaf : Nat) (hl : leaf < n) : ∀ t (m K : Nat), m + t = dep n → t < K → chatelainelaw20_PathWays_l0 Fu (n : Int) ((List.range (dep n)).map (WL n leaf)) K ((leaf / 4 ^ m : Nat) : Int) (t : Int) = some (.inr ()) := by
  have hb := dep_b n
  intro t
  induction t with
  | zero =>
    intro m K hm hK
    obtain ⟨K, rfl⟩ : ∃ m, K = m + 1 := ⟨K - 1, by omega⟩
    rw [chatelainelaw20_PathWays_l0, if_neg (by omega)]
  | succ t ih =>
    intro m K hm hK
    obtain ⟨K, rfl⟩ : ∃ m, K = m + 1 := ⟨K - 1, by omega⟩
    have hW : ((List.range (dep n)).map (WL n leaf))[t + 1 - 1]? = some (WL n leaf t) := by
      rw [List.getElem?_map, List.getElem?_range (by omega)]; rfl
    have hi := dw (n := n) (m := m) (by omega) hl
    have hi2 := dw (n := n) (m := m + 1) (by omega) hl
    have hdl : leaf / 4 ^ m ≤ leaf := Nat.div_le_self ..
    have hf := fs_le hn.1 hn.2 (t + 1)
    have hv : WL n leaf t = ((fs n (t + 1) + leaf / 4 ^ m : Nat) : Int) := by unfold WL; rw [show dep n - (t + 1) = m by omega]
    have ih' := ih (m + 1) K (by omega) (by omega)
    have hd2 : leaf / 4 ^ (m + 1) ≤ leaf := Nat.div_le_self ..
    have hxy := div_pow4 leaf m
    obtain ⟨x, hx⟩ : ∃ x, leaf / 4 ^ m = x := ⟨_, rfl⟩
    obtain ⟨y, hy⟩ : ∃ y, leaf / 4 ^ (m + 1) = y := ⟨_, rfl⟩
    rw [hx] at hi hdl hv hxy ⊢
    rw [hy] at hi2 hd2 hxy ih'
    rw [chatelainelaw20_PathWays_l0, if_pos (by omega), w_id (x := ((t + 1 : Nat) : Int) - 1) (by omega), show ((t + 1 : Nat) : Int) - 1 = (t : Int) by omega, ix_nat (by simp; omega)]
    simp only [Option.bind_some]
    rw [show t + 1 - 1 = t by omega] at hW
    rw [hW, rPlace Fu hn (by omega) (t + 1) m _ (by omega) (by omega) hi]
    simp only [Option.bind_some]
    rw [hv, if_neg (by simp), Int.tdiv_eq_ediv_of_nonneg (by omega), show ((x : Int) / 4) = (y : Int) by omega, w_id (x := (y : Int)) (by omega), pChildren Fu hn (by omega) t m _ (by omega) hi2]
    simp only [Option.bind_some]
    rw [hv] at hW
    have := found_l1 Fu _ (t + 1) (by omega) (by omega) _ (by rw [show t + 1 - 1 = t by omega]; exact hW) (CH (fs n (t + 1) + 4 * y) (ch n m y)) (by rw [CH_len]; unfold ch; omega) (ch n m y) 0 Fu false (by rw [CH_len]; omega) (by unfold ch; omega)
    rw [show ((0 : Nat) : Int) = 0 from rfl] at this
    rw [this]
    simp only [Option.bind_some, List.drop_zero, Bool.false_or]
    rw [decide_eq_true]
    · simp only [Bool.not_true, Bool.false_eq_true, if_false]
      exact ih'
    · rw [mem_CH]
      unfold ch
      omega
theorem ways_l2 (Fu : Nat) {n : Nat} (hn : 1 ≤ n ∧ n ≤ 4096) (at_ : Nat) (hat : at_ ≤ dep n) (leaf : Nat) (hl : leaf < n) : ∀ t (j K : Nat), j + t = dep n - at_ → t < K → chatelainelaw20_PathWays_l2 Fu (CL n) (at_ : Int) K ((leaf / 4 ^ j : Nat) : Int) (j : Int) = some ((leaf / 4 ^ (dep n - at_) : Nat) : Int) := by
  have hb := dep_b n
  intro t
  induction t with
  | zero =>
    intro j K hj hK
    obtain ⟨K, rfl⟩ : ∃ m, K = m + 1 := ⟨K - 1, by omega⟩
    rw [chatelainelaw20_PathWays_l2, CL_len, w_id (x := ((dep n + 1 : Nat) : Int) - 1) (by omega), w_id (by omega), if_neg (by omega), show j = dep n - at_ by omega]
  | succ t ih =>
    intro j K hj hK
    obtain ⟨K, rfl⟩ : ∃ m, K = m + 1 := ⟨K - 1, by omega⟩
    have hd2 : leaf / 4 ^ (j + 1) ≤ leaf := Nat.div_le_self ..
    have ih' := ih (j + 1) K (by omega) (by omega)
    have hxy := div_pow4 leaf j
    rw [chatelainelaw20_PathWays_l2, CL_len, w_id (x := ((dep n + 1 : Nat) : Int) - 1) (by omega), w_id (x := ((dep n + 1 : Nat) : Int) - 1 - at_) (by omega), if_pos (by omega)]
    generalize leaf / 4 ^ j = x at *
    generalize leaf / 4 ^ (j + 1) = y at *
    rw [Int.tdiv_eq_ediv_of_nonneg (by omega), show ((x : Int) / 4) = (y : Int) by omega, w_id (x := (y : Int)) (by omega), w_id (by omega)]
    exact ih'
/-- children with what is below them, one by one -/
theorem ways_l3 (Fu : Nat) {n : Nat} (hn : 1 ≤ n ∧ n ≤ 4096) (h : 10 ≤ Fu) (l m i : Nat) (hl : l + 1 + m = dep n) (hi : i < cn n (m + 1)) : ∀ t (j K : Nat) (acc : List Int), j + t = 4 * i + 4 → 4 * i ≤ j → t < K → acc.length + t ≤ 4 → chatelainelaw20_PathWays_l3 Fu (n : Int) (l : Int) (i : Int) K acc ((min (j * 4 ^ m) n : Nat) : Int) (j : Int) = some (.inr (acc ++ CH (fs n (l + 1) + j) (min t (cn n m - j)), ((min ((4 * i + 4) * 4 ^ m) n : Nat) : Int))) := by
  have hb := dep_b n
  have hc := cn_le (n := n) (m := m + 1) (by omega) hn.1
  intro t
  induction t with
  | zero =>
    intro j K acc hj hj2 hK hacc
    obtain ⟨K, rfl⟩ : ∃ m, K = m + 1 := ⟨K - 1, by omega⟩
    rw [chatelainelaw20_PathWays_l3, w_id (x := 4 * (i : Int)) (by omega), w_id (x := 4 * (i : Int) + 4) (by omega), if_neg (by omega), Nat.zero_min, CH_zero, List.append_nil, show j = 4 * i + 4 by omega]
  | succ t ih =>
    intro j K acc hj hj2 hK hacc
    obtain ⟨K, rfl⟩ : ∃ m, K = m + 1 := ⟨K - 1, by omega⟩
    have hjn : j < cn n m ↔ j * 4 ^ m < n := by
      unfold cn
      rcases pw (show m ≤ 6 by omega) with ⟨e, e'⟩ | ⟨e, e'⟩ | ⟨e, e'⟩ | ⟨e, e'⟩ | ⟨e, e'⟩ | ⟨e, e'⟩ | ⟨e, e'⟩ <;> rw [e'] <;> omega
    have h4 : 1 ≤ 4 ^ m := Nat.pow_pos (by omega)
    have hsm : (j + 1) * 4 ^ m = j * 4 ^ m + 4 ^ m := by rw [Nat.add_mul, Nat.one_mul]
    have ih' := fun acc hacc => ih (j + 1) K acc (by omega) (by omega) (by omega) hacc
    simp only [hsm] at ih'
    have hB := pBelow Fu hn h (l + 1) m j hl
    have hbd : j < cn n m → j * 4 ^ m ≤ 4096 := fun hh => by have := hjn.1 hh; omega
    generalize (4 * i + 4) * 4 ^ m = q at *
    generalize j * 4 ^ m = z at *
    generalize 4 ^ m = y at *
    rw [chatelainelaw20_PathWays_l3, w_id (x := 4 * (i : Int)) (by omega), w_id (x := 4 * (i : Int) + 4) (by omega), if_pos (by omega), w_id (x := (l : Int) + 1) (by omega), w_id (x := (j : Int) + 1) (by omega)]
    rw [show ((l : Int) + 1) = ((l + 1 : Nat) : Int) by omega, show ((j : Int) + 1) = ((j + 1 : Nat) : Int) by omega]
    by_cases hj' : j < cn n m
    · have hx := hjn.1 hj'
      rw [rPlace Fu hn h (l + 1) m j (by omega) hl hj']
      simp only [Option.bind_some]
      rw [if_pos (by omega), app8 _ _ (by omega), hB hj']
      simp only [Option.bind_some]
      rw [if_neg (by simp; omega)]
      simp only [Option.bind_some]
      have := ih' (acc ++ [((fs n (l + 1) + j : Nat) : Int)]) (by simp; omega)
      rw [this, show min (t + 1) (cn n m - j) = min t (cn n m - (j + 1)) + 1 by omega, CH_succ, List.append_assoc]; rfl
    · have hx := mt hjn.2 hj'
      rw [rPlace_off Fu hn h _ _ (.inr (.inr (.inr ⟨l + 1, m, rfl, hl, by omega⟩)))]
      simp only [Option.bind_some]
      rw [if_neg (by omega)]
      simp only [Option.bind_some]
      have := ih' acc (by omega)
      rw [show min z n = min (z + y) n by omega, this, show min (t + 1) (cn n m - j) = 0 by omega, show min t (cn n m - (j + 1)) = 0 by omega]; rfl
theorem ways_leaf_l3 (Fu : Nat) {n : Nat} (hn : 1 ≤ n ∧ n ≤ 4096) (h : 10 ≤ Fu) (i : Nat) (hi : i ≤ 4096) (x : Int) : ∀ t (j K : Nat), j + t = 4 * i + 4 → t < K → chatelainelaw20_PathWays_l3 Fu (n : Int) (dep n : Int) (i : Int) K [] x (j : Int) = some (.inr ([], x)) := by
  have hb := dep_b n
  intro t
  induction t with
  | zero =>
    intro j K hj hK
    obtain ⟨K, rfl⟩ : ∃ m, K = m + 1 := ⟨K - 1, by omega⟩
    rw [chatelainelaw20_PathWays_l3, w_id (x := 4 * (i : Int)) (by omega), w_id (x := 4 * (i : Int) + 4) (by omega), if_neg (by omega)]
  | succ t ih =>
    intro j K hj hK
    obtain ⟨K, rfl⟩ : ∃ m, K = m + 1 := ⟨K - 1, by omega⟩
    rw [chatelainelaw20_PathWays_l3, w_id (x := 4 * (i : Int)) (by omega), w_id (x := 4 * (i : Int) + 4) (by omega), if_pos (by omega), w_id (x := (dep n : Int) + 1) (by omega), w_id (x := (j : Int) + 1) (by omega)]
    rw [rPlace_off Fu hn h _ _ (.inr (.inl (by omega)))]
    simp only [Option.bind_some]
    rw [if_neg (by omega)]
    simp only [Option.bind_some]
    rw [show ((j : Int) + 1) = ((j + 1 : Nat) : Int) by omega, ih (j + 1) K (by omega) (by omega)]
theorem rInts_l0 (Fu : Nat) (a : List Int) (ha : a.length < 1000000) : ∀ t k j, j + t = a.length → t < k → chatelaineref01_Ints_l0 Fu a a k (j : Int) = some (.inr ()) := by
  intro t
  induction t with
  | zero =>
    intro k j hj hk
    obtain ⟨k, rfl⟩ : ∃ m, k = m + 1 := ⟨k - 1, by omega⟩
    rw [chatelaineref01_Ints_l0, if_neg (by omega)]
  | succ t ih =>
    intro k j hj hk
    obtain ⟨k, rfl⟩ : ∃ m, k = m + 1 := ⟨k - 1, by omega⟩
    rw [chatelaineref01_Ints_l0, if_pos (by omega), idx_nat, List.getElem?_eq_getElem (by omega)]
    simp only [Option.bind_some]
    rw [if_neg (by simp), w_id (by omega)]
    exact ih k (j + 1) (by omega) (by omega)
theorem rInts (Fu : Nat) (a : List Int) (ha : a.length < 1000000) (h : a.length < Fu) : chatelaineref01_Ints Fu a a = some true := by
  unfold chatelaineref01_Ints
  rw [if_neg (by simp), show (0 : Int) = ((0 : Nat) : Int) from rfl, rInts_l0 Fu a ha a.length Fu 0 (by omega) h]; rfl
theorem ways_ok (Fu : Nat) {n : Nat} (hn : 1 ≤ n ∧ n ≤ 4096) (h : 1000 ≤ Fu) (leaf : Nat) (hl : leaf < n) (b : UInt8) : chatelainelaw20_PathWays Fu (n : Int) (leaf : Int) b = some true := by
  have hb := dep_b n
  have hd : w64 (((CL n).length : Int) - 1) = (dep n : Int) := by rw [CL_len, w_id (by omega)]; omega
  have hlen : (((List.range (dep n)).map (WL n leaf)).length : Int) = (dep n : Int) := by simp
  have hg : ((false || decide ((leaf : Int) < 0)) || decide ((n : Int) ≤ (leaf : Int))) = false := by simp; omega
  have h0 := ways_l0 Fu hn (by omega) leaf hl (dep n) 0 Fu (by omega) (by omega)
  rw [Nat.pow_zero, Nat.div_one] at h0
  obtain ⟨A, hA, hr⟩ : ∃ A : Nat, A ≤ dep n ∧ remI (b.toNat : Int) ((CL n).length : Int) = some (A : Int) := by
    refine ⟨b.toNat % (dep n + 1), by have := Nat.mod_lt b.toNat (show dep n + 1 > 0 by omega); omega, ?_⟩
    unfold remI
    rw [CL_len, if_neg (by omega), ← Int.ofNat_tmod]
  have h2 := ways_l2 Fu hn A hA leaf hl (dep n - A) 0 Fu (by omega) (by omega)
  rw [Nat.pow_zero, Nat.div_one] at h2
  have hi := dw (n := n) (m := dep n - A) (by omega) hl
  have hB := pBelow Fu hn (by omega) A (dep n - A) _ (by omega) hi
  unfold chatelainelaw20_PathWays
  simp only [awake20 Fu (by omega), Option.bind_some, Bool.not_true, Bool.false_eq_true, if_false, pPath Fu hn (by omega) leaf hl, rMay Fu hn]
  rw [hg]
  simp only [Bool.false_eq_true, if_false, rCounts Fu hn (by omega), Option.bind_some]
  rw [hd, hlen, if_neg (by simp), h0]
  simp only [Option.bind_some]
  rw [hr]
  simp only [Option.bind_some]
  rw [show (0 : Int) = ((0 : Nat) : Int) from rfl, h2]
  simp only [Option.bind_some]
  rw [hB]
  simp only [Option.bind_some]
  have hdl : leaf / 4 ^ (dep n - A) ≤ leaf := Nat.div_le_self ..
  obtain ⟨q, hq⟩ : ∃ q, leaf / 4 ^ (dep n - A) = q := ⟨_, rfl⟩
  rw [hq] at hi hdl ⊢
  rw [w_id (x := 4 * (q : Int)) (by omega)]
  by_cases hAd : A = dep n
  · rw [show dep n - A = 0 by omega, Nat.pow_zero, Nat.div_one] at hq
    subst hq
    rw [show dep n - A = 0 by omega, Nat.pow_zero, Nat.mul_one]
    have hx := ways_leaf_l3 Fu hn (by omega) leaf (by omega) (leaf : Int) 4 (4 * leaf) Fu (by omega) (by omega)
    rw [show (4 * (leaf : Int)) = ((4 * leaf : Nat) : Int) by omega, show (A : Int) = (dep n : Int) by omega, hx]
    simp only [Option.bind_some]
    rw [pChildren_leaf Fu hn (by omega) leaf hl, w_id (by omega)]
    rw [if_neg (by simp; omega)]
    simp only [Option.bind_some]
    rw [rInts Fu [] (by simp) (by simp; omega)]; rfl
  · obtain ⟨m, hm⟩ : ∃ m, dep n - A = m + 1 := ⟨dep n - A - 1, by omega⟩
    rw [hm] at hi hq ⊢
    have hmin : min (4 * q * 4 ^ m) n = q * 4 ^ (m + 1) ∧ q * 4 ^ (m + 1) ≤ leaf ∧ leaf < q * 4 ^ (m + 1) + 4 ^ (m + 1) ∧ (4 * q + 4) * 4 ^ m = q * 4 ^ (m + 1) + 4 ^ (m + 1) := by
      subst hq
      rw [Nat.pow_succ]
      rcases pw (show m ≤ 6 by omega) with ⟨e, e'⟩ | ⟨e, e'⟩ | ⟨e, e'⟩ | ⟨e, e'⟩ | ⟨e, e'⟩ | ⟨e, e'⟩ | ⟨e, e'⟩ <;> rw [e'] <;> omega
    have hx := ways_l3 Fu hn (by omega) A m q (by omega) hi 4 (4 * q) Fu [] (by omega) (by omega) (by omega) (by simp)
    rw [hmin.1, hmin.2.2.2] at hx
    have hC := pChildren Fu hn (by omega) A m q (by omega) hi
    have h6 := hmin.2.1
    have h7 := hmin.2.2.1
    clear hmin hB hq
    generalize q * 4 ^ (m + 1) = u at *
    generalize 4 ^ (m + 1) = v at *
    rw [show (4 * (q : Int)) = ((4 * q : Nat) : Int) by omega, hx]
    simp only [Option.bind_some]
    rw [hC, if_neg (by simp; omega)]
    simp only [Option.bind_some]
    rw [show ([] ++ CH (fs n (A + 1) + 4 * q) (min 4 (cn n m - 4 * q))) = CH (fs n (A + 1) + 4 * q) (ch n m q) from rfl]
    rw [rInts Fu _ (by rw [CH_len]; unfold ch; omega) (by rw [CH_len]; unfold ch; omega)]; rfl
theorem ways_b (Fu : Nat) (h : 10 ≤ Fu) {a : Int} (l : Int) (ha : ¬ (1 ≤ a ∧ a ≤ 4096) ∨ l < 0 ∨ a ≤ l) (b : UInt8) : chatelainelaw20_PathWays Fu a l b = some true := by
  have hP : path_Path Fu a l = some [] ∧ ∃ c, chatelaineref20_May Fu a = some c ∧ (((!c) || decide (l < 0)) || decide (a ≤ l)) = true := by
    by_cases h1 : 1 ≤ a ∧ a ≤ 4096
    · obtain ⟨n, rfl⟩ : ∃ n : Nat, a = (n : Int) := ⟨a.toNat, by omega⟩
      have h2 : (((!true) || decide (l < 0)) || decide ((n : Int) ≤ l)) = true := by simp; omega
      refine ⟨?_, true, rMay Fu (by omega), h2⟩
      unfold path_Path
      rw [pMay Fu (by omega)]
      simp only [Option.bind_some]
      rw [h2]; rfl
    · refine ⟨?_, false, rMay_b Fu h1, by simp⟩
      unfold path_Path
      rw [bMay Fu h1]
      simp
  obtain ⟨h1, c, h2, h3⟩ := hP
  unfold chatelainelaw20_PathWays
  simp only [awake20 Fu h, h1, h2, Option.bind_some, Bool.not_true, Bool.false_eq_true, if_false]
  rw [h3]; rfl
theorem chatelainelaw20_PathWays_true (a0 : Int) (h0 : r64 a0) (a1 : Int) (h1 : r64 a1) (a2 : UInt8) : ∃ Fu, chatelainelaw20_PathWays Fu a0 a1 a2 = some true := by
  refine ⟨1000, ?_⟩
  by_cases ha : ¬ (1 ≤ a0 ∧ a0 ≤ 4096) ∨ a1 < 0 ∨ a0 ≤ a1
  · exact ways_b 1000 (by omega) a1 ha a2
  · obtain ⟨n, rfl⟩ : ∃ n : Nat, a0 = (n : Int) := ⟨a0.toNat, by omega⟩
    obtain ⟨l, rfl⟩ : ∃ n : Nat, a1 = (n : Int) := ⟨a1.toNat, by omega⟩
    exact ways_ok 1000 (n := n) (by omega) (by omega) l (by omega) a2
/-! once -/
def rep (T t : Nat) : List Int := List.replicate t 1 ++ List.replicate (T - t) 0
theorem rep_len {T t : Nat} (h : t ≤ T) : (rep T t).length = T := by simp [rep]; omega
theorem rep_at {T t : Nat} (h : t < T) : (rep T t)[t]? = some 0 := by
  unfold rep
  rw [List.getElem?_append_right (by simp), List.getElem?_replicate]; simp; omega
theorem rep_set {T t : Nat} (h : t < T) : (rep T t).set t 1 = rep T (t + 1) := by
  unfold rep
  rw [List.set_append_right _ _ (by simp)]
  simp only [List.length_replicate, Nat.sub_self]
  obtain ⟨q, hq⟩ : ∃ q, T - t = q + 1 := ⟨T - t - 1, by omega⟩
  rw [hq, show T - (t + 1) = q by omega, List.replicate_succ, List.set_cons_zero, List.replicate_succ' (n := t), List.append_assoc]; rfl
theorem once_l2 (Fu T s c : Nat) (hs : s + c ≤ T) (hT : T < 1000000) : ∀ t j k, j + t = c → t < k → chatelainelaw20_PathOnce_l2 Fu (CH s c) k (j : Int) (rep T (s + j)) = some (.inr (rep T (s + c))) := by
  intro t
  induction t with
  | zero =>
    intro j k hj hk
    obtain ⟨k, rfl⟩ : ∃ m, k = m + 1 := ⟨k - 1, by omega⟩
    rw [chatelainelaw20_PathOnce_l2, CH_len, if_neg (by omega), show j = c by omega]
  | succ t ih =>
    intro j k hj hk
    obtain ⟨k, rfl⟩ : ∃ m, k = m + 1 := ⟨k - 1, by omega⟩
    have hx : (CH s c)[j]? = some ((s + j : Nat) : Int) := by
      unfold CH
      rw [List.getElem?_map, List.getElem?_range' (by omega)]; simp
    rw [chatelainelaw20_PathOnce_l2, if_pos (by rw [CH_len]; omega), ix_nat (by rw [CH_len]; omega)]
    simp only [Option.bind_some]
    rw [hx]
    simp only [Option.bind_some]
    rw [if_neg (by rw [rep_len (by omega)]; simp; omega), ix_nat (by rw [rep_len (by omega)]; omega)]
    simp only [Option.bind_some]
    rw [rep_at (by omega)]
    simp only [Option.bind_some]
    rw [show w64 (0 + 1) = 1 from rfl, rep_set (by omega), w_id (by omega)]
    exact ih (j + 1) k (by omega) (by omega)
theorem once_l1 (Fu : Nat) {n : Nat} (hn : 1 ≤ n ∧ n ≤ 4096) (h : 10000 ≤ Fu) (l m : Nat) (hl : l + 1 + m = dep n) : ∀ t i k, i + t = cn n (m + 1) → t < k → chatelainelaw20_PathOnce_l1 Fu (n : Int) (l : Int) (cn n (m + 1) : Int) k (i : Int) (rep (fs n (dep n + 1)) (fs n (l + 1) + min (4 * i) (cn n m))) = some (.inr (rep (fs n (dep n + 1)) (fs n (l + 2)))) := by
  have hb := dep_b n
  have hc := cn_le (n := n) (m := m + 1) (by omega) hn.1
  have hc0 := cn_le (n := n) (m := m) (by omega) hn.1
  have hcs := cn_succ (n := n) (m := m) (by omega) hn.1
  have hfT := fs_le hn.1 hn.2 (dep n + 1)
  have hf2 : fs n (l + 2) = fs n (l + 1) + cn n m := by rw [fs_succ n (l := l + 1) (by omega), show dep n - (l + 1) = m by omega]
  have hfm := fs_mono (n := n) (l := l + 2) (by omega) m
  rw [show l + 2 + m = dep n + 1 by omega] at hfm
  intro t
  induction t with
  | zero =>
    intro i k hi hk
    obtain ⟨k, rfl⟩ : ∃ m, k = m + 1 := ⟨k - 1, by omega⟩
    rw [chatelainelaw20_PathOnce_l1, if_neg (by omega), show min (4 * i) (cn n m) = cn n m by omega, hf2]
  | succ t ih =>
    intro i k hi hk
    obtain ⟨k, rfl⟩ : ∃ m, k = m + 1 := ⟨k - 1, by omega⟩
    rw [chatelainelaw20_PathOnce_l1, if_pos (by omega), pChildren Fu hn (by omega) l m i hl (by omega)]
    simp only [Option.bind_some]
    have := once_l2 Fu (fs n (dep n + 1)) (fs n (l + 1) + 4 * i) (ch n m i) (by unfold ch; omega) (by omega) (ch n m i) 0 Fu (by omega) (by unfold ch; omega)
    rw [show min (4 * i) (cn n m) = 4 * i by omega]
    simp only [Nat.add_zero] at this
    rw [show (0 : Int) = ((0 : Nat) : Int) from rfl, this]
    simp only [Option.bind_some]
    rw [w_id (by omega)]
    have := ih (i + 1) k (by omega) (by omega)
    rw [show fs n (l + 1) + 4 * i + ch n m i = fs n (l + 1) + min (4 * (i + 1)) (cn n m) by unfold ch; omega]
    exact this
theorem once_l0 (Fu : Nat) {n : Nat} (hn : 1 ≤ n ∧ n ≤ 4096) (h : 10000 ≤ Fu) : ∀ t l k, l + t = dep n → t < k → chatelainelaw20_PathOnce_l0 Fu (n : Int) (dep n : Int) k (l : Int) (rep (fs n (dep n + 1)) (fs n (l + 1))) = some (.inr (rep (fs n (dep n + 1)) (fs n (dep n + 1)))) := by
  have hb := dep_b n
  intro t
  induction t with
  | zero =>
    intro l k hl hk
    obtain ⟨k, rfl⟩ : ∃ m, k = m + 1 := ⟨k - 1, by omega⟩
    rw [chatelainelaw20_PathOnce_l0, if_neg (by omega), show l = dep n by omega]
  | succ t ih =>
    intro l k hl hk
    obtain ⟨k, rfl⟩ : ∃ m, k = m + 1 := ⟨k - 1, by omega⟩
    have hc := cn_le (n := n) (m := t + 1) (by omega) hn.1
    rw [chatelainelaw20_PathOnce_l0, if_pos (by omega), pCount Fu hn (by omega) l (t + 1) (by omega)]
    simp only [Option.bind_some]
    have := once_l1 Fu hn h l t (by omega) (cn n (t + 1)) 0 Fu (by omega) (by omega)
    rw [show min (4 * 0) (cn n t) = 0 by omega] at this
    simp only [Nat.add_zero] at this
    rw [show (0 : Int) = ((0 : Nat) : Int) from rfl, this]
    simp only [Option.bind_some]
    rw [w_id (by omega)]
    exact ih (l + 1) k (by omega) (by omega)
theorem once_l3 (Fu : Nat) {n : Nat} (hn : 1 ≤ n ∧ n ≤ 4096) (h : 10 ≤ Fu) : ∀ t p k, p + t = fs n (dep n + 1) → t < k → chatelainelaw20_PathOnce_l3 Fu (n : Int) (rep (fs n (dep n + 1)) (fs n (dep n + 1))) k (p : Int) = some (.inr ()) := by
  have hb := dep_b n
  have hf := fs_le hn.1 hn.2 (dep n + 1)
  intro t
  induction t with
  | zero =>
    intro p k hp hk
    obtain ⟨k, rfl⟩ : ∃ m, k = m + 1 := ⟨k - 1, by omega⟩
    rw [chatelainelaw20_PathOnce_l3, if_neg (by rw [rep_len (Nat.le_refl _)]; omega)]
  | succ t ih =>
    intro p k hp hk
    obtain ⟨k, rfl⟩ : ∃ m, k = m + 1 := ⟨k - 1, by omega⟩
    obtain ⟨l, m, i, h1, hm, hi, he, hN⟩ := pNode Fu hn h p (by omega)
    have hx : (rep (fs n (dep n + 1)) (fs n (dep n + 1)))[p]? = some 1 := by
      unfold rep
      rw [List.getElem?_append_left (by simp; omega), List.getElem?_replicate, if_pos (by omega)]
    rw [chatelainelaw20_PathOnce_l3, if_pos (by rw [rep_len (Nat.le_refl _)]; omega), ix_nat (by rw [rep_len (Nat.le_refl _)]; omega)]
    simp only [Option.bind_some]
    rw [hx, hN]
    simp only [Option.bind_some]
    rw [pPlace Fu hn h l m i h1 hm hi]
    simp only [Option.bind_some]
    rw [if_neg (by simp; omega), w_id (by omega)]
    exact ih (p + 1) k (by omega) (by omega)
theorem once_ok (Fu : Nat) {n : Nat} (hn : 1 ≤ n ∧ n ≤ 4096) (h : 100000 ≤ Fu) : chatelainelaw20_PathOnce Fu (n : Int) = some true := by
  have hb := dep_b n
  have hf := fs_le hn.1 hn.2 (dep n + 1)
  have hmk : mkN 8 (fs n (dep n + 1) : Int) = some (fs n (dep n + 1)) := by
    unfold mkN maxLen; rw [if_pos (by omega)]; rfl
  have h0 := once_l0 Fu hn (by omega) (dep n) 0 Fu (by omega) (by omega)
  rw [show fs n (0 + 1) = 0 from fs_one n, show rep (fs n (dep n + 1)) 0 = List.replicate (fs n (dep n + 1)) 0 by simp [rep]] at h0
  have h3 := once_l3 Fu hn (by omega) (fs n (dep n + 1)) 0 Fu (by omega) (by omega)
  have hB := pBelow Fu hn (by omega) 0 (dep n) 0 (by omega) (by rw [cn_dep hn.1 hn.2]; omega)
  have h4 := (cn_one (n := n) (m := dep n) (by omega) hn.1).1 (cn_dep hn.1 hn.2)
  rw [show ((0 : Nat) : Int) = 0 from rfl] at h0 h3 hB
  unfold chatelainelaw20_PathOnce
  simp only [awake20 Fu (by omega), Option.bind_some, Bool.not_true, Bool.false_eq_true, if_false]
  split
  · rfl
  · simp only [pTotal Fu hn (by omega), hmk, pDepth Fu hn (by omega), h0, h3, hB, Option.bind_some]
    rw [if_neg (by simp; omega), Nat.zero_mul, Nat.zero_add, Nat.min_eq_right h4]; simp
theorem once_b (Fu : Nat) (h : 10 ≤ Fu) {a : Int} (ha : ¬ (1 ≤ a ∧ a ≤ 4096)) : chatelainelaw20_PathOnce Fu a = some true := by
  have e0 : chatelainelaw20_PathOnce_l0 Fu a 0 Fu 0 (List.replicate 0 0) = some (.inr []) := by
    obtain ⟨k, hk⟩ : ∃ m, Fu = m + 1 := ⟨Fu - 1, by omega⟩
    conv => lhs; arg 4; rw [hk]
    rw [chatelainelaw20_PathOnce_l0, if_neg (by omega)]; rfl
  have e3 : chatelainelaw20_PathOnce_l3 Fu a [] Fu 0 = some (.inr ()) := by
    obtain ⟨k, hk⟩ : ∃ m, Fu = m + 1 := ⟨Fu - 1, by omega⟩
    conv => lhs; arg 4; rw [hk]
    rw [chatelainelaw20_PathOnce_l3, if_neg (by simp)]
  unfold chatelainelaw20_PathOnce
  simp only [awake20 Fu h, Option.bind_some, Bool.not_true, Bool.false_eq_true, if_false, bTotal Fu ha (by omega), bDepth Fu ha, bBelow Fu ha, show mkN 8 0 = some 0 from rfl, e0, e3]
  rw [if_neg (by simp; omega), if_pos (by simp; omega)]; rfl
theorem chatelainelaw20_PathOnce_true (a0 : Int) (h0 : r64 a0) : ∃ Fu, chatelainelaw20_PathOnce Fu a0 = some true := by
  refine ⟨100000, ?_⟩
  by_cases ha : 1 ≤ a0 ∧ a0 ≤ 4096
  · obtain ⟨n, rfl⟩ : ∃ n : Nat, a0 = (n : Int) := ⟨a0.toNat, by omega⟩
    exact once_ok 100000 (n := n) (by omega) (by omega)
  · exact once_b 100000 (by omega) ha
end Go.Proofs.Ytdahdlidpplllaa
