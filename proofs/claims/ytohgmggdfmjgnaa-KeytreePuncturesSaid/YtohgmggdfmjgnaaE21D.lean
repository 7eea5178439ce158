/- Trees of keys: right or not, keys that may be, leaves, trees that are made (law 21). -/
import Derived.Test.YtohgmggdfmjgnaaE21C
set_option linter.unusedVariables false
set_option linter.unusedSimpArgs false
namespace Go.Proofs.Ytohgmggdfmjgnaa
open Go.RowKit
theorem cont40_l0 (t : List (List UInt8)) (h : t.length < 250) : ∀ (d k i : Nat), i + d = t.length → d < k →
    ∃ o, slices_IndexFunc_____byte___byte_clo1_28_0_0_l0 300 t k (i : Int) = some o ∧ (match o with | .inl j => 0 ≤ j ∧ (t.drop i).all (fun b => decide (b.length = 40)) = false | .inr _ => (t.drop i).all (fun b => decide (b.length = 40)) = true) := by
  intro d
  induction d with
  | zero =>
    intro k i hi hk
    obtain ⟨k, rfl⟩ : ∃ m, k = m + 1 := ⟨k - 1, by omega⟩
    refine ⟨.inr (), ?_, ?_⟩
    · rw [slices_IndexFunc_____byte___byte_clo1_28_0_0_l0, if_neg (by omega)]
    · dsimp only; rw [List.drop_of_length_le (by omega)]; rfl
  | succ d ih =>
    intro k i hi hk
    obtain ⟨k, rfl⟩ : ∃ m, k = m + 1 := ⟨k - 1, by omega⟩
    have hx : idx t (i : Int) = some t[i] := by rw [idx_nat, List.getElem?_eq_getElem (by omega)]
    rw [slices_IndexFunc_____byte___byte_clo1_28_0_0_l0, if_pos (by omega), List.drop_eq_getElem_cons (by omega)]
    by_cases hb : t[i].length = 40
    · obtain ⟨o, h1, h2⟩ := ih k (i + 1) (by omega) (by omega)
      refine ⟨o, ?_, ?_⟩
      · refine (bnd_eqW hx _).trans ?_
        refine (bnd_eqW (show keytree_Right_1 300 t[i] = some false from by unfold keytree_Right_1; rw [hb]; rfl) _).trans ?_
        rw [if_neg (by decide), w_upC _ (by omega)]
        exact h1
      · rw [List.all_cons, hb]
        cases o with
        | inl j => exact ⟨h2.1, by simpa using h2.2⟩
        | inr u => simpa using h2
    · refine ⟨.inl (i : Int), ?_, ?_⟩
      · refine (bnd_eqW hx _).trans ?_
        refine (bnd_eqW (show keytree_Right_1 300 t[i] = some true from by unfold keytree_Right_1; rw [decide_eq_true (by omega)]) _).trans ?_
        rw [if_pos rfl]
      · exact ⟨by omega, by rw [List.all_cons, decide_eq_false hb]; rfl⟩
theorem cont40 (t : List (List UInt8)) (h : t.length < 250) : slices_ContainsFunc_____byte___byte_clo1_28_0_0 300 t = some (!t.all (fun b => decide (b.length = 40))) := by
  obtain ⟨o, h1, h2⟩ := cont40_l0 t h t.length 300 0 (by omega) (by omega)
  unfold slices_ContainsFunc_____byte___byte_clo1_28_0_0 slices_IndexFunc_____byte___byte_clo1_28_0_0
  rw [List.drop_zero] at h2
  cases o with
  | inl j =>
    refine (bnd_eqW (x := j) ((bnd_eqW h1 _).trans rfl) _).trans ?_
    rw [decide_eq_true h2.1, h2.2]; rfl
  | inr u =>
    refine (bnd_eqW (x := -1) ((bnd_eqW h1 _).trans rfl) _).trans ?_
    dsimp only at h2
    rw [h2]; rfl
theorem cont32_l0 (t : List (List UInt8)) (h : t.length < 250) : ∀ (d k i : Nat), i + d = t.length → d < k →
    ∃ o, slices_IndexFunc_____byte___byte_clo1_43_0_0_l0 300 t k (i : Int) = some o ∧ (match o with | .inl j => 0 ≤ j ∧ (t.drop i).all (fun b => decide (b.length = 32)) = false | .inr _ => (t.drop i).all (fun b => decide (b.length = 32)) = true) := by
  intro d
  induction d with
  | zero =>
    intro k i hi hk
    obtain ⟨k, rfl⟩ : ∃ m, k = m + 1 := ⟨k - 1, by omega⟩
    refine ⟨.inr (), ?_, ?_⟩
    · rw [slices_IndexFunc_____byte___byte_clo1_43_0_0_l0, if_neg (by omega)]
    · dsimp only; rw [List.drop_of_length_le (by omega)]; rfl
  | succ d ih =>
    intro k i hi hk
    obtain ⟨k, rfl⟩ : ∃ m, k = m + 1 := ⟨k - 1, by omega⟩
    have hx : idx t (i : Int) = some t[i] := by rw [idx_nat, List.getElem?_eq_getElem (by omega)]
    rw [slices_IndexFunc_____byte___byte_clo1_43_0_0_l0, if_pos (by omega), List.drop_eq_getElem_cons (by omega)]
    by_cases hb : t[i].length = 32
    · obtain ⟨o, h1, h2⟩ := ih k (i + 1) (by omega) (by omega)
      refine ⟨o, ?_, ?_⟩
      · refine (bnd_eqW hx _).trans ?_
        refine (bnd_eqW (show keytree_keys_1 300 t[i] = some false from by unfold keytree_keys_1; rw [hb]; rfl) _).trans ?_
        rw [if_neg (by decide), w_upC _ (by omega)]
        exact h1
      · rw [List.all_cons, hb]
        cases o with
        | inl j => exact ⟨h2.1, by simpa using h2.2⟩
        | inr u => simpa using h2
    · refine ⟨.inl (i : Int), ?_, ?_⟩
      · refine (bnd_eqW hx _).trans ?_
        refine (bnd_eqW (show keytree_keys_1 300 t[i] = some true from by unfold keytree_keys_1; rw [decide_eq_true (by omega)]) _).trans ?_
        rw [if_pos rfl]
      · exact ⟨by omega, by rw [List.all_cons, decide_eq_false hb]; rfl⟩
theorem cont32 (t : List (List UInt8)) (h : t.length < 250) : slices_ContainsFunc_____byte___byte_clo1_43_0_0 300 t = some (!t.all (fun b => decide (b.length = 32))) := by
  obtain ⟨o, h1, h2⟩ := cont32_l0 t h t.length 300 0 (by omega) (by omega)
  unfold slices_ContainsFunc_____byte___byte_clo1_43_0_0 slices_IndexFunc_____byte___byte_clo1_43_0_0
  rw [List.drop_zero] at h2
  cases o with
  | inl j =>
    refine (bnd_eqW (x := j) ((bnd_eqW h1 _).trans rfl) _).trans ?_
    rw [decide_eq_true h2.1, h2.2]; rfl
  | inr u =>
    refine (bnd_eqW (x := -1) ((bnd_eqW h1 _).trans rfl) _).trans ?_
    dsimp only at h2
    rw [h2]; rfl
/-! right or not -/
theorem kMay (Fu : Nat) {a : Int} (ha : ¬ (1 ≤ a ∧ a ≤ 4096)) : path_may Fu a = some false := by
  unfold path_may
  rw [← Bool.decide_and, decide_eq_false ha]
theorem kDepth0 (Fu : Nat) {a : Int} (ha : ¬ (1 ≤ a ∧ a ≤ 4096)) : path_Depth Fu a = some 0 := by unfold path_Depth; rw [kMay Fu ha]; rfl
def okT (n : Nat) (t : List (List UInt8)) : Bool := decide (t.length = toK n) && t.all (fun b => decide (b.length = 40))
theorem kFacts {n : Nat} (hn : 1 ≤ n ∧ n ≤ 24) : path_Depth 300 (n : Int) = some (dpK n : Int) ∧ path_Total 300 (n : Int) = some (toK n : Int) ∧ chatelaineref20_May 300 (n : Int) = some true ∧ chatelainelaw21_depth 300 (n : Int) = some (dpK n : Int) ∧
    ((chatelaineref20_Counts 300 (n : Int)).bind fun x4 => chatelainelaw21_right_l0 300 x4 300 (-1) 0) = some (toK n : Int) ∧ goodT n 5 0 0 0 n = true ∧ (placesK n).Nodup ∧ (List.range (toK n)).all (fun q => (placesK n).contains q) = true := by
  obtain ⟨m, rfl⟩ : ∃ m, n = m + 1 := ⟨n - 1, by omega⟩
  exact ⟨depth_all ⟨m, by omega⟩, total_all ⟨m, by omega⟩, may_all ⟨m, by omega⟩, ldepth_all ⟨m, by omega⟩, counts_all ⟨m, by omega⟩, good_all ⟨m, by omega⟩, nodup_all ⟨m, by omega⟩, cover_all ⟨m, by omega⟩⟩
theorem kWay {n i : Nat} (hn : 1 ≤ n ∧ n ≤ 24) (hi : i < n) : path_Path 300 (n : Int) (i : Int) = some (toI (wayK n i)) ∧ chainK (esK n) (wayK n i) 0 0 = some (dpK n, i) := by
  obtain ⟨m, rfl⟩ : ∃ m, n = m + 1 := ⟨n - 1, by omega⟩
  exact ⟨path_all ⟨m, by omega⟩ ⟨i, by omega⟩ hi, chain_all ⟨m, by omega⟩ ⟨i, by omega⟩ hi⟩
theorem wayK_len (n i : Nat) : (wayK n i).length ≤ 3 := by unfold wayK; (repeat' split) <;> simp
theorem dpK_b (n : Nat) : 1 ≤ dpK n ∧ dpK n ≤ 3 := by unfold dpK; (repeat' split) <;> omega
theorem toK_le {n : Nat} (h : n ≤ 24) : n ≤ toK n ∧ toK n ≤ 60 := by unfold toK c1K c2K; (repeat' split) <;> omega
theorem pRight {n : Nat} (hn : 1 ≤ n ∧ n ≤ 24) (t : List (List UInt8)) (ht : t.length < 250) : keytree_Right 300 (n : Int) t = some (okT n t) := by
  obtain ⟨h1, h2, _⟩ := kFacts hn
  have hd := dpK_b n
  unfold keytree_Right okT
  refine (bnd_eqW h1 _).trans ?_
  rw [if_pos (by omega)]
  refine (bnd_eqW (x := decide ((t.length : Int) = (toK n : Int))) ((bnd_eqW h2 _).trans rfl) _).trans ?_
  by_cases h : t.length = toK n
  · rw [if_pos (decide_eq_true (by omega)), decide_eq_true h]
    refine (bnd_eqW (x := t.all (fun b => decide (b.length = 40))) ((bnd_eqW (cont40 t ht) _).trans (by rw [Bool.not_not])) _).trans ?_
    rfl
  · rw [if_neg (by simp; omega), decide_eq_false h]; rfl
theorem rRight_l1 (t : List (List UInt8)) (h : t.length < 250) : ∀ (d k i : Nat), i + d = t.length → d < k →
    chatelainelaw21_right_l1 300 t k (i : Int) = some (if (t.drop i).all (fun b => decide (b.length = 40)) = true then .inr () else .inl false) := by
  intro d
  induction d with
  | zero =>
    intro k i hi hk
    obtain ⟨k, rfl⟩ : ∃ m, k = m + 1 := ⟨k - 1, by omega⟩
    rw [chatelainelaw21_right_l1, if_neg (by omega), List.drop_of_length_le (by omega)]; rfl
  | succ d ih =>
    intro k i hi hk
    obtain ⟨k, rfl⟩ : ∃ m, k = m + 1 := ⟨k - 1, by omega⟩
    have hx : idx t (i : Int) = some t[i] := by rw [idx_nat, List.getElem?_eq_getElem (by omega)]
    rw [chatelainelaw21_right_l1, if_pos (by omega), List.drop_eq_getElem_cons (by omega), List.all_cons]
    refine (bnd_eqW hx _).trans ?_
    by_cases hb : t[i].length = 40
    · rw [if_neg (by omega), w_upC _ (by omega), ih k (i + 1) (by omega) (by omega), hb]; simp
    · rw [if_pos (by omega), decide_eq_false hb]; rfl
theorem rRight {n : Nat} (hn : 1 ≤ n ∧ n ≤ 24) (t : List (List UInt8)) (ht : t.length < 250) : chatelainelaw21_right 300 (n : Int) t = some (okT n t) := by
  obtain ⟨_, _, h3, _, h5, _⟩ := kFacts hn
  unfold chatelainelaw21_right okT
  refine (bnd_eqW h3 _).trans ?_
  rw [if_neg (by simp)]
  cases hc : chatelaineref20_Counts 300 (n : Int) with
  | none => rw [hc] at h5; cases h5
  | some cs =>
    rw [hc] at h5
    refine (bnd_eqW rfl _).trans ?_
    refine (bnd_eqW h5 _).trans ?_
    refine (bnd_eqW (rRight_l1 t ht t.length 300 0 (by omega) (by omega)) _).trans ?_
    rw [List.drop_zero]
    by_cases h : t.all (fun b => decide (b.length = 40)) = true
    · rw [if_pos h, h]
      have : decide ((t.length : Int) = (toK n : Int)) = decide (t.length = toK n) := by by_cases z : t.length = toK n <;> simp [z]; omega
      rw [Bool.and_true, ← this]
    · rw [if_neg h, Bool.eq_false_iff.mpr h, Bool.and_false]
/-! trees -/
structure TreeK (n : Nat) (K : KyT) (t : List (List UInt8)) : Prop where
  len : t.length = toK n
  had : Had K (esK n) t
theorem TreeK.ok {n : Nat} {K : KyT} {t : List (List UInt8)} (hn : 1 ≤ n ∧ n ≤ 24) (hK : ∀ l k, (K l k).length = 32) (h : TreeK n K t) : okT n t = true := by
  obtain ⟨_, _, _, _, _, _, _, hcov⟩ := kFacts hn
  unfold okT
  rw [decide_eq_true h.len, Bool.true_and, List.all_eq_true]
  intro b hb
  obtain ⟨q, hq, rfl⟩ := List.mem_iff_getElem.mp hb
  rw [List.all_eq_true] at hcov
  have hc := hcov q (List.mem_range.mpr (by rw [← h.len]; exact hq))
  rw [List.contains_iff_mem] at hc
  obtain ⟨e, he, rfl⟩ := List.mem_map.mp hc
  have := h.had e he
  rw [List.getElem?_eq_getElem hq] at this
  have hv : t[e.p] = valK K e := Option.some.inj this
  rw [hv, valK, wrapL_40 (.inr (hK _ _)) (hK _ _)]; rfl
theorem pLeaf {n : Nat} {K : KyT} {t : List (List UInt8)} (hn : 1 ≤ n ∧ n ≤ 24) (hK : ∀ l k, (K l k).length = 32) (h : TreeK n K t) {i : Nat} (hi : i < n) : keytree_Leaf 300 (K 0 0) (n : Int) t (i : Int) = some (K (dpK n) i, 0) := by
  have hto := toK_le hn.2
  obtain ⟨w1, w2⟩ := kWay hn hi
  have hwl := wayK_len n i
  unfold keytree_Leaf
  refine (bnd_eqW (pRight hn t (by rw [h.len]; omega)) _).trans ?_
  rw [h.ok hn hK, if_neg (by simp; omega), if_neg (by rw [hK]; decide)]
  refine (bnd_eqW (show slices_Clone___byte_byte 300 (K 0 0) = some (K 0 0) from ?_) _).trans ?_
  · unfold slices_Clone___byte_byte
    exact (bnd_eqW (app1w [] _ (by rw [hK]; simp)) _).trans rfl
  · refine (bnd_eqW w1 _).trans ?_
    refine (bnd_eqW (leaf_l0 hK h.had (all := wayK n i) (by omega) (wayK n i) [] 300 0 0 _ _ rfl w2 (by omega)) _).trans ?_
    rfl
theorem pKeys (seed : List UInt8) (l : List (List UInt8)) (hl : l.length < 250) : keytree_keys 300 seed l = some (decide (0 < seed.length) && l.all (fun b => decide (b.length = 32))) := by
  unfold keytree_keys
  by_cases h : 0 < seed.length
  · rw [if_pos (by omega), decide_eq_true h]
    refine (bnd_eqW (x := l.all (fun b => decide (b.length = 32))) ((bnd_eqW (cont32 l hl) _).trans (by rw [Bool.not_not])) _).trans ?_
    rfl
  · rw [if_neg (by omega), decide_eq_false h]; rfl
/-! a tree that is made -/
def KM (root seed : List UInt8) : KyT := fun l k => if l = 0 then root else frN seed l k
theorem KM_len {root : List UInt8} (hr : root.length = 32) (seed : List UInt8) (l k : Nat) : (KM root seed l k).length = 32 := by
  unfold KM; split
  · exact hr
  · exact frN_len _ _ _
theorem mk24 (n : Nat) (h : n ≤ 1000) : mkN 24 (n : Int) = some n := by unfold mkN maxLen; rw [if_pos (by omega)]; rfl
theorem tree_of {n : Nat} {K : KyT} {out t : List (List UInt8)} (ho : out.length = toK n) (h : Laid K (esK n) out t) : TreeK n K t := ⟨h.len.trans ho, h.had⟩
theorem pMake {n : Nat} (hn : 1 ≤ n ∧ n ≤ 24) {root seed : List UInt8} (hr : root.length = 32) (hs : 1 ≤ seed.length ∧ seed.length ≤ 1000) : ∃ t, keytree_Make 300 root seed (n : Int) = some (t, 0) ∧ TreeK n (KM root seed) t := by
  obtain ⟨h1, h2, _, _, _, h6, h7, _⟩ := kFacts hn
  have hd := dpK_b n
  have hto := toK_le hn.2
  obtain ⟨t, e, L⟩ := layMake n seed (KM root seed) (KM_len hr seed) (fun e E => by
    unfold keytree_Make_1
    refine (bnd_eqW (pFresh seed hs e.l e.k E.l64 E.k64) _).trans ?_
    have := E.l1
    unfold KM
    rw [if_neg (by omega)]) 5 300 0 0 0 n (List.replicate (toK n) []) h6 (by omega) h7 (List.length_replicate)
  refine ⟨t, ?_, tree_of List.length_replicate L⟩
  unfold keytree_Make
  refine (bnd_eqW h1 _).trans ?_
  rw [if_neg (by omega)]
  refine (bnd_eqW (pKeys seed [root] (by simp)) _).trans ?_
  rw [if_neg (by simp [hr]; exact List.ne_nil_of_length_pos (by omega))]
  refine (bnd_eqW (x := t) ?_ _).trans rfl
  unfold keytree_lay_clo2_24_0_1
  refine (bnd_eqW h2 _).trans ?_
  refine (bnd_eqW (mk24 _ (by omega)) _).trans ?_
  exact (bnd_eqW e _).trans rfl
theorem make_arg {a : Int} (ha : ¬ (1 ≤ a ∧ a ≤ 4096)) (root seed : List UInt8) : keytree_Make 300 root seed a = some ([], 2) := by
  unfold keytree_Make
  refine (bnd_eqW (kDepth0 300 ha) _).trans ?_
  rfl
theorem make_key {n : Nat} (hn : 1 ≤ n ∧ n ≤ 24) {root seed : List UInt8} (h : root.length ≠ 32 ∨ seed.length = 0) : keytree_Make 300 root seed (n : Int) = some ([], 20) := by
  obtain ⟨h1, _⟩ := kFacts hn
  have hd := dpK_b n
  unfold keytree_Make
  refine (bnd_eqW h1 _).trans ?_
  rw [if_neg (by omega)]
  refine (bnd_eqW (pKeys seed [root] (by simp)) _).trans ?_
  rw [if_pos]
  rcases h with h | h
  · simp [h]
  · simp [h]
def s1K : List UInt8 := (List.range 32).map fun i => UInt8.ofNat (1 + i)
theorem some_1 : chatelainelaw21_some 300 1 = some s1K := by decide +kernel
theorem awake21 : chatelainelaw21_awake 300 = some true := by
  unfold chatelainelaw21_awake
  refine (bnd_eqW some_1 _).trans ?_
  obtain ⟨t, e, T⟩ := pMake (n := 5) (by omega) (root := s1K) (seed := [2]) (by decide +kernel) (by simp)
  refine (bnd_eqW e _).trans ?_
  have hl : t.length = 7 := T.len
  rw [if_pos (by rw [hl]; rfl)]
  refine (bnd_eqW (x := true) ((bnd_eqW (pRight (n := 5) (by omega) t (by omega)) _).trans (by rw [T.ok (by omega) (KM_len (by decide +kernel) _)])) _).trans rfl
end Go.Proofs.Ytohgmggdfmjgnaa
