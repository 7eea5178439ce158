/- Texts put together. -/
import Derived.Test.YtohgmggdfmjgnaaE21C
import Derived.Test.YtohgmggdfmjgnaaPs
set_option linter.unusedVariables false
set_option linter.unusedSimpArgs false
namespace Go.Proofs.Ytohgmggdfmjgnaa
open Go.RowKit
section
theorem cont40_l0 (t : List (List UInt8)) (h : t.length < 250) : ∀ (d k i : Nat), i + d = t.length → d < k →
    ∃ o, slices_IndexFunc_____byte___byte_clo1_28_0_0_l0 300 t k (i : Int) = some o ∧ (match o with | .inl j => 0 ≤ j ∧ (t.drop i).all (fun b => decide (b.length = 40)) = false | .inr _ => (t.drop i).all (fun b => decide (b.length = 40)) = true) := by
  intro d
  induction d with
  | zero =>
    intro k i hi hk
    obtain ⟨k, rfl⟩ : ∃ m, k = m + 1 := ⟨k - 1, by omega⟩
    refine ⟨.inr (), ?_, ?_⟩
    · rw [slices_IndexFunc_____byte___byte_clo1_28_0_0_l0, if_neg (by omega)]
    · dsimp only; rw [List.drop_of_length_le (by omega)]; rfl
  | succ d ih =>
    intro k i hi hk
    obtain ⟨k, rfl⟩ : ∃ m, k = m + 1 := ⟨k - 1, by omega⟩
    have hx : idx t (i : Int) = some t[i] := by rw [idx_nat, List.getElem?_eq_getElem (by omega)]
    rw [slices_IndexFunc_____byte___byte_clo1_28_0_0_l0, if_pos (by omega), List.drop_eq_getElem_cons (by omega)]
    by_cases hb : t[i].length = 40
    · obtain ⟨o, h1, h2⟩ := ih k (i + 1) (by omega) (by omega)
      refine ⟨o, ?_, ?_⟩
      · refine (bnd_eqW hx _).trans ?_
        refine (bnd_eqW (show keytree_Right_1 300 t[i] = some false from by unfold keytree_Right_1; rw [hb]; rfl) _).trans ?_
        rw [if_neg (by decide), w_upC _ (by omega)]
        exact h1
      · rw [List.all_cons, hb]
        cases o with
        | inl j => exact ⟨h2.1, by simpa using h2.2⟩
        | inr u => simpa using h2
    · refine ⟨.inl (i : Int), ?_, ?_⟩
      · refine (bnd_eqW hx _).trans ?_
        refine (bnd_eqW (show keytree_Right_1 300 t[i] = some true from by unfold keytree_Right_1; rw [decide_eq_true (by omega)]) _).trans ?_
        rw [if_pos rfl]
      · exact ⟨by omega, by rw [List.all_cons, decide_eq_false hb]; rfl⟩
theorem cont40 (t : List (List UInt8)) (h : t.length < 250) : slices_ContainsFunc_____byte___byte_clo1_28_0_0 300 t = some (!t.all (fun b => decide (b.length = 40))) := by
  obtain ⟨o, h1, h2⟩ := cont40_l0 t h t.length 300 0 (by omega) (by omega)
  unfold slices_ContainsFunc_____byte___byte_clo1_28_0_0 slices_IndexFunc_____byte___byte_clo1_28_0_0
  rw [List.drop_zero] at h2
  cases o with
  | inl j =>
    refine (bnd_eqW (x := j) ((bnd_eqW h1 _).trans rfl) _).trans ?_
    rw [decide_eq_true h2.1, h2.2]; rfl
  | inr u =>
    refine (bnd_eqW (x := -1) ((bnd_eqW h1 _).trans rfl) _).trans ?_
    dsimp only at h2
    rw [h2]; rfl
theorem cont32_l0 (t : List (List UInt8)) (h : t.length < 250) : ∀ (d k i : Nat), i + d = t.length → d < k →
    ∃ o, slices_IndexFunc_____byte___byte_clo1_43_0_0_l0 300 t k (i : Int) = some o ∧ (match o with | .inl j => 0 ≤ j ∧ (t.drop i).all (fun b => decide (b.length = 32)) = false | .inr _ => (t.drop i).all (fun b => decide (b.length = 32)) = true) := by
  intro d
  induction d with
  | zero =>
    intro k i hi hk
    obtain ⟨k, rfl⟩ : ∃ m, k = m + 1 := ⟨k - 1, by omega⟩
    refine ⟨.inr (), ?_, ?_⟩
    · rw [slices_IndexFunc_____byte___byte_clo1_43_0_0_l0, if_neg (by omega)]
    · dsimp only; rw [List.drop_of_length_le (by omega)]; rfl
  | succ d ih =>
    intro k i hi hk
    obtain ⟨k, rfl⟩ : ∃ m, k = m + 1 := ⟨k - 1, by omega⟩
    have hx : idx t (i : Int) = some t[i] := by rw [idx_nat, List.getElem?_eq_getElem (by omega)]
    rw [slices_IndexFunc_____byte___byte_clo1_43_0_0_l0, if_pos (by omega), List.drop_eq_getElem_cons (by omega)]
    by_cases hb : t[i].length = 32
    · obtain ⟨o, h1, h2⟩ := ih k (i + 1) (by omega) (by omega)
      refine ⟨o, ?_, ?_⟩
      · refine (bnd_eqW hx _).trans ?_
        refine (bnd_eqW (show keytree_keys_1 300 t[i] = some false from by unfold keytree_keys_1; rw [hb]; rfl) _).trans ?_
        rw [if_neg (by decide), w_upC _ (by omega)]
        exact h1
      · rw [List.all_cons, hb]
        cases o with
        | inl j => exact ⟨h2.1, by simpa using h2.2⟩
        | inr u => simpa using h2
    · refine ⟨.inl (i : Int), ?_, ?_⟩
      · refine (bnd_eqW hx _).trans ?_
        refine (bnd_eqW (show keytree_keys_1 300 t[i] = some true from by unfold keytree_keys_1; rw [decide_eq_true (by omega)]) _).trans ?_
        rw [if_pos rfl]
      · exact ⟨by omega, by rw [List.all_cons, decide_eq_false hb]; rfl⟩
theorem cont32 (t : List (List UInt8)) (h : t.length < 250) : slices_ContainsFunc_____byte___byte_clo1_43_0_0 300 t = some (!t.all (fun b => decide (b.length = 32))) := by
  obtain ⟨o, h1, h2⟩ := cont32_l0 t h t.length 300 0 (by omega) (by omega)
  unfold slices_ContainsFunc_____byte___byte_clo1_43_0_0 slices_IndexFunc_____byte___byte_clo1_43_0_0
  rw [List.drop_zero] at h2
  cases o with
  | inl j =>
    refine (bnd_eqW (x := j) ((bnd_eqW h1 _).trans rfl) _).trans ?_
    rw [decide_eq_true h2.1, h2.2]; rfl
  | inr u =>
    refine (bnd_eqW (x := -1) ((bnd_eqW h1 _).trans rfl) _).trans ?_
    dsimp only at h2
    rw [h2]; rfl
/-! right or not -/
theorem kMay (Fu : Nat) {a : Int} (ha : ¬ (1 ≤ a ∧ a ≤ 4096)) : path_may Fu a = some false := by
  unfold path_may
  rw [← Bool.decide_and, decide_eq_false ha]
theorem kDepth0 (Fu : Nat) {a : Int} (ha : ¬ (1 ≤ a ∧ a ≤ 4096)) : path_Depth Fu a = some 0 := by unfold path_Depth; rw [kMay Fu ha]; rfl
theorem kMay_b (Fu : Nat) {a : Int} (ha : ¬ (1 ≤ a ∧ a ≤ 4096)) : chatelaineref20_May Fu a = some false := by
  unfold chatelaineref20_May
  rw [← Bool.decide_and, decide_eq_false ha]
def okT (n : Nat) (t : List (List UInt8)) : Bool := decide (t.length = toK n) && t.all (fun b => decide (b.length = 40))
theorem kFacts {n : Nat} (hn : 1 ≤ n ∧ n ≤ 24) : path_Depth 300 (n : Int) = some (dpK n : Int) ∧ path_Total 300 (n : Int) = some (toK n : Int) ∧ chatelaineref20_May 300 (n : Int) = some true ∧ chatelainelaw21_depth 300 (n : Int) = some (dpK n : Int) ∧
    ((chatelaineref20_Counts 300 (n : Int)).bind fun x4 => chatelainelaw21_right_l0 300 x4 300 (-1) 0) = some (toK n : Int) ∧ goodT n 5 0 0 0 n = true ∧ (placesK n).Nodup ∧ (List.range (toK n)).all (fun q => (placesK n).contains q) = true := by
  obtain ⟨m, rfl⟩ : ∃ m, n = m + 1 := ⟨n - 1, by omega⟩
  exact ⟨depth_all ⟨m, by omega⟩, total_all ⟨m, by omega⟩, may_all ⟨m, by omega⟩, ldepth_all ⟨m, by omega⟩, counts_all ⟨m, by omega⟩, good_all ⟨m, by omega⟩, nodup_all ⟨m, by omega⟩, cover_all ⟨m, by omega⟩⟩
theorem kWay {n i : Nat} (hn : 1 ≤ n ∧ n ≤ 24) (hi : i < n) : path_Path 300 (n : Int) (i : Int) = some (toI (wayK n i)) ∧ chainK (esK n) (wayK n i) 0 0 = some (dpK n, i) := by
  obtain ⟨m, rfl⟩ : ∃ m, n = m + 1 := ⟨n - 1, by omega⟩
  exact ⟨path_all ⟨m, by omega⟩ ⟨i, by omega⟩ hi, chain_all ⟨m, by omega⟩ ⟨i, by omega⟩ hi⟩
theorem wayK_len (n i : Nat) : (wayK n i).length ≤ 3 := by unfold wayK; (repeat' split) <;> simp
theorem dpK_b (n : Nat) : 1 ≤ dpK n ∧ dpK n ≤ 3 := by unfold dpK; (repeat' split) <;> omega
theorem toK_le {n : Nat} (h : n ≤ 24) : n ≤ toK n ∧ toK n ≤ 60 := by unfold toK c1K c2K; (repeat' split) <;> omega
theorem pRight {n : Nat} (hn : 1 ≤ n ∧ n ≤ 24) (t : List (List UInt8)) (ht : t.length < 250) : keytree_Right 300 (n : Int) t = some (okT n t) := by
  obtain ⟨h1, h2, _⟩ := kFacts hn
  have hd := dpK_b n
  unfold keytree_Right okT
  refine (bnd_eqW h1 _).trans ?_
  rw [if_pos (by omega)]
  refine (bnd_eqW (x := decide ((t.length : Int) = (toK n : Int))) ((bnd_eqW h2 _).trans rfl) _).trans ?_
  by_cases h : t.length = toK n
  · rw [if_pos (decide_eq_true (by omega)), decide_eq_true h]
    refine (bnd_eqW (x := t.all (fun b => decide (b.length = 40))) ((bnd_eqW (cont40 t ht) _).trans (by rw [Bool.not_not])) _).trans ?_
    rfl
  · rw [if_neg (by simp; omega), decide_eq_false h]; rfl
theorem rRight_l1 (t : List (List UInt8)) (h : t.length < 250) : ∀ (d k i : Nat), i + d = t.length → d < k →
    chatelainelaw21_right_l1 300 t k (i : Int) = some (if (t.drop i).all (fun b => decide (b.length = 40)) = true then .inr () else .inl false) := by
  intro d
  induction d with
  | zero =>
    intro k i hi hk
    obtain ⟨k, rfl⟩ : ∃ m, k = m + 1 := ⟨k - 1, by omega⟩
    rw [chatelainelaw21_right_l1, if_neg (by omega), List.drop_of_length_le (by omega)]; rfl
  | succ d ih =>
    intro k i hi hk
    obtain ⟨k, rfl⟩ : ∃ m, k = m + 1 := ⟨k - 1, by omega⟩
    have hx : idx t (i : Int) = some t[i] := by rw [idx_nat, List.getElem?_eq_getElem (by omega)]
    rw [chatelainelaw21_right_l1, if_pos (by omega), List.drop_eq_getElem_cons (by omega), List.all_cons]
    refine (bnd_eqW hx _).trans ?_
    by_cases hb : t[i].length = 40
    · rw [if_neg (by omega), w_upC _ (by omega), ih k (i + 1) (by omega) (by omega), hb]; simp
    · rw [if_pos (by omega), decide_eq_false hb]; rfl
theorem rRight {n : Nat} (hn : 1 ≤ n ∧ n ≤ 24) (t : List (List UInt8)) (ht : t.length < 250) : chatelainelaw21_right 300 (n : Int) t = some (okT n t) := by
  obtain ⟨_, _, h3, _, h5, _⟩ := kFacts hn
  unfold chatelainelaw21_right okT
  refine (bnd_eqW h3 _).trans ?_
  rw [if_neg (by simp)]
  cases hc : chatelaineref20_Counts 300 (n : Int) with
  | none => rw [hc] at h5; cases h5
  | some cs =>
    rw [hc] at h5
    refine (bnd_eqW rfl _).trans ?_
    refine (bnd_eqW h5 _).trans ?_
    refine (bnd_eqW (rRight_l1 t ht t.length 300 0 (by omega) (by omega)) _).trans ?_
    rw [List.drop_zero]
    by_cases h : t.all (fun b => decide (b.length = 40)) = true
    · rw [if_pos h, h]
      have : decide ((t.length : Int) = (toK n : Int)) = decide (t.length = toK n) := by by_cases z : t.length = toK n <;> simp [z]; omega
      rw [Bool.and_true, ← this]
    · rw [if_neg h, Bool.eq_false_iff.mpr h, Bool.and_false]
/-! trees -/
structure TreeK (n : Nat) (K : KyT) (t : List (List UInt8)) : Prop where
  len : t.length = toK n
  had : Had K (esK n) t
theorem TreeK.ok {n : Nat} {K : KyT} {t : List (List UInt8)} (hn : 1 ≤ n ∧ n ≤ 24) (hK : ∀ l k, (K l k).length = 32) (h : TreeK n K t) : okT n t = true := by
  obtain ⟨_, _, _, _, _, _, _, hcov⟩ := kFacts hn
  unfold okT
  rw [decide_eq_true h.len, Bool.true_and, List.all_eq_true]
  intro b hb
  obtain ⟨q, hq, rfl⟩ := List.mem_iff_getElem.mp hb
  rw [List.all_eq_true] at hcov
  have hc := hcov q (List.mem_range.mpr (by rw [← h.len]; exact hq))
  rw [List.contains_iff_mem] at hc
  obtain ⟨e, he, rfl⟩ := List.mem_map.mp hc
  have := h.had e he
  rw [List.getElem?_eq_getElem hq] at this
  have hv : t[e.p] = valK K e := Option.some.inj this
  rw [hv, valK, wrapL_40 (.inr (hK _ _)) (hK _ _)]; rfl
theorem pLeaf {n : Nat} {K : KyT} {t : List (List UInt8)} (hn : 1 ≤ n ∧ n ≤ 24) (hK : ∀ l k, (K l k).length = 32) (h : TreeK n K t) {i : Nat} (hi : i < n) : keytree_Leaf 300 (K 0 0) (n : Int) t (i : Int) = some (K (dpK n) i, 0) := by
  have hto := toK_le hn.2
  obtain ⟨w1, w2⟩ := kWay hn hi
  have hwl := wayK_len n i
  unfold keytree_Leaf
  refine (bnd_eqW (pRight hn t (by rw [h.len]; omega)) _).trans ?_
  rw [h.ok hn hK, if_neg (by simp; omega), if_neg (by rw [hK]; decide)]
  refine (bnd_eqW (show slices_Clone___byte_byte 300 (K 0 0) = some (K 0 0) from ?_) _).trans ?_
  · unfold slices_Clone___byte_byte
    exact (bnd_eqW (app1w [] _ (by rw [hK]; simp)) _).trans rfl
  · refine (bnd_eqW w1 _).trans ?_
    refine (bnd_eqW (leaf_l0 hK h.had (all := wayK n i) (by omega) (wayK n i) [] 300 0 0 _ _ rfl w2 (by omega)) _).trans ?_
    rfl
theorem pKeys (seed : List UInt8) (l : List (List UInt8)) (hl : l.length < 250) : keytree_keys 300 seed l = some (decide (0 < seed.length) && l.all (fun b => decide (b.length = 32))) := by
  unfold keytree_keys
  by_cases h : 0 < seed.length
  · rw [if_pos (by omega), decide_eq_true h]
    refine (bnd_eqW (x := l.all (fun b => decide (b.length = 32))) ((bnd_eqW (cont32 l hl) _).trans (by rw [Bool.not_not])) _).trans ?_
    rfl
  · rw [if_neg (by omega), decide_eq_false h]; rfl
/-! a tree that is made -/
def KM (root seed : List UInt8) : KyT := fun l k => if l = 0 then root else frN seed l k
theorem KM_len {root : List UInt8} (hr : root.length = 32) (seed : List UInt8) (l k : Nat) : (KM root seed l k).length = 32 := by
  unfold KM; split
  · exact hr
  · exact frN_len _ _ _
theorem mk24 (n : Nat) (h : n ≤ 1000) : mkN 24 (n : Int) = some n := by unfold mkN maxLen; rw [if_pos (by omega)]; rfl
theorem tree_of {n : Nat} {K : KyT} {out t : List (List UInt8)} (ho : out.length = toK n) (h : Laid K (esK n) out t) : TreeK n K t := ⟨h.len.trans ho, h.had⟩
theorem pMake {n : Nat} (hn : 1 ≤ n ∧ n ≤ 24) {root seed : List UInt8} (hr : root.length = 32) (hs : 1 ≤ seed.length ∧ seed.length ≤ 1000) : ∃ t, keytree_Make 300 root seed (n : Int) = some (t, 0) ∧ TreeK n (KM root seed) t := by
  obtain ⟨h1, h2, _, _, _, h6, h7, _⟩ := kFacts hn
  have hd := dpK_b n
  have hto := toK_le hn.2
  obtain ⟨t, e, L⟩ := layMake n seed (KM root seed) (KM_len hr seed) (fun e E => by
    unfold keytree_Make_1
    refine (bnd_eqW (pFresh seed hs e.l e.k E.l64 E.k64) _).trans ?_
    have := E.l1
    unfold KM
    rw [if_neg (by omega)]) 5 300 0 0 0 n (List.replicate (toK n) []) h6 (by omega) h7 (List.length_replicate)
  refine ⟨t, ?_, tree_of List.length_replicate L⟩
  unfold keytree_Make
  refine (bnd_eqW h1 _).trans ?_
  rw [if_neg (by omega)]
  refine (bnd_eqW (pKeys seed [root] (by simp)) _).trans ?_
  rw [if_neg (by simp [hr]; exact List.ne_nil_of_length_pos (by omega))]
  refine (bnd_eqW (x := t) ?_ _).trans rfl
  unfold keytree_lay_clo2_24_0_1
  refine (bnd_eqW h2 _).trans ?_
  refine (bnd_eqW (mk24 _ (by omega)) _).trans ?_
  exact (bnd_eqW e _).trans rfl
theorem make_arg {a : Int} (ha : ¬ (1 ≤ a ∧ a ≤ 4096)) (root seed : List UInt8) : keytree_Make 300 root seed a = some ([], 2) := by
  unfold keytree_Make
  refine (bnd_eqW (kDepth0 300 ha) _).trans ?_
  rfl
theorem make_key {n : Nat} (hn : 1 ≤ n ∧ n ≤ 24) {root seed : List UInt8} (h : root.length ≠ 32 ∨ seed.length = 0) : keytree_Make 300 root seed (n : Int) = some ([], 20) := by
  obtain ⟨h1, _⟩ := kFacts hn
  have hd := dpK_b n
  unfold keytree_Make
  refine (bnd_eqW h1 _).trans ?_
  rw [if_neg (by omega)]
  refine (bnd_eqW (pKeys seed [root] (by simp)) _).trans ?_
  rw [if_pos]
  rcases h with h | h
  · simp [h]
  · simp [h]
def s1K : List UInt8 := (List.range 32).map fun i => UInt8.ofNat (1 + i)
theorem some_1 : chatelainelaw21_some 300 1 = some s1K := by decide +kernel
theorem awake21 : chatelainelaw21_awake 300 = some true := by
  unfold chatelainelaw21_awake
  refine (bnd_eqW some_1 _).trans ?_
  obtain ⟨t, e, T⟩ := pMake (n := 5) (by omega) (root := s1K) (seed := [2]) (by decide +kernel) (by simp)
  refine (bnd_eqW e _).trans ?_
  have hl : t.length = 7 := T.len
  rw [if_pos (by rw [hl]; rfl)]
  refine (bnd_eqW (x := true) ((bnd_eqW (pRight (n := 5) (by omega) t (by omega)) _).trans (by rw [T.ok (by omega) (KM_len (by decide +kernel) _)])) _).trans rfl
end
section
theorem same32R (a b : List UInt8) (h : a.length ≤ 200) : chatelaineref01_Same 300 a b = some (decide (a = b)) := same8 300 a b (by omega) (by omega)
/-- the keys that are taken along -/
def lvK (root seed : List UInt8) (n c : Nat) : List (List UInt8) := (List.range c).map fun i => KM root seed (dpK n) i
theorem lvK_len (root seed : List UInt8) (n c : Nat) : (lvK root seed n c).length = c := by simp [lvK]
theorem lvK_at {root seed : List UInt8} {n c i : Nat} (h : i < c) : (lvK root seed n c)[i]? = some (frN seed (dpK n) i) := by
  have hd := dpK_b n
  unfold lvK
  rw [List.getElem?_map, List.getElem?_range h]
  show some (KM root seed (dpK n) i) = _
  unfold KM
  rw [if_neg (by omega)]
def KR (m c : Nat) (next other seed : List UInt8) (n : Nat) : KyT := fun l k => if l = 0 then next else if l = dpK m ∧ k < c then frN seed (dpK n) k else frN other l k
theorem KR_len {next : List UInt8} (hr : next.length = 32) (m c : Nat) (other seed : List UInt8) (n l k : Nat) : (KR m c next other seed n l k).length = 32 := by
  unfold KR; (repeat' split)
  · exact hr
  · exact frN_len _ _ _
  · exact frN_len _ _ _
theorem resize_l0 {n c : Nat} (hn : 1 ≤ n ∧ n ≤ 24) (hc : c ≤ n) {root seed : List UInt8} (hr : root.length = 32) {t : List (List UInt8)} (T : TreeK n (KM root seed) t) (m : Int) (hm : mn (n : Int) m = (c : Int)) :
    ∀ (d k i : Nat), i + d = c → d < k → keytree_Resize_l0 300 root (n : Int) t m k (i : Int) (lvK root seed n i) = some (.inr (lvK root seed n c)) := by
  intro d
  induction d with
  | zero =>
    intro k i hi hk
    obtain ⟨k, rfl⟩ : ∃ m, k = m + 1 := ⟨k - 1, by omega⟩
    obtain rfl : i = c := by omega
    rw [keytree_Resize_l0, hm, if_neg (by omega)]
  | succ d ih =>
    intro k i hi hk
    obtain ⟨k, rfl⟩ : ∃ m, k = m + 1 := ⟨k - 1, by omega⟩
    rw [keytree_Resize_l0, hm, if_pos (by omega)]
    refine (bnd_eqW (pLeaf hn (KM_len hr seed) T (i := i) (by omega)) _).trans ?_
    rw [if_neg (by simp)]
    refine (bnd_eqW (app24 _ _ (by rw [lvK_len]; simp; omega)) _).trans ?_
    rw [w_upC _ (by omega)]
    have : lvK root seed n i ++ [KM root seed (dpK n) i] = lvK root seed n (i + 1) := by unfold lvK; rw [List.range_succ, List.map_append]; rfl
    dsimp only
    rw [this]
    exact ih k (i + 1) (by omega) (by omega)
theorem pResize {n m : Nat} (hn : 1 ≤ n ∧ n ≤ 24) (hm : 1 ≤ m ∧ m ≤ 24) {root seed next other : List UInt8} (hr : root.length = 32) (hx : next.length = 32) (hs : 1 ≤ other.length ∧ other.length ≤ 1000) {t : List (List UInt8)} (T : TreeK n (KM root seed) t) :
    ∃ u, keytree_Resize 300 root (n : Int) t (m : Int) next other = some (u, 0) ∧ TreeK m (KR m (min n m) next other seed n) u := by
  obtain ⟨h1, h2, _, _, _, h6, h7, _⟩ := kFacts hm
  have hd := dpK_b m
  have hto := toK_le hm.2
  have hton := toK_le hn.2
  have hok := T.ok hn (KM_len hr seed)
  obtain ⟨u, e, L⟩ := layRes m (m : Int) (lvK root seed n (min n m)) other (KR m (min n m) next other seed n) (KR_len hx m _ other seed n) (fun e E => by
    unfold keytree_Resize_1
    refine (bnd_eqW h1 _).trans ?_
    have := E.l1
    unfold KR
    rw [if_neg (show ¬ e.l = 0 by omega)]
    by_cases hh : e.l = dpK m ∧ e.k < min n m
    · rw [if_pos (by rw [lvK_len]; simp only [Bool.and_eq_true, decide_eq_true_eq]; omega), if_pos hh]
      exact (bnd_eqW ((idx_nat _ _).trans (lvK_at hh.2)) _).trans rfl
    · rw [if_neg (by rw [lvK_len]; simp only [Bool.and_eq_true, decide_eq_true_eq]; omega), if_neg hh]
      exact (bnd_eqW (pFresh other hs e.l e.k E.l64 E.k64) _).trans rfl) 5 300 0 0 0 m (List.replicate (toK m) []) h6 (by omega) h7 (List.length_replicate)
  refine ⟨u, ?_, tree_of List.length_replicate L⟩
  unfold keytree_Resize
  refine (bnd_eqW (pRight hn t (by rw [T.len]; omega)) _).trans ?_
  refine (bnd_eqW (x := false) ?_ _).trans ?_
  · rw [hok, if_neg (by simp)]
    exact (bnd_eqW h1 _).trans (by rw [decide_eq_false (by omega)])
  rw [if_neg (by simp)]
  refine (bnd_eqW (pKeys other [root, next] (by simp)) _).trans ?_
  rw [if_neg (by simp [hr, hx]; exact List.ne_nil_of_length_pos (by omega))]
  refine (bnd_eqW (resize_l0 hn (c := min n m) (by omega) hr T (m : Int) (by rw [mn_min]; omega) (min n m) 300 0 (by omega) (by omega)) _).trans ?_
  dsimp only
  refine (bnd_eqW (x := u) ?_ _).trans rfl
  unfold keytree_lay_clo2_35_0_3
  refine (bnd_eqW h2 _).trans ?_
  refine (bnd_eqW (mk24 _ (by omega)) _).trans ?_
  exact (bnd_eqW e _).trans rfl
theorem resize_arg {n : Nat} (hn : 1 ≤ n ∧ n ≤ 24) {a : Int} (ha : ¬ (1 ≤ a ∧ a ≤ 4096)) (root next other : List UInt8) (t : List (List UInt8)) (ht : t.length < 250) : keytree_Resize 300 root (n : Int) t a next other = some ([], 2) := by
  unfold keytree_Resize
  refine (bnd_eqW (pRight hn t ht) _).trans ?_
  refine (bnd_eqW (x := true) ?_ _).trans ?_
  · split
    · rfl
    · exact (bnd_eqW (kDepth0 300 ha) _).trans rfl
  rw [if_pos rfl]
theorem resize_key {n m : Nat} (hn : 1 ≤ n ∧ n ≤ 24) (hm : 1 ≤ m ∧ m ≤ 24) {root next other : List UInt8} (h : next.length ≠ 32 ∨ other.length = 0) (t : List (List UInt8)) (ht : t.length < 250) (hok : okT n t = true) : keytree_Resize 300 root (n : Int) t (m : Int) next other = some ([], 20) := by
  obtain ⟨h1, _⟩ := kFacts hm
  have hd := dpK_b m
  unfold keytree_Resize
  refine (bnd_eqW (pRight hn t ht) _).trans ?_
  refine (bnd_eqW (x := false) ?_ _).trans ?_
  · rw [hok, if_neg (by simp)]
    exact (bnd_eqW h1 _).trans (by rw [decide_eq_false (by omega)])
  rw [if_neg (by simp)]
  refine (bnd_eqW (pKeys other [root, next] (by simp)) _).trans ?_
  rw [if_pos]
  rcases h with h | h
  · simp [h]
  · simp [h]
theorem resizes_l0 {n m : Nat} (hn : 1 ≤ n ∧ n ≤ 24) (hm : 1 ≤ m ∧ m ≤ 24) {root seed next other : List UInt8} {fr to : Int} (hx : next.length = 32) (hs : 1 ≤ seed.length ∧ seed.length ≤ 1000) (ho : 1 ≤ other.length ∧ other.length ≤ 1000) {u : List (List UInt8)} (T : TreeK m (KR m (min n m) next other seed n) u) :
    ∀ (d k i : Nat), i + d = m → d < k → chatelainelaw21_KeytreeResizes_l0 300 (root, seed, (n : Int), fr, to, next, other, (m : Int)) (u, 0) k (i : Int) = some (.inr ()) := by
  have hdm := dpK_b m
  have hdn := dpK_b n
  obtain ⟨_, _, _, hlm, _⟩ := kFacts hm
  obtain ⟨_, _, _, hln, _⟩ := kFacts hn
  intro d
  induction d with
  | zero =>
    intro k i hi hk
    obtain ⟨k, rfl⟩ : ∃ m, k = m + 1 := ⟨k - 1, by omega⟩
    rw [chatelainelaw21_KeytreeResizes_l0, if_neg (by dsimp only; omega)]
  | succ d ih =>
    intro k i hi hk
    obtain ⟨k, rfl⟩ : ∃ m, k = m + 1 := ⟨k - 1, by omega⟩
    rw [chatelainelaw21_KeytreeResizes_l0, if_pos (by dsimp only; omega)]
    dsimp only
    have hl := pLeaf hm (KR_len hx m _ other seed n) T (i := i) (by omega)
    have h0 : KR m (min n m) next other seed n 0 0 = next := rfl
    rw [h0] at hl
    refine (bnd_eqW hl _).trans ?_
    refine (bnd_eqW hlm _).trans ?_
    refine (bnd_eqW (rFresh other ho (dpK m) i (by omega) (by omega)) _).trans ?_
    refine (bnd_eqW (x := KR m (min n m) next other seed n (dpK m) i) ?_ _).trans ?_
    · unfold KR
      rw [if_neg (show ¬ dpK m = 0 by omega)]
      by_cases hh : i < n
      · rw [if_pos (by omega), if_pos (by omega)]
        refine (bnd_eqW hln _).trans ?_
        exact (bnd_eqW (rFresh seed hs (dpK n) i (by omega) (by omega)) _).trans rfl
      · rw [if_neg (by omega), if_neg (by omega)]
    refine (bnd_eqW (x := false) ?_ _).trans ?_
    · rw [if_neg (by simp)]
      exact (bnd_eqW (same32R _ _ (by rw [KR_len hx]; omega)) _).trans (by simp)
    rw [if_neg (by simp), w_upC _ (by omega)]
    exact ih k (i + 1) (by omega) (by omega)
theorem chatelainelaw21_KeytreeResizes_true (x : List UInt8 × List UInt8 × Int × Int × Int × List UInt8 × List UInt8 × Int) (hx : ∃ a b, (tyP (tyL ty8) (tyP (tyL ty8) (tyP tyI (tyP tyI (tyP tyI (tyP (tyL ty8) (tyP (tyL ty8) tyI))))))).rep a b x) : ∃ Fu, chatelainelaw21_KeytreeResizes Fu x = some true := by
  obtain ⟨root, seed, a, fr, to, next, other, b⟩ := x
  refine ⟨300, ?_⟩
  unfold chatelainelaw21_KeytreeResizes
  refine (bnd_eqW awake21 _).trans ?_
  rw [if_neg (by decide)]
  refine (bnd_eqW (by unfold chatelainelaw21_few; rfl) _).trans ?_
  dsimp only
  split
  · rfl
  · rename_i hg
    simp only [Bool.not_eq_true', Bool.not_eq_false, Bool.and_eq_true, decide_eq_true_eq] at hg
    by_cases ha : 1 ≤ a ∧ a ≤ 4096
    · obtain ⟨n, rfl⟩ : ∃ n : Nat, a = (n : Int) := ⟨a.toNat, by omega⟩
      have hn : 1 ≤ n ∧ n ≤ 24 := by omega
      by_cases hrs : root.length ≠ 32 ∨ seed.length = 0
      · refine (bnd_eqW (make_key hn hrs) _).trans ?_
        rfl
      · have hr : root.length = 32 := by omega
        have hs : 1 ≤ seed.length ∧ seed.length ≤ 1000 := by omega
        obtain ⟨t, e, T⟩ := pMake hn hr hs
        have hok := T.ok hn (KM_len hr seed)
        have hto := toK_le hn.2
        have htl := T.len
        refine (bnd_eqW e _).trans ?_
        rw [if_neg (by simp)]
        by_cases hb : 1 ≤ b ∧ b ≤ 4096
        · obtain ⟨m, rfl⟩ : ∃ m : Nat, b = (m : Int) := ⟨b.toNat, by omega⟩
          have hm : 1 ≤ m ∧ m ≤ 24 := by omega
          obtain ⟨_, _, hmay, _⟩ := kFacts hm
          by_cases hno : next.length ≠ 32 ∨ other.length = 0
          · refine (bnd_eqW (resize_key hn hm hno t (by omega) hok) _).trans ?_
            refine (bnd_eqW hmay _).trans ?_
            rw [if_neg (by simp), if_pos (by simp only [Bool.or_eq_true, decide_eq_true_eq]; omega)]
            rfl
          · have hx32 : next.length = 32 := by omega
            have ho : 1 ≤ other.length ∧ other.length ≤ 1000 := by omega
            obtain ⟨u, e2, U⟩ := pResize hn hm hr hx32 ho T
            have hok2 := U.ok hm (KR_len hx32 m _ other seed n)
            have htom := toK_le hm.2
            have hul := U.len
            refine (bnd_eqW e2 _).trans ?_
            refine (bnd_eqW hmay _).trans ?_
            rw [if_neg (by simp), if_neg (by simp only [Bool.or_eq_true, decide_eq_true_eq]; omega)]
            refine (bnd_eqW (x := false) ?_ _).trans ?_
            · rw [if_neg (by simp)]
              exact (bnd_eqW (rRight hm u (by omega)) _).trans (by rw [hok2]; rfl)
            rw [if_neg (by simp)]
            refine (bnd_eqW (resizes_l0 hn hm hx32 hs ho U m 300 0 (by omega) (by omega)) _).trans ?_
            rfl
        · refine (bnd_eqW (resize_arg hn hb root next other t (by omega)) _).trans ?_
          refine (bnd_eqW (kMay_b 300 hb) _).trans ?_
          rw [if_pos (by simp)]
          rfl
    · refine (bnd_eqW (make_arg ha root seed) _).trans ?_
      rfl
end
end Go.Proofs.Ytohgmggdfmjgnaa
