/- KeytreeTold. -/
import Derived.Test.YtohgmggdfmjgnaaE21D
import Derived.Test.YtohgmggdfmjgnaaPs
set_option linter.unusedVariables false
set_option linter.unusedSimpArgs false
namespace Go.Proofs.Ytohgmggdfmjgnaa
open Go.RowKit
theorem same32T (a b : List UInt8) (h : a.length ≤ 200) : chatelaineref01_Same 300 a b = some (decide (a = b)) := same8 300 a b (by omega) (by omega)
theorem below_all : ∀ m : Fin 20, ∀ i : Fin 20, i.val < m.val + 1 → ∀ p : Fin 28, p.val < toK (m.val + 1) →
    chatelainelaw21_KeytreeTold_l2 300 ((m.val + 1 : Nat) : Int) (p.val : Int) 300 false (dpK (m.val + 1) : Int) (i.val : Int) = some (decide (p.val ∈ wayK (m.val + 1) i.val)) := by decide +kernel
theorem toK28 {n : Nat} (h : n ≤ 20) : toK n ≤ 28 := by unfold toK c1K c2K; (repeat' split) <;> omega
theorem wayK_lt {n i : Nat} (hi : i < n) : ∀ x ∈ wayK n i, x < toK n := by
  intro x hx
  unfold wayK at hx
  unfold toK c1K c2K at *
  (repeat' split at hx) <;> simp at hx <;> (repeat' split) <;> omega
/-- a leaf whose way was left alone -/
theorem leaf_off {K : KyT} (hK : ∀ l k, (K l k).length = 32) {tree : List (List UInt8)} {es : List Nd} {all : List Nat} (hT : ∀ e ∈ es, e.p ∈ all → tree[e.p]? = some (valK K e)) (ha : all.length < 100) :
    ∀ (ps pre : List Nat) (k l i L I : Nat), all = pre ++ ps → chainK es ps l i = some (L, I) → ps.length < k → keytree_Leaf_l0 300 tree (toI all) k (K l i) (pre.length : Int) = some (.inr (K L I)) := by
  intro ps
  induction ps with
  | nil =>
    intro pre k l i L I hp hc hk
    obtain ⟨k, rfl⟩ : ∃ m, k = m + 1 := ⟨k - 1, by omega⟩
    rw [keytree_Leaf_l0, if_neg (by rw [toI_len, hp]; simp)]
    rw [chainK] at hc
    cases hc
    rfl
  | cons p ps ih =>
    intro pre k l i L I hp hc hk
    obtain ⟨k, rfl⟩ : ∃ m, k = m + 1 := ⟨k - 1, by omega⟩
    rw [chainK] at hc
    cases hf : es.find? (fun e => e.p == p && e.pl == l && e.pi == i) with
    | none => rw [hf] at hc; cases hc
    | some e =>
      rw [hf] at hc
      dsimp only at hc
      have he := List.find?_some hf
      simp only [Bool.and_eq_true, beq_iff_eq] at he
      obtain ⟨⟨e1, e2⟩, e3⟩ := he
      have hm := List.mem_of_find?_eq_some hf
      have ht := hT e hm (by rw [e1, hp]; simp)
      rw [e1, valK, e2, e3] at ht
      have hlt : pre.length < (toI all).length := by rw [toI_len, hp]; simp
      rw [keytree_Leaf_l0, if_pos (by omega)]
      refine (bnd_eqW (ix_nat hlt) _).trans ?_
      refine (bnd_eqW (toI_at (x := p) (by rw [hp]; simp)) _).trans ?_
      refine (bnd_eqW ((idx_nat _ _).trans ht) _).trans ?_
      refine (bnd_eqW (unwrap32 (hK _ _) (hK _ _)) _).trans ?_
      rw [if_neg (by simp), w_upC _ (by rw [toI_len] at hlt; omega), show pre.length + 1 = (pre ++ [p]).length by simp]
      exact ih (pre ++ [p]) k e.l e.k L I (by rw [hp]; simp) hc (by simp at hk; omega)
/-- any leaf: a key, or it is told -/
theorem leaf_any {tree : List (List UInt8)} (h40 : ∀ b ∈ tree, b.length = 40) {all : List Nat} (hlt : ∀ x ∈ all, x < tree.length) (ha : all.length < 100) :
    ∀ (ps pre : List Nat) (k : Nat) (key : List UInt8), key.length = 32 → all = pre ++ ps → ps.length < k → ∃ r, keytree_Leaf_l0 300 tree (toI all) k key (pre.length : Int) = some r ∧ (r = .inl ([], 21) ∨ ∃ y, r = .inr y) := by
  intro ps
  induction ps with
  | nil =>
    intro pre k key hkey hp hk
    obtain ⟨k, rfl⟩ : ∃ m, k = m + 1 := ⟨k - 1, by omega⟩
    rw [keytree_Leaf_l0, if_neg (by rw [toI_len, hp]; simp)]
    exact ⟨_, rfl, .inr ⟨_, rfl⟩⟩
  | cons p ps ih =>
    intro pre k key hkey hp hk
    obtain ⟨k, rfl⟩ : ∃ m, k = m + 1 := ⟨k - 1, by omega⟩
    have hpl := hlt p (by rw [hp]; simp)
    have hl : pre.length < (toI all).length := by rw [toI_len, hp]; simp
    obtain ⟨x, hu, hx⟩ := unwrapAny hkey (h40 _ (List.getElem_mem hpl))
    rw [keytree_Leaf_l0, if_pos (by omega)]
    have pre_eq : ∀ (f : List UInt8 × Int → Option (Sum (List UInt8 × Int) (List UInt8))), ((ix (toI all).length (pre.length : Int)).bind fun m49 => ((toI all)[m49]?).bind fun x55 => (idx tree x55).bind fun x62 => (wrap_Unwrap 300 key x62).bind f) = f x := fun f => by
      refine (bnd_eqW (ix_nat hl) _).trans ?_
      refine (bnd_eqW (toI_at (x := p) (by rw [hp]; simp)) _).trans ?_
      refine (bnd_eqW ((idx_nat _ _).trans (List.getElem?_eq_getElem hpl)) _).trans ?_
      exact bnd_eqW hu _
    rw [pre_eq]
    rcases hx with rfl | ⟨h0, h32⟩
    · exact ⟨_, rfl, .inl rfl⟩
    · obtain ⟨r, h1, h2⟩ := ih (pre ++ [p]) k x.1 h32 (by rw [hp]; simp) (by simp at hk; omega)
      refine ⟨r, ?_, h2⟩
      rw [if_neg (by omega), w_upC _ (by rw [toI_len] at hl; omega), show pre.length + 1 = (pre ++ [p]).length by simp]
      exact h1
theorem pLeafGo {n : Nat} (hn : 1 ≤ n ∧ n ≤ 24) {root : List UInt8} (hr : root.length = 32) {t : List (List UInt8)} (ht : t.length < 250) (hok : okT n t = true) {i : Nat} (hi : i < n) :
    keytree_Leaf 300 root (n : Int) t (i : Int) = (keytree_Leaf_l0 300 t (toI (wayK n i)) 300 root 0).bind fun o => match o with | .inl r88 => some r88 | .inr x43 => some (x43, 0) := by
  obtain ⟨w1, _⟩ := kWay hn hi
  unfold keytree_Leaf
  refine (bnd_eqW (pRight hn t ht) _).trans ?_
  rw [hok, if_neg (by simp; omega), if_neg (by omega)]
  refine (bnd_eqW (show slices_Clone___byte_byte 300 root = some root from ?_) _).trans ?_
  · unfold slices_Clone___byte_byte
    exact (bnd_eqW (app1w [] _ (by rw [hr]; simp)) _).trans rfl
  · exact bnd_eqW w1 _
theorem told_l0 (l : List (List UInt8)) (h : l.length ≤ 60) : ∀ (d k i : Nat), i + d = l.length → d < k → ∃ o, chatelainelaw21_KeytreeTold_l0 300 l k (i : Int) = some o ∧ (o = .inl true ∨ o = .inr ()) := by
  intro d
  induction d with
  | zero =>
    intro k i hi hk
    obtain ⟨k, rfl⟩ : ∃ m, k = m + 1 := ⟨k - 1, by omega⟩
    rw [chatelainelaw21_KeytreeTold_l0, if_neg (by omega)]
    exact ⟨_, rfl, .inr rfl⟩
  | succ d ih =>
    intro k i hi hk
    obtain ⟨k, rfl⟩ : ∃ m, k = m + 1 := ⟨k - 1, by omega⟩
    have hx : idx l (i : Int) = some l[i] := by rw [idx_nat, List.getElem?_eq_getElem (by omega)]
    rw [chatelainelaw21_KeytreeTold_l0, if_pos (by omega), bnd_eqW hx]
    by_cases hb : 100 < (l[i].length : Int)
    · rw [if_pos hb]; exact ⟨_, rfl, .inl rfl⟩
    · rw [if_neg hb, w_upC _ (by omega)]; exact ih k (i + 1) (by omega) (by omega)
theorem s1K_len : s1K.length = 32 := by decide +kernel
abbrev K3 : KyT := KM s1K [3]
/-- one leaf of a tree of which one place was turned -/
theorem told_leaf {n : Nat} (hn : 1 ≤ n ∧ n ≤ 20) {t : List (List UInt8)} (T : TreeK n K3 t) {p : Nat} (hp : p < toK n) {v : List UInt8} (hv : v.length = 40) {i : Nat} (hi : i < n) :
    ∃ x, keytree_Leaf 300 s1K (n : Int) (t.set p v) (i : Int) = some x ∧ (x.2 = 0 ∨ x = ([], 21)) ∧ (p ∉ wayK n i → x = (frN [3] (dpK n) i, 0)) := by
  have hK : ∀ l k, (K3 l k).length = 32 := KM_len s1K_len [3]
  have hok := T.ok (by omega) hK
  have hdn := dpK_b n
  have hto := toK_le (n := n) (by omega)
  have hwl := wayK_len n i
  have h40 : ∀ b ∈ t.set p v, b.length = 40 := by
    intro b hb
    rcases List.mem_or_eq_of_mem_set hb with h | rfl
    · unfold okT at hok
      rw [Bool.and_eq_true, List.all_eq_true] at hok
      have := hok.2 b h
      simpa using this
    · exact hv
  have hok2 : okT n (t.set p v) = true := by
    unfold okT
    rw [List.length_set, decide_eq_true T.len, Bool.true_and, List.all_eq_true]
    intro b hb
    rw [decide_eq_true (h40 b hb)]
  rw [pLeafGo (by omega) s1K_len (by rw [List.length_set, T.len]; omega) hok2 hi]
  by_cases hw : p ∈ wayK n i
  · obtain ⟨r, h1, h2⟩ := leaf_any h40 (all := wayK n i) (fun x hx => by rw [List.length_set, T.len]; exact wayK_lt hi x hx) (by omega) (wayK n i) [] 300 s1K s1K_len rfl (by omega)
    rw [show ((([] : List Nat).length : Nat) : Int) = 0 from rfl] at h1
    rw [bnd_eqW h1]
    rcases h2 with rfl | ⟨y, rfl⟩
    · exact ⟨_, rfl, .inr rfl, fun z => absurd hw z⟩
    · exact ⟨_, rfl, .inl rfl, fun z => absurd hw z⟩
  · obtain ⟨_, w2⟩ := kWay (n := n) (by omega) hi
    have h1 := leaf_off hK (tree := t.set p v) (es := esK n) (all := wayK n i) (fun e he hm => by
      rw [List.getElem?_set_ne (show p ≠ e.p from fun z => hw (by rw [z]; exact hm))]; exact T.had e he) (by omega) (wayK n i) [] 300 0 0 _ _ rfl w2 (by omega)
    rw [show ((([] : List Nat).length : Nat) : Int) = 0 from rfl, show K3 0 0 = s1K from rfl] at h1
    rw [bnd_eqW h1]
    have hkm : K3 (dpK n) i = frN [3] (dpK n) i := by show KM s1K [3] (dpK n) i = _; unfold KM; rw [if_neg (by omega)]
    exact ⟨_, rfl, .inl rfl, fun _ => by rw [hkm]⟩
theorem told_l1 {n : Nat} (hn : 1 ≤ n ∧ n ≤ 20) {t : List (List UInt8)} (T : TreeK n K3 t) {p : Nat} (hp : p < toK n) (w : List UInt8) (hw : w.length = 40) (c : UInt8) (q : Nat) :
    ∀ (d k i : Nat), i + d = n → d < k → chatelainelaw21_KeytreeTold_l1 300 (n : Int) (p : Int) t w p c q k (i : Int) = some (.inr ()) := by
  have hdn := dpK_b n
  obtain ⟨_, _, _, hln, _⟩ := kFacts (n := n) (by omega)
  intro d
  induction d with
  | zero =>
    intro k i hi hk
    obtain ⟨k, rfl⟩ : ∃ m, k = m + 1 := ⟨k - 1, by omega⟩
    rw [chatelainelaw21_KeytreeTold_l1, if_neg (by omega)]
  | succ d ih =>
    intro k i hi hk
    obtain ⟨k, rfl⟩ : ∃ m, k = m + 1 := ⟨k - 1, by omega⟩
    rw [chatelainelaw21_KeytreeTold_l1, if_pos (by omega)]
    refine (bnd_eqW some_1 _).trans ?_
    obtain ⟨x, h1, h2, h3⟩ := told_leaf hn T hp (v := w.set q (c ^^^ 1)) (by rw [List.length_set, hw]) (i := i) (by omega)
    refine (bnd_eqW h1 _).trans ?_
    refine (bnd_eqW hln _).trans ?_
    have hb : chatelainelaw21_KeytreeTold_l2 300 (n : Int) (p : Int) 300 false (dpK n : Int) (i : Int) = some (decide (p ∈ wayK n i)) := by
      have h28 := toK28 hn.2
      obtain ⟨m, rfl⟩ : ∃ m, n = m + 1 := ⟨n - 1, by omega⟩
      exact below_all ⟨m, by omega⟩ ⟨i, by omega⟩ (by show i < m + 1; omega) ⟨p, by omega⟩ hp
    refine (bnd_eqW hb _).trans ?_
    refine (bnd_eqW (x := false) ?_ _).trans ?_
    · by_cases hm : p ∈ wayK n i
      · rw [decide_eq_true hm, if_neg (by simp)]
      · have hx := h3 hm
        subst hx
        rw [decide_eq_false hm, if_pos (by simp)]
        refine (bnd_eqW (x := false) ?_ _).trans rfl
        rw [if_neg (by simp)]
        refine (bnd_eqW hln _).trans ?_
        refine (bnd_eqW (rFresh [3] (by simp) (dpK n) i (by omega) (by omega)) _).trans ?_
        exact (bnd_eqW (same32T _ _ (by rw [frN_len]; omega)) _).trans (by simp)
    rw [if_neg (by rcases h2 with h | h <;> simp [h]), w_upC _ (by omega)]
    exact ih k (i + 1) (by omega) (by omega)
theorem chatelainelaw21_KeytreeTold_true (a : Int) (_ : r64 a) (l : List (List UInt8)) (_ : ∀ x ∈ l, (tyL ty8).has x) (z : List UInt16) (hz : ∃ a b, (tyA 2 ty16).rep a b z) : ∃ Fu, chatelainelaw21_KeytreeTold Fu a l z = some true := by
  refine ⟨300, ?_⟩
  obtain ⟨S, cs, _, hz2⟩ := hz
  unfold chatelainelaw21_KeytreeTold
  refine (bnd_eqW awake21 _).trans ?_
  rw [if_neg (by decide)]
  by_cases hg : ((decide (20 < a)) || (decide (60 < (l.length : Int)))) = true
  · rw [if_pos hg]
  · rw [if_neg hg]
    simp only [Bool.or_eq_true, decide_eq_true_eq] at hg
    obtain ⟨o, h1, h2⟩ := told_l0 l (by omega) l.length 300 0 (by omega) (by omega)
    rw [show ((0 : Nat) : Int) = 0 from rfl] at h1
    rw [bnd_eqW h1]
    rcases h2 with rfl | rfl
    · rfl
    · dsimp only
      by_cases ha : 1 ≤ a ∧ a ≤ 4096
      · obtain ⟨n, rfl⟩ : ∃ n : Nat, a = (n : Int) := ⟨a.toNat, by omega⟩
        have hn : 1 ≤ n ∧ n ≤ 20 := by omega
        have hn2 : 1 ≤ n ∧ n ≤ 24 := by omega
        obtain ⟨_, _, hmay, _⟩ := kFacts hn2
        refine (bnd_eqW (pRight hn2 l (by omega)) _).trans ?_
        refine (bnd_eqW (rRight hn2 l (by omega)) _).trans ?_
        rw [if_neg (by simp)]
        refine (bnd_eqW hmay _).trans ?_
        rw [if_neg (by simp)]
        refine (bnd_eqW some_1 _).trans ?_
        obtain ⟨t, e, T⟩ := pMake hn2 (root := s1K) (seed := [3]) s1K_len (by simp)
        have hto := toK_le hn2.2
        have htl := T.len
        have hok := T.ok hn2 (KM_len s1K_len [3])
        refine (bnd_eqW e _).trans ?_
        dsimp only
        rw [if_neg (by simp only [Bool.or_eq_true, decide_eq_true_eq]; omega)]
        refine (bnd_eqW (show ix 2 0 = some 0 from rfl) _).trans ?_
        refine (bnd_eqW (List.getElem?_eq_getElem (by omega)) _).trans ?_
        have hpn : (z[0]'(by omega)).toNat % t.length < t.length := Nat.mod_lt _ (by omega)
        refine (bnd_eqW (show remI ((z[0]'(by omega)).toNat : Int) (t.length : Int) = some (((z[0]'(by omega)).toNat % t.length : Nat) : Int) from remI_nat (by omega)) _).trans ?_
        generalize (z[0]'(by omega)).toNat % t.length = p at *
        refine (bnd_eqW (app24 [] t (by simp; omega)) _).trans ?_
        rw [List.nil_append]
        refine (bnd_eqW ((idx_nat _ _).trans (List.getElem?_eq_getElem hpn)) _).trans ?_
        have h40 : t[p].length = 40 := by
          unfold okT at hok
          rw [Bool.and_eq_true, List.all_eq_true] at hok
          simpa using hok.2 _ (List.getElem_mem hpn)
        refine (bnd_eqW (app1w [] t[p] (by simp; omega)) _).trans ?_
        rw [List.nil_append]
        refine (bnd_eqW (ix_nat hpn) _).trans ?_
        refine (bnd_eqW (ix_nat hpn) _).trans ?_
        refine (bnd_eqW (show ix 2 1 = some 1 from rfl) _).trans ?_
        refine (bnd_eqW (List.getElem?_eq_getElem (by omega)) _).trans ?_
        have hq : Int.tmod ((z[1]'(by omega)).toNat : Int) 40 = (((z[1]'(by omega)).toNat % 40 : Nat) : Int) := by
          rw [show (40 : Int) = ((40 : Nat) : Int) from rfl, ← Int.ofNat_tmod]
        rw [hq]
        have hql : (z[1]'(by omega)).toNat % 40 < t[p].length := by rw [h40]; exact Nat.mod_lt _ (by decide)
        refine (bnd_eqW (ix_nat hql) _).trans ?_
        refine (bnd_eqW (List.getElem?_eq_getElem hql) _).trans ?_
        refine (bnd_eqW (ix_nat hql) _).trans ?_
        refine (bnd_eqW (told_l1 hn T (p := p) (by omega) t[p] h40 _ _ n 300 0 (by omega) (by omega)) _).trans ?_
        rfl
      · refine (bnd_eqW (pRight_b ha l) _).trans ?_
        refine (bnd_eqW (rRight_b ha l) _).trans ?_
        rw [if_neg (by simp)]
        refine (bnd_eqW (kMay_b 300 ha) _).trans ?_
        rfl
end Go.Proofs.Ytohgmggdfmjgnaa
