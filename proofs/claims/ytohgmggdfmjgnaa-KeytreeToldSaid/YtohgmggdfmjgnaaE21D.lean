/- Texts put together. -/
import Derived.Test.YtohgmggdfmjgnaaKb2
import Derived.Test.YtohgmggdfmjgnaaKc2
import Derived.Test.YtohgmggdfmjgnaaU6
import Derived.Test.YtohgmggdfmjgnaaE21A
set_option linter.unusedVariables false
set_option linter.unusedSimpArgs false
namespace Go.Proofs.Ytohgmggdfmjgnaa
open Go.RowKit
section
section
/-- a node: its place, level, number; its parent's level, number; the leaves below -/
structure Nd where
  p : Nat
  l : Nat
  k : Nat
  pl : Nat
  pi : Nat
  a : Nat
  b : Nat
def dpK (n : Nat) : Nat := if n ≤ 4 then 1 else if n ≤ 16 then 2 else 3
def c1K (n : Nat) : Nat := if n ≤ 4 then 0 else if n ≤ 16 then (n + 3) / 4 else (n + 15) / 16
def c2K (n : Nat) : Nat := if n ≤ 16 then 0 else (n + 3) / 4
def toK (n : Nat) : Nat := c1K n + c2K n + n
def wayK (n i : Nat) : List Nat := if n ≤ 4 then [i] else if n ≤ 16 then [i / 4, c1K n + i] else [i / 16, c1K n + i / 4, c1K n + c2K n + i]
def toI (l : List Nat) : List Int := l.map fun (x : Nat) => (x : Int)
def mkNd (n l i : Nat) (p : Int) : Nd :=
  let nd := (path_Node 300 (n : Int) p).getD (0, 0, false)
  let b := (path_Below 300 (n : Int) nd.1 nd.2.1).getD (0, 0)
  ⟨p.toNat, nd.1.toNat, nd.2.1.toNat, l, i, b.1.toNat, b.2.toNat⟩
def kids (n l i : Nat) : List Nd := ((path_Children 300 (n : Int) (l : Int) (i : Int)).getD []).map (mkNd n l i)
def evs (n : Nat) : Nat → Nat → Nat → List Nd
  | 0, _, _ => []
  | d + 1, l, i => (kids n l i).flatMap fun e => e :: evs n d e.l e.k
def goodE (n : Nat) (e : Nd) : Bool :=
  decide (path_Node 300 (n : Int) (e.p : Int) = some ((e.l : Int), (e.k : Int), true)) && decide (path_Below 300 (n : Int) (e.l : Int) (e.k : Int) = some ((e.a : Int), (e.b : Int))) &&
  decide (e.p < toK n) && decide (e.l ≤ 64) && decide (e.k ≤ 64) && decide (1 ≤ e.l) && decide (e.l = dpK n → e.k < n) && decide (e.l = dpK n → e.a = e.k ∧ e.b = e.k + 1)
def goodT (n : Nat) : Nat → Nat → Nat → Nat → Nat → Bool
  | 0, _, _, _, _ => false
  | d + 1, l, i, a, b => decide (path_Children 300 (n : Int) (l : Int) (i : Int) = some (toI ((kids n l i).map (·.p)))) && decide ((kids n l i).length < 100) &&
      (kids n l i).all fun e => goodE n e && decide (a ≤ e.a) && decide (e.b ≤ b) && goodT n d e.l e.k e.a e.b
def chainK (es : List Nd) : List Nat → Nat → Nat → Option (Nat × Nat)
  | [], l, i => some (l, i)
  | p :: ps, l, i => match es.find? (fun e => e.p == p && e.pl == l && e.pi == i) with
    | some e => chainK es ps e.l e.k
    | none => none
abbrev esK (n : Nat) : List Nd := evs n 5 0 0
def placesK (n : Nat) : List Nat := (esK n).map (·.p)
theorem good_all : ∀ m : Fin 24, goodT (m.val + 1) 5 0 0 0 (m.val + 1) = true := by decide +kernel
theorem nodup_all : ∀ m : Fin 24, (placesK (m.val + 1)).Nodup := by decide +kernel
theorem cover_all : ∀ m : Fin 24, (List.range (toK (m.val + 1))).all (fun q => (placesK (m.val + 1)).contains q) = true := by decide +kernel
theorem depth_all : ∀ m : Fin 24, path_Depth 300 ((m.val + 1 : Nat) : Int) = some (dpK (m.val + 1) : Int) := by decide +kernel
theorem total_all : ∀ m : Fin 24, path_Total 300 ((m.val + 1 : Nat) : Int) = some (toK (m.val + 1) : Int) := by decide +kernel
theorem path_all : ∀ m : Fin 24, ∀ i : Fin 24, i.val < m.val + 1 → path_Path 300 ((m.val + 1 : Nat) : Int) (i.val : Int) = some (toI (wayK (m.val + 1) i.val)) := by decide +kernel
theorem chain_all : ∀ m : Fin 24, ∀ i : Fin 24, i.val < m.val + 1 → chainK (esK (m.val + 1)) (wayK (m.val + 1) i.val) 0 0 = some (dpK (m.val + 1), i.val) := by decide +kernel
theorem may_all : ∀ m : Fin 24, chatelaineref20_May 300 ((m.val + 1 : Nat) : Int) = some true := by decide +kernel
theorem ldepth_all : ∀ m : Fin 24, chatelainelaw21_depth 300 ((m.val + 1 : Nat) : Int) = some (dpK (m.val + 1) : Int) := by decide +kernel
theorem counts_all : ∀ m : Fin 24, ((chatelaineref20_Counts 300 ((m.val + 1 : Nat) : Int)).bind fun x4 => chatelainelaw21_right_l0 300 x4 300 (-1) 0) = some (toK (m.val + 1) : Int) := by decide +kernel
end
section
abbrev KyT := Nat → Nat → List UInt8
def valK (K : KyT) (e : Nd) : List UInt8 := wrapL (K e.pl e.pi) (K e.l e.k)
def Had (K : KyT) (es : List Nd) (out : List (List UInt8)) : Prop := ∀ e ∈ es, out[e.p]? = some (valK K e)
structure Laid (K : KyT) (es : List Nd) (out out' : List (List UInt8)) : Prop where
  len : out'.length = out.length
  had : Had K es out'
  off : ∀ q, (∀ e ∈ es, e.p ≠ q) → out'[q]? = out[q]?
theorem Laid.nil {K : KyT} {out : List (List UInt8)} : Laid K [] out out := ⟨rfl, fun e h => (List.not_mem_nil h).elim, fun _ _ => rfl⟩
theorem Laid.app {K : KyT} {xs ys : List Nd} {o o1 o2 : List (List UInt8)} (h1 : Laid K xs o o1) (h2 : Laid K ys o1 o2) (hd : ∀ x ∈ xs, ∀ y ∈ ys, x.p ≠ y.p) : Laid K (xs ++ ys) o o2 :=
  ⟨h2.len.trans h1.len, fun e he => by
    rcases List.mem_append.mp he with h | h
    · rw [h2.off _ (fun y hy => (hd e h y hy).symm)]; exact h1.had e h
    · exact h2.had e h, fun q hq => by
    rw [h2.off q (fun e he => hq e (List.mem_append_right _ he)), h1.off q (fun e he => hq e (List.mem_append_left _ he))]⟩
theorem Laid.one {K : KyT} {o : List (List UInt8)} (e : Nd) {v : List UInt8} (hv : v = valK K e) (h : e.p < o.length) : Laid K [e] o (o.set e.p v) :=
  ⟨by simp, fun x hx => by
    obtain rfl := List.mem_singleton.mp hx
    rw [List.getElem?_set_self h, hv], fun q hq => List.getElem?_set_ne (hq e (by simp))⟩
def subK (n d : Nat) (e : Nd) : List Nd := e :: evs n d e.l e.k
structure GoodE (n : Nat) (e : Nd) : Prop where
  node : path_Node 300 (n : Int) (e.p : Int) = some ((e.l : Int), (e.k : Int), true)
  below : path_Below 300 (n : Int) (e.l : Int) (e.k : Int) = some ((e.a : Int), (e.b : Int))
  lt : e.p < toK n
  l64 : e.l ≤ 64
  k64 : e.k ≤ 64
  l1 : 1 ≤ e.l
  lf : e.l = dpK n → e.k < n
  lfb : e.l = dpK n → e.a = e.k ∧ e.b = e.k + 1
theorem goodE_of {n : Nat} {e : Nd} (h : goodE n e = true) : GoodE n e := by
  unfold goodE at h
  simp only [Bool.and_eq_true, decide_eq_true_eq] at h
  obtain ⟨⟨⟨⟨⟨⟨⟨h1, h2⟩, h3⟩, h4⟩, h5⟩, h6⟩, h7⟩, h8⟩ := h
  exact ⟨h1, h2, h3, h4, h5, h6, h7, h8⟩
theorem goodT_succ {n d l i a b : Nat} (h : goodT n (d + 1) l i a b = true) : path_Children 300 (n : Int) (l : Int) (i : Int) = some (toI ((kids n l i).map (·.p))) ∧ (kids n l i).length < 100 ∧
    ∀ e ∈ kids n l i, GoodE n e ∧ a ≤ e.a ∧ e.b ≤ b ∧ goodT n d e.l e.k e.a e.b = true := by
  rw [goodT] at h
  simp only [Bool.and_eq_true, decide_eq_true_eq, List.all_eq_true] at h
  obtain ⟨⟨h1, h2⟩, h3⟩ := h
  refine ⟨h1, h2, fun e he => ?_⟩
  obtain ⟨⟨⟨g1, g2⟩, g3⟩, g4⟩ := h3 e he
  exact ⟨goodE_of g1, g2, g3, g4⟩
theorem kids_par {n l i : Nat} {e : Nd} (h : e ∈ kids n l i) : e.pl = l ∧ e.pi = i := by
  unfold kids at h
  obtain ⟨p, _, rfl⟩ := List.mem_map.mp h
  exact ⟨rfl, rfl⟩
theorem toI_at {l : List Nat} {j x : Nat} (h : l[j]? = some x) : (toI l)[j]? = some (x : Int) := by unfold toI; rw [List.getElem?_map, h]; rfl
theorem toI_len (l : List Nat) : (toI l).length = l.length := by simp [toI]
theorem nd_cons {n d : Nat} {e : Nd} {rs : List Nd} (h : (((e :: rs).flatMap (subK n d)).map (·.p)).Nodup) :
    ((evs n d e.l e.k).map (·.p)).Nodup ∧ ((rs.flatMap (subK n d)).map (·.p)).Nodup ∧ (∀ x ∈ [e], ∀ y ∈ evs n d e.l e.k, x.p ≠ y.p) ∧ (∀ x ∈ [e] ++ evs n d e.l e.k, ∀ y ∈ rs.flatMap (subK n d), x.p ≠ y.p) := by
  rw [List.flatMap_cons, List.map_append, List.nodup_append] at h
  obtain ⟨h1, h2, h3⟩ := h
  rw [subK, List.map_cons, List.nodup_cons] at h1
  refine ⟨h1.2, h2, fun x hx y hy z => ?_, fun x hx y hy => ?_⟩
  · obtain rfl := List.mem_singleton.mp hx
    exact h1.1 (z ▸ List.mem_map_of_mem hy)
  · exact h3 _ (List.mem_map_of_mem (show x ∈ subK n d e from hx)) _ (List.mem_map_of_mem hy)
theorem layMake (n : Nat) (seed : List UInt8) (K : KyT) (hK : ∀ l k, (K l k).length = 32) (hkey : ∀ e, GoodE n e → keytree_Make_1 300 (e.l : Int) (e.k : Int) seed = some (K e.l e.k)) :
    ∀ (d kf l i a b : Nat) (out : List (List UInt8)), goodT n d l i a b = true → d ≤ kf → ((evs n d l i).map (·.p)).Nodup → out.length = toK n →
      ∃ out', keytree_lay_1_kf4_24_0_1_self6_k 300 kf (l : Int) (i : Int) (K l i) (n : Int) seed out = some out' ∧ Laid K (evs n d l i) out out' := by
  intro d
  induction d with
  | zero => intro kf l i a b out h; exact absurd h (by simp [goodT])
  | succ d ih =>
    intro kf l i a b out hg hkf hnd hlen
    obtain ⟨kf, rfl⟩ : ∃ m, kf = m + 1 := ⟨kf - 1, by omega⟩
    obtain ⟨hc, hl, he⟩ := goodT_succ hg
    have loop : ∀ (rs pre : List Nd) (k : Nat) (out : List (List UInt8)), kids n l i = pre ++ rs → rs.length < k → ((rs.flatMap (subK n d)).map (·.p)).Nodup → out.length = toK n →
        ∃ out', keytree_lay_1_kf4_24_0_1_self6_l0 (keytree_lay_1_kf4_24_0_1_self6_k 300 kf) 300 (K l i) (n : Int) seed (toI ((kids n l i).map (·.p))) k (pre.length : Int) out = some out' ∧ Laid K (rs.flatMap (subK n d)) out out' := by
      intro rs
      induction rs with
      | nil =>
        intro pre k out hp hk hnd hlen
        obtain ⟨k, rfl⟩ : ∃ m, k = m + 1 := ⟨k - 1, by omega⟩
        rw [keytree_lay_1_kf4_24_0_1_self6_l0, if_neg (by rw [toI_len, List.length_map, hp]; simp)]
        exact ⟨out, rfl, Laid.nil⟩
      | cons e rs ihr =>
        intro pre k out hp hk hnd hlen
        obtain ⟨k, rfl⟩ : ∃ m, k = m + 1 := ⟨k - 1, by omega⟩
        have hm : e ∈ kids n l i := by rw [hp]; simp
        obtain ⟨E, _, _, hgt⟩ := he e hm
        obtain ⟨e1, e2⟩ := kids_par hm
        have hlt : pre.length < (toI ((kids n l i).map (·.p))).length := by rw [toI_len, List.length_map, hp]; simp
        have hx : (toI ((kids n l i).map (·.p)))[pre.length]? = some (e.p : Int) := toI_at (by rw [hp]; simp)
        obtain ⟨n1, n2, n3, n4⟩ := nd_cons hnd
        have hv : wrapL (K l i) (K e.l e.k) = valK K e := by unfold valK; rw [e1, e2]
        obtain ⟨o2, h2, L2⟩ := ih kf e.l e.k e.a e.b (out.set e.p (wrapL (K l i) (K e.l e.k))) hgt (by omega) n1 (by rw [List.length_set, hlen])
        have L12 := (Laid.one (o := out) e hv (by rw [hlen]; exact E.lt)).app L2 n3
        obtain ⟨o3, h3, L3⟩ := ihr (pre ++ [e]) k o2 (by rw [hp]; simp) (by simp at hk; omega) n2 (by rw [L12.len, hlen])
        refine ⟨o3, ?_, L12.app L3 n4⟩
        rw [keytree_lay_1_kf4_24_0_1_self6_l0, if_pos (by omega)]
        refine (bnd_eqW (ix_nat hlt) _).trans ?_
        refine (bnd_eqW hx _).trans ?_
        refine (bnd_eqW E.node _).trans ?_
        refine (bnd_eqW (hkey e E) _).trans ?_
        refine (bnd_eqW (wrap32 (hK _ _) (hK _ _)) _).trans ?_
        refine (bnd_eqW (ix_nat (by rw [hlen]; exact E.lt)) _).trans ?_
        refine (bnd_eqW h2 _).trans ?_
        rw [w_upC _ (by rw [toI_len, List.length_map] at hlt; omega), show pre.length + 1 = (pre ++ [e]).length by simp]
        exact h3
    obtain ⟨o', h1, L⟩ := loop (kids n l i) [] 300 out rfl (by omega) hnd hlen
    refine ⟨o', ?_, L⟩
    rw [keytree_lay_1_kf4_24_0_1_self6_k]
    refine (bnd_eqW hc _).trans ?_
    exact (bnd_eqW h1 _).trans rfl
/-! leaves -/
end
end
section
theorem cont40_l0 (t : List (List UInt8)) (h : t.length < 250) : ∀ (d k i : Nat), i + d = t.length → d < k →
    ∃ o, slices_IndexFunc_____byte___byte_clo1_28_0_0_l0 300 t k (i : Int) = some o ∧ (match o with | .inl j => 0 ≤ j ∧ (t.drop i).all (fun b => decide (b.length = 40)) = false | .inr _ => (t.drop i).all (fun b => decide (b.length = 40)) = true) := by
  intro d
  induction d with
  | zero =>
    intro k i hi hk
    obtain ⟨k, rfl⟩ : ∃ m, k = m + 1 := ⟨k - 1, by omega⟩
    refine ⟨.inr (), ?_, ?_⟩
    · rw [slices_IndexFunc_____byte___byte_clo1_28_0_0_l0, if_neg (by omega)]
    · dsimp only; rw [List.drop_of_length_le (by omega)]; rfl
  | succ d ih =>
    intro k i hi hk
    obtain ⟨k, rfl⟩ : ∃ m, k = m + 1 := ⟨k - 1, by omega⟩
    have hx : idx t (i : Int) = some t[i] := by rw [idx_nat, List.getElem?_eq_getElem (by omega)]
    rw [slices_IndexFunc_____byte___byte_clo1_28_0_0_l0, if_pos (by omega), List.drop_eq_getElem_cons (by omega)]
    by_cases hb : t[i].length = 40
    · obtain ⟨o, h1, h2⟩ := ih k (i + 1) (by omega) (by omega)
      refine ⟨o, ?_, ?_⟩
      · refine (bnd_eqW hx _).trans ?_
        refine (bnd_eqW (show keytree_Right_1 300 t[i] = some false from by unfold keytree_Right_1; rw [hb]; rfl) _).trans ?_
        rw [if_neg (by decide), w_upC _ (by omega)]
        exact h1
      · rw [List.all_cons, hb]
        cases o with
        | inl j => exact ⟨h2.1, by simpa using h2.2⟩
        | inr u => simpa using h2
    · refine ⟨.inl (i : Int), ?_, ?_⟩
      · refine (bnd_eqW hx _).trans ?_
        refine (bnd_eqW (show keytree_Right_1 300 t[i] = some true from by unfold keytree_Right_1; rw [decide_eq_true (by omega)]) _).trans ?_
        rw [if_pos rfl]
      · exact ⟨by omega, by rw [List.all_cons, decide_eq_false hb]; rfl⟩
theorem cont40 (t : List (List UInt8)) (h : t.length < 250) : slices_ContainsFunc_____byte___byte_clo1_28_0_0 300 t = some (!t.all (fun b => decide (b.length = 40))) := by
  obtain ⟨o, h1, h2⟩ := cont40_l0 t h t.length 300 0 (by omega) (by omega)
  unfold slices_ContainsFunc_____byte___byte_clo1_28_0_0 slices_IndexFunc_____byte___byte_clo1_28_0_0
  rw [List.drop_zero] at h2
  cases o with
  | inl j =>
    refine (bnd_eqW (x := j) ((bnd_eqW h1 _).trans rfl) _).trans ?_
    rw [decide_eq_true h2.1, h2.2]; rfl
  | inr u =>
    refine (bnd_eqW (x := -1) ((bnd_eqW h1 _).trans rfl) _).trans ?_
    dsimp only at h2
    rw [h2]; rfl
theorem cont32_l0 (t : List (List UInt8)) (h : t.length < 250) : ∀ (d k i : Nat), i + d = t.length → d < k →
    ∃ o, slices_IndexFunc_____byte___byte_clo1_43_0_0_l0 300 t k (i : Int) = some o ∧ (match o with | .inl j => 0 ≤ j ∧ (t.drop i).all (fun b => decide (b.length = 32)) = false | .inr _ => (t.drop i).all (fun b => decide (b.length = 32)) = true) := by
  intro d
  induction d with
  | zero =>
    intro k i hi hk
    obtain ⟨k, rfl⟩ : ∃ m, k = m + 1 := ⟨k - 1, by omega⟩
    refine ⟨.inr (), ?_, ?_⟩
    · rw [slices_IndexFunc_____byte___byte_clo1_43_0_0_l0, if_neg (by omega)]
    · dsimp only; rw [List.drop_of_length_le (by omega)]; rfl
  | succ d ih =>
    intro k i hi hk
    obtain ⟨k, rfl⟩ : ∃ m, k = m + 1 := ⟨k - 1, by omega⟩
    have hx : idx t (i : Int) = some t[i] := by rw [idx_nat, List.getElem?_eq_getElem (by omega)]
    rw [slices_IndexFunc_____byte___byte_clo1_43_0_0_l0, if_pos (by omega), List.drop_eq_getElem_cons (by omega)]
    by_cases hb : t[i].length = 32
    · obtain ⟨o, h1, h2⟩ := ih k (i + 1) (by omega) (by omega)
      refine ⟨o, ?_, ?_⟩
      · refine (bnd_eqW hx _).trans ?_
        refine (bnd_eqW (show keytree_keys_1 300 t[i] = some false from by unfold keytree_keys_1; rw [hb]; rfl) _).trans ?_
        rw [if_neg (by decide), w_upC _ (by omega)]
        exact h1
      · rw [List.all_cons, hb]
        cases o with
        | inl j => exact ⟨h2.1, by simpa using h2.2⟩
        | inr u => simpa using h2
    · refine ⟨.inl (i : Int), ?_, ?_⟩
      · refine (bnd_eqW hx _).trans ?_
        refine (bnd_eqW (show keytree_keys_1 300 t[i] = some true from by unfold keytree_keys_1; rw [decide_eq_true (by omega)]) _).trans ?_
        rw [if_pos rfl]
      · exact ⟨by omega, by rw [List.all_cons, decide_eq_false hb]; rfl⟩
theorem cont32 (t : List (List UInt8)) (h : t.length < 250) : slices_ContainsFunc_____byte___byte_clo1_43_0_0 300 t = some (!t.all (fun b => decide (b.length = 32))) := by
  obtain ⟨o, h1, h2⟩ := cont32_l0 t h t.length 300 0 (by omega) (by omega)
  unfold slices_ContainsFunc_____byte___byte_clo1_43_0_0 slices_IndexFunc_____byte___byte_clo1_43_0_0
  rw [List.drop_zero] at h2
  cases o with
  | inl j =>
    refine (bnd_eqW (x := j) ((bnd_eqW h1 _).trans rfl) _).trans ?_
    rw [decide_eq_true h2.1, h2.2]; rfl
  | inr u =>
    refine (bnd_eqW (x := -1) ((bnd_eqW h1 _).trans rfl) _).trans ?_
    dsimp only at h2
    rw [h2]; rfl
/-! right or not -/
theorem kMay (Fu : Nat) {a : Int} (ha : ¬ (1 ≤ a ∧ a ≤ 4096)) : path_may Fu a = some false := by
  unfold path_may
  rw [← Bool.decide_and, decide_eq_false ha]
theorem kDepth0 (Fu : Nat) {a : Int} (ha : ¬ (1 ≤ a ∧ a ≤ 4096)) : path_Depth Fu a = some 0 := by unfold path_Depth; rw [kMay Fu ha]; rfl
theorem kMay_b (Fu : Nat) {a : Int} (ha : ¬ (1 ≤ a ∧ a ≤ 4096)) : chatelaineref20_May Fu a = some false := by
  unfold chatelaineref20_May
  rw [← Bool.decide_and, decide_eq_false ha]
def okT (n : Nat) (t : List (List UInt8)) : Bool := decide (t.length = toK n) && t.all (fun b => decide (b.length = 40))
theorem kFacts {n : Nat} (hn : 1 ≤ n ∧ n ≤ 24) : path_Depth 300 (n : Int) = some (dpK n : Int) ∧ path_Total 300 (n : Int) = some (toK n : Int) ∧ chatelaineref20_May 300 (n : Int) = some true ∧ chatelainelaw21_depth 300 (n : Int) = some (dpK n : Int) ∧
    ((chatelaineref20_Counts 300 (n : Int)).bind fun x4 => chatelainelaw21_right_l0 300 x4 300 (-1) 0) = some (toK n : Int) ∧ goodT n 5 0 0 0 n = true ∧ (placesK n).Nodup ∧ (List.range (toK n)).all (fun q => (placesK n).contains q) = true := by
  obtain ⟨m, rfl⟩ : ∃ m, n = m + 1 := ⟨n - 1, by omega⟩
  exact ⟨depth_all ⟨m, by omega⟩, total_all ⟨m, by omega⟩, may_all ⟨m, by omega⟩, ldepth_all ⟨m, by omega⟩, counts_all ⟨m, by omega⟩, good_all ⟨m, by omega⟩, nodup_all ⟨m, by omega⟩, cover_all ⟨m, by omega⟩⟩
theorem kWay {n i : Nat} (hn : 1 ≤ n ∧ n ≤ 24) (hi : i < n) : path_Path 300 (n : Int) (i : Int) = some (toI (wayK n i)) ∧ chainK (esK n) (wayK n i) 0 0 = some (dpK n, i) := by
  obtain ⟨m, rfl⟩ : ∃ m, n = m + 1 := ⟨n - 1, by omega⟩
  exact ⟨path_all ⟨m, by omega⟩ ⟨i, by omega⟩ hi, chain_all ⟨m, by omega⟩ ⟨i, by omega⟩ hi⟩
theorem wayK_len (n i : Nat) : (wayK n i).length ≤ 3 := by unfold wayK; (repeat' split) <;> simp
theorem dpK_b (n : Nat) : 1 ≤ dpK n ∧ dpK n ≤ 3 := by unfold dpK; (repeat' split) <;> omega
theorem toK_le {n : Nat} (h : n ≤ 24) : n ≤ toK n ∧ toK n ≤ 60 := by unfold toK c1K c2K; (repeat' split) <;> omega
theorem pRight {n : Nat} (hn : 1 ≤ n ∧ n ≤ 24) (t : List (List UInt8)) (ht : t.length < 250) : keytree_Right 300 (n : Int) t = some (okT n t) := by
  obtain ⟨h1, h2, _⟩ := kFacts hn
  have hd := dpK_b n
  unfold keytree_Right okT
  refine (bnd_eqW h1 _).trans ?_
  rw [if_pos (by omega)]
  refine (bnd_eqW (x := decide ((t.length : Int) = (toK n : Int))) ((bnd_eqW h2 _).trans rfl) _).trans ?_
  by_cases h : t.length = toK n
  · rw [if_pos (decide_eq_true (by omega)), decide_eq_true h]
    refine (bnd_eqW (x := t.all (fun b => decide (b.length = 40))) ((bnd_eqW (cont40 t ht) _).trans (by rw [Bool.not_not])) _).trans ?_
    rfl
  · rw [if_neg (by simp; omega), decide_eq_false h]; rfl
theorem pRight_b {a : Int} (ha : ¬ (1 ≤ a ∧ a ≤ 4096)) (t : List (List UInt8)) : keytree_Right 300 a t = some false := by
  unfold keytree_Right
  refine (bnd_eqW (kDepth0 300 ha) _).trans ?_
  rfl
theorem rRight_l1 (t : List (List UInt8)) (h : t.length < 250) : ∀ (d k i : Nat), i + d = t.length → d < k →
    chatelainelaw21_right_l1 300 t k (i : Int) = some (if (t.drop i).all (fun b => decide (b.length = 40)) = true then .inr () else .inl false) := by
  intro d
  induction d with
  | zero =>
    intro k i hi hk
    obtain ⟨k, rfl⟩ : ∃ m, k = m + 1 := ⟨k - 1, by omega⟩
    rw [chatelainelaw21_right_l1, if_neg (by omega), List.drop_of_length_le (by omega)]; rfl
  | succ d ih =>
    intro k i hi hk
    obtain ⟨k, rfl⟩ : ∃ m, k = m + 1 := ⟨k - 1, by omega⟩
    have hx : idx t (i : Int) = some t[i] := by rw [idx_nat, List.getElem?_eq_getElem (by omega)]
    rw [chatelainelaw21_right_l1, if_pos (by omega), List.drop_eq_getElem_cons (by omega), List.all_cons]
    refine (bnd_eqW hx _).trans ?_
    by_cases hb : t[i].length = 40
    · rw [if_neg (by omega), w_upC _ (by omega), ih k (i + 1) (by omega) (by omega), hb]; simp
    · rw [if_pos (by omega), decide_eq_false hb]; rfl
theorem rRight {n : Nat} (hn : 1 ≤ n ∧ n ≤ 24) (t : List (List UInt8)) (ht : t.length < 250) : chatelainelaw21_right 300 (n : Int) t = some (okT n t) := by
  obtain ⟨_, _, h3, _, h5, _⟩ := kFacts hn
  unfold chatelainelaw21_right okT
  refine (bnd_eqW h3 _).trans ?_
  rw [if_neg (by simp)]
  cases hc : chatelaineref20_Counts 300 (n : Int) with
  | none => rw [hc] at h5; cases h5
  | some cs =>
    rw [hc] at h5
    refine (bnd_eqW rfl _).trans ?_
    refine (bnd_eqW h5 _).trans ?_
    refine (bnd_eqW (rRight_l1 t ht t.length 300 0 (by omega) (by omega)) _).trans ?_
    rw [List.drop_zero]
    by_cases h : t.all (fun b => decide (b.length = 40)) = true
    · rw [if_pos h, h]
      have : decide ((t.length : Int) = (toK n : Int)) = decide (t.length = toK n) := by by_cases z : t.length = toK n <;> simp [z]; omega
      rw [Bool.and_true, ← this]
    · rw [if_neg h, Bool.eq_false_iff.mpr h, Bool.and_false]
theorem rRight_b {a : Int} (ha : ¬ (1 ≤ a ∧ a ≤ 4096)) (t : List (List UInt8)) : chatelainelaw21_right 300 a t = some false := by
  unfold chatelainelaw21_right
  refine (bnd_eqW (kMay_b 300 ha) _).trans ?_
  rfl
/-! trees -/
structure TreeK (n : Nat) (K : KyT) (t : List (List UInt8)) : Prop where
  len : t.length = toK n
  had : Had K (esK n) t
theorem TreeK.ok {n : Nat} {K : KyT} {t : List (List UInt8)} (hn : 1 ≤ n ∧ n ≤ 24) (hK : ∀ l k, (K l k).length = 32) (h : TreeK n K t) : okT n t = true := by
  obtain ⟨_, _, _, _, _, _, _, hcov⟩ := kFacts hn
  unfold okT
  rw [decide_eq_true h.len, Bool.true_and, List.all_eq_true]
  intro b hb
  obtain ⟨q, hq, rfl⟩ := List.mem_iff_getElem.mp hb
  rw [List.all_eq_true] at hcov
  have hc := hcov q (List.mem_range.mpr (by rw [← h.len]; exact hq))
  rw [List.contains_iff_mem] at hc
  obtain ⟨e, he, rfl⟩ := List.mem_map.mp hc
  have := h.had e he
  rw [List.getElem?_eq_getElem hq] at this
  have hv : t[e.p] = valK K e := Option.some.inj this
  rw [hv, valK, wrapL_40 (.inr (hK _ _)) (hK _ _)]; rfl
theorem pKeys (seed : List UInt8) (l : List (List UInt8)) (hl : l.length < 250) : keytree_keys 300 seed l = some (decide (0 < seed.length) && l.all (fun b => decide (b.length = 32))) := by
  unfold keytree_keys
  by_cases h : 0 < seed.length
  · rw [if_pos (by omega), decide_eq_true h]
    refine (bnd_eqW (x := l.all (fun b => decide (b.length = 32))) ((bnd_eqW (cont32 l hl) _).trans (by rw [Bool.not_not])) _).trans ?_
    rfl
  · rw [if_neg (by omega), decide_eq_false h]; rfl
/-! a tree that is made -/
def KM (root seed : List UInt8) : KyT := fun l k => if l = 0 then root else frN seed l k
theorem KM_len {root : List UInt8} (hr : root.length = 32) (seed : List UInt8) (l k : Nat) : (KM root seed l k).length = 32 := by
  unfold KM; split
  · exact hr
  · exact frN_len _ _ _
theorem mk24 (n : Nat) (h : n ≤ 1000) : mkN 24 (n : Int) = some n := by unfold mkN maxLen; rw [if_pos (by omega)]; rfl
theorem tree_of {n : Nat} {K : KyT} {out t : List (List UInt8)} (ho : out.length = toK n) (h : Laid K (esK n) out t) : TreeK n K t := ⟨h.len.trans ho, h.had⟩
theorem pMake {n : Nat} (hn : 1 ≤ n ∧ n ≤ 24) {root seed : List UInt8} (hr : root.length = 32) (hs : 1 ≤ seed.length ∧ seed.length ≤ 1000) : ∃ t, keytree_Make 300 root seed (n : Int) = some (t, 0) ∧ TreeK n (KM root seed) t := by
  obtain ⟨h1, h2, _, _, _, h6, h7, _⟩ := kFacts hn
  have hd := dpK_b n
  have hto := toK_le hn.2
  obtain ⟨t, e, L⟩ := layMake n seed (KM root seed) (KM_len hr seed) (fun e E => by
    unfold keytree_Make_1
    refine (bnd_eqW (pFresh seed hs e.l e.k E.l64 E.k64) _).trans ?_
    have := E.l1
    unfold KM
    rw [if_neg (by omega)]) 5 300 0 0 0 n (List.replicate (toK n) []) h6 (by omega) h7 (List.length_replicate)
  refine ⟨t, ?_, tree_of List.length_replicate L⟩
  unfold keytree_Make
  refine (bnd_eqW h1 _).trans ?_
  rw [if_neg (by omega)]
  refine (bnd_eqW (pKeys seed [root] (by simp)) _).trans ?_
  rw [if_neg (by simp [hr]; exact List.ne_nil_of_length_pos (by omega))]
  refine (bnd_eqW (x := t) ?_ _).trans rfl
  unfold keytree_lay_clo2_24_0_1
  refine (bnd_eqW h2 _).trans ?_
  refine (bnd_eqW (mk24 _ (by omega)) _).trans ?_
  exact (bnd_eqW e _).trans rfl
def s1K : List UInt8 := (List.range 32).map fun i => UInt8.ofNat (1 + i)
theorem some_1 : chatelainelaw21_some 300 1 = some s1K := by decide +kernel
theorem awake21 : chatelainelaw21_awake 300 = some true := by
  unfold chatelainelaw21_awake
  refine (bnd_eqW some_1 _).trans ?_
  obtain ⟨t, e, T⟩ := pMake (n := 5) (by omega) (root := s1K) (seed := [2]) (by decide +kernel) (by simp)
  refine (bnd_eqW e _).trans ?_
  have hl : t.length = 7 := T.len
  rw [if_pos (by rw [hl]; rfl)]
  refine (bnd_eqW (x := true) ((bnd_eqW (pRight (n := 5) (by omega) t (by omega)) _).trans (by rw [T.ok (by omega) (KM_len (by decide +kernel) _)])) _).trans rfl
end
end Go.Proofs.Ytohgmggdfmjgnaa
