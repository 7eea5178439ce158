/- Texts put together. -/
import Derived.Test.YtohgmggdfmjgnaaKb2
import Derived.Test.YtohgmggdfmjgnaaKc2
import Derived.Test.YtohgmggdfmjgnaaEb
import Derived.Test.YtohgmggdfmjgnaaE21A
set_option linter.unusedVariables false
set_option linter.unusedSimpArgs false
namespace Go.Proofs.Ytohgmggdfmjgnaa
open Go.RowKit
section
/-- a node: its place, level, number; its parent's level, number; the leaves below -/
structure Nd where
  p : Nat
  l : Nat
  k : Nat
  pl : Nat
  pi : Nat
  a : Nat
  b : Nat
def dpK (n : Nat) : Nat := if n ≤ 4 then 1 else if n ≤ 16 then 2 else 3
def c1K (n : Nat) : Nat := if n ≤ 4 then 0 else if n ≤ 16 then (n + 3) / 4 else (n + 15) / 16
def c2K (n : Nat) : Nat := if n ≤ 16 then 0 else (n + 3) / 4
def toK (n : Nat) : Nat := c1K n + c2K n + n
def wayK (n i : Nat) : List Nat := if n ≤ 4 then [i] else if n ≤ 16 then [i / 4, c1K n + i] else [i / 16, c1K n + i / 4, c1K n + c2K n + i]
def toI (l : List Nat) : List Int := l.map fun (x : Nat) => (x : Int)
def mkNd (n l i : Nat) (p : Int) : Nd :=
  let nd := (path_Node 300 (n : Int) p).getD (0, 0, false)
  let b := (path_Below 300 (n : Int) nd.1 nd.2.1).getD (0, 0)
  ⟨p.toNat, nd.1.toNat, nd.2.1.toNat, l, i, b.1.toNat, b.2.toNat⟩
def kids (n l i : Nat) : List Nd := ((path_Children 300 (n : Int) (l : Int) (i : Int)).getD []).map (mkNd n l i)
def evs (n : Nat) : Nat → Nat → Nat → List Nd
  | 0, _, _ => []
  | d + 1, l, i => (kids n l i).flatMap fun e => e :: evs n d e.l e.k
def goodE (n : Nat) (e : Nd) : Bool :=
  decide (path_Node 300 (n : Int) (e.p : Int) = some ((e.l : Int), (e.k : Int), true)) && decide (path_Below 300 (n : Int) (e.l : Int) (e.k : Int) = some ((e.a : Int), (e.b : Int))) &&
  decide (e.p < toK n) && decide (e.l ≤ 64) && decide (e.k ≤ 64) && decide (1 ≤ e.l) && decide (e.l = dpK n → e.k < n) && decide (e.l = dpK n → e.a = e.k ∧ e.b = e.k + 1)
def goodT (n : Nat) : Nat → Nat → Nat → Nat → Nat → Bool
  | 0, _, _, _, _ => false
  | d + 1, l, i, a, b => decide (path_Children 300 (n : Int) (l : Int) (i : Int) = some (toI ((kids n l i).map (·.p)))) && decide ((kids n l i).length < 100) &&
      (kids n l i).all fun e => goodE n e && decide (a ≤ e.a) && decide (e.b ≤ b) && goodT n d e.l e.k e.a e.b
def chainK (es : List Nd) : List Nat → Nat → Nat → Option (Nat × Nat)
  | [], l, i => some (l, i)
  | p :: ps, l, i => match es.find? (fun e => e.p == p && e.pl == l && e.pi == i) with
    | some e => chainK es ps e.l e.k
    | none => none
abbrev esK (n : Nat) : List Nd := evs n 5 0 0
def placesK (n : Nat) : List Nat := (esK n).map (·.p)
theorem good_all : ∀ m : Fin 24, goodT (m.val + 1) 5 0 0 0 (m.val + 1) = true := by decide +kernel
theorem nodup_all : ∀ m : Fin 24, (placesK (m.val + 1)).Nodup := by decide +kernel
theorem cover_all : ∀ m : Fin 24, (List.range (toK (m.val + 1))).all (fun q => (placesK (m.val + 1)).contains q) = true := by decide +kernel
theorem depth_all : ∀ m : Fin 24, path_Depth 300 ((m.val + 1 : Nat) : Int) = some (dpK (m.val + 1) : Int) := by decide +kernel
theorem total_all : ∀ m : Fin 24, path_Total 300 ((m.val + 1 : Nat) : Int) = some (toK (m.val + 1) : Int) := by decide +kernel
theorem path_all : ∀ m : Fin 24, ∀ i : Fin 24, i.val < m.val + 1 → path_Path 300 ((m.val + 1 : Nat) : Int) (i.val : Int) = some (toI (wayK (m.val + 1) i.val)) := by decide +kernel
theorem chain_all : ∀ m : Fin 24, ∀ i : Fin 24, i.val < m.val + 1 → chainK (esK (m.val + 1)) (wayK (m.val + 1) i.val) 0 0 = some (dpK (m.val + 1), i.val) := by decide +kernel
theorem may_all : ∀ m : Fin 24, chatelaineref20_May 300 ((m.val + 1 : Nat) : Int) = some true := by decide +kernel
theorem ldepth_all : ∀ m : Fin 24, chatelainelaw21_depth 300 ((m.val + 1 : Nat) : Int) = some (dpK (m.val + 1) : Int) := by decide +kernel
theorem counts_all : ∀ m : Fin 24, ((chatelaineref20_Counts 300 ((m.val + 1 : Nat) : Int)).bind fun x4 => chatelainelaw21_right_l0 300 x4 300 (-1) 0) = some (toK (m.val + 1) : Int) := by decide +kernel
end
section
abbrev KyT := Nat → Nat → List UInt8
def valK (K : KyT) (e : Nd) : List UInt8 := wrapL (K e.pl e.pi) (K e.l e.k)
def Had (K : KyT) (es : List Nd) (out : List (List UInt8)) : Prop := ∀ e ∈ es, out[e.p]? = some (valK K e)
structure Laid (K : KyT) (es : List Nd) (out out' : List (List UInt8)) : Prop where
  len : out'.length = out.length
  had : Had K es out'
  off : ∀ q, (∀ e ∈ es, e.p ≠ q) → out'[q]? = out[q]?
theorem Laid.nil {K : KyT} {out : List (List UInt8)} : Laid K [] out out := ⟨rfl, fun e h => (List.not_mem_nil h).elim, fun _ _ => rfl⟩
theorem Laid.app {K : KyT} {xs ys : List Nd} {o o1 o2 : List (List UInt8)} (h1 : Laid K xs o o1) (h2 : Laid K ys o1 o2) (hd : ∀ x ∈ xs, ∀ y ∈ ys, x.p ≠ y.p) : Laid K (xs ++ ys) o o2 :=
  ⟨h2.len.trans h1.len, fun e he => by
    rcases List.mem_append.mp he with h | h
    · rw [h2.off _ (fun y hy => (hd e h y hy).symm)]; exact h1.had e h
    · exact h2.had e h, fun q hq => by
    rw [h2.off q (fun e he => hq e (List.mem_append_right _ he)), h1.off q (fun e he => hq e (List.mem_append_left _ he))]⟩
theorem Laid.one {K : KyT} {o : List (List UInt8)} (e : Nd) {v : List UInt8} (hv : v = valK K e) (h : e.p < o.length) : Laid K [e] o (o.set e.p v) :=
  ⟨by simp, fun x hx => by
    obtain rfl := List.mem_singleton.mp hx
    rw [List.getElem?_set_self h, hv], fun q hq => List.getElem?_set_ne (hq e (by simp))⟩
def subK (n d : Nat) (e : Nd) : List Nd := e :: evs n d e.l e.k
theorem evs_succ (n d l i : Nat) : evs n (d + 1) l i = (kids n l i).flatMap (subK n d) := rfl
structure GoodE (n : Nat) (e : Nd) : Prop where
  node : path_Node 300 (n : Int) (e.p : Int) = some ((e.l : Int), (e.k : Int), true)
  below : path_Below 300 (n : Int) (e.l : Int) (e.k : Int) = some ((e.a : Int), (e.b : Int))
  lt : e.p < toK n
  l64 : e.l ≤ 64
  k64 : e.k ≤ 64
  l1 : 1 ≤ e.l
  lf : e.l = dpK n → e.k < n
  lfb : e.l = dpK n → e.a = e.k ∧ e.b = e.k + 1
theorem goodE_of {n : Nat} {e : Nd} (h : goodE n e = true) : GoodE n e := by
  unfold goodE at h
  simp only [Bool.and_eq_true, decide_eq_true_eq] at h
  obtain ⟨⟨⟨⟨⟨⟨⟨h1, h2⟩, h3⟩, h4⟩, h5⟩, h6⟩, h7⟩, h8⟩ := h
  exact ⟨h1, h2, h3, h4, h5, h6, h7, h8⟩
theorem goodT_succ {n d l i a b : Nat} (h : goodT n (d + 1) l i a b = true) : path_Children 300 (n : Int) (l : Int) (i : Int) = some (toI ((kids n l i).map (·.p))) ∧ (kids n l i).length < 100 ∧
    ∀ e ∈ kids n l i, GoodE n e ∧ a ≤ e.a ∧ e.b ≤ b ∧ goodT n d e.l e.k e.a e.b = true := by
  rw [goodT] at h
  simp only [Bool.and_eq_true, decide_eq_true_eq, List.all_eq_true] at h
  obtain ⟨⟨h1, h2⟩, h3⟩ := h
  refine ⟨h1, h2, fun e he => ?_⟩
  obtain ⟨⟨⟨g1, g2⟩, g3⟩, g4⟩ := h3 e he
  exact ⟨goodE_of g1, g2, g3, g4⟩
theorem kids_par {n l i : Nat} {e : Nd} (h : e ∈ kids n l i) : e.pl = l ∧ e.pi = i := by
  unfold kids at h
  obtain ⟨p, _, rfl⟩ := List.mem_map.mp h
  exact ⟨rfl, rfl⟩
theorem toI_at {l : List Nat} {j x : Nat} (h : l[j]? = some x) : (toI l)[j]? = some (x : Int) := by unfold toI; rw [List.getElem?_map, h]; rfl
theorem toI_len (l : List Nat) : (toI l).length = l.length := by simp [toI]
theorem nd_cons {n d : Nat} {e : Nd} {rs : List Nd} (h : (((e :: rs).flatMap (subK n d)).map (·.p)).Nodup) :
    ((evs n d e.l e.k).map (·.p)).Nodup ∧ ((rs.flatMap (subK n d)).map (·.p)).Nodup ∧ (∀ x ∈ [e], ∀ y ∈ evs n d e.l e.k, x.p ≠ y.p) ∧ (∀ x ∈ [e] ++ evs n d e.l e.k, ∀ y ∈ rs.flatMap (subK n d), x.p ≠ y.p) := by
  rw [List.flatMap_cons, List.map_append, List.nodup_append] at h
  obtain ⟨h1, h2, h3⟩ := h
  rw [subK, List.map_cons, List.nodup_cons] at h1
  refine ⟨h1.2, h2, fun x hx y hy z => ?_, fun x hx y hy => ?_⟩
  · obtain rfl := List.mem_singleton.mp hx
    exact h1.1 (z ▸ List.mem_map_of_mem hy)
  · exact h3 _ (List.mem_map_of_mem (show x ∈ subK n d e from hx)) _ (List.mem_map_of_mem hy)
theorem layMake (n : Nat) (seed : List UInt8) (K : KyT) (hK : ∀ l k, (K l k).length = 32) (hkey : ∀ e, GoodE n e → keytree_Make_1 300 (e.l : Int) (e.k : Int) seed = some (K e.l e.k)) :
    ∀ (d kf l i a b : Nat) (out : List (List UInt8)), goodT n d l i a b = true → d ≤ kf → ((evs n d l i).map (·.p)).Nodup → out.length = toK n →
      ∃ out', keytree_lay_1_kf4_24_0_1_self6_k 300 kf (l : Int) (i : Int) (K l i) (n : Int) seed out = some out' ∧ Laid K (evs n d l i) out out' := by
  intro d
  induction d with
  | zero => intro kf l i a b out h; exact absurd h (by simp [goodT])
  | succ d ih =>
    intro kf l i a b out hg hkf hnd hlen
    obtain ⟨kf, rfl⟩ : ∃ m, kf = m + 1 := ⟨kf - 1, by omega⟩
    obtain ⟨hc, hl, he⟩ := goodT_succ hg
    have loop : ∀ (rs pre : List Nd) (k : Nat) (out : List (List UInt8)), kids n l i = pre ++ rs → rs.length < k → ((rs.flatMap (subK n d)).map (·.p)).Nodup → out.length = toK n →
        ∃ out', keytree_lay_1_kf4_24_0_1_self6_l0 (keytree_lay_1_kf4_24_0_1_self6_k 300 kf) 300 (K l i) (n : Int) seed (toI ((kids n l i).map (·.p))) k (pre.length : Int) out = some out' ∧ Laid K (rs.flatMap (subK n d)) out out' := by
      intro rs
      induction rs with
      | nil =>
        intro pre k out hp hk hnd hlen
        obtain ⟨k, rfl⟩ : ∃ m, k = m + 1 := ⟨k - 1, by omega⟩
        rw [keytree_lay_1_kf4_24_0_1_self6_l0, if_neg (by rw [toI_len, List.length_map, hp]; simp)]
        exact ⟨out, rfl, Laid.nil⟩
      | cons e rs ihr =>
        intro pre k out hp hk hnd hlen
        obtain ⟨k, rfl⟩ : ∃ m, k = m + 1 := ⟨k - 1, by omega⟩
        have hm : e ∈ kids n l i := by rw [hp]; simp
        obtain ⟨E, _, _, hgt⟩ := he e hm
        obtain ⟨e1, e2⟩ := kids_par hm
        have hlt : pre.length < (toI ((kids n l i).map (·.p))).length := by rw [toI_len, List.length_map, hp]; simp
        have hx : (toI ((kids n l i).map (·.p)))[pre.length]? = some (e.p : Int) := toI_at (by rw [hp]; simp)
        obtain ⟨n1, n2, n3, n4⟩ := nd_cons hnd
        have hv : wrapL (K l i) (K e.l e.k) = valK K e := by unfold valK; rw [e1, e2]
        obtain ⟨o2, h2, L2⟩ := ih kf e.l e.k e.a e.b (out.set e.p (wrapL (K l i) (K e.l e.k))) hgt (by omega) n1 (by rw [List.length_set, hlen])
        have L12 := (Laid.one (o := out) e hv (by rw [hlen]; exact E.lt)).app L2 n3
        obtain ⟨o3, h3, L3⟩ := ihr (pre ++ [e]) k o2 (by rw [hp]; simp) (by simp at hk; omega) n2 (by rw [L12.len, hlen])
        refine ⟨o3, ?_, L12.app L3 n4⟩
        rw [keytree_lay_1_kf4_24_0_1_self6_l0, if_pos (by omega)]
        refine (bnd_eqW (ix_nat hlt) _).trans ?_
        refine (bnd_eqW hx _).trans ?_
        refine (bnd_eqW E.node _).trans ?_
        refine (bnd_eqW (hkey e E) _).trans ?_
        refine (bnd_eqW (wrap32 (hK _ _) (hK _ _)) _).trans ?_
        refine (bnd_eqW (ix_nat (by rw [hlen]; exact E.lt)) _).trans ?_
        refine (bnd_eqW h2 _).trans ?_
        rw [w_upC _ (by rw [toI_len, List.length_map] at hlt; omega), show pre.length + 1 = (pre ++ [e]).length by simp]
        exact h3
    obtain ⟨o', h1, L⟩ := loop (kids n l i) [] 300 out rfl (by omega) hnd hlen
    refine ⟨o', ?_, L⟩
    rw [keytree_lay_1_kf4_24_0_1_self6_k]
    refine (bnd_eqW hc _).trans ?_
    exact (bnd_eqW h1 _).trans rfl
/-! leaves -/
theorem leaf_l0 {K : KyT} (hK : ∀ l k, (K l k).length = 32) {tree : List (List UInt8)} {es : List Nd} (hT : Had K es tree) {all : List Nat} (ha : all.length < 100) :
    ∀ (ps pre : List Nat) (k l i L I : Nat), all = pre ++ ps → chainK es ps l i = some (L, I) → ps.length < k → keytree_Leaf_l0 300 tree (toI all) k (K l i) (pre.length : Int) = some (.inr (K L I)) := by
  intro ps
  induction ps with
  | nil =>
    intro pre k l i L I hp hc hk
    obtain ⟨k, rfl⟩ : ∃ m, k = m + 1 := ⟨k - 1, by omega⟩
    rw [keytree_Leaf_l0, if_neg (by rw [toI_len, hp]; simp)]
    rw [chainK] at hc
    cases hc
    rfl
  | cons p ps ih =>
    intro pre k l i L I hp hc hk
    obtain ⟨k, rfl⟩ : ∃ m, k = m + 1 := ⟨k - 1, by omega⟩
    rw [chainK] at hc
    cases hf : es.find? (fun e => e.p == p && e.pl == l && e.pi == i) with
    | none => rw [hf] at hc; cases hc
    | some e =>
      rw [hf] at hc
      dsimp only at hc
      have he := List.find?_some hf
      simp only [Bool.and_eq_true, beq_iff_eq] at he
      obtain ⟨⟨e1, e2⟩, e3⟩ := he
      have hm := List.mem_of_find?_eq_some hf
      have ht := hT e hm
      rw [e1, valK, e2, e3] at ht
      have hlt : pre.length < (toI all).length := by rw [toI_len, hp]; simp
      rw [keytree_Leaf_l0, if_pos (by omega)]
      refine (bnd_eqW (ix_nat hlt) _).trans ?_
      refine (bnd_eqW (toI_at (x := p) (by rw [hp]; simp)) _).trans ?_
      refine (bnd_eqW ((idx_nat _ _).trans ht) _).trans ?_
      refine (bnd_eqW (unwrap32 (hK _ _) (hK _ _)) _).trans ?_
      rw [if_neg (by simp), w_upC _ (by rw [toI_len] at hlt; omega), show pre.length + 1 = (pre ++ [p]).length by simp]
      exact ih (pre ++ [p]) k e.l e.k L I (by rw [hp]; simp) hc (by simp at hk; omega)
end
end Go.Proofs.Ytohgmggdfmjgnaa
