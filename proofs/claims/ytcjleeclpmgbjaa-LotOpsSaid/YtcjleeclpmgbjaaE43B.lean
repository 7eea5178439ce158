/- LotOps: the plain law. -/
import Derived.Test.YtcjleeclpmgbjaaE43A
import Derived.Test.YtcjleeclpmgbjaaLr2
set_option linter.unusedVariables false
set_option linter.unusedSimpArgs false
namespace Go.Proofs.Ytcjleeclpmgbjaa
open Go.RowKit
abbrev OpL := Int × Int × Int × Int × Int × (List UInt8) × (List UInt8)
theorem w_upL (n : Nat) (h : n < 1000000) : w64 ((n : Int) + 1) = ((n + 1 : Nat) : Int) := by rw [w64_of (by omega)]; omega
/-- data by lot: both loops -/
theorem dataB (seed : List UInt8) (hs : seed.length ≤ 100) (size : Nat) (hz : size ≤ 256) (a b c e f : Int) (cr : List UInt8) : ∀ (d k i t : Nat) (D : List UInt8), i + d = size → d < k → t + d < 1000000 → D.length + d ≤ 256 → ∃ D' : List UInt8, D'.length ≤ 256 ∧ lot_draw_clo2_8_1_0_l0 300 (size : Int) k (i : Int) (seed, UInt64.ofNat t, true) (a, b, c, e, f, cr, D) = some ((seed, UInt64.ofNat (t + d), true), (a, b, c, e, f, cr, D')) ∧ chatelaineref43_Lot_Op_l0 300 (size : Int) k (i : Int) (seed, (t : Int)) (a, b, c, e, f, cr, D) = some ((seed, ((t + d : Nat) : Int)), (a, b, c, e, f, cr, D')) := by
  intro d
  induction d with
  | zero =>
    intro k i t D hi hk ht hD
    obtain ⟨k, rfl⟩ : ∃ m, k = m + 1 := ⟨k - 1, by omega⟩
    exact ⟨D, by omega, by rw [lot_draw_clo2_8_1_0_l0, if_neg (by omega)]; rfl, by rw [chatelaineref43_Lot_Op_l0, if_neg (by omega)]; rfl⟩
  | succ d ih =>
    intro k i t D hi hk ht hD
    obtain ⟨k, rfl⟩ : ∃ m, k = m + 1 := ⟨k - 1, by omega⟩
    obtain ⟨D', hD', e1, e2⟩ := ih k (i + 1) (t + 1) (D ++ [i8 (Int.tmod (nx seed t : Int) 256)]) (by omega) (by omega) (by omega) (by simp; omega)
    refine ⟨D', hD', ?_, ?_⟩
    · rw [lot_draw_clo2_8_1_0_l0, if_pos (by omega)]
      refine (bnd_eqL (pBelow seed hs t (by omega) 256 (by omega)) _).trans ?_
      refine (bnd_eqL (app_sL (by omega) _ _ (by simp; omega)) _).trans ?_
      dsimp only
      rw [w_upL i (by omega), e1, show t + 1 + d = t + (d + 1) by omega]
    · rw [chatelaineref43_Lot_Op_l0, if_pos (by omega)]
      refine (bnd_eqL (rBelow seed hs t (by omega) 256 (by omega)) _).trans ?_
      refine (bnd_eqL (app_sL (by omega) _ _ (by simp; omega)) _).trans ?_
      dsimp only
      rw [w_upL i (by omega), e2, show t + 1 + d = t + (d + 1) by omega]
def lt0 (seed : List UInt8) (t : Nat) : List UInt8 × UInt64 × Bool := (seed, UInt64.ofNat t, true)
theorem pKind (seed : List UInt8) (hs : seed.length ≤ 100) (x : Ld) (hx : mayL x = true) (t : Nat) (ht : t < 100000) : lot_kind_clo1_8_1_0 300 x (seed, UInt64.ofNat t, true) =
    (if Int.tmod (nx seed t : Int) 100 < x.2.2.2.1 then some (8, lt0 seed (t + 1)) else if Int.tmod (nx seed t : Int) 100 < x.2.2.2.1 + x.2.2.2.2.1 then some (7, lt0 seed (t + 1)) else if Int.tmod (nx seed t : Int) 100 < x.2.2.2.1 + x.2.2.2.2.1 + x.2.2.2.2.2 then some (10, lt0 seed (t + 1)) else
      if Int.tmod (nx seed (t + 1) : Int) 3 = 0 then some (9, lt0 seed (t + 2)) else if Int.tmod (nx seed (t + 1) : Int) 3 = 1 then some (6, lt0 seed (t + 2)) else some (3, lt0 seed (t + 2))) := by
  unfold mayL at hx
  simp only [Bool.and_eq_true, inB_iff, decide_eq_true_eq] at hx
  unfold lot_kind_clo1_8_1_0
  refine (bnd_eqL (pBelow seed hs t (by omega) 100 (by omega)) _).trans ?_
  dsimp only
  rw [w64_of (x := x.2.2.2.1 + x.2.2.2.2.1) (by omega), w64_of (x := x.2.2.2.1 + x.2.2.2.2.1 + x.2.2.2.2.2) (by omega), pBelow seed hs (t + 1) (by omega) 3 (by omega)]
  rfl
/-- an op by lot: both texts -/
theorem opBoth (seed : List UInt8) (hs : seed.length ≤ 100) (x : Ld) (hx : mayL x = true) (size : Int) (hz : 64 ≤ size ∧ size ≤ 256) (t : Nat) (ht : t < 10000) :
    ∃ (op : OpL) (t' : Nat), t' ≤ t + 300 ∧ op.2.2.2.2.2.1.length ≤ 256 ∧ op.2.2.2.2.2.2.length ≤ 256 ∧ lot_draw_clo2_8_1_0 300 x size (seed, UInt64.ofNat t, true) = some (op, (seed, UInt64.ofNat t', true)) ∧ chatelaineref43_Lot_Op 300 (seed, (t : Int)) x size = some (op, (seed, (t' : Int))) := by
  have hk := pKind seed hs x hx (t + 1) (by omega)
  unfold mayL at hx
  simp only [Bool.and_eq_true, inB_iff, decide_eq_true_eq] at hx
  obtain ⟨O, T, S, W, R, E⟩ := x
  simp only at hx hk
  have b1 := pBelow seed hs t (by omega) T (by omega)
  have r1 := rBelow seed hs t (by omega) T (by omega)
  have r2 := rBelow seed hs (t + 1) (by omega) 100 (by omega)
  have r3 := rBelow seed hs (t + 1 + 1) (by omega) 3 (by omega)
  have hm1 := Int.tmod_nonneg T (show (0 : Int) ≤ (nx seed t : Int) by omega)
  have hm2 := Int.tmod_lt_of_pos (nx seed t : Int) (show (0 : Int) < T by omega)
  have hk0 := Int.tmod_nonneg 3 (show (0 : Int) ≤ (nx seed (t + 1 + 1) : Int) by omega)
  have hk3 := Int.tmod_lt_of_pos (nx seed (t + 1 + 1) : Int) (show (0 : Int) < 3 by omega)
  generalize Int.tmod (nx seed t : Int) T = m at b1 r1 hm1 hm2
  have e0 : w64 (1 + m) = 1 + m := w64_of (by omega)
  obtain ⟨c1, c2⟩ := pCred (1 + m) (by omega) (by omega)
  have e1 : w64 (W + R) = W + R := w64_of (by omega)
  have e2 : w64 (W + R + E) = W + R + E := w64_of (by omega)
  obtain ⟨z, rfl⟩ : ∃ z : Nat, size = (z : Int) := ⟨size.toNat, by omega⟩
  have hcl : (credL (1 + m).toNat).length ≤ 256 := by simp [credL]
  generalize credL (1 + m).toNat = cr at c1 c2 hcl
  generalize Int.tmod (nx seed (t + 1) : Int) 100 = n at hk r2
  generalize Int.tmod (nx seed (t + 1 + 1) : Int) 3 = q at hk r3 hk0 hk3
  unfold lt0 at hk
  -- the parts that are alike
  have L : ∀ (K : Int) (t2 : Nat) (op : OpL) (t' : Nat), lot_kind_clo1_8_1_0 300 (O, T, S, W, R, E) (seed, UInt64.ofNat (t + 1), true) = some (K, (seed, UInt64.ofNat t2, true)) →
      (((if K = 6 then (some ((seed, UInt64.ofNat t2, true), (K, 1 + m, 0, 0, 0, cr, []))) else (if K = 3 then (some ((seed, UInt64.ofNat t2, true), (K, 1 + m, 1 + m, S, 0, cr, []))) else ((lot_Lot_Below 300 (seed, UInt64.ofNat t2, true) S).bind fun x80 => some (x80.2, (K, 1 + m, 1 + m, x80.1, 0, cr, []))))) : Option ((List UInt8 × UInt64 × Bool) × OpL)).bind fun (x61, x65) => (if ((decide (x65.1 = 9)) || (decide (x65.1 = 10))) = true then (some (x65.1, x65.2.1, x65.2.2.1, x65.2.2.2.1, 1, x65.2.2.2.2.2.1, x65.2.2.2.2.2.2)) else (some x65)).bind fun x93 => (if x93.1 = 8 then ((lot_draw_clo2_8_1_0_l0 300 (z : Int) 300 0 x61 x93).bind fun (x157, x161) => some (x157, x161)) else (some (x61, x93))).bind fun (x113, x117) => some (x117, x113)) = some (op, (seed, UInt64.ofNat t', true)) →
      lot_draw_clo2_8_1_0 300 (O, T, S, W, R, E) (z : Int) (seed, UInt64.ofNat t, true) = some (op, (seed, UInt64.ofNat t', true)) := by
    intro K t2 op t' h1 h2
    unfold lot_draw_clo2_8_1_0
    refine (bnd_eqL b1 _).trans ?_
    refine (bnd_eqL h1 _).trans ?_
    dsimp only
    rw [e0]
    refine (bnd_eqL c1 _).trans ?_
    exact h2
  have bS : ∀ u : Nat, u < 100000 → ∃ v : Int, lot_Lot_Below 300 (seed, UInt64.ofNat u, true) S = some (v, (seed, UInt64.ofNat (u + 1), true)) ∧ chatelaineref43_Lot_Below 300 (seed, (u : Int)) S = some (v, (seed, ((u + 1 : Nat) : Int))) :=
    fun u hu => ⟨_, pBelow seed hs u (by omega) S (by omega), rBelow seed hs u (by omega) S (by omega)⟩
  by_cases d1 : n < W
  · rw [if_pos d1] at hk
    obtain ⟨v, v1, v2⟩ := bS (t + 2) (by omega)
    obtain ⟨D, hD, f1, f2⟩ := dataB seed hs z (by omega) 8 (1 + m) (1 + m) v 0 cr z 300 0 (t + 3) [] (by omega) (by omega) (by omega) (by simp; omega)
    refine ⟨(8, 1 + m, 1 + m, v, 0, cr, D), t + 3 + z, by omega, hcl, hD, L 8 (t + 2) _ _ hk ?_, ?_⟩
    · rw [if_neg (by decide), if_neg (by decide), v1]
      have g1 : lot_draw_clo2_8_1_0_l0 300 (z : Int) 300 0 (seed, UInt64.ofNat (t + 2 + 1), true) (8, 1 + m, 1 + m, v, 0, cr, []) = some ((seed, UInt64.ofNat (t + 3 + z), true), (8, 1 + m, 1 + m, v, 0, cr, D)) := f1
      dsimp only [Option.bind_some]
      rw [if_neg (by simp)]
      dsimp only [Option.bind_some]
      rw [if_pos rfl]
      rw [g1]; rfl
    · unfold chatelaineref43_Lot_Op
      refine (bnd_eqL r1 _).trans ?_
      refine (bnd_eqL r2 _).trans ?_
      dsimp only
      rw [e0]
      refine (bnd_eqL c2 _).trans ?_
      rw [if_pos d1]
      dsimp only [Option.bind_some]
      refine (bnd_eqL v2 _).trans ?_
      dsimp only
      have g2 : chatelaineref43_Lot_Op_l0 300 (z : Int) 300 0 (seed, ((t + 2 + 1 : Nat) : Int)) (8, 1 + m, 1 + m, v, 0, cr, []) = some ((seed, ((t + 3 + z : Nat) : Int)), (8, 1 + m, 1 + m, v, 0, cr, D)) := f2
      rw [if_pos rfl, g2]; rfl
  rw [if_neg d1] at hk
  by_cases d2 : n < W + R
  · rw [if_pos d2] at hk
    obtain ⟨v, v1, v2⟩ := bS (t + 2) (by omega)
    refine ⟨(7, 1 + m, 1 + m, v, 0, cr, []), t + 3, by omega, hcl, by simp, L 7 (t + 2) _ _ hk ?_, ?_⟩
    · rw [if_neg (by decide), if_neg (by decide), v1]
      rfl
    · unfold chatelaineref43_Lot_Op
      refine (bnd_eqL r1 _).trans ?_
      refine (bnd_eqL r2 _).trans ?_
      dsimp only
      rw [e0]
      refine (bnd_eqL c2 _).trans ?_
      rw [if_neg d1, e1, if_pos d2]
      dsimp only [Option.bind_some]
      refine (bnd_eqL v2 _).trans ?_
      rfl
  rw [if_neg d2] at hk
  by_cases d3 : n < W + R + E
  · rw [if_pos d3] at hk
    obtain ⟨v, v1, v2⟩ := bS (t + 2) (by omega)
    refine ⟨(10, 1 + m, 1 + m, v, 1, cr, []), t + 3, by omega, hcl, by simp, L 10 (t + 2) _ _ hk ?_, ?_⟩
    · rw [if_neg (by decide), if_neg (by decide), v1]
      rfl
    · unfold chatelaineref43_Lot_Op
      refine (bnd_eqL r1 _).trans ?_
      refine (bnd_eqL r2 _).trans ?_
      dsimp only
      rw [e0]
      refine (bnd_eqL c2 _).trans ?_
      rw [if_neg d1, e1, if_neg d2, e2, if_pos d3]
      dsimp only [Option.bind_some]
      refine (bnd_eqL v2 _).trans ?_
      rfl
  rw [if_neg d3] at hk
  by_cases d4 : q = 0
  · rw [if_pos d4] at hk
    obtain ⟨v, v1, v2⟩ := bS (t + 3) (by omega)
    refine ⟨(9, 1 + m, 1 + m, v, 1, cr, []), t + 4, by omega, hcl, by simp, L 9 (t + 3) _ _ hk ?_, ?_⟩
    · rw [if_neg (by decide), if_neg (by decide), v1]
      rfl
    · unfold chatelaineref43_Lot_Op
      refine (bnd_eqL r1 _).trans ?_
      refine (bnd_eqL r2 _).trans ?_
      dsimp only
      rw [e0]
      refine (bnd_eqL c2 _).trans ?_
      rw [if_neg d1, e1, if_neg d2, e2, if_neg d3]
      refine (bnd_eqL (x := .inr ((seed, ((t + 3 : Nat) : Int)), (9, 1 + m, 1 + m, 0, 1, cr, []))) ?_ _).trans ?_
      · refine (bnd_eqL r3 _).trans ?_
        rw [if_neg (by simp only; omega), if_neg (by simp only; omega)]
      · dsimp only
        refine (bnd_eqL v2 _).trans ?_
        rfl
  rw [if_neg d4] at hk
  by_cases d5 : q = 1
  · rw [if_pos d5] at hk
    refine ⟨(6, 1 + m, 0, 0, 0, cr, []), t + 3, by omega, hcl, by simp, L 6 (t + 3) _ _ hk ?_, ?_⟩
    · rfl
    · unfold chatelaineref43_Lot_Op
      refine (bnd_eqL r1 _).trans ?_
      refine (bnd_eqL r2 _).trans ?_
      dsimp only
      rw [e0]
      refine (bnd_eqL c2 _).trans ?_
      rw [if_neg d1, e1, if_neg d2, e2, if_neg d3]
      refine (bnd_eqL (x := .inl ((6, 1 + m, 0, 0, 0, cr, []), (seed, ((t + 3 : Nat) : Int)))) ?_ _).trans ?_
      · refine (bnd_eqL r3 _).trans ?_
        rw [if_pos d5]
      · rfl
  · rw [if_neg d5] at hk
    refine ⟨(3, 1 + m, 1 + m, S, 0, cr, []), t + 3, by omega, hcl, by simp, L 3 (t + 3) _ _ hk ?_, ?_⟩
    · rfl
    · unfold chatelaineref43_Lot_Op
      refine (bnd_eqL r1 _).trans ?_
      refine (bnd_eqL r2 _).trans ?_
      dsimp only
      rw [e0]
      refine (bnd_eqL c2 _).trans ?_
      rw [if_neg d1, e1, if_neg d2, e2, if_neg d3]
      refine (bnd_eqL (x := .inl ((3, 1 + m, 1 + m, S, 0, cr, []), (seed, ((t + 3 : Nat) : Int)))) ?_ _).trans ?_
      · refine (bnd_eqL r3 _).trans ?_
        rw [if_neg d5, if_pos (by simp only; omega)]
      · rfl
/-- ops, one behind the other, as the reference draws them -/
def Chn (seed : List UInt8) (x : Ld) (size : Int) : Nat → List OpL → Prop
  | _, [] => True
  | t, op :: L => op.2.2.2.2.2.1.length ≤ 256 ∧ op.2.2.2.2.2.2.length ≤ 256 ∧ ∃ t', chatelaineref43_Lot_Op 300 (seed, (t : Int)) x size = some (op, (seed, ((t' : Nat) : Int))) ∧ Chn seed x size t' L
theorem ops_l0 (seed : List UInt8) (hs : seed.length ≤ 100) (x : Ld) (hx : mayL x = true) (size : Int) (hz : 64 ≤ size ∧ size ≤ 256) (n : Nat) (hn : x.1 = (n : Int)) (hn12 : n ≤ 12) : ∀ (d k i t : Nat) (acc : List OpL), i + d = n → d < k → d ≤ 12 → t + 300 * d < 10000 → acc.length + d ≤ 1000 → ∃ L : List OpL, L.length = d ∧ Chn seed x size t L ∧ lot_Ops_l0 300 x size k (i : Int) (seed, UInt64.ofNat t, true) acc = some (acc ++ L) := by
  intro d
  induction d with
  | zero =>
    intro k i t acc hi hk h12 ht hacc
    obtain ⟨k, rfl⟩ : ∃ m, k = m + 1 := ⟨k - 1, by omega⟩
    exact ⟨[], rfl, trivial, by rw [lot_Ops_l0, if_neg (by omega), List.append_nil]⟩
  | succ d ih =>
    intro k i t acc hi hk h12 ht hacc
    obtain ⟨k, rfl⟩ : ∃ m, k = m + 1 := ⟨k - 1, by omega⟩
    obtain ⟨op, t', h1, h2, h3, h4, h5⟩ := opBoth seed hs x hx size hz t (by omega)
    obtain ⟨L, hL, hC, hr⟩ := ih k (i + 1) t' (acc ++ [op]) (by omega) (by omega) (by omega) (by omega) (by simp; omega)
    refine ⟨op :: L, by simp [hL], ⟨h2, h3, t', h5, hC⟩, ?_⟩
    rw [lot_Ops_l0, if_pos (by omega)]
    refine (bnd_eqL h4 _).trans ?_
    refine (bnd_eqL (app_sL (by omega) _ _ (by simp; omega)) _).trans ?_
    dsimp only
    rw [w_upL i (by omega), hr]
    simp
/-- the first ops -/
theorem first0 (x : Ld) (n : Nat) (hn : x.2.1 = (n : Int)) (h16 : n ≤ 16) (admin : List UInt8) (ha : admin.length ≤ 256) : ∀ (d k i : Nat) (acc : List OpL), i + d = n + 1 → 1 ≤ i → d < k → acc.length + d ≤ 1000 → (∀ o ∈ acc, o.2.2.2.2.2.1.length ≤ 256 ∧ o.2.2.2.2.2.2.length ≤ 256) → ∃ r : List OpL, r.length = acc.length + d ∧ (∀ o ∈ r, o.2.2.2.2.2.1.length ≤ 256 ∧ o.2.2.2.2.2.2.length ≤ 256) ∧ lot_first_l0 300 x admin k acc (i : Int) = some r ∧ chatelaineref43_First_l0 300 x admin k acc (i : Int) = some r := by
  intro d
  induction d with
  | zero =>
    intro k i acc hi h1 hk hacc hl
    obtain ⟨k, rfl⟩ : ∃ m, k = m + 1 := ⟨k - 1, by omega⟩
    exact ⟨acc, by simp, hl, by rw [lot_first_l0, if_neg (by omega)], by rw [chatelaineref43_First_l0, if_neg (by omega)]⟩
  | succ d ih =>
    intro k i acc hi h1 hk hacc hl
    obtain ⟨k, rfl⟩ : ∃ m, k = m + 1 := ⟨k - 1, by omega⟩
    obtain ⟨c1, c2⟩ := pCred (i : Int) (by omega) (by omega)
    obtain ⟨r, hr1, hr2, hr3, hr4⟩ := ih k (i + 1) (acc ++ [(1, (i : Int), 0, x.2.2.1, 0, admin, credL (i : Int).toNat)]) (by omega) (by omega) (by omega) (by simp; omega) (fun o ho => by
      rcases List.mem_append.1 ho with h | h
      · exact hl o h
      · rw [List.mem_singleton.1 h]; exact ⟨ha, by simp [credL]⟩)
    refine ⟨r, by rw [hr1]; simp; omega, hr2, ?_, ?_⟩
    · rw [lot_first_l0, if_pos (by omega)]
      refine (bnd_eqL c1 _).trans ?_
      refine (bnd_eqL (app_sL (by omega) _ _ (by simp; omega)) _).trans ?_
      rw [w_upL i (by omega)]; exact hr3
    · rw [chatelaineref43_First_l0, if_pos (by omega)]
      refine (bnd_eqL c2 _).trans ?_
      refine (bnd_eqL (app_sL (by omega) _ _ (by simp; omega)) _).trans ?_
      rw [w_upL i (by omega)]; exact hr4
theorem first1 (x : Ld) (n : Nat) (hn : x.2.1 = (n : Int)) (h16 : n ≤ 16) : ∀ (d k i : Nat) (acc : List OpL), i + d = n + 1 → 1 ≤ i → d < k → acc.length + d ≤ 1000 → (∀ o ∈ acc, o.2.2.2.2.2.1.length ≤ 256 ∧ o.2.2.2.2.2.2.length ≤ 256) → ∃ r : List OpL, r.length = acc.length + d ∧ (∀ o ∈ r, o.2.2.2.2.2.1.length ≤ 256 ∧ o.2.2.2.2.2.2.length ≤ 256) ∧ lot_first_l1 300 x k (i : Int) acc = some r ∧ chatelaineref43_First_l1 300 x k (i : Int) acc = some r := by
  intro d
  induction d with
  | zero =>
    intro k i acc hi h1 hk hacc hl
    obtain ⟨k, rfl⟩ : ∃ m, k = m + 1 := ⟨k - 1, by omega⟩
    exact ⟨acc, by simp, hl, by rw [lot_first_l1, if_neg (by omega)], by rw [chatelaineref43_First_l1, if_neg (by omega)]⟩
  | succ d ih =>
    intro k i acc hi h1 hk hacc hl
    obtain ⟨k, rfl⟩ : ∃ m, k = m + 1 := ⟨k - 1, by omega⟩
    obtain ⟨c1, c2⟩ := pCred (i : Int) (by omega) (by omega)
    obtain ⟨r, hr1, hr2, hr3, hr4⟩ := ih k (i + 1) (acc ++ [(2, (i : Int), (i : Int), x.2.2.1, 0, credL (i : Int).toNat, [])]) (by omega) (by omega) (by omega) (by simp; omega) (fun o ho => by
      rcases List.mem_append.1 ho with h | h
      · exact hl o h
      · rw [List.mem_singleton.1 h]; exact ⟨by simp [credL], by simp⟩)
    refine ⟨r, by rw [hr1]; simp; omega, hr2, ?_, ?_⟩
    · rw [lot_first_l1, if_pos (by omega)]
      refine (bnd_eqL c1 _).trans ?_
      refine (bnd_eqL (app_sL (by omega) _ _ (by simp; omega)) _).trans ?_
      rw [w_upL i (by omega)]; exact hr3
    · rw [chatelaineref43_First_l1, if_pos (by omega)]
      refine (bnd_eqL c2 _).trans ?_
      refine (bnd_eqL (app_sL (by omega) _ _ (by simp; omega)) _).trans ?_
      rw [w_upL i (by omega)]; exact hr4
theorem firstB (x : Ld) (hx : mayL x = true) (admin : List UInt8) (ha : admin.length ≤ 256) : ∃ r : List OpL, r.length ≤ 32 ∧ (∀ o ∈ r, o.2.2.2.2.2.1.length ≤ 256 ∧ o.2.2.2.2.2.2.length ≤ 256) ∧ lot_first 300 x admin = some r ∧ chatelaineref43_First 300 x admin = some r := by
  unfold mayL at hx
  simp only [Bool.and_eq_true, inB_iff, decide_eq_true_eq] at hx
  obtain ⟨n, hn⟩ : ∃ n : Nat, x.2.1 = (n : Int) := ⟨x.2.1.toNat, by omega⟩
  obtain ⟨r, a1, a2, a3, a4⟩ := first0 x n hn (by omega) admin ha n 300 1 [] (by omega) (by omega) (by omega) (by simp; omega) (by simp)
  obtain ⟨s, b1, b2, b3, b4⟩ := first1 x n hn (by omega) n 300 1 r (by omega) (by omega) (by omega) (by rw [a1]; simp; omega) a2
  refine ⟨s, by rw [b1, a1]; simp; omega, b2, ?_, ?_⟩
  · unfold lot_first
    refine (bnd_eqL a3 _).trans ?_
    exact (bnd_eqL b3 _).trans rfl
  · unfold chatelaineref43_First
    refine (bnd_eqL a4 _).trans ?_
    exact (bnd_eqL b4 _).trans rfl
theorem sameOp (o : OpL) (h1 : o.2.2.2.2.2.1.length ≤ 256) (h2 : o.2.2.2.2.2.2.length ≤ 256) : chatelaineref29_Same 300 o o = some true := by
  unfold chatelaineref29_Same
  refine (bnd_eqL (x := true) ?_ _).trans ?_
  · rw [if_pos (by simp)]
    refine (bnd_eqL (same8 300 _ _ (by omega) (by omega)) _).trans ?_
    simp
  · refine (bnd_eqL (x := true) ?_ _).trans rfl
    rw [if_pos rfl]
    refine (bnd_eqL (same8 300 _ _ (by omega) (by omega)) _).trans ?_
    simp
/-- the law's loop, behind the first ops -/
theorem law_l0b (seed : List UInt8) (x : Ld) (size : Int) (F L0 : List OpL) (e : Int) (hF : F.length ≤ 32) (h0 : L0.length ≤ 12) : ∀ (L : List OpL) (k i t : Nat), i + L.length = F.length + L0.length → F.length ≤ i → L0.drop (i - F.length) = L → L.length < k → Chn seed x size t L → chatelainelaw43_LotOps_l0 300 x size (F ++ L0, e) F k (i : Int) (seed, (t : Int)) = some (.inr ()) := by
  intro L
  induction L with
  | nil =>
    intro k i t hi hFi hL hk hC
    obtain ⟨k, rfl⟩ : ∃ m, k = m + 1 := ⟨k - 1, by omega⟩
    rw [chatelainelaw43_LotOps_l0, if_neg]
    simp only [List.length_append, List.length_nil] at hi ⊢
    omega
  | cons op L ih =>
    intro k i t hi hFi hL hk hC
    obtain ⟨k, rfl⟩ : ∃ m, k = m + 1 := ⟨k - 1, by omega⟩
    obtain ⟨h1, h2, t', h3, hC⟩ := hC
    simp only [List.length_cons] at hi hk
    rw [chatelainelaw43_LotOps_l0, if_pos (by simp only [List.length_append]; omega)]
    have hlt : i - F.length < L0.length := by omega
    have hd := List.drop_eq_getElem_cons hlt
    rw [hL] at hd
    injection hd with hd1 hd2
    have hg : (F ++ L0)[i]? = some op := by
      rw [List.getElem?_append_right (by omega), List.getElem?_eq_getElem hlt, hd1]
    refine (bnd_eqL (x := .inr (seed, (t' : Int))) ?_ _).trans ?_
    · refine (bnd_eqL (ix_nat (m := i) (by simp only [List.length_append]; omega)) _).trans ?_
      refine (bnd_eqL hg _).trans ?_
      rw [if_neg (by omega)]
      refine (bnd_eqL h3 _).trans ?_
      refine (bnd_eqL (sameOp op h1 h2) _).trans ?_
      rfl
    · dsimp only
      rw [w_upL i (by omega)]
      exact ih k (i + 1) t' (by omega) (by omega) (by rw [hd2]; congr 1; omega) (by omega) hC
theorem law_l0a (seed : List UInt8) (x : Ld) (size : Int) (F L0 : List OpL) (e : Int) (hF : F.length ≤ 32) (hl : ∀ o ∈ F, o.2.2.2.2.2.1.length ≤ 256 ∧ o.2.2.2.2.2.2.length ≤ 256) (h0 : L0.length ≤ 12) (hC : Chn seed x size 0 L0) : ∀ (d k i : Nat), i + d = F.length → d + L0.length < k → chatelainelaw43_LotOps_l0 300 x size (F ++ L0, e) F k (i : Int) (seed, ((0 : Nat) : Int)) = some (.inr ()) := by
  intro d
  induction d with
  | zero =>
    intro k i hi hk
    exact law_l0b seed x size F L0 e hF h0 L0 k i 0 (by omega) (by omega) (by rw [show i - F.length = 0 by omega]; rfl) (by omega) hC
  | succ d ih =>
    intro k i hi hk
    obtain ⟨k, rfl⟩ : ∃ m, k = m + 1 := ⟨k - 1, by omega⟩
    have hlt : i < F.length := by omega
    rw [chatelainelaw43_LotOps_l0, if_pos (by simp only [List.length_append]; omega)]
    have hm := hl _ (List.getElem_mem hlt)
    refine (bnd_eqL (x := .inr (seed, ((0 : Nat) : Int))) ?_ _).trans ?_
    · refine (bnd_eqL (ix_nat (m := i) (by simp only [List.length_append]; omega)) _).trans ?_
      refine (bnd_eqL (by rw [List.getElem?_append_left hlt, List.getElem?_eq_getElem hlt]) _).trans ?_
      rw [if_pos (by omega)]
      refine (bnd_eqL (ix_nat hlt) _).trans ?_
      refine (bnd_eqL (List.getElem?_eq_getElem hlt) _).trans ?_
      refine (bnd_eqL (sameOp _ hm.1 hm.2) _).trans ?_
      rfl
    · dsimp only
      rw [w_upL i (by omega)]
      exact ih k (i + 1) (by omega) (by omega)
def wideL (z : Int) : Bool := (decide (64 ≤ z) && decide (z ≤ 256)) && decide (Int.tmod z 16 = 0)
theorem pWide (z : Int) : lot_wide 300 z = some (wideL z) := rfl
theorem rWide (z : Int) : chatelaineref43_Wide 300 z = some (wideL z) := rfl
abbrev admL : List UInt8 := [97, 100, 109, 105, 110, 105, 115, 116, 114, 97, 116, 111, 114]
def rightL (c : List UInt8) : Bool := decide (8 ≤ (c.length : Int)) && decide ((c.length : Int) ≤ 64)
theorem lot_Ops_bad (seed : List UInt8) (x : Ld) (c : List UInt8) (z : Int) (h : (mayL x && wideL z) = false) : lot_Ops 300 seed x c z = some ([], 2) := by
  unfold lot_Ops
  refine (bnd_eqL (pCheck x) _).trans ?_
  refine (bnd_eqL (x := true) ?_ _).trans ?_
  · cases hm : mayL x
    · rw [if_pos (by simp)]
    · rw [if_neg (by simp)]
      refine (bnd_eqL (pWide z) _).trans ?_
      rw [hm] at h
      simpa using h
  · rw [if_pos rfl]
theorem lot_Ops_good (seed : List UInt8) (x : Ld) (c : List UInt8) (z : Int) (h : (mayL x && wideL z) = true) : lot_Ops 300 seed x c z = if (!rightL c) = true then some ([], 30) else ((lot_New 300 seed).bind fun x33 => (lot_first 300 x c).bind fun x43 => (lot_Ops_l0 300 x z 300 0 x33 x43).bind fun x72 => some (x72, 0)) := by
  simp only [Bool.and_eq_true] at h
  unfold lot_Ops
  refine (bnd_eqL (pCheck x) _).trans ?_
  refine (bnd_eqL (x := false) ?_ _).trans ?_
  · rw [h.1, if_neg (by simp)]
    refine (bnd_eqL (pWide z) _).trans ?_
    rw [h.2]; rfl
  · rw [if_neg (by simp)]
    rfl
/-- all ops of a load -/
theorem opsAll (seed : List UInt8) (hs : seed.length ≤ 100) (x : Ld) (hx : mayL x = true) (h12 : x.1 ≤ 12) (z : Int) (hz : wideL z = true) (c : List UInt8) (hc : rightL c = true) : ∃ F L : List OpL, F.length ≤ 32 ∧ (∀ o ∈ F, o.2.2.2.2.2.1.length ≤ 256 ∧ o.2.2.2.2.2.2.length ≤ 256) ∧ (L.length : Int) = x.1 ∧ L.length ≤ 12 ∧ Chn seed x z 0 L ∧ chatelaineref43_First 300 x c = some F ∧ lot_Ops 300 seed x c z = some (F ++ L, 0) := by
  have hcl : c.length ≤ 256 := by unfold rightL at hc; simp only [Bool.and_eq_true, decide_eq_true_eq] at hc; omega
  obtain ⟨F, f1, f2, f3, f4⟩ := firstB x hx c hcl
  have hzz : 64 ≤ z ∧ z ≤ 256 := by unfold wideL at hz; simp only [Bool.and_eq_true, decide_eq_true_eq] at hz; exact hz.1
  have hx' := hx
  unfold mayL at hx'
  simp only [Bool.and_eq_true, inB_iff, decide_eq_true_eq] at hx'
  obtain ⟨n, hn⟩ : ∃ n : Nat, x.1 = (n : Int) := ⟨x.1.toNat, by omega⟩
  obtain ⟨L, l1, l2, l3⟩ := ops_l0 seed hs x hx z hzz n hn (by omega) n 300 0 0 F (by omega) (by omega) (by omega) (by omega) (by omega)
  refine ⟨F, L, f1, f2, by omega, by omega, l2, f4, ?_⟩
  rw [lot_Ops_good seed x c z (by rw [hx, hz]; rfl), if_neg (by rw [hc]; simp)]
  refine (bnd_eqL (pNew seed hs) _).trans ?_
  refine (bnd_eqL f3 _).trans ?_
  exact (bnd_eqL l3 _).trans rfl
theorem chatelainelaw43_LotOps_true (a0 : List UInt8) (_ : ∀ x ∈ a0, ty8.has x) (_ : a0.length ≤ maxLen) (a1 : Ld) (_ : (tyP tyI (tyP tyI (tyP tyI (tyP tyI (tyP tyI tyI))))).has a1) (a2 : Int) (_ : r64 a2) : ∃ Fu, chatelainelaw43_LotOps Fu a0 a1 a2 = some true := by
  refine ⟨300, ?_⟩
  unfold chatelainelaw43_LotOps
  refine (bnd_eqL awakeL _).trans ?_
  rw [if_neg (by simp)]
  by_cases hs : a0.length ≤ 100 ∧ a1.1 ≤ 12
  · rw [if_neg (by simp only [Bool.or_eq_true, decide_eq_true_eq]; omega)]
    cases hg : (mayL a1 && wideL a2)
    · refine (bnd_eqL (lot_Ops_bad a0 a1 _ a2 hg) _).trans ?_
      refine (bnd_eqL (show lot_Geom 300 a1 a2 = some ((0, 0, 0, 0), 2) from ?_) _).trans ?_
      · unfold lot_Geom
        refine (bnd_eqL (pCheck a1) _).trans ?_
        refine (bnd_eqL (x := true) ?_ _).trans ?_
        · cases hm : mayL a1
          · rw [if_pos (by simp)]
          · rw [if_neg (by simp)]
            refine (bnd_eqL (pWide a2) _).trans ?_
            rw [hm] at hg
            simpa using hg
        · rw [if_pos rfl]
      refine (bnd_eqL (lot_Ops_bad a0 a1 _ a2 hg) _).trans ?_
      refine (bnd_eqL (rMay a1) _).trans ?_
      refine (bnd_eqL (x := true) ?_ _).trans ?_
      · cases hm : mayL a1
        · rfl
        · rw [if_neg (by simp)]
          refine (bnd_eqL (rWide a2) _).trans ?_
          rw [hm] at hg
          simpa using hg
      · rw [if_pos rfl]; rfl
    · have hg' := hg
      simp only [Bool.and_eq_true] at hg'
      obtain ⟨F, L, p1, p2, p3, p4, p5, p6, p7⟩ := opsAll a0 hs.1 a1 hg'.1 hs.2 a2 hg'.2 admL (by decide)
      refine (bnd_eqL p7 _).trans ?_
      have hb := hg'.1
      unfold mayL at hb
      simp only [Bool.and_eq_true, inB_iff, decide_eq_true_eq] at hb
      have hmul : 0 ≤ a1.2.1 * a1.2.2.1 ∧ a1.2.1 * a1.2.2.1 ≤ 65536 := by
        have h1 : a1.2.1 * a1.2.2.1 ≤ 16 * 4096 := Int.mul_le_mul hb.1.1.1.1.1.2.2 hb.1.1.1.1.2.2 (by omega) (by omega)
        have h2 : 0 ≤ a1.2.1 * a1.2.2.1 := Int.mul_nonneg (by omega) (by omega)
        omega
      have hgeo : lot_Geom 300 a1 a2 = if 4096 < a1.2.1 * a1.2.2.1 then some ((0, 0, 0, 0), 3) else some ((a2, a1.2.1, a1.2.1, a1.2.1 * a1.2.2.1), 0) := by
        unfold lot_Geom
        refine (bnd_eqL (pCheck a1) _).trans ?_
        refine (bnd_eqL (x := false) ?_ _).trans ?_
        · rw [hg'.1, if_neg (by simp)]
          refine (bnd_eqL (pWide a2) _).trans ?_
          rw [hg'.2]; rfl
        · rw [if_neg (by simp), w64_of (by omega)]
      obtain ⟨g, hgq, hg2⟩ : ∃ g : (Int × Int × Int × Int) × Int, lot_Geom 300 a1 a2 = some g ∧ (4096 < a1.2.1 * a1.2.2.1 → g.2 = 3) ∧ (¬ 4096 < a1.2.1 * a1.2.2.1 → g = ((a2, a1.2.1, a1.2.1, a1.2.1 * a1.2.2.1), 0)) := by
        rw [hgeo]
        by_cases h : 4096 < a1.2.1 * a1.2.2.1
        · exact ⟨_, if_pos h, fun _ => rfl, fun hh => absurd h hh⟩
        · exact ⟨_, if_neg h, fun hh => absurd hh h, fun _ => rfl⟩
      refine (bnd_eqL hgq _).trans ?_
      obtain ⟨q, hq1, hq2⟩ : ∃ q : List OpL × Int, lot_Ops 300 a0 a1 a0 a2 = some q ∧ (decide (q.2 = 30)) = !rightL a0 := by
        cases hr : rightL a0
        · exact ⟨([], 30), by rw [lot_Ops_good a0 a1 a0 a2 hg, hr]; rfl, rfl⟩
        · obtain ⟨F', L', _, _, _, _, _, _, h7⟩ := opsAll a0 hs.1 a1 hg'.1 hs.2 a2 hg'.2 a0 hr
          exact ⟨_, h7, rfl⟩
      refine (bnd_eqL hq1 _).trans ?_
      refine (bnd_eqL (rMay a1) _).trans ?_
      refine (bnd_eqL (x := false) ?_ _).trans ?_
      · rw [hg'.1, if_neg (by simp)]
        refine (bnd_eqL (rWide a2) _).trans ?_
        rw [hg'.2]; rfl
      rw [if_neg (by simp)]
      refine (bnd_eqL (show chatelaineref22_Right 300 a0 = some (rightL a0) from rfl) _).trans ?_
      rw [if_neg (by rw [hq2]; cases rightL a0 <;> simp)]
      rw [w64_of (x := a1.2.1 * a1.2.2.1) (by omega)]
      rw [if_neg]
      · refine (bnd_eqL p6 _).trans ?_
        rw [if_neg]
        · have := law_l0a a0 a1 a2 F L 0 p1 p2 p4 p5 F.length 300 0 (by omega) (by omega)
          refine (bnd_eqL this _).trans ?_
          rfl
        · simp only [List.length_append, Bool.or_eq_true, decide_eq_true_eq]
          rw [w64_of (by omega)]
          simp only [ne_eq, not_true_eq_false, false_or, Decidable.not_not]
          omega
      · by_cases h : 4096 < a1.2.1 * a1.2.2.1
        · have := hg2.1 h
          simp [h, this]
        · have := hg2.2 h
          rw [this]
          simp [h]
  · rw [if_pos]
    simp only [Bool.or_eq_true, decide_eq_true_eq]; omega
end Go.Proofs.Ytcjleeclpmgbjaa
