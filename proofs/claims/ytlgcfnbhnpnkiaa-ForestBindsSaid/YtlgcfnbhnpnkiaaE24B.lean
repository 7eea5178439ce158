/- ForestBinds: the plain law. -/
import Derived.Test.YtlgcfnbhnpnkiaaE24A
import Derived.Test.YtlgcfnbhnpnkiaaFj
set_option linter.unusedVariables false
set_option linter.unusedSimpArgs false
namespace Go.Proofs.Ytlgcfnbhnpnkiaa
open Go.RowKit
abbrev tSpB := (tyP tyI (tyP tyI (tyP tyI (tyP (tyL ty8) (tyP (tyL (tyP tyI tyI)) (tyP (tyL (tyL ty8)) (tyL (tyA 32 ty8))))))))
theorem has_s32B {s : Sp} (h : tSpB.has s) : S32 (sumsOf s) := fun x hx =>
  (has_A ((has_L (has_P (has_P (has_P (has_P (has_P (has_P h).2).2).2).2).2).2).2 x hx)).1
theorem and63 (x : Int) : ∃ n : Nat, n ≤ 63 ∧ i64_and x 63 = (n : Int) := by
  obtain ⟨n, hn⟩ : ∃ n, n = (BitVec.ofInt 64 x &&& BitVec.ofInt 64 63).toNat := ⟨_, rfl⟩
  have h1 : n ≤ 63 := by
    rw [hn, BitVec.toNat_and]
    exact Nat.le_trans Nat.and_le_right (by decide)
  refine ⟨n, h1, ?_⟩
  show IntKind.i64.wrap ((BitVec.ofInt 64 x &&& BitVec.ofInt 64 63).toNat : Int) = _
  rw [← hn, IntKind.wrap_i64]; omega
theorem par_all : ∀ t : Fin 16, i64_andNot (t.val : Int) 1 = ((t.val / 2 * 2 : Nat) : Int) ∧ i64_or (t.val : Int) 1 = ((t.val / 2 * 2 + 1 : Nat) : Int) := by decide +kernel
theorem shl_one (n : Nat) (h : n ≤ 12) : i64_shl 1 n = ((2 ^ n : Nat) : Int) := by
  have key : ∀ t : Fin 13, i64_shl 1 t.val = ((2 ^ t.val : Nat) : Int) := by decide +kernel
  exact key ⟨n, by omega⟩
theorem pNode (Fu : Nat) (l : List (List UInt8)) (hl : l.length ≤ 12) (e k : Nat) (he : e ≤ 12) (hk : k ≤ 20) : chatelaineref23_Node Fu l (w64 ((k : Int) * ((2 ^ e : Nat) : Int))) ((2 ^ e : Nat) : Int) = some (nodeS l e (k * 2 ^ e)) := by
  have h2 : 2 ^ e ≤ 2 ^ 12 := Nat.pow_le_pow_right (by decide) he
  have h3 : (2 : Nat) ^ 12 = 4096 := by decide
  have h4 : k * 2 ^ e ≤ 20 * 4096 := Nat.mul_le_mul hk (by omega)
  obtain ⟨m, hm⟩ : ∃ m, m = k * 2 ^ e := ⟨_, rfl⟩
  rw [show (k : Int) * ((2 ^ e : Nat) : Int) = ((k * 2 ^ e : Nat) : Int) by push_cast; rfl, ← hm, w64_of (by omega)]
  unfold chatelaineref23_Node
  have hlg : Nat.log2 (2 ^ e) = e := Nat.log2_two_pow
  have h5 : ((2 ^ e : Nat) : Int) ≤ 4096 := Int.ofNat_le.2 (by omega)
  rw [Int.toNat_natCast, hlg, if_pos ⟨by omega, Int.natCast_nonneg _, by rw [Int.toNat_natCast, hlg], by omega, by omega⟩, Int.toNat_natCast]
theorem binds_l0 {Fu : Nat} (p : (List UInt8) × (List (List UInt8)) × (List (List UInt8)) × Int × Int × Int × Int) (s : Sp) (hs : few s) (hn : p.2.1.length ≤ 12) :
    ∀ (d k e i : Nat) (x : List UInt8), e + d = p.2.1.length → d < k → i ≤ 12 → x ≠ nodeS (sumsOf s) e (i * 2 ^ e) →
      chatelainelaw24_ForestBinds_l0 Fu p s k (i : Int) ((2 ^ e : Nat) : Int) (e : Int) x = some (.inl true) ∨ ∃ x', chatelainelaw24_ForestBinds_l0 Fu p s k (i : Int) ((2 ^ e : Nat) : Int) (e : Int) x = some (.inr x') ∧ x' ≠ nodeS (sumsOf s) (e + d) (i / 2 ^ d * 2 ^ (e + d)) := by
  intro d
  induction d with
  | zero =>
    intro k e i x he hk hi hx
    obtain ⟨k, rfl⟩ : ∃ m, k = m + 1 := ⟨k - 1, by omega⟩
    rw [chatelainelaw24_ForestBinds_l0, if_neg (by omega)]
    refine .inr ⟨x, rfl, ?_⟩
    rw [Nat.pow_zero, Nat.div_one]; exact hx
  | succ d ih =>
    intro k e i x he hk hi hx
    obtain ⟨k, rfl⟩ : ∃ m, k = m + 1 := ⟨k - 1, by omega⟩
    have hlt : e < p.2.1.length := by omega
    obtain ⟨y, hy⟩ : ∃ y, p.2.1[e]? = some y := ⟨_, List.getElem?_eq_getElem hlt⟩
    rw [chatelainelaw24_ForestBinds_l0, if_pos (by omega), idx_nat]
    obtain ⟨j, hj⟩ : ∃ j, j = i / 2 := ⟨_, rfl⟩
    have hpar := par_all ⟨i, by omega⟩
    dsimp only at hpar
    rw [← hj] at hpar
    have hq := pNode Fu (sumsOf s) hs.1 e (j * 2) (by omega) (by omega)
    have hr := pNode Fu (sumsOf s) hs.1 e (j * 2 + 1) (by omega) (by omega)
    obtain ⟨q, hqd⟩ : ∃ q, q = nodeS (sumsOf s) e (j * 2 * 2 ^ e) := ⟨_, rfl⟩
    obtain ⟨r, hrd⟩ : ∃ r, r = nodeS (sumsOf s) e ((j * 2 + 1) * 2 ^ e) := ⟨_, rfl⟩
    rw [← hqd] at hq
    rw [← hrd] at hr
    have hup : nodeS (sumsOf s) (e + 1) (j * 2 ^ (e + 1)) = pairS q r := by
      rw [nodeS, hqd, hrd, Nat.pow_succ]
      congr 2
      · rw [Nat.mul_comm (2 ^ e) 2, Nat.mul_assoc]
      · rw [Nat.add_mul, Nat.one_mul, Nat.mul_comm (2 ^ e) 2, Nat.mul_assoc]
    -- the pair on the way
    have key : ∀ a c : List UInt8, (a ≠ q ∨ c ≠ r) →
        ((chatelaineref23_Node Fu s.2.2.2.2.2.2 (w64 ((i64_andNot (i : Int) 1) * ((2 ^ e : Nat) : Int))) ((2 ^ e : Nat) : Int)).bind fun x226 => (chatelaineref23_Node Fu s.2.2.2.2.2.2 (w64 ((i64_or (i : Int) 1) * ((2 ^ e : Nat) : Int))) ((2 ^ e : Nat) : Int)).bind fun x234 => (if ((!(decide (a = x226))) || (!(decide (c = x234)))) = true then (chatelaineref23_Pair Fu a c).bind fun x254 => (chatelaineref23_Pair Fu x226 x234).bind fun x262 => some (decide (x254 = x262)) else some false).bind fun z252 => if z252 = true then (some (.inl true)) else ((chatelaineref23_Pair Fu a c).bind fun x270 => chatelainelaw24_ForestBinds_l0 Fu p s k (w64 (Int.tdiv (i : Int) 2)) (w64 (((2 ^ e : Nat) : Int) * 2)) (w64 ((e : Int) + 1)) x270)) = some (.inl true)
        ∨ ∃ x', ((chatelaineref23_Node Fu s.2.2.2.2.2.2 (w64 ((i64_andNot (i : Int) 1) * ((2 ^ e : Nat) : Int))) ((2 ^ e : Nat) : Int)).bind fun x226 => (chatelaineref23_Node Fu s.2.2.2.2.2.2 (w64 ((i64_or (i : Int) 1) * ((2 ^ e : Nat) : Int))) ((2 ^ e : Nat) : Int)).bind fun x234 => (if ((!(decide (a = x226))) || (!(decide (c = x234)))) = true then (chatelaineref23_Pair Fu a c).bind fun x254 => (chatelaineref23_Pair Fu x226 x234).bind fun x262 => some (decide (x254 = x262)) else some false).bind fun z252 => if z252 = true then (some (.inl true)) else ((chatelaineref23_Pair Fu a c).bind fun x270 => chatelainelaw24_ForestBinds_l0 Fu p s k (w64 (Int.tdiv (i : Int) 2)) (w64 (((2 ^ e : Nat) : Int) * 2)) (w64 ((e : Int) + 1)) x270)) = some (.inr x') ∧ x' ≠ nodeS (sumsOf s) (e + (d + 1)) (i / 2 ^ (d + 1) * 2 ^ (e + (d + 1))) := by
      intro a c hac
      rw [hpar.1, hpar.2, show s.2.2.2.2.2.2 = sumsOf s from rfl, bnd_eqF hq, bnd_eqF hr]
      rw [if_pos (by simp only [Bool.or_eq_true, Bool.not_eq_true', decide_eq_false_iff_not]; exact hac)]
      by_cases hpq : pairS a c = pairS q r
      · refine .inl ?_
        refine (bnd_eqF (x := true) ?_ _).trans ?_
        · show some (decide (pairS a c = pairS q r)) = _
          rw [decide_eq_true hpq]
        · rw [if_pos rfl]
      · have h2 : 2 ^ e ≤ 2 ^ 12 := Nat.pow_le_pow_right (by decide) (by omega)
        have h3 : (2 : Nat) ^ 12 = 4096 := by decide
        have hih := ih k (e + 1) j (pairS a c) (by omega) (by omega) (by omega) (by rw [hup]; exact hpq)
        have e1 : w64 (Int.tdiv (i : Int) 2) = (j : Int) := by
          have : Int.tdiv (i : Int) 2 = ((i / 2 : Nat) : Int) := rfl
          rw [this, ← hj, w64_of (by omega)]
        have e2 : w64 (((2 ^ e : Nat) : Int) * 2) = ((2 ^ (e + 1) : Nat) : Int) := by
          obtain ⟨m, hm⟩ : ∃ m, m = 2 ^ e := ⟨_, rfl⟩
          rw [Nat.pow_succ, ← hm, w64_of (by omega)]; omega
        have e3 : i / 2 ^ (d + 1) = j / 2 ^ d := by rw [Nat.pow_succ, Nat.mul_comm, ← Nat.div_div_eq_div_mul, hj]
        have go : ∀ (R : Option (Sum Bool (List UInt8))), chatelainelaw24_ForestBinds_l0 Fu p s k (j : Int) ((2 ^ (e + 1) : Nat) : Int) ((e + 1 : Nat) : Int) (pairS a c) = R →
            ((some (decide (pairS a c = pairS q r))).bind fun z252 => if z252 = true then (some (.inl true)) else (chatelaineref23_Pair Fu a c).bind fun x270 => chatelainelaw24_ForestBinds_l0 Fu p s k (w64 (Int.tdiv (i : Int) 2)) (w64 (((2 ^ e : Nat) : Int) * 2)) (w64 ((e : Int) + 1)) x270) = R := by
          intro R hR
          rw [decide_eq_false hpq]
          refine (bnd_eqF (x := false) rfl _).trans ?_
          rw [if_neg (by decide), e1, e2, w_up e (by omega)]
          exact (bnd_eqF (x := pairS a c) rfl _).trans hR
        rcases hih with h1 | ⟨x', h1, h2'⟩
        · exact .inl (go _ h1)
        · refine .inr ⟨x', go _ h1, ?_⟩
          rw [e3, show e + (d + 1) = e + 1 + d by omega]; exact h2'
    rw [hy]
    have hi2 : Int.tmod (i : Int) 2 = ((i % 2 : Nat) : Int) := rfl
    by_cases ho : i % 2 = 1
    · have hi' : i = j * 2 + 1 := by omega
      rw [hi'] at hx
      rw [← hrd] at hx
      have := key y x (.inr hx)
      simp only [Option.bind_some, hi2, ho, Int.natCast_one, if_true]
      exact this
    · have hi' : i = j * 2 := by omega
      rw [hi'] at hx
      rw [← hqd] at hx
      have := key x y (.inl hx)
      have h0 : i % 2 = 0 := by omega
      simp only [Option.bind_some, hi2, h0]
      exact this
theorem along_len {x : List UInt8} (hx : x.length = 32) (i : Int) (w : List (List UInt8)) : (alongV x i w).length = 32 := by
  unfold alongV; split
  · exact alongS_length _ _ _ hx
  · rfl
theorem pHolds {Fu : Nat} (hF : 300 ≤ Fu) (p : (List UInt8) × (List (List UInt8)) × (List (List UInt8)) × Int × Int × Int × Int) (root : List UInt8) (i : Int) (b : List UInt8) (hb : b.length ≤ 1000) (h1 : 0 ≤ p.2.2.2.2.1 ∧ p.2.2.2.2.1 ≤ 64) (h2 : 0 ≤ p.2.2.2.2.2.1 ∧ p.2.2.2.2.2.1 ≤ 64) (h3 : 0 ≤ p.2.2.2.2.2.2 ∧ p.2.2.2.2.2.2 ≤ 64) : ∃ r, forest_Holds Fu p root i b = some r := by
  unfold forest_Holds
  rw [bnd_eqF (show merkle_Leaf Fu p.2.2.2.2.1 i b = some (leafS p.2.2.2.2.1 i b) by unfold merkle_Leaf; rw [if_pos (by omega)])]
  split
  · exact ⟨_, rfl⟩
  · rename_i hne
    have hp : p.1 = leafS p.2.2.2.2.1 i b := by simpa using hne
    rw [bnd_eqF (show merkle_Along Fu p.1 i p.2.1 = some (alongV p.1 i p.2.1, errV (wayOk i p.2.1.length)) from rfl)]
    split
    · exact ⟨_, rfl⟩
    · rw [bnd_eqF (pHead hF h1 h2 h3 (r := alongV p.1 i p.2.1) (along_len (by rw [hp]; exact leafS_length _ _ _) _ _))]
      exact ⟨_, rfl⟩
abbrev tPrB := (tyP (tyA 32 ty8) (tyP (tyL (tyA 32 ty8)) (tyP (tyL (tyA 32 ty8)) (tyP tyI (tyP tyI (tyP tyI tyI))))))
theorem chatelainelaw24_ForestBinds_true (a : List Sp) (h : ∀ x ∈ a, tSpB.has x) (hl : a.length ≤ maxLen) (p : (List UInt8) × (List (List UInt8)) × (List (List UInt8)) × Int × Int × Int × Int) (hp : tPrB.has p) (t : List Int) (ht : (tyA 2 tyI).has t) : ∃ Fu, chatelainelaw24_ForestBinds Fu a p t = some true := by
  obtain ⟨Fu, hFu⟩ : ∃ F, F = a.length + 300 := ⟨_, rfl⟩
  have hF : 300 ≤ Fu := by omega
  have ht2 := (has_A ht).1
  refine ⟨Fu, ?_⟩
  unfold chatelainelaw24_ForestBinds
  refine (bnd_eqF (forest_awake hF) _).trans ?_
  rw [if_neg (by decide)]
  obtain ⟨b, hb, hb1⟩ := pFew (Fu := Fu) a hl (by omega)
  refine (bnd_eqF hb _).trans ?_
  cases b with
  | false => rfl
  | true =>
    obtain ⟨h6, h12⟩ := hb1 rfl
    have hf : ∀ s ∈ a, few s := fun s hs => ⟨h12 s hs, has_s32B (h s hs)⟩
    obtain ⟨b, hr, hr1⟩ := pRight hF a h6
    refine (bnd_eqF (x := !b) ?_ _).trans ?_
    · rw [if_neg (by decide)]
      exact (bnd_eqF ((right_eq Fu a).trans hr) _).trans rfl
    split
    · rfl
    · rename_i hc
      simp only [Bool.or_eq_true, Bool.not_eq_true', decide_eq_true_eq, not_or, Int.not_lt, Int.not_le, Bool.not_eq_false] at hc
      obtain ⟨⟨⟨⟨hbt, hin⟩, hup⟩, hpl0⟩, hpl1⟩ := hc
      subst hbt
      have hin : p.2.1.length ≤ 12 := by omega
      obtain ⟨i0, hi0⟩ : ∃ i : Nat, p.2.2.2.1 = (i : Int) := ⟨p.2.2.2.1.toNat, by omega⟩
      have hlt : i0 < a.length := by omega
      obtain ⟨s, hs⟩ : ∃ s, s = a[i0] := ⟨_, rfl⟩
      have hx : idx a p.2.2.2.1 = some s := by rw [hi0, idx_nat, hs]; exact List.getElem?_eq_getElem hlt
      have hsm : s ∈ a := by rw [hs]; exact List.getElem_mem hlt
      have hfs := hf s hsm
      have ho := hr1 rfl s hsm
      obtain ⟨o1, o2, o3, o4, o5, o6, o7⟩ := oneB_iff.1 ho
      have h12s : s.2.2.2.2.2.2.length ≤ 12 := hfs.1
      obtain ⟨t0, ht0⟩ : ∃ y, t[0]? = some y := ⟨_, List.getElem?_eq_getElem (by omega)⟩
      obtain ⟨t1, ht1⟩ : ∃ y, t[1]? = some y := ⟨_, List.getElem?_eq_getElem (by omega)⟩
      refine (bnd_eqF hx _).trans ?_
      refine (bnd_eqF (show ix 2 0 = some 0 from rfl) _).trans ?_
      refine (bnd_eqF ht0 _).trans ?_
      have hshl : shN (p.2.1.length : Int) = some p.2.1.length := by unfold shN; rw [if_pos (by omega)]; rfl
      have hshl2 : shN (p.2.2.1.length : Int) = some p.2.2.1.length := by unfold shN; rw [if_pos (by omega)]; rfl
      have hW1 : chatelaineref23_Wide Fu s.2.2.1 = some ((2 ^ lg (sumsOf s).length : Nat) : Int) := by
        unfold chatelaineref23_Wide
        rw [if_pos ⟨o5, o6⟩, show s.2.2.1.toNat = (sumsOf s).length by unfold sumsOf; omega]
      have hW2 : chatelaineref23_Wide Fu (a.length : Int) = some ((2 ^ lg a.length : Nat) : Int) := by
        unfold chatelaineref23_Wide
        rw [if_pos ⟨by omega, by omega⟩, Int.toNat_natCast]
      -- the names, the place, the steps
      by_cases hA : (((((decide (p.2.2.2.2.1 ≠ s.1)) || (decide (p.2.2.2.2.2.1 ≠ s.2.1))) || (decide (p.2.2.2.2.2.2 ≠ s.2.2.1))) || (decide (t0 < 0))) || (decide (s.2.2.1 ≤ t0))) = true
      · refine (bnd_eqF (x := true) (by rw [if_pos hA]) _).trans ?_
        refine (bnd_eqF (x := true) (by rw [if_pos rfl]) _).trans ?_
        rw [if_pos rfl]
      · have hA' := hA
        simp only [ne_eq, Bool.or_eq_true, decide_eq_true_eq, not_or, Decidable.not_not, Int.not_lt, Int.not_le] at hA'
        obtain ⟨⟨⟨⟨q1, q2⟩, q3⟩, q4⟩, q5⟩ := hA'
        refine (bnd_eqF (x := decide (i64_shl 1 p.2.1.length ≠ ((2 ^ lg (sumsOf s).length : Nat) : Int))) ?_ _).trans ?_
        · rw [if_neg hA, bnd_eqF hshl, bnd_eqF hW1]
        by_cases hB : i64_shl 1 p.2.1.length = ((2 ^ lg (sumsOf s).length : Nat) : Int)
        · rw [decide_eq_false (not_not_intro hB)]
          refine (bnd_eqF (x := decide (i64_shl 1 p.2.2.1.length ≠ ((2 ^ lg a.length : Nat) : Int))) ?_ _).trans ?_
          · rw [if_neg (by decide), bnd_eqF hshl2, bnd_eqF hW2]
          split
          · rfl
          · refine (bnd_eqF (show ix 2 1 = some 1 from rfl) _).trans ?_
            refine (bnd_eqF ht1 _).trans ?_
            obtain ⟨n, hn, hand⟩ := and63 t1
            rw [hand]
            refine (bnd_eqF (x := n) (by unfold mkN; rw [if_pos ⟨by omega, by omega, by unfold maxLen; omega⟩]; rfl) _).trans ?_
            obtain ⟨x, hxl⟩ : ∃ x, x = leafS s.1 t0 (List.replicate n ((0 : UInt8) : UInt8)) := ⟨_, rfl⟩
            refine (bnd_eqF (x := x) (by unfold chatelaineref23_Leaf; rw [if_pos (by rw [List.length_replicate]; omega), hxl]) _).trans ?_
            refine (bnd_eqF (rRoot hF a h6 fun s hs => ⟨hf s hs, hr1 rfl s hs⟩) _).trans ?_
            obtain ⟨rh, hrh⟩ := pHolds hF (x, p.2.1, p.2.2.1, p.2.2.2.1, p.2.2.2.2.1, p.2.2.2.2.2.1, p.2.2.2.2.2.2) (rootF a) t0 (List.replicate n ((0 : UInt8) : UInt8)) (by rw [List.length_replicate]; omega) ⟨by dsimp only; omega, by dsimp only; omega⟩ ⟨by dsimp only; omega, by dsimp only; omega⟩ ⟨by dsimp only; omega, by dsimp only; omega⟩
            refine (bnd_eqF hrh _).trans ?_
            obtain ⟨j, hj⟩ : ∃ j : Nat, t0 = (j : Int) := ⟨t0.toNat, by omega⟩
            have hjl : j < (sumsOf s).length := by unfold sumsOf; omega
            have hjx : idx s.2.2.2.2.2.2 t0 = some ((sumsOf s)[j]) := by rw [hj, idx_nat]; exact List.getElem?_eq_getElem hjl
            by_cases hC : rh = false ∨ x = (sumsOf s)[j]
            · refine (bnd_eqF (x := true) ?_ _).trans ?_
              · by_cases hrt : rh = false
                · rw [hrt]; rfl
                · rw [if_neg (by simpa using hrt), bnd_eqF hjx, decide_eq_true (hC.resolve_left hrt)]
              · rw [if_pos rfl]
            · have hC1 : rh = true := by simpa using fun e => hC (.inl e)
              have hC2 : x ≠ (sumsOf s)[j] := fun e => hC (.inr e)
              refine (bnd_eqF (x := false) ?_ _).trans ?_
              · rw [hC1, if_neg (by decide), bnd_eqF hjx, decide_eq_false hC2]
              rw [if_neg (by decide)]
              have hlg : p.2.1.length = lg (sumsOf s).length := by
                rw [shl_one _ hin] at hB
                have : 2 ^ p.2.1.length = 2 ^ lg (sumsOf s).length := by omega
                have h9 := congrArg Nat.log2 this
                rwa [Nat.log2_two_pow, Nat.log2_two_pow] at h9
              have h0 := binds_l0 (Fu := Fu) p s hfs hin p.2.1.length Fu 0 j x (by omega) (by omega) (by omega) (by
                rw [Nat.pow_zero, Nat.mul_one]
                unfold nodeS
                rw [List.getD_eq_getElem?_getD, List.getElem?_eq_getElem hjl]
                exact hC2)
              have hroot : chatelaineref23_Root Fu s.2.2.2.2.2.2 = some (rootS (sumsOf s)) := by unfold chatelaineref23_Root; rw [if_pos (by omega)]; rfl
              rw [hj]
              rcases h0 with h1 | ⟨x', h1, h2⟩
              · exact (bnd_eqF h1 _).trans rfl
              · refine (bnd_eqF h1 _).trans ?_
                dsimp only
                rw [bnd_eqF hroot]
                rw [if_neg]
                intro e
                apply h2
                have hjz : j / 2 ^ p.2.1.length = 0 := by
                  apply Nat.div_eq_of_lt
                  rw [hlg]
                  exact Nat.lt_of_lt_of_le hjl (le_lg _ (by omega))
                rw [Nat.zero_add, hjz, Nat.zero_mul, hlg, root_node _ (by omega), e]
        · rw [decide_eq_true hB]
          refine (bnd_eqF (x := true) (by rw [if_pos rfl]) _).trans ?_
          rw [if_pos rfl]
end Go.Proofs.Ytlgcfnbhnpnkiaa
