/- The statement KnowWhy, told over lists. -/
import Derived.Test.YtdldlimadmlpnaaE37B
import Derived.Test.YtdldlimadmlpnaaKl
set_option linter.unusedVariables false
set_option linter.unusedSimpArgs false
namespace Go.Proofs.Ytdldlimadmlpnaa
open Go.RowKit
set_option maxRecDepth 100000 in
theorem awake37 : chatelainelaw37_awake 1000 = some true := by decide +kernel
theorem sIndex (Fu : Nat) (o : List Int) (ho : o.length ≤ 100) (x : Int) : ∀ d i k, i + d = o.length → d < k → x ∈ o.drop i → ∃ q : Nat, slices_Index___int_int_l0 Fu o x k (i : Int) = some (.inl (q : Int)) ∧ o[q]? = some x := by
  intro d
  induction d with
  | zero => intro i k hi hk hx; rw [List.drop_of_length_le (by omega)] at hx; simp at hx
  | succ d ih =>
    intro i k hi hk hx
    obtain ⟨k, rfl⟩ : ∃ m, k = m + 1 := ⟨k - 1, by omega⟩
    rw [slices_Index___int_int_l0, if_pos (by omega), idx_nat, List.getElem?_eq_getElem (by omega)]
    simp only [Option.bind_some]
    by_cases e : x = o[i]
    · rw [if_pos e]
      exact ⟨i, rfl, by rw [List.getElem?_eq_getElem (by omega), e]⟩
    · rw [if_neg e, w_id (by omega), show ((i : Int) + 1) = ((i + 1 : Nat) : Int) by omega]
      rw [List.drop_eq_getElem_cons (show i < o.length by omega)] at hx
      rcases List.mem_cons.1 hx with h | h
      · exact absurd h e
      · exact ih (i + 1) k (by omega) (by omega) h
theorem wL0_bad (Fu : Nat) (g : List Int) (hg : g.length ≤ 100) (x6 : Sto × List Tm) (hT : x6.2.length ≤ 100) (x29 : List Int × Bool × Sto) : ∀ d i k, i + d = g.length → d < k → (∃ x ∈ g.drop i, x < 0 ∨ (x6.2.length : Int) ≤ x) → chatelainelaw37_KnowWhy_l0 Fu g x6 x29 k (i : Int) = some (.inl ((!x29.2.1) && (decide ((x29.1.length : Int) = 0)))) := by
  intro d
  induction d with
  | zero => intro i k hi hk hx; rw [List.drop_of_length_le (by omega)] at hx; obtain ⟨x, hx, _⟩ := hx; simp at hx
  | succ d ih =>
    intro i k hi hk hx
    obtain ⟨k, rfl⟩ : ∃ m, k = m + 1 := ⟨k - 1, by omega⟩
    rw [chatelainelaw37_KnowWhy_l0, if_pos (by omega), idx_nat, List.getElem?_eq_getElem (by omega)]
    simp only [Option.bind_some]
    by_cases hb : g[i] < 0 ∨ (x6.2.length : Int) ≤ g[i]
    · rw [if_pos (by simpa using hb)]
    · rw [if_neg (by simpa using hb), w_id (by omega), show ((i : Int) + 1) = ((i + 1 : Nat) : Int) by omega]
      refine ih (i + 1) k (by omega) (by omega) ?_
      obtain ⟨x, hx, hx2⟩ := hx
      rw [List.drop_eq_getElem_cons (show i < g.length by omega)] at hx
      rcases List.mem_cons.1 hx with h5 | h5
      · rw [h5] at hx2; exact absurd hx2 hb
      · exact ⟨x, h5, hx2⟩
theorem wL0 (Fu : Nat) (g : List Int) (hg : g.length ≤ 100) (x6 : Sto × List Tm) (hT : x6.2.length ≤ 100) (x29 : List Int × Bool × Sto) (hok : okG x6.2 g) : ∀ d i k, i + d = g.length → d < k → chatelainelaw37_KnowWhy_l0 Fu g x6 x29 k (i : Int) = some (.inr ()) := by
  intro d
  induction d with
  | zero =>
    intro i k hi hk
    obtain ⟨k, rfl⟩ : ∃ m, k = m + 1 := ⟨k - 1, by omega⟩
    rw [chatelainelaw37_KnowWhy_l0, if_neg (by omega)]
  | succ d ih =>
    intro i k hi hk
    obtain ⟨k, rfl⟩ : ∃ m, k = m + 1 := ⟨k - 1, by omega⟩
    have hgi := List.getElem?_eq_getElem (show i < g.length by omega)
    obtain ⟨n, hn, hlt⟩ := hok _ (List.mem_of_getElem? hgi)
    rw [chatelainelaw37_KnowWhy_l0, if_pos (by omega), idx_nat, hgi]
    simp only [Option.bind_some]
    rw [hn, if_neg (by simp; omega), w_id (by omega), show ((i : Int) + 1) = ((i + 1 : Nat) : Int) by omega]
    exact ih (i + 1) k (by omega) (by omega)
theorem wL2 (Fu : Nat) (g : List Int) (hg : g.length ≤ 100) (x : Int) : ∀ d i k v, i + d = g.length → d < k → chatelainelaw37_KnowWhy_l2 Fu g x k v (i : Int) = some (v || decide (x ∈ g.drop i)) := by
  intro d
  induction d with
  | zero =>
    intro i k v hi hk
    obtain ⟨k, rfl⟩ : ∃ m, k = m + 1 := ⟨k - 1, by omega⟩
    rw [chatelainelaw37_KnowWhy_l2, if_neg (by omega), List.drop_of_length_le (by omega)]; simp
  | succ d ih =>
    intro i k v hi hk
    obtain ⟨k, rfl⟩ : ∃ m, k = m + 1 := ⟨k - 1, by omega⟩
    rw [chatelainelaw37_KnowWhy_l2, if_pos (by omega), idx_nat, List.getElem?_eq_getElem (by omega)]
    simp only [Option.bind_some]
    rw [w_id (by omega), show ((i : Int) + 1) = ((i + 1 : Nat) : Int) by omega, ih (i + 1) k _ (by omega) (by omega), List.drop_eq_getElem_cons (show i < g.length by omega)]
    simp only [List.mem_cons, Option.some.injEq]
    by_cases e : g[i] = x
    · simp [e]
    · have e' : ¬ x = g[i] := fun h => e h.symm
      simp [e, e']
/-- term k opens x -/
def Op1 (T : List Tm) (M : List Bool) (k : Nat) (x : Int) : Prop := ∃ t, T[k]? = some t ∧ bt M k = true ∧ t.1 = 3 ∧ (∃ a : Nat, t.2.1 = (a : Int) ∧ bt M a = true) ∧ t.2.2 = x
theorem wL3 (Fu : Nat) (x6 : Sto × List Tm) (hT : x6.2.length ≤ 100) (hok : okT x6.2) (M : List Bool) (hM : M.length = x6.2.length) (x : Int) : ∀ d j k v, j + d = x6.2.length → d < k →
    ∃ r, chatelainelaw37_KnowWhy_l3 Fu x6 M x k v (j : Int) = some r ∧ (r = true ↔ v = true ∨ ∃ q, j ≤ q ∧ Op1 x6.2 M q x) := by
  intro d
  induction d with
  | zero =>
    intro j k v hj hk
    obtain ⟨k, rfl⟩ : ∃ m, k = m + 1 := ⟨k - 1, by omega⟩
    rw [chatelainelaw37_KnowWhy_l3, if_neg (by omega)]
    refine ⟨v, rfl, .inl, fun h => ?_⟩
    rcases h with h | ⟨q, h1, t, h2, _⟩
    · exact h
    · have := (List.getElem?_eq_some_iff.1 h2).1; omega
  | succ d ih =>
    intro j k v hj hk
    obtain ⟨k, rfl⟩ : ∃ m, k = m + 1 := ⟨k - 1, by omega⟩
    obtain ⟨t, ht⟩ : ∃ t, x6.2[j]? = some t := ⟨_, List.getElem?_eq_getElem (by omega)⟩
    rw [chatelainelaw37_KnowWhy_l3, if_pos (by omega), ix_nat (by omega)]
    simp only [Option.bind_some]
    rw [ht]
    simp only [Option.bind_some]
    obtain ⟨u, e1, h1⟩ : ∃ u, (if v = true then some true else (ix M.length (j : Int)).bind fun m288 => (M[m288]?).bind fun x294 => (if (x294 && (decide (t.1 = 3))) = true then (ix M.length t.2.1).bind fun m304 => (M[m304]?).bind fun x310 => some x310 else some false).bind fun z302 => some (z302 && (decide (t.2.2 = x)))) = some u ∧ (u = true ↔ v = true ∨ Op1 x6.2 M j x) := by
      have same : ∀ u, x6.2[j]? = some u → u = t := fun u hu => Option.some.inj (hu.symm.trans ht)
      cases v with
      | true => exact ⟨true, rfl, by simp⟩
      | false =>
        rw [if_neg (by simp), ix_nat (by omega)]
        simp only [Option.bind_some]
        rw [bt_at (n := j) (by omega)]
        simp only [Option.bind_some]
        by_cases hc : bt M j = true ∧ t.1 = 3
        · obtain ⟨a, c, ha, hlt, _, _⟩ := hok.box ht hc.2
          rw [if_pos (by simpa using hc), ha, ix_nat (by omega)]
          simp only [Option.bind_some]
          rw [bt_at (n := a) (by omega)]
          refine ⟨_, rfl, ?_⟩
          simp only [Bool.and_eq_true, decide_eq_true_eq, Bool.false_eq_true, false_or]
          constructor
          · rintro ⟨h2, h3⟩; exact ⟨t, ht, hc.1, hc.2, ⟨a, ha, h2⟩, h3⟩
          · rintro ⟨u, hu, _, _, ⟨a', ha', h2⟩, h3⟩
            obtain rfl := same u hu
            obtain rfl : a' = a := by omega
            exact ⟨h2, h3⟩
        · rw [if_neg (by simpa using hc)]
          refine ⟨false, rfl, ?_⟩
          simp only [Bool.false_eq_true, false_or, false_iff]
          rintro ⟨u, hu, h2, h3, _⟩
          obtain rfl := same u hu
          exact hc ⟨h2, h3⟩
    rw [e1]
    simp only [Option.bind_some]
    rw [w_id (by omega), show ((j : Int) + 1) = ((j + 1 : Nat) : Int) by omega]
    obtain ⟨r, e2, h2⟩ := ih (j + 1) k u (by omega) (by omega)
    refine ⟨r, e2, ?_⟩
    rw [h2, h1]
    constructor
    · rintro ((h | h) | ⟨q, h3, h4⟩)
      · exact .inl h
      · exact .inr ⟨j, Nat.le_refl _, h⟩
      · exact .inr ⟨q, by omega, h4⟩
    · rintro (h | ⟨q, h3, h4⟩)
      · exact .inl (.inl h)
      · by_cases e : q = j
        · subst e; exact .inl (.inr h4)
        · exact .inr ⟨q, by omega, h4⟩
theorem wL1 (Fu : Nat) (hF : 300 ≤ Fu) (g : List Int) (hg : g.length ≤ 100) (x6 : Sto × List Tm) (hT : x6.2.length ≤ 100) (hok : okT x6.2) (x29 : List Int × Bool × Sto) (hW : x29.1.length ≤ 100)
    (hrng : ∀ x ∈ x29.1, ∃ n : Nat, x = (n : Int) ∧ n < x6.2.length) (hnd : ∀ (i j : Nat) (x : Int), x29.1[i]? = some x → x29.1[j]? = some x → i = j) (hwhy : ∀ (j : Nat) (x : Int), x29.1[j]? = some x → Why1 x6.2 g (x29.1.take j) x) :
    ∀ d j k M, j + d = x29.1.length → d < k → M.length = x6.2.length → (∀ n : Nat, bt M n = true ↔ (n : Int) ∈ x29.1.take j) → chatelainelaw37_KnowWhy_l1 Fu g x6 x29 k (j : Int) M = some (.inr ()) := by
  intro d
  induction d with
  | zero =>
    intro j k M hj hk hM h
    obtain ⟨k, rfl⟩ : ∃ m, k = m + 1 := ⟨k - 1, by omega⟩
    rw [chatelainelaw37_KnowWhy_l1, if_neg (by omega)]
  | succ d ih =>
    intro j k M hj hk hM h
    obtain ⟨k, rfl⟩ : ∃ m, k = m + 1 := ⟨k - 1, by omega⟩
    have hx := List.getElem?_eq_getElem (show j < x29.1.length by omega)
    obtain ⟨n, hn, hlt⟩ := hrng _ (List.mem_of_getElem? hx)
    rw [hn] at hx
    rw [chatelainelaw37_KnowWhy_l1, if_pos (by omega), ix_nat (by omega)]
    simp only [Option.bind_some]
    rw [hx]
    simp only [Option.bind_some]
    rw [if_neg (by simp; omega), ix_nat (by omega)]
    simp only [Option.bind_some]
    rw [bt_at (n := n) (by omega)]
    have h0 : bt M n = false := by
      apply Bool.eq_false_iff.2
      intro hb
      obtain ⟨q, hq, e⟩ := List.mem_iff_getElem.1 ((h n).1 hb)
      rw [List.length_take] at hq
      rw [List.getElem_take] at e
      have := hnd q j _ (by rw [List.getElem?_eq_getElem (by omega), e]) hx
      omega
    obtain ⟨t, ht⟩ : ∃ t, x6.2[n]? = some t := ⟨_, List.getElem?_eq_getElem hlt⟩
    simp only [Option.bind_some, h0, Bool.false_eq_true, if_false]
    rw [ix_nat hlt]
    simp only [Option.bind_some]
    rw [ht]
    simp only [Option.bind_some]
    obtain ⟨v, e1, h1⟩ : ∃ v, (if t.1 = 2 then (ix M.length t.2.1).bind fun m222 => (M[m222]?).bind fun x228 => some x228 else some false) = some v ∧ (t.1 = 2 → (∃ a : Nat, t.2.1 = (a : Int) ∧ bt M a = true) → v = true) := by
      by_cases k2 : t.1 = 2
      · obtain ⟨a, ha, hla⟩ := hok.key ht k2
        rw [if_pos k2, ha, ix_nat (by omega)]
        simp only [Option.bind_some]
        rw [bt_at (n := a) (by omega)]
        refine ⟨_, rfl, fun _ ⟨a', ha', h2⟩ => ?_⟩
        obtain rfl : a' = a := by omega
        exact h2
      · rw [if_neg k2]; exact ⟨false, rfl, fun h => absurd h k2⟩
    rw [e1]
    simp only [Option.bind_some]
    have e2 := wL2 Fu g hg (n : Int) g.length 0 Fu v (by omega) (by omega)
    rw [show ((0 : Nat) : Int) = 0 from rfl, List.drop_zero] at e2
    rw [e2]
    simp only [Option.bind_some]
    obtain ⟨r, e3, h3⟩ := wL3 Fu x6 hT hok M hM (n : Int) x6.2.length 0 Fu (v || decide ((n : Int) ∈ g)) (by omega) (by omega)
    rw [show ((0 : Nat) : Int) = 0 from rfl] at e3
    rw [e3]
    simp only [Option.bind_some]
    have hr : r = true := by
      rw [h3]
      rcases hwhy j _ hx with h4 | ⟨m, u, e, h4, h5, h6⟩ | ⟨q, u, h4, h5, h6, h7, h8⟩
      · left; simp [h4]
      · left
        obtain rfl : n = m := by omega
        obtain rfl : u = t := Option.some.inj (h4.symm.trans ht)
        obtain ⟨a, ha, hla⟩ := hok.key ht h5
        rw [h1 h5 ⟨a, ha, (h a).2 (by rw [← ha]; exact h6)⟩]; rfl
      · right
        obtain ⟨a, c, ha, hla, _, _⟩ := hok.box h4 h6
        exact ⟨q, Nat.zero_le _, u, h4, (h q).2 h5, h6, ⟨a, ha, (h a).2 (by rw [← ha]; exact h7)⟩, h8⟩
    subst hr
    simp only [Bool.not_true, Bool.false_eq_true, if_false]
    rw [w_id (by omega), show ((j : Int) + 1) = ((j + 1 : Nat) : Int) by omega]
    refine ih (j + 1) k _ (by omega) (by omega) (by rw [List.length_set]; exact hM) (fun i => ?_)
    rw [bt_set (by omega), h, List.take_add_one, hx]
    simp only [List.mem_append, Option.mem_toList, Option.mem_def, Option.some.injEq]
    constructor
    · rintro (h4 | h4)
      · right; omega
      · exact .inl h4
    · rintro (h4 | h4)
      · exact .inr h4
      · left; omega
theorem why_ok (Fu : Nat) (hA : chatelainelaw37_awake Fu = some true) (hF : 300 ≤ Fu) (l : List Tm) (g : List Int) (n : Int) : chatelainelaw37_KnowWhy Fu l g n = some true := by
  unfold chatelainelaw37_KnowWhy
  rw [hA]
  simp only [Option.bind_some, Bool.not_true, Bool.false_eq_true, if_false]
  by_cases hs : ((decide (40 < (l.length : Int))) || (decide (40 < (g.length : Int)))) = true
  · rw [if_pos hs]
  rw [if_neg hs]
  simp at hs
  obtain ⟨s, hm, hst, hTl⟩ := kMade Fu hF l (by omega)
  have hok : okT s.1 := hst.ok
  have hT : s.1.length ≤ 100 := by omega
  rw [hm]
  simp only [Option.bind_some]
  by_cases hg : okG s.1 g
  · obtain ⟨b, o, h1, h2, h3, h4⟩ := kOf Fu hT (by omega) hF hok hg
    obtain ⟨b2, r1, r2, r3⟩ := rKnown Fu hT (by omega) hF hok hg
    have hbb : ∀ i : Nat, bt b2 i = bt b i := by
      intro i
      rw [Bool.eq_iff_iff, r3, h2.iff h3 h4]
    have hfrom : know_From Fu s g = some (.inr ((s.1, b, o, true), 0, s)) := by rw [kFrom Fu s hst hT (by omega) hF, h1]; rfl
    have hz : (if ((decide (0 ≤ n)) && (decide (n < (s.1.length : Int)))) = true then (chatelaineref37_Known Fu s.1 g).bind fun x83 => (ix x83.length n).bind fun m91 => (x83[m91]?).bind fun x97 => some x97 else some false) = some (decide (0 ≤ n) && bt b n.toNat) := by
      by_cases h0 : 0 ≤ n ∧ n < (s.1.length : Int)
      · obtain ⟨m, rfl⟩ : ∃ m : Nat, n = (m : Int) := ⟨n.toNat, by omega⟩
        rw [if_pos (by simpa using h0), r1]
        simp only [Option.bind_some]
        rw [ix_nat (by omega)]
        simp only [Option.bind_some]
        rw [bt_at (n := m) (by omega), hbb]; simp
      · rw [if_neg (by simpa using h0)]
        by_cases h5 : 0 ≤ n
        · have : bt b n.toNat = false := by
            apply Bool.eq_false_iff.2
            intro hb
            have := bt_lt hb
            have := h2.len
            omega
          rw [this]; simp
        · rw [decide_eq_false h5]; rfl
    have hhas := kHas Fu h2 n
    cases hB : (decide (0 ≤ n) && bt b n.toNat) with
    | false =>
      rw [hB] at hz hhas
      have hw : know_Why Fu s g n = some ([], false, s) := by
        unfold know_Why
        rw [hfrom]
        simp only [Option.bind_some]
        rw [if_neg (by simp), hhas]; rfl
      rw [hw]
      simp only [Option.bind_some]
      have hl0 := wL0 Fu g (by omega) (s, s.1) hT ([], false, s) hg g.length 0 Fu (by omega) (by omega)
      rw [show ((0 : Nat) : Int) = 0 from rfl] at hl0
      rw [hl0]
      simp only [Option.bind_some]
      rw [hz]
      simp
    | true =>
      rw [hB] at hz hhas
      simp only [Bool.and_eq_true, decide_eq_true_eq] at hB
      obtain ⟨m, rfl⟩ : ∃ m : Nat, n = (m : Int) := ⟨n.toNat, by omega⟩
      have hmo : (m : Int) ∈ o := (h2.mem m).1 (by simpa using hB.2)
      have hol := h2.olen
      obtain ⟨q, hq, hoq⟩ := sIndex Fu o (by omega) (m : Int) o.length 0 Fu (by omega) (by omega) (by simpa using hmo)
      have hqlt := (List.getElem?_eq_some_iff.1 hoq).1
      rw [show ((0 : Nat) : Int) = 0 from rfl] at hq
      have hw : know_Why Fu s g (m : Int) = some (o.take (q + 1), true, s) := by
        unfold know_Why
        rw [hfrom]
        simp only [Option.bind_some]
        rw [if_neg (by simp), hhas]
        simp only [Option.bind_some, Bool.not_true, Bool.false_eq_true, if_false]
        unfold slices_Index___int_int
        rw [hq]
        simp only [Option.bind_some]
        rw [w_id (by omega)]
        unfold sub
        rw [if_pos (by omega)]
        simp only [Option.bind_some]
        unfold slices_Clone___int_int app
        rw [if_pos (by unfold maxLen; simp; omega)]
        simp only [Option.bind_some, List.nil_append]
        rw [show ((q : Int) + 1).toNat = q + 1 by omega]; rfl
      rw [hw]
      simp only [Option.bind_some]
      have hl0 := wL0 Fu g (by omega) (s, s.1) hT (o.take (q + 1), true, s) hg g.length 0 Fu (by omega) (by omega)
      rw [show ((0 : Nat) : Int) = 0 from rfl] at hl0
      rw [hl0]
      simp only [Option.bind_some]
      rw [hz]
      simp only [Option.bind_some]
      rw [if_neg (by simp), mk1 _ (by omega)]
      simp only [Option.bind_some]
      have hlen : (o.take (q + 1)).length = q + 1 := by rw [List.length_take]; omega
      have hat : ∀ (i : Nat) (x : Int), (o.take (q + 1))[i]? = some x → i < q + 1 ∧ o[i]? = some x := by
        intro i x hi
        rw [List.getElem?_take] at hi
        split at hi
        · exact ⟨by assumption, hi⟩
        · cases hi
      have hl1 := wL1 Fu hF g (by omega) (s, s.1) hT hok (o.take (q + 1), true, s) (by simp; omega) (fun x hx => h2.rng x (List.mem_of_mem_take hx)) (fun i j x hi hj => h2.nd i j x (hat i x hi).2 (hat j x hj).2)
        (fun j x hj => by
          have := hat j x hj
          show Why1 s.1 g ((o.take (q + 1)).take j) x
          rw [List.take_take, Nat.min_eq_left (by omega)]
          exact h2.why j x this.2) (q + 1) 0 Fu (List.replicate s.1.length false) (by simp; omega) (by omega) (by simp) (fun i => by rw [bt_rep]; simp)
      rw [show ((0 : Nat) : Int) = 0 from rfl] at hl1
      rw [hl1]
      simp only [Option.bind_some]
      rw [if_pos (by omega), hlen, w_id (by omega), show (((q + 1 : Nat) : Int) - 1) = (q : Int) by omega, ix_nat (by omega)]
      simp only [Option.bind_some]
      rw [List.getElem?_take, if_pos (by omega), hoq]
      simp
  · have hbad : ∃ x ∈ g, x < 0 ∨ (s.1.length : Int) ≤ x := by
      apply Decidable.byContradiction
      intro hno
      apply hg
      intro x hx
      refine ⟨x.toNat, ?_, ?_⟩
      · apply Decidable.byContradiction; intro h0; exact hno ⟨x, hx, by omega⟩
      · apply Decidable.byContradiction; intro h0; exact hno ⟨x, hx, by omega⟩
    have hfrom : know_From Fu s g = some (.inl (2, s)) := by rw [kFrom Fu s hst hT (by omega) hF, kOf_bad Fu hT (by omega) hF hbad]; rfl
    have hw : know_Why Fu s g n = some ([], false, s) := by
      unfold know_Why
      rw [hfrom]; rfl
    rw [hw]
    simp only [Option.bind_some]
    have hl0 := wL0_bad Fu g (by omega) (s, s.1) hT ([], false, s) g.length 0 Fu (by omega) (by omega) (by simpa using hbad)
    rw [show ((0 : Nat) : Int) = 0 from rfl] at hl0
    rw [hl0]; simp
theorem chatelainelaw37_KnowWhy_true (a0 : List Tm) (h0 : ∀ x ∈ a0, (tyP tyI (tyP tyI tyI)).has x) (a1 : List Int) (h1 : ∀ x ∈ a1, tyI.has x) (a2 : Int) (h2 : r64 a2) : ∃ Fu, chatelainelaw37_KnowWhy Fu a0 a1 a2 = some true :=
  ⟨1000, why_ok 1000 awake37 (by omega) a0 a1 a2⟩
end Go.Proofs.Ytdldlimadmlpnaa
