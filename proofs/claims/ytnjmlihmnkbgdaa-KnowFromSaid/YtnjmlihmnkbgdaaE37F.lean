/- The statement KnowFrom, told over lists. -/
import Derived.Test.YtnjmlihmnkbgdaaE37S
import Derived.Test.YtnjmlihmnkbgdaaKu
set_option linter.unusedVariables false
set_option linter.unusedSimpArgs false
namespace Go.Proofs.Ytnjmlihmnkbgdaa
open Go.RowKit
theorem fromNil (Fu : Nat) : know_From_nil0 Fu [] = some (.inl 1) := rfl
theorem fL0 (Fu : Nat) (g : List Int) (hg : g.length ≤ 100) (x6 : Sto × List Tm) (s : Sto) : ∀ d i k, i + d = g.length → d < k → (∃ x ∈ g.drop i, x < 0 ∨ (x6.2.length : Int) ≤ x) → chatelainelaw37_KnowFrom_l0 Fu g x6 (2, s) k (i : Int) = some (.inl true) := by
  intro d
  induction d with
  | zero => intro i k hi hk hx; rw [List.drop_of_length_le (by omega)] at hx; obtain ⟨x, hx, _⟩ := hx; simp at hx
  | succ d ih =>
    intro i k hi hk hx
    obtain ⟨k, rfl⟩ : ∃ m, k = m + 1 := ⟨k - 1, by omega⟩
    rw [chatelainelaw37_KnowFrom_l0, if_pos (by omega), idx_nat, List.getElem?_eq_getElem (by omega)]
    simp only [Option.bind_some]
    by_cases hb : g[i] < 0 ∨ (x6.2.length : Int) ≤ g[i]
    · rw [if_pos (by simpa using hb)]; rfl
    · rw [if_neg (by simpa using hb), w_id (by omega), show ((i : Int) + 1) = ((i + 1 : Nat) : Int) by omega]
      refine ih (i + 1) k (by omega) (by omega) ?_
      obtain ⟨x, hx, hx2⟩ := hx
      rw [List.drop_eq_getElem_cons (show i < g.length by omega)] at hx
      rcases List.mem_cons.1 hx with h5 | h5
      · rw [h5] at hx2; exact absurd hx2 hb
      · exact ⟨x, h5, hx2⟩
theorem fL2 (Fu : Nat) (g : List Int) (hg : g.length ≤ 100) (x6 : Sto × List Tm) (hok : okG x6.2 g) : ∀ d i k, i + d = g.length → d < k → chatelainelaw37_KnowFrom_l2 Fu g x6 k (i : Int) = some (.inr ()) := by
  intro d
  induction d with
  | zero =>
    intro i k hi hk
    obtain ⟨k, rfl⟩ : ∃ m, k = m + 1 := ⟨k - 1, by omega⟩
    rw [chatelainelaw37_KnowFrom_l2, if_neg (by omega)]
  | succ d ih =>
    intro i k hi hk
    obtain ⟨k, rfl⟩ : ∃ m, k = m + 1 := ⟨k - 1, by omega⟩
    have hgi := List.getElem?_eq_getElem (show i < g.length by omega)
    obtain ⟨n, hn, hlt⟩ := hok _ (List.mem_of_getElem? hgi)
    rw [chatelainelaw37_KnowFrom_l2, if_pos (by omega), idx_nat, hgi]
    simp only [Option.bind_some]
    rw [hn, if_neg (by simp; omega), w_id (by omega), show ((i : Int) + 1) = ((i + 1 : Nat) : Int) by omega]
    exact ih (i + 1) k (by omega) (by omega)
theorem fL3 (Fu : Nat) {T : List Tm} {g : List Int} {b : List Bool} {o : List Int} (h : KS T g b o) (s : Sto) (e : Int) (b2 : List Bool) (hl : b2.length ≤ 100) (hbb : ∀ i, bt b2 i = bt b i) : ∀ d i k, i + d = b2.length → d < k →
    chatelainelaw37_KnowFrom_l3 Fu ((T, b, o, true), e, s) b2 k (wantL b2 i) (i : Int) = some (.inr (wantL b2 b2.length)) := by
  intro d
  induction d with
  | zero =>
    intro i k hi hk
    obtain ⟨k, rfl⟩ : ∃ m, k = m + 1 := ⟨k - 1, by omega⟩
    rw [chatelainelaw37_KnowFrom_l3, if_neg (by omega), show i = b2.length by omega]
  | succ d ih =>
    intro i k hi hk
    obtain ⟨k, rfl⟩ : ∃ m, k = m + 1 := ⟨k - 1, by omega⟩
    have hw := wantL_len b2 i
    have ih' := ih (i + 1) k (by omega) (by omega)
    rw [wantL_succ] at ih'
    rw [chatelainelaw37_KnowFrom_l3, if_pos (by omega), ix_nat (by omega)]
    simp only [Option.bind_some]
    rw [bt_at (n := i) (by omega)]
    simp only [Option.bind_some]
    rw [kHas Fu h]
    simp only [Option.bind_some]
    rw [show (decide (0 ≤ (i : Int)) && bt b (i : Int).toNat) = bt b2 i by rw [hbb]; simp, if_neg (by simp)]
    cases hB : bt b2 i with
    | true =>
      rw [hB, if_pos rfl] at ih'
      rw [if_pos rfl, app8 _ _ (by omega)]
      simp only [Option.bind_some]
      rw [w_id (by omega), show ((i : Int) + 1) = ((i + 1 : Nat) : Int) by omega]
      exact ih'
    | false =>
      rw [hB, if_neg (by simp)] at ih'
      rw [if_neg (by simp)]
      simp only [Option.bind_some]
      rw [w_id (by omega), show ((i : Int) + 1) = ((i + 1 : Nat) : Int) by omega]
      exact ih'
theorem from_ok (Fu : Nat) (hA : chatelainelaw37_awake Fu = some true) (hF : 300 ≤ Fu) (l : List Tm) (g : List Int) : chatelainelaw37_KnowFrom Fu l g = some true := by
  unfold chatelainelaw37_KnowFrom
  rw [hA]
  simp only [Option.bind_some, Bool.not_true, Bool.false_eq_true, if_false]
  rw [fromNil]
  simp only [Option.bind_some]
  rw [if_neg (by simp)]
  by_cases hs : ((decide (40 < (l.length : Int))) || (decide (40 < (g.length : Int)))) = true
  · rw [if_pos hs]
  rw [if_neg hs]
  simp at hs
  obtain ⟨s, hm, hst, hTl⟩ := kMade Fu hF l (by omega)
  have hok : okT s.1 := hst.ok
  have hT : s.1.length ≤ 100 := by omega
  have hlen : term_Store_Len Fu s = some (s.1.length : Int) := rfl
  rw [hm]
  simp only [Option.bind_some]
  by_cases hg : okG s.1 g
  · obtain ⟨b, o, h1, h2, h3, h4⟩ := kOf Fu hT (by omega) hF hok hg
    obtain ⟨b2, r1, r2, r3⟩ := rKnown Fu hT (by omega) hF hok hg
    have hbb : ∀ i : Nat, bt b2 i = bt b i := by
      intro i
      rw [Bool.eq_iff_iff, r3, h2.iff h3 h4]
    have hfrom : know_From Fu s g = some (.inr ((s.1, b, o, true), 0, s)) := by rw [kFrom Fu s hst hT (by omega) hF, h1]; rfl
    rw [hfrom]
    simp only [Option.bind_some]
    rw [hlen]
    simp only [Option.bind_some]
    rw [if_neg (by simp)]
    have hl2 := fL2 Fu g (by omega) (s, s.1) hg g.length 0 Fu (by omega) (by omega)
    have hl3 := fL3 Fu h2 s 0 b2 (by omega) hbb b2.length 0 Fu (by omega) (by omega)
    rw [show wantL b2 0 = [] from rfl] at hl3
    rw [show ((0 : Nat) : Int) = 0 from rfl] at hl2 hl3
    rw [hl2]
    simp only [Option.bind_some]
    rw [r1]
    simp only [Option.bind_some]
    rw [hl3]
    simp only [Option.bind_some]
    have hw : wantL b s.1.length = wantL b2 b2.length := by rw [r2]; exact wantL_same (fun i => (hbb i).symm) _
    have hwl := wantL_len b2 b2.length
    have holen : (o.length : Int) = ((wantL b2 b2.length).length : Int) := by rw [← hw, ← h2.sort, sortI_len]
    rw [if_pos trivial, kList Fu h2 hT]
    simp only [Option.bind_some]
    rw [hw, rInts Fu _ (by omega) (by omega)]
    simp only [Option.bind_some, if_true]
    rw [show know_Set_Len Fu (s.1, b, o, true) = some (o.length : Int) from rfl]
    simp only [Option.bind_some]
    rw [holen, decide_eq_true rfl, if_pos rfl, kHas Fu h2]
    simp only [Option.bind_some]
    rw [show (!(decide (0 ≤ (-1 : Int)) && bt b (-1 : Int).toNat)) = true by rfl, if_pos rfl, kHas Fu h2]
    simp only [Option.bind_some]
    have hN : bt b (b2.length : Int).toNat = false := by
      apply Bool.eq_false_iff.2
      intro hb
      have := bt_lt hb
      have := h2.len
      omega
    rw [hN]
    simp
  · have hbad := bad_of hg
    have hfrom : know_From Fu s g = some (.inl (2, s)) := by rw [kFrom Fu s hst hT (by omega) hF, kOf_bad Fu hT (by omega) hF hbad]; rfl
    rw [hfrom]
    simp only [Option.bind_some]
    rw [hlen]
    simp only [Option.bind_some]
    rw [if_neg (by simp)]
    have hl0 := fL0 Fu g (by omega) (s, s.1) s g.length 0 Fu (by omega) (by omega) (by simpa using hbad)
    rw [show ((0 : Nat) : Int) = 0 from rfl] at hl0
    rw [hl0]; rfl
theorem chatelainelaw37_KnowFrom_true (a0 : List Tm) (h0 : ∀ x ∈ a0, (tyP tyI (tyP tyI tyI)).has x) (a1 : List Int) (h1 : ∀ x ∈ a1, tyI.has x) : ∃ Fu, chatelainelaw37_KnowFrom Fu a0 a1 = some true :=
  ⟨1000, from_ok 1000 awake37 (by omega) a0 a1⟩
end Go.Proofs.Ytnjmlihmnkbgdaa
