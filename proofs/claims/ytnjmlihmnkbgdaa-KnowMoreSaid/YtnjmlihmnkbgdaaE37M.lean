/- The statement KnowMore, told over lists. -/
import Derived.Test.YtnjmlihmnkbgdaaKx
import Derived.Test.YtnjmlihmnkbgdaaKw
set_option linter.unusedVariables false
set_option linter.unusedSimpArgs false
namespace Go.Proofs.Ytnjmlihmnkbgdaa
open Go.RowKit
theorem appI (a b : List Int) (h : a.length + b.length ≤ 1000000) : app 8 a b = some (a ++ b) := by
  unfold app
  rw [if_pos (by unfold maxLen; simp; omega)]
theorem kConcat (Fu : Nat) (hF : 300 ≤ Fu) (o m : List Int) (h : o.length + m.length ≤ 1000) : slices_Concat___int_int Fu [o, m] = some (o ++ m) := by
  obtain ⟨F, rfl⟩ : ∃ F, Fu = F + 3 := ⟨Fu - 3, by omega⟩
  have e0 : idx [o, m] 0 = some o := rfl
  have e1 : idx [o, m] 1 = some m := rfl
  have w1 : w64 (0 + 1) = 1 := by decide
  have w2 : w64 (1 + 1) = 2 := by decide
  have w3 : w64 (0 + (o.length : Int)) = (o.length : Int) := by rw [w_id (by omega)]; omega
  have w4 : w64 ((o.length : Int) + (m.length : Int)) = ((o.length + m.length : Nat) : Int) := by rw [w_id (by omega)]; omega
  have hl0 : slices_Concat___int_int_l0 (F + 3) [o, m] (F + 3) 0 0 = some ((o.length + m.length : Nat) : Int) := by
    rw [slices_Concat___int_int_l0, if_pos (by simp), e0]
    simp only [Option.bind_some]
    rw [w3, if_neg (by omega), w1, slices_Concat___int_int_l0, if_pos (by simp), e1]
    simp only [Option.bind_some]
    rw [w4, if_neg (by omega), w2, slices_Concat___int_int_l0, if_neg (by simp)]
  have hl1 : slices_Concat___int_int_l1 (F + 3) [o, m] (F + 3) 0 [] = some (o ++ m) := by
    rw [slices_Concat___int_int_l1, if_pos (by simp), e0]
    simp only [Option.bind_some]
    rw [appI _ _ (by simp; omega)]
    simp only [Option.bind_some]
    rw [w1, slices_Concat___int_int_l1, if_pos (by simp), e1]
    simp only [Option.bind_some]
    rw [appI _ _ (by simp; omega)]
    simp only [Option.bind_some]
    rw [w2, slices_Concat___int_int_l1, if_neg (by simp)]; rfl
  unfold slices_Concat___int_int
  rw [hl0]
  simp only [Option.bind_some]
  unfold slices_Grow___int_int__nils0
  rw [if_pos (by omega)]
  simp only [Option.bind_some]
  rw [hl1]; rfl
theorem Der.sub {T : List Tm} {g g' : List Int} (h : ∀ n : Nat, (n : Int) ∈ g → Der T g' n) : ∀ {n : Nat}, Der T g n → Der T g' n := by
  intro n hd
  induction hd with
  | given h1 => exact h _ h1
  | key h1 h2 h3 h4 ih => exact Der.key h1 h2 h3 ih
  | box h1 h2 h3 h4 h5 h6 ih1 ih2 => exact Der.box h1 h2 ih1 h4 ih2 h6
theorem mL11 (Fu : Nat) {T : List Tm} {g : List Int} {b : List Bool} {o : List Int} (h : KS T g b o) (e : Int) (l : List Int) (hl : l.length ≤ 100) (hin : ∀ x ∈ l, ∃ n : Nat, x = (n : Int) ∧ bt b n = true) : ∀ d i k, i + d = l.length → d < k →
    chatelainelaw37_KnowMore_l11 Fu ((T, b, o, true), e) l k (i : Int) = some (.inr ()) := by
  intro d
  induction d with
  | zero =>
    intro i k hi hk
    obtain ⟨k, rfl⟩ : ∃ m, k = m + 1 := ⟨k - 1, by omega⟩
    rw [chatelainelaw37_KnowMore_l11, if_neg (by omega)]
  | succ d ih =>
    intro i k hi hk
    obtain ⟨k, rfl⟩ : ∃ m, k = m + 1 := ⟨k - 1, by omega⟩
    have hgi := List.getElem?_eq_getElem (show i < l.length by omega)
    obtain ⟨n, hn, hb⟩ := hin _ (List.mem_of_getElem? hgi)
    rw [chatelainelaw37_KnowMore_l11, if_pos (by omega), ix_nat (by omega)]
    simp only [Option.bind_some]
    rw [hgi, hn]
    simp only [Option.bind_some]
    rw [kHas Fu h]
    simp only [Option.bind_some]
    rw [show (decide (0 ≤ (n : Int)) && bt b (n : Int).toNat) = true by simp [hb], if_neg (by simp), w_id (by omega), show ((i : Int) + 1) = ((i + 1 : Nat) : Int) by omega]
    exact ih (i + 1) k (by omega) (by omega)
theorem more_ok (Fu : Nat) (hA : chatelainelaw37_awake Fu = some true) (hF : 300 ≤ Fu) (l : List Tm) (g m : List Int) : chatelainelaw37_KnowMore Fu l g m = some true := by
  unfold chatelainelaw37_KnowMore
  rw [hA]
  simp only [Option.bind_some, Bool.not_true, Bool.false_eq_true, if_false]
  rw [show know_Set_More_nil0 Fu [] = some 1 from rfl]
  simp only [Option.bind_some]
  rw [if_neg (by simp), show know_Set_Has_nil0 Fu 0 = some false from rfl]
  simp only [Option.bind_some]
  rw [if_neg (by simp), show know_Set_Len_nil0 Fu = some 0 from rfl, show know_Set_List_nil0 Fu = some [] from rfl]
  simp only [Option.bind_some]
  rw [show decide (w64 (0 + (([] : List Int).length : Int)) ≠ 0) = false by decide, if_neg (by simp)]
  by_cases hs : (((decide (40 < (l.length : Int))) || (decide (40 < (g.length : Int)))) || (decide (40 < (m.length : Int)))) = true
  · rw [if_pos hs]
  rw [if_neg hs]
  simp at hs
  obtain ⟨s, hm, hst, hTl⟩ := kMade Fu hF l (by omega)
  have hok : okT s.1 := hst.ok
  have hT : s.1.length ≤ 100 := by omega
  rw [hm]
  simp only [Option.bind_some]
  by_cases hg : okG s.1 g
  · obtain ⟨b, o, h1, h2, h3, h4⟩ := kOf Fu hT (by omega) hF hok hg
    have hD := h2.iff h3 h4
    have hol := h2.olen
    have hfrom : know_From Fu s g = some (.inr ((s.1, b, o, true), 0, s)) := by rw [kFrom Fu s hst hT (by omega) hF, h1]; rfl
    rw [hfrom]
    simp only [Option.bind_some]
    rw [if_neg (by simp)]
    have hMore : know_Set_More Fu (s.1, b, o, true) m = (know_of Fu s.1 (o ++ m)).bind fun x52 => (match x52 with | .inl x58 => (some (.inl x58)) | .inr x60 => (some (.inr x60))) := by
      unfold know_Set_More know_Set_made
      simp only [Option.bind_some]
      rw [if_neg (by simp), kConcat Fu hF o m (by omega)]
      rfl
    rw [hMore]
    have hgm : app 8 ([] : List Int) g = some g := by rw [appI _ _ (by simp; omega)]; rfl
    have hgm2 : app 8 g m = some (g ++ m) := appI _ _ (by omega)
    by_cases hm2 : okG s.1 m
    · have ho : okG s.1 (o ++ m) := by
        intro x hx
        rcases List.mem_append.1 hx with h | h
        · exact h2.rng x h
        · exact hm2 x h
      have hgg : okG s.1 (g ++ m) := by
        intro x hx
        rcases List.mem_append.1 hx with h | h
        · exact hg x h
        · exact hm2 x h
      obtain ⟨b', o', p1, p2, p3, p4⟩ := kOf Fu hT (g := o ++ m) (by simp; omega) hF hok ho
      obtain ⟨b2, o2, q1, q2, q3, q4⟩ := kOf Fu hT (g := g ++ m) (by simp; omega) hF hok hgg
      have hD1 := p2.iff p3 p4
      have hD2 := q2.iff q3 q4
      have hw : okG s.1 (wantL b' s.1.length) := by
        intro x hx
        obtain ⟨n, rfl, hn, _⟩ := (wantL_mem _ _ _).1 hx
        exact ⟨n, rfl, hn⟩
      have hwl := wantL_len b' s.1.length
      have hwl0 := wantL_len b s.1.length
      obtain ⟨b3, o3, t1, t2, t3, t4⟩ := kOf Fu hT (g := wantL b' s.1.length) (by omega) hF hok hw
      have hD3 := t2.iff t3 t4
      have e2 : ∀ i, bt b' i = bt b2 i := by
        intro i
        rw [Bool.eq_iff_iff, hD1, hD2]
        constructor
        · refine Der.sub (fun n hn => ?_)
          rcases List.mem_append.1 hn with h | h
          · exact Der.sub (fun k hk => .given (List.mem_append_left _ hk)) ((hD n).1 ((h2.mem n).2 h))
          · exact .given (List.mem_append_right _ h)
        · refine Der.sub (fun n hn => ?_)
          rcases List.mem_append.1 hn with h | h
          · exact .given (List.mem_append_left _ (h3 _ h))
          · exact .given (List.mem_append_right _ h)
      have e3 : ∀ i, bt b3 i = bt b' i := by
        intro i
        rw [Bool.eq_iff_iff, hD3]
        constructor
        · intro hd
          refine (hD1 i).2 (Der.sub (fun n hn => ?_) hd)
          obtain ⟨k, hk, _, hb⟩ := (wantL_mem _ _ _).1 hn
          obtain rfl : n = k := by omega
          exact (hD1 n).1 hb
        · intro hb
          refine .given ((wantL_mem _ _ _).2 ⟨i, rfl, ?_, hb⟩)
          have := bt_lt hb
          have := p2.len
          omega
      rw [p1]
      simp only [Option.bind_some]
      rw [hgm]
      simp only [Option.bind_some]
      rw [hgm2]
      simp only [Option.bind_some]
      have hfrom2 : know_From Fu s (g ++ m) = some (.inr ((s.1, b2, o2, true), 0, s)) := by rw [kFrom Fu s hst hT (by simp; omega) hF, q1]; rfl
      have hfrom3 : know_From Fu s (wantL b' s.1.length) = some (.inr ((s.1, b3, o3, true), 0, s)) := by rw [kFrom Fu s hst hT (by omega) hF, t1]; rfl
      rw [hfrom2]
      simp only [Option.bind_some]
      rw [if_neg (by simp), if_neg (by simp), kList Fu p2 hT]
      simp only [Option.bind_some]
      rw [hfrom3]
      simp only [Option.bind_some]
      rw [if_neg (by simp), kList Fu q2 hT, kList Fu t2 hT, kList Fu h2 hT, wantL_same e3, ← wantL_same e2]
      simp only [Option.bind_some]
      rw [rInts Fu _ (by omega) (by omega)]
      simp only [Option.bind_some, Bool.not_true, Bool.false_eq_true, if_false]
      have hl := mL11 Fu p2 0 (wantL b s.1.length) (by omega) (fun x hx => by
        obtain ⟨n, rfl, _, hb⟩ := (wantL_mem _ _ _).1 hx
        exact ⟨n, rfl, (hD1 n).2 (.given (List.mem_append_left _ ((h2.mem n).1 hb)))⟩) (wantL b s.1.length).length 0 Fu (by omega) (by omega)
      rw [show ((0 : Nat) : Int) = 0 from rfl] at hl
      rw [hl]; rfl
    · have hb1 : ∃ x ∈ o ++ m, x < 0 ∨ (s.1.length : Int) ≤ x := by
        obtain ⟨x, hx, h⟩ := bad_of hm2
        exact ⟨x, List.mem_append_right _ hx, h⟩
      have hb2 : ∃ x ∈ g ++ m, x < 0 ∨ (s.1.length : Int) ≤ x := by
        obtain ⟨x, hx, h⟩ := bad_of hm2
        exact ⟨x, List.mem_append_right _ hx, h⟩
      rw [kOf_bad Fu hT (by simp; omega) hF hb1]
      simp only [Option.bind_some]
      rw [hgm]
      simp only [Option.bind_some]
      rw [hgm2]
      simp only [Option.bind_some]
      have hfrom2 : know_From Fu s (g ++ m) = some (.inl (2, s)) := by rw [kFrom Fu s hst hT (by simp; omega) hF, kOf_bad Fu hT (by simp; omega) hF hb2]; rfl
      rw [hfrom2]
      simp only [Option.bind_some]
      rw [if_neg (by simp), if_pos (by decide)]
  · have hbad := bad_of hg
    have hfrom : know_From Fu s g = some (.inl (2, s)) := by rw [kFrom Fu s hst hT (by omega) hF, kOf_bad Fu hT (by omega) hF hbad]; rfl
    rw [hfrom]
    simp only [Option.bind_some]
    rw [if_pos (by decide)]
theorem chatelainelaw37_KnowMore_true (a0 : List Tm) (h0 : ∀ x ∈ a0, (tyP tyI (tyP tyI tyI)).has x) (a1 : List Int) (h1 : ∀ x ∈ a1, tyI.has x) (a2 : List Int) (h2 : ∀ x ∈ a2, tyI.has x) : ∃ Fu, chatelainelaw37_KnowMore Fu a0 a1 a2 = some true :=
  ⟨1000, more_ok 1000 awake37 (by omega) a0 a1 a2⟩
end Go.Proofs.Ytnjmlihmnkbgdaa
