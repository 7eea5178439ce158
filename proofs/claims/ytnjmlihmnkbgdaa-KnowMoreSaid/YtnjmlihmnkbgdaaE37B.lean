/- What is known, told over lists: the set that is learned, step by step, and the document's: both are what can be derived. -/
import Derived.Test.YtnjmlihmnkbgdaaE37A
import Derived.Test.YtnjmlihmnkbgdaaKf
import Derived.Test.YtnjmlihmnkbgdaaKr
set_option linter.unusedVariables false
set_option linter.unusedSimpArgs false
namespace Go.Proofs.Ytnjmlihmnkbgdaa
open Go.RowKit
theorem w_id {x : Int} (h : -1000000000 ≤ x ∧ x ≤ 1000000000) : w64 x = x := w64_of (by omega)
theorem app8 (l : List Int) (x : Int) (h : l.length < 1000000) : app 8 l [x] = some (l ++ [x]) := by
  unfold app maxLen; rw [if_pos (by simp; omega)]
theorem mk1 (n : Nat) (h : n < 1000000) : mkN 1 (n : Int) = some n := by unfold mkN maxLen; rw [if_pos (by omega)]; rfl
/-! ### marks -/
def bt (b : List Bool) (n : Nat) : Bool := (b[n]?).getD false
theorem bt_at {b : List Bool} {n : Nat} (h : n < b.length) : b[n]? = some (bt b n) := by unfold bt; rw [List.getElem?_eq_getElem h]; rfl
theorem bt_lt {b : List Bool} {n : Nat} (h : bt b n = true) : n < b.length := by
  apply Decidable.byContradiction; intro hn
  unfold bt at h; rw [List.getElem?_eq_none (by omega)] at h; cases h
theorem bt_set {b : List Bool} {n : Nat} (h : n < b.length) (i : Nat) : bt (b.set n true) i = true ↔ i = n ∨ bt b i = true := by
  unfold bt
  rw [List.getElem?_set]
  by_cases e : n = i
  · subst e; simp [h]
  · have e' : ¬ i = n := fun x => e x.symm
    simp [e, e']
theorem bt_rep (N i : Nat) : bt (List.replicate N false) i = false := by
  unfold bt; rw [List.getElem?_replicate]; split <;> rfl
def cnt : List Bool → Nat
  | [] => 0
  | x :: l => (if x then 1 else 0) + cnt l
theorem cnt_le : ∀ b : List Bool, cnt b ≤ b.length
  | [] => Nat.le_refl _
  | x :: l => by have := cnt_le l; cases x <;> simp [cnt] <;> omega
theorem cnt_set : ∀ (b : List Bool) (n : Nat), n < b.length → bt b n = false → cnt (b.set n true) = cnt b + 1
  | [], n, h, _ => by simp at h
  | x :: l, 0, _, h => by
    have hx : x = false := h
    subst hx; simp [cnt]; omega
  | x :: l, n + 1, h, h0 => by
    have := cnt_set l n (by simpa using h) h0
    simp [cnt, this]; omega
theorem cnt_full : ∀ (b : List Bool), cnt b = b.length → ∀ n, n < b.length → bt b n = true
  | [], _, n, h => by simp at h
  | x :: l, h, n, hn => by
    have hl := cnt_le l
    cases x with
    | false => simp [cnt] at h; omega
    | true =>
      simp [cnt] at h
      cases n with
      | zero => rfl
      | succ n => exact cnt_full l (by omega) n (by simpa using hn)
/-! ### what can be derived -/
inductive Der (T : List Tm) (g : List Int) : Nat → Prop where
  | given {n : Nat} : (n : Int) ∈ g → Der T g n
  | key {n a : Nat} {t : Tm} : T[n]? = some t → t.1 = 2 → t.2.1 = (a : Int) → Der T g a → Der T g n
  | box {k a c : Nat} {t : Tm} : T[k]? = some t → t.1 = 3 → Der T g k → t.2.1 = (a : Int) → Der T g a → t.2.2 = (c : Int) → Der T g c
/-- nothing new comes of term n -/
def closedAt (T : List Tm) (b : List Bool) (n : Nat) : Prop := ∀ t, T[n]? = some t → (t.1 = 2 → ∀ a : Nat, t.2.1 = (a : Int) → bt b a = true → bt b n = true) ∧ (t.1 = 3 → bt b n = true → ∀ a : Nat, t.2.1 = (a : Int) → bt b a = true → ∀ c : Nat, t.2.2 = (c : Int) → bt b c = true)
theorem Der.known {T : List Tm} {g : List Int} {b : List Bool} (hg : ∀ n : Nat, (n : Int) ∈ g → bt b n = true) (hc : ∀ n, n < T.length → closedAt T b n) : ∀ {n : Nat}, Der T g n → bt b n = true := by
  intro n h
  induction h with
  | given h => exact hg _ h
  | key h1 h2 h3 h4 ih => exact (hc _ (List.getElem?_eq_some_iff.1 h1).1 _ h1).1 h2 _ h3 ih
  | box h1 h2 h3 h4 h5 h6 ih1 ih2 => exact (hc _ (List.getElem?_eq_some_iff.1 h1).1 _ h1).2 h2 ih1 _ h4 ih2 _ h6
def okT (T : List Tm) : Prop := ∀ (i : Nat) (t : Tm), T[i]? = some t → okB i t = true
theorem okT.key {T : List Tm} (h : okT T) {i : Nat} {t : Tm} (hi : T[i]? = some t) (h2 : t.1 = 2) : ∃ a : Nat, t.2.1 = (a : Int) ∧ a < i := by
  have := h i t hi
  unfold okB at this
  simp [h2] at this
  exact ⟨t.2.1.toNat, by omega, by omega⟩
theorem okT.box {T : List Tm} (h : okT T) {i : Nat} {t : Tm} (hi : T[i]? = some t) (h3 : t.1 = 3) : ∃ a c : Nat, t.2.1 = (a : Int) ∧ a < i ∧ t.2.2 = (c : Int) ∧ c < i := by
  have := h i t hi
  unfold okB at this
  simp [h3] at this
  exact ⟨t.2.1.toNat, t.2.2.toNat, by omega, by omega, by omega, by omega⟩
/-- how x comes to be known from what stands ahead -/
def Why1 (T : List Tm) (g p : List Int) (x : Int) : Prop := x ∈ g ∨ (∃ (n : Nat) (t : Tm), x = (n : Int) ∧ T[n]? = some t ∧ t.1 = 2 ∧ t.2.1 ∈ p) ∨ (∃ (k : Nat) (t : Tm), T[k]? = some t ∧ (k : Int) ∈ p ∧ t.1 = 3 ∧ t.2.1 ∈ p ∧ t.2.2 = x)
structure KS (T : List Tm) (g : List Int) (b : List Bool) (o : List Int) : Prop where
  len : b.length = T.length
  mem : ∀ n : Nat, bt b n = true ↔ (n : Int) ∈ o
  rng : ∀ x ∈ o, ∃ n : Nat, x = (n : Int) ∧ n < T.length
  nd : ∀ (i j : Nat) (x : Int), o[i]? = some x → o[j]? = some x → i = j
  why : ∀ (j : Nat) (x : Int), o[j]? = some x → Why1 T g (o.take j) x
  num : o.length = cnt b
theorem KS.olen {T : List Tm} {g : List Int} {b : List Bool} {o : List Int} (h : KS T g b o) : o.length ≤ T.length := by rw [h.num, ← h.len]; exact cnt_le b
theorem KS.der {T : List Tm} {g : List Int} {b : List Bool} {o : List Int} (h : KS T g b o) : ∀ n : Nat, bt b n = true → Der T g n := by
  have key : ∀ (j : Nat), ∀ i, i ≤ j → ∀ n : Nat, o[i]? = some (n : Int) → Der T g n := by
    intro j
    induction j with
    | zero =>
      intro i hi n hn
      obtain rfl : i = 0 := by omega
      rcases h.why 0 _ hn with h1 | ⟨m, t, e, h1, h2, h3⟩ | ⟨k, t, h1, h2, _⟩
      · exact .given h1
      · simp at h3
      · simp at h2
    | succ j ih =>
      intro i hi n hn
      have back : ∀ m : Nat, (m : Int) ∈ o.take i → Der T g m := by
        intro m hm
        obtain ⟨q, hq, e⟩ := List.mem_iff_getElem.1 hm
        rw [List.length_take] at hq
        rw [List.getElem_take] at e
        exact ih q (by omega) m (by rw [List.getElem?_eq_getElem (by omega), e])
      rcases h.why i _ hn with h1 | ⟨m, t, e, h1, h2, h3⟩ | ⟨k, t, h1, h2, h3, h4, h5⟩
      · exact .given h1
      · obtain rfl : n = m := by omega
        obtain ⟨a, ha, _⟩ := h.rng _ (List.mem_of_mem_take h3)
        exact .key h1 h2 ha (back a (by rw [← ha]; exact h3))
      · obtain ⟨a, ha, _⟩ := h.rng _ (List.mem_of_mem_take h4)
        exact .box h1 h3 (back k h2) ha (back a (by rw [← ha]; exact h4)) h5
  intro n hn
  obtain ⟨i, hi, e⟩ := List.mem_iff_getElem.1 ((h.mem n).1 hn)
  exact key i i (Nat.le_refl _) n (by rw [List.getElem?_eq_getElem hi, e])
theorem KS.start (T : List Tm) (g : List Int) : KS T g (List.replicate T.length false) [] := by
  refine ⟨by simp, fun n => ?_, fun x hx => by simp at hx, fun i j x h => by simp at h, fun j x h => by simp at h, ?_⟩
  · rw [bt_rep]; simp
  · have : ∀ N, cnt (List.replicate N false) = 0 := by
      intro N
      induction N with
      | zero => rfl
      | succ N ih => rw [List.replicate_succ]; simp [cnt, ih]
    rw [this]; rfl
theorem KS.more {T : List Tm} {g : List Int} {b : List Bool} {o : List Int} (h : KS T g b o) {n : Nat} (hn : n < T.length) (h0 : bt b n = false) (hw : Why1 T g o (n : Int)) : KS T g (b.set n true) (o ++ [(n : Int)]) := by
  have hnb : n < b.length := by rw [h.len]; exact hn
  have hno : (n : Int) ∉ o := fun hm => by rw [(h.mem n).2 hm] at h0; cases h0
  refine ⟨by rw [List.length_set]; exact h.len, fun i => ?_, fun x hx => ?_, fun i j x hi hj => ?_, fun j x hj => ?_, ?_⟩
  · rw [bt_set hnb, h.mem, List.mem_append, List.mem_singleton]
    constructor
    · rintro (rfl | h1)
      · exact .inr rfl
      · exact .inl h1
    · rintro (h1 | h1)
      · exact .inr h1
      · exact .inl (by omega)
  · rcases List.mem_append.1 hx with h1 | h1
    · exact h.rng x h1
    · rw [List.mem_singleton] at h1; exact ⟨n, h1, hn⟩
  · have key : ∀ q : Nat, (o ++ [(n : Int)])[q]? = some x → (q < o.length ∧ o[q]? = some x) ∨ (q = o.length ∧ x = (n : Int)) := by
      intro q hq
      rw [List.getElem?_append] at hq
      by_cases hl : q < o.length
      · rw [if_pos hl] at hq; exact .inl ⟨hl, hq⟩
      · rw [if_neg hl] at hq
        obtain ⟨h5, h6⟩ := List.getElem?_eq_some_iff.1 hq
        simp at h5 h6
        exact .inr ⟨by omega, h6.symm⟩
    rcases key i hi with ⟨h1, h2⟩ | ⟨h1, h2⟩ <;> rcases key j hj with ⟨h3, h4⟩ | ⟨h3, h4⟩
    · exact h.nd i j x h2 h4
    · exact absurd (by rw [← h4]; exact List.mem_of_getElem? h2) hno
    · exact absurd (by rw [← h2]; exact List.mem_of_getElem? h4) hno
    · omega
  · rw [List.getElem?_append] at hj
    by_cases hl : j < o.length
    · rw [if_pos hl] at hj
      rw [List.take_append_of_le_length (by omega)]
      exact h.why j x hj
    · rw [if_neg hl] at hj
      obtain ⟨h5, h6⟩ := List.getElem?_eq_some_iff.1 hj
      simp at h5 h6
      obtain rfl : j = o.length := by omega
      rw [List.take_left, ← h6]; exact hw
  · rw [List.length_append, cnt_set b n hnb h0, h.num]; rfl
section
theorem kLearn (Fu : Nat) {T : List Tm} {g : List Int} {b : List Bool} {o : List Int} (h : KS T g b o) (hT : T.length ≤ 100) {n : Nat} (hn : n < T.length) (hw : Why1 T g o (n : Int)) :
    ∃ c b' o', know_Set_learn Fu (T, b, o, true) (n : Int) = some (c, (T, b', o', true)) ∧ KS T g b' o' ∧ (∀ x ∈ o, x ∈ o') ∧ (n : Int) ∈ o' ∧ ((c = true ∧ o'.length = o.length + 1) ∨ (c = false ∧ b' = b ∧ o' = o)) := by
  have hnb : n < b.length := by rw [h.len]; exact hn
  have ho := h.olen
  unfold know_Set_learn
  simp only []
  rw [ix_nat hnb]
  simp only [Option.bind_some]
  rw [bt_at hnb]
  simp only [Option.bind_some]
  cases h0 : bt b n with
  | true => exact ⟨false, b, o, by simp, h, fun x hx => hx, (h.mem n).1 h0, .inr ⟨rfl, rfl, rfl⟩⟩
  | false =>
    rw [if_neg (by simp), app8 _ _ (by omega)]
    exact ⟨true, _, _, rfl, h.more hn h0 hw, fun x hx => List.mem_append_left _ hx, by simp, .inl ⟨rfl, by simp⟩⟩
theorem kStep (Fu : Nat) {T : List Tm} {g : List Int} {b : List Bool} {o : List Int} (h : KS T g b o) (hT : T.length ≤ 100) (hok : okT T) {n : Nat} (hn : n < T.length) :
    ∃ c b' o', know_Set_step Fu (T, b, o, true) (n : Int) = some (c, (T, b', o', true)) ∧ KS T g b' o' ∧ (∀ x ∈ o, x ∈ o') ∧ ((c = true ∧ o'.length = o.length + 1) ∨ (c = false ∧ b' = b ∧ o' = o ∧ closedAt T b n)) := by
  have hnb : n < b.length := by rw [h.len]; exact hn
  obtain ⟨t, ht⟩ : ∃ t, T[n]? = some t := ⟨_, List.getElem?_eq_getElem hn⟩
  have same : ∀ u, T[n]? = some u → u = t := fun u hu => Option.some.inj (hu.symm.trans ht)
  unfold know_Set_step
  simp only []
  rw [idx_nat, ht]
  simp only [Option.bind_some]
  by_cases k2 : t.1 = 2
  · obtain ⟨a, ha, hlt⟩ := hok.key ht k2
    rw [if_pos k2, ha, ix_nat (by omega)]
    simp only [Option.bind_some]
    rw [bt_at (n := a) (by omega)]
    simp only [Option.bind_some]
    cases h0 : bt b a with
    | true =>
      rw [if_pos rfl]
      obtain ⟨c, b', o', h1, h2, h3, h4, h5⟩ := kLearn Fu h hT hn (.inr (.inl ⟨n, t, rfl, ht, k2, by rw [ha]; exact (h.mem a).1 h0⟩))
      rw [h1]
      refine ⟨c, b', o', rfl, h2, h3, ?_⟩
      rcases h5 with h5 | ⟨h5, h6, h7⟩
      · exact .inl h5
      · refine .inr ⟨h5, h6, h7, fun u hu => ?_⟩
        obtain rfl := same u hu
        exact ⟨fun _ _ _ _ => (h.mem n).2 (by rw [← h7]; exact h4), fun e => absurd (k2.symm.trans e) (by decide)⟩
    | false =>
      rw [if_neg (by simp), if_neg (by omega)]
      simp only [Option.bind_some, Bool.false_eq_true, if_false]
      refine ⟨false, b, o, rfl, h, fun x hx => hx, .inr ⟨rfl, rfl, rfl, fun u hu => ?_⟩⟩
      obtain rfl := same u hu
      refine ⟨fun _ a' ha' hb' => ?_, fun e => absurd (k2.symm.trans e) (by decide)⟩
      obtain rfl : a' = a := by omega
      rw [h0] at hb'; cases hb'
  · rw [if_neg k2]
    simp only [Option.bind_some, Bool.false_eq_true, if_false]
    by_cases k3 : t.1 = 3
    · obtain ⟨a, c0, ha, hlt, hc, hlc⟩ := hok.box ht k3
      rw [if_pos k3, ix_nat hnb]
      simp only [Option.bind_some]
      rw [bt_at hnb]
      simp only [Option.bind_some]
      cases hbn : bt b n with
      | false =>
        simp only [Bool.false_eq_true, if_false, Option.bind_some]
        refine ⟨false, b, o, rfl, h, fun x hx => hx, .inr ⟨rfl, rfl, rfl, fun u hu => ?_⟩⟩
        obtain rfl := same u hu
        exact ⟨fun e => absurd e k2, fun _ e => by rw [hbn] at e; cases e⟩
      | true =>
        rw [if_pos rfl, ha, ix_nat (by omega)]
        simp only [Option.bind_some]
        rw [bt_at (n := a) (by omega)]
        simp only [Option.bind_some]
        cases h0 : bt b a with
        | false =>
          simp only [Bool.false_eq_true, if_false]
          refine ⟨false, b, o, rfl, h, fun x hx => hx, .inr ⟨rfl, rfl, rfl, fun u hu => ?_⟩⟩
          obtain rfl := same u hu
          refine ⟨fun e => absurd e k2, fun _ _ a' ha' hb' => ?_⟩
          obtain rfl : a' = a := by omega
          rw [h0] at hb'; cases hb'
        | true =>
          rw [if_pos rfl, hc]
          obtain ⟨c, b', o', h1, h2, h3, h4, h5⟩ := kLearn Fu h hT (n := c0) (by omega) (.inr (.inr ⟨n, t, ht, (h.mem n).1 hbn, k3, by rw [ha]; exact (h.mem a).1 h0, hc⟩))
          rw [h1]
          refine ⟨c, b', o', rfl, h2, h3, ?_⟩
          rcases h5 with h5 | ⟨h5, h6, h7⟩
          · exact .inl h5
          · refine .inr ⟨h5, h6, h7, fun u hu => ?_⟩
            obtain rfl := same u hu
            refine ⟨fun e => absurd e k2, fun _ _ _ _ _ c' hc' => ?_⟩
            obtain rfl : c' = c0 := by omega
            exact (h.mem _).2 (by rw [← h7]; exact h4)
    · rw [if_neg k3]
      simp only [Option.bind_some, Bool.false_eq_true, if_false]
      refine ⟨false, b, o, rfl, h, fun x hx => hx, .inr ⟨rfl, rfl, rfl, fun u hu => ?_⟩⟩
      obtain rfl := same u hu
      exact ⟨fun e => absurd e k2, fun e => absurd e k3⟩
theorem kL1 (Fu : Nat) {T : List Tm} {g : List Int} (hT : T.length ≤ 100) (hok : okT T) (S0 : List Tm × List Bool × List Int × Bool) (hS : S0.1 = T) : ∀ d i k ag b o, i + d = T.length → d < k → KS T g b o →
    (∃ b' o', know_Set_close_l1 Fu S0 k ag (i : Int) (T, b, o, true) = some (.inl (T, b', o', true)) ∧ KS T g b' o' ∧ (∀ x ∈ o, x ∈ o') ∧ o'.length = T.length) ∨
    (∃ ag' b' o', know_Set_close_l1 Fu S0 k ag (i : Int) (T, b, o, true) = some (.inr (ag', (T, b', o', true))) ∧ KS T g b' o' ∧ (∀ x ∈ o, x ∈ o') ∧ o.length ≤ o'.length ∧ ((ag' = true ∧ (ag = true ∨ o.length < o'.length)) ∨ (ag' = false ∧ ag = false ∧ b' = b ∧ o' = o ∧ ∀ j, i ≤ j → j < T.length → closedAt T b j))) := by
  intro d
  induction d with
  | zero =>
    intro i k ag b o hi hk h
    obtain ⟨k, rfl⟩ : ∃ m, k = m + 1 := ⟨k - 1, by omega⟩
    right
    rw [know_Set_close_l1, if_neg (by rw [hS]; omega)]
    refine ⟨ag, b, o, rfl, h, fun x hx => hx, Nat.le_refl _, ?_⟩
    cases ag with
    | true => exact .inl ⟨rfl, .inl rfl⟩
    | false => exact .inr ⟨rfl, rfl, rfl, rfl, fun j h1 h2 => by omega⟩
  | succ d ih =>
    intro i k ag b o hi hk h
    obtain ⟨k, rfl⟩ : ∃ m, k = m + 1 := ⟨k - 1, by omega⟩
    rw [know_Set_close_l1, if_pos (by rw [hS]; omega)]
    simp only []
    by_cases hf : o.length = T.length
    · left
      rw [if_pos (by omega)]
      exact ⟨b, o, rfl, h, fun x hx => hx, hf⟩
    · rw [if_neg (by omega)]
      obtain ⟨c, b1, o1, h1, h2, h3, h4⟩ := kStep Fu h hT hok (n := i) (by omega)
      rw [h1]
      simp only [Option.bind_some]
      rw [w_id (by omega), show ((i : Int) + 1) = ((i + 1 : Nat) : Int) by omega]
      rcases ih (i + 1) k (c || ag) b1 o1 (by omega) (by omega) h2 with ⟨b2, o2, h5, h6, h7, h8⟩ | ⟨ag', b2, o2, h5, h6, h7, h8, h9⟩
      · left; exact ⟨b2, o2, h5, h6, fun x hx => h7 x (h3 x hx), h8⟩
      · right
        refine ⟨ag', b2, o2, h5, h6, fun x hx => h7 x (h3 x hx), ?_, ?_⟩
        · rcases h4 with ⟨_, h4⟩ | ⟨_, _, h4, _⟩
          · omega
          · rw [h4] at h8; exact h8
        · rcases h4 with ⟨hc, h4⟩ | ⟨hc, e1, e2, h4⟩
          · subst hc
            rcases h9 with ⟨h9, _⟩ | ⟨_, h9, _⟩
            · exact .inl ⟨h9, .inr (by omega)⟩
            · simp at h9
          · subst hc e1 e2
            rw [Bool.false_or] at h9
            rcases h9 with h9 | ⟨h9, h10, h11, h12, h13⟩
            · exact .inl h9
            · refine .inr ⟨h9, h10, h11, h12, fun j h14 h15 => ?_⟩
              by_cases e : j = i
              · subst e; exact h4
              · exact h13 j (by omega) h15
theorem full_closed {T : List Tm} {g : List Int} {b : List Bool} {o : List Int} (hok : okT T) (h : KS T g b o) (hf : o.length = T.length) : ∀ j, j < T.length → closedAt T b j := by
  intro j hj t ht
  have hall := cnt_full b (by rw [← h.num, h.len, hf])
  refine ⟨fun _ _ _ _ => hall j (by rw [h.len]; exact hj), fun h3 _ _ _ _ c hc => ?_⟩
  obtain ⟨a, c0, _, _, hc0, hlt⟩ := hok.box ht h3
  exact hall c (by rw [h.len]; omega)
theorem kL0 (Fu : Nat) {T : List Tm} {g : List Int} (hT : T.length ≤ 100) (hF : 200 ≤ Fu) (hok : okT T) : ∀ m k b o, T.length ≤ o.length + m → m + 1 < k → KS T g b o →
    ∃ b' o', know_Set_close_l0 Fu k true (T, b, o, true) = some (T, b', o', true) ∧ KS T g b' o' ∧ (∀ x ∈ o, x ∈ o') ∧ ∀ j, j < T.length → closedAt T b' j := by
  intro m
  induction m with
  | zero =>
    intro k b o hm hk h
    obtain ⟨k, rfl⟩ : ∃ m, k = m + 2 := ⟨k - 2, by omega⟩
    rw [know_Set_close_l0, if_pos rfl]
    have ho := h.olen
    rcases kL1 Fu hT hok (T, b, o, true) rfl T.length 0 Fu false b o (by omega) (by omega) h with ⟨b2, o2, h5, h6, h7, h8⟩ | ⟨ag', b2, o2, h5, h6, h7, h8, h9⟩
    · rw [show ((0 : Nat) : Int) = 0 from rfl] at h5
      rw [h5]
      exact ⟨b2, o2, rfl, h6, h7, full_closed hok h6 h8⟩
    · rw [show ((0 : Nat) : Int) = 0 from rfl] at h5
      rw [h5]
      simp only [Option.bind_some]
      have ho2 := h6.olen
      rcases h9 with ⟨_, h9 | h9⟩ | ⟨e, _, h11, h12, h13⟩
      · cases h9
      · omega
      · subst e
        rw [know_Set_close_l0, if_neg (by simp)]
        refine ⟨b2, o2, rfl, h6, h7, ?_⟩
        rw [h11]; exact fun j hj => h13 j (by omega) hj
  | succ m ih =>
    intro k b o hm hk h
    obtain ⟨k, rfl⟩ : ∃ m, k = m + 2 := ⟨k - 2, by omega⟩
    rw [know_Set_close_l0, if_pos rfl]
    rcases kL1 Fu hT hok (T, b, o, true) rfl T.length 0 Fu false b o (by omega) (by omega) h with ⟨b2, o2, h5, h6, h7, h8⟩ | ⟨ag', b2, o2, h5, h6, h7, h8, h9⟩
    · rw [show ((0 : Nat) : Int) = 0 from rfl] at h5
      rw [h5]
      exact ⟨b2, o2, rfl, h6, h7, full_closed hok h6 h8⟩
    · rw [show ((0 : Nat) : Int) = 0 from rfl] at h5
      rw [h5]
      simp only [Option.bind_some]
      rcases h9 with ⟨e, h9 | h9⟩ | ⟨e, _, h11, h12, h13⟩
      · cases h9
      · subst e
        obtain ⟨b3, o3, h14, h15, h16, h17⟩ := ih (k + 1) b2 o2 (by omega) (by omega) h6
        exact ⟨b3, o3, h14, h15, fun x hx => h16 x (h7 x hx), h17⟩
      · subst e
        rw [know_Set_close_l0, if_neg (by simp)]
        refine ⟨b2, o2, rfl, h6, h7, ?_⟩
        rw [h11]; exact fun j hj => h13 j (by omega) hj
def okG (T : List Tm) (g : List Int) : Prop := ∀ x ∈ g, ∃ n : Nat, x = (n : Int) ∧ n < T.length
theorem ofL0 (Fu : Nat) {T : List Tm} {g : List Int} (hT : T.length ≤ 100) (hg : okG T g) (hl : g.length ≤ 100) : ∀ d i k b o, i + d = g.length → d < k → KS T g b o → (∀ x ∈ g.take i, x ∈ o) →
    ∃ b' o', know_of_l0 Fu T g k (i : Int) (T, b, o, true) = some (.inr (T, b', o', true)) ∧ KS T g b' o' ∧ ∀ x ∈ g, x ∈ o' := by
  intro d
  induction d with
  | zero =>
    intro i k b o hi hk h hx
    obtain ⟨k, rfl⟩ : ∃ m, k = m + 1 := ⟨k - 1, by omega⟩
    rw [know_of_l0, if_neg (by omega)]
    rw [List.take_of_length_le (by omega)] at hx
    exact ⟨b, o, rfl, h, hx⟩
  | succ d ih =>
    intro i k b o hi hk h hx
    obtain ⟨k, rfl⟩ : ∃ m, k = m + 1 := ⟨k - 1, by omega⟩
    have hgi := List.getElem?_eq_getElem (show i < g.length by omega)
    obtain ⟨n, hn, hlt⟩ := hg _ (List.mem_of_getElem? hgi)
    rw [know_of_l0, if_pos (by omega), idx_nat, hgi]
    simp only [Option.bind_some]
    rw [hn] at hgi ⊢
    rw [if_neg (by simp; omega)]
    obtain ⟨c, b1, o1, h1, h2, h3, h4, _⟩ := kLearn Fu h hT hlt (.inl (List.mem_of_getElem? hgi))
    rw [h1]
    simp only [Option.bind_some]
    rw [w_id (by omega), show ((i : Int) + 1) = ((i + 1 : Nat) : Int) by omega]
    refine ih (i + 1) k b1 o1 (by omega) (by omega) h2 (fun x hx' => ?_)
    rw [List.take_add_one, hgi] at hx'
    rcases List.mem_append.1 hx' with h5 | h5
    · exact h3 x (hx x h5)
    · simp at h5; rw [h5]; exact h4
theorem ofL0_bad (Fu : Nat) {T : List Tm} {g : List Int} (hT : T.length ≤ 100) (hl : g.length ≤ 100) : ∀ d i k b o, i + d = g.length → d < k → KS T g b o → (∃ x ∈ g.drop i, x < 0 ∨ (T.length : Int) ≤ x) →
    know_of_l0 Fu T g k (i : Int) (T, b, o, true) = some (.inl (.inl 2)) := by
  intro d
  induction d with
  | zero =>
    intro i k b o hi hk h hx
    rw [List.drop_of_length_le (by omega)] at hx
    obtain ⟨x, hx, _⟩ := hx
    simp at hx
  | succ d ih =>
    intro i k b o hi hk h hx
    obtain ⟨k, rfl⟩ : ∃ m, k = m + 1 := ⟨k - 1, by omega⟩
    have hgi := List.getElem?_eq_getElem (show i < g.length by omega)
    rw [know_of_l0, if_pos (by omega), idx_nat, hgi]
    simp only [Option.bind_some]
    by_cases hb : g[i] < 0 ∨ (T.length : Int) ≤ g[i]
    · rw [if_pos (by simpa using hb)]
    · rw [if_neg (by simpa using hb)]
      obtain ⟨n, hn⟩ : ∃ n : Nat, g[i] = (n : Int) := ⟨g[i].toNat, by omega⟩
      rw [hn] at hgi hb ⊢
      obtain ⟨c, b1, o1, h1, h2, h3, h4, _⟩ := kLearn Fu h hT (n := n) (by omega) (.inl (List.mem_of_getElem? hgi))
      rw [h1]
      simp only [Option.bind_some]
      rw [w_id (by omega), show ((i : Int) + 1) = ((i + 1 : Nat) : Int) by omega]
      refine ih (i + 1) k b1 o1 (by omega) (by omega) h2 ?_
      obtain ⟨x, hx, hx2⟩ := hx
      rw [List.drop_eq_getElem_cons (show i < g.length by omega)] at hx
      rcases List.mem_cons.1 hx with h5 | h5
      · rw [h5, hn] at hx2; exact absurd hx2 hb
      · exact ⟨x, h5, hx2⟩
theorem kOf (Fu : Nat) {T : List Tm} {g : List Int} (hT : T.length ≤ 100) (hl : g.length ≤ 100) (hF : 300 ≤ Fu) (hok : okT T) (hg : okG T g) :
    ∃ b o, know_of Fu T g = some (.inr ((T, b, o, true), 0)) ∧ KS T g b o ∧ (∀ x ∈ g, x ∈ o) ∧ ∀ j, j < T.length → closedAt T b j := by
  obtain ⟨b, o, h1, h2, h3⟩ := ofL0 Fu hT hg hl g.length 0 Fu (List.replicate T.length false) [] (by omega) (by omega) (KS.start T g) (by simp)
  obtain ⟨b2, o2, h4, h5, h6, h7⟩ := kL0 Fu hT (by omega) hok T.length Fu b o (by omega) (by omega) h2
  refine ⟨b2, o2, ?_, h5, fun x hx => h6 x (h3 x hx), h7⟩
  unfold know_of
  rw [mk1 _ (by omega)]
  simp only [Option.bind_some]
  rw [show (0 : Int) = ((0 : Nat) : Int) from rfl, h1]
  simp only [Option.bind_some]
  unfold know_Set_close
  rw [h4]; rfl
theorem kOf_bad (Fu : Nat) {T : List Tm} {g : List Int} (hT : T.length ≤ 100) (hl : g.length ≤ 100) (hF : 300 ≤ Fu) (hg : ∃ x ∈ g, x < 0 ∨ (T.length : Int) ≤ x) : know_of Fu T g = some (.inl 2) := by
  have := ofL0_bad Fu hT hl g.length 0 Fu (List.replicate T.length false) [] (by omega) (by omega) (KS.start T g) (by simpa using hg)
  unfold know_of
  rw [mk1 _ (by omega)]
  simp only [Option.bind_some]
  rw [show (0 : Int) = ((0 : Nat) : Int) from rfl, this]; rfl
theorem kTerms (Fu : Nat) (s : Sto) (hl : s.1.length ≤ 100) (hF : 300 ≤ Fu) : know_terms Fu s = some s.1 := by
  have key : ∀ d i k, i + d = s.1.length → d < k → know_terms_l0 Fu s (s.1.length : Int) k (s.1.take i) (i : Int) = some s.1 := by
    intro d
    induction d with
    | zero =>
      intro i k hi hk
      obtain ⟨k, rfl⟩ : ∃ m, k = m + 1 := ⟨k - 1, by omega⟩
      rw [know_terms_l0, if_neg (by omega), List.take_of_length_le (by omega)]
    | succ d ih =>
      intro i k hi hk
      obtain ⟨k, rfl⟩ : ∃ m, k = m + 1 := ⟨k - 1, by omega⟩
      rw [know_terms_l0, if_pos (by omega)]
      rcases sGet Fu s (i : Int) with ⟨m, t, e, hm, ht, hg⟩ | ⟨hb, _⟩
      · obtain rfl : m = i := by omega
        rw [hg]
        simp only [Option.bind_some]
        rw [app24 _ _ (by rw [List.length_take]; omega)]
        simp only [Option.bind_some]
        rw [w_id (by omega), show ((m : Int) + 1) = ((m + 1 : Nat) : Int) by omega, ← ih (m + 1) k (by omega) (by omega), List.take_add_one, ht]; rfl
      · omega
  unfold know_terms term_Store_Len term_Store_is
  simp only [Option.bind_some]
  have := key s.1.length 0 Fu (by omega) (by omega)
  rw [List.take_zero] at this
  rw [show (0 : Int) = ((0 : Nat) : Int) from rfl, this]; rfl
theorem kFrom (Fu : Nat) (s : Sto) (hs : StO s) {g : List Int} (hT : s.1.length ≤ 100) (hl : g.length ≤ 100) (hF : 300 ≤ Fu) :
    know_From Fu s g = (know_of Fu s.1 g).bind fun x => match x with | .inl e => some (.inl (e, s)) | .inr y => some (.inr (y.1, y.2, s)) := by
  have hb : okB s.1.length (0, 0, 0) = false := by simp [okB]
  unfold know_From
  rcases sPutT Fu (by omega) s hs hT (0, 0, 0) with ⟨_, h1⟩ | ⟨_, h1, _⟩ | ⟨_, h1, _⟩
  · rw [h1]
    simp only [Option.bind_some]
    rw [if_neg (by decide), kTerms Fu s hT hF]
    rfl
  · rw [hb] at h1; cases h1
  · rw [hb] at h1; cases h1
end
/-! ### the document's -/
theorem KS.iff {T : List Tm} {g : List Int} {b : List Bool} {o : List Int} (h : KS T g b o) (hg : ∀ x ∈ g, x ∈ o) (hc : ∀ j, j < T.length → closedAt T b j) (n : Nat) : bt b n = true ↔ Der T g n :=
  ⟨h.der n, Der.known (fun m hm => (h.mem m).2 (hg _ hm)) hc⟩
/-! ### stores that are made -/
theorem madeL (Fu : Nat) (hF : 300 ≤ Fu) (l : List Tm) (hl : l.length ≤ 100) : ∀ d i k (s : Sto), i + d = l.length → d < k → StO s → s.1.length ≤ i →
    ∃ s' : Sto, chatelainelaw37_made_l0 Fu l k s.1 (i : Int) s = some (s'.1, s') ∧ StO s' ∧ s'.1.length ≤ l.length := by
  intro d
  induction d with
  | zero =>
    intro i k s hi hk hs h
    obtain ⟨k, rfl⟩ : ∃ m, k = m + 1 := ⟨k - 1, by omega⟩
    rw [chatelainelaw37_made_l0, if_neg (by omega)]
    exact ⟨s, rfl, hs, by omega⟩
  | succ d ih =>
    intro i k s hi hk hs h
    obtain ⟨k, rfl⟩ : ∃ m, k = m + 1 := ⟨k - 1, by omega⟩
    rw [chatelainelaw37_made_l0, if_pos (by omega), idx_nat, List.getElem?_eq_getElem (by omega)]
    simp only [Option.bind_some]
    rw [show term_Store_Len Fu s = some (s.1.length : Int) from rfl]
    simp only [Option.bind_some]
    have hw : w64 ((i : Int) + 1) = ((i + 1 : Nat) : Int) := by rw [w_id (by omega)]; omega
    rcases sPutT Fu (by omega) s hs (by omega) l[i] with ⟨_, h1⟩ | ⟨q, _, hq, h1⟩ | ⟨s', _, _, h2, h3, h1⟩
    · rw [h1]
      simp only [Option.bind_some]
      rw [if_neg (by simp)]
      simp only [Option.bind_some]
      rw [hw]
      exact ih (i + 1) k s (by omega) (by omega) hs (by omega)
    · rw [h1]
      have := (List.getElem?_eq_some_iff.1 hq).1
      simp only [Option.bind_some]
      rw [if_neg (by simp; omega)]
      simp only [Option.bind_some]
      rw [hw]
      exact ih (i + 1) k s (by omega) (by omega) hs (by omega)
    · rw [h1]
      simp only [Option.bind_some]
      rw [if_pos (by simp), app24 _ _ (by omega)]
      simp only [Option.bind_some]
      rw [hw, ← h3]
      exact ih (i + 1) k s' (by omega) (by omega) h2 (by rw [h3]; simp; omega)
theorem kMade (Fu : Nat) (hF : 300 ≤ Fu) (l : List Tm) (hl : l.length ≤ 100) : ∃ s : Sto, chatelainelaw37_made Fu l = some (s, s.1) ∧ StO s ∧ s.1.length ≤ l.length := by
  obtain ⟨s, h1, h2, h3⟩ := madeL Fu hF l hl l.length 0 Fu ([], [], []) (by omega) (by omega) StO.nil (by simp)
  refine ⟨s, ?_, h2, h3⟩
  unfold chatelainelaw37_made term_New
  simp only [Option.bind_some]
  rw [show (0 : Int) = ((0 : Nat) : Int) from rfl, h1]; rfl
theorem kHas (Fu : Nat) {T : List Tm} {g : List Int} {b : List Bool} {o : List Int} (h : KS T g b o) (n : Int) : know_Set_Has Fu (T, b, o, true) n = some (decide (0 ≤ n) && bt b n.toNat) := by
  unfold know_Set_Has know_Set_made
  simp only [Option.bind_some, Bool.true_and]
  by_cases h0 : 0 ≤ n ∧ n < (b.length : Int)
  · rw [if_pos (by simpa using h0)]
    obtain ⟨m, rfl⟩ : ∃ m : Nat, n = (m : Int) := ⟨n.toNat, by omega⟩
    rw [idx_nat, bt_at (by omega)]
    simp
  · rw [if_neg (by simpa using h0)]
    simp only [Option.bind_some, Option.some.injEq]
    by_cases h1 : 0 ≤ n
    · have : bt b n.toNat = false := by
        apply Bool.eq_false_iff.2
        intro hb
        have := bt_lt hb
        omega
      rw [this]; simp
    · rw [decide_eq_false h1]; rfl
end Go.Proofs.Ytnjmlihmnkbgdaa
