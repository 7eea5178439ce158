/- What readers read of what writers wrote: plain lists, no program. -/
import Derived.Test.YtlgcfnbhnpnkiaaRead3
import Derived.Test.YtlgcfnbhnpnkiaaFieldL
set_option linter.unusedVariables false
set_option linter.unusedSimpArgs false
namespace Go.Proofs.Ytlgcfnbhnpnkiaa
open Go.RowKit
/-- one field is read: the reader's state; is it what was written? -/
def readStep (p : RSt × Bool) (x : It) : RSt × Bool :=
  if x.kind = 1 then (numR x.size x.n p.1, decide (numV x.size x.n p.1 = x.n) && p.2)
  else if x.kind = 2 then (bytR x.b.length p.1, decide (bytV x.b.length p.1 = x.b) && p.2)
  else if x.kind = 3 then (fixR x.b.length p.1, decide (fixV x.b.length p.1 = x.b) && p.2)
  else p
def readS (l : List It) (b : List UInt8) : RSt × Bool := l.foldl readStep ((0, b), true)
/-- a field's bytes, and may it be -/
def encI (x : It) : List UInt8 := if x.kind = 1 then be x.size.toNat x.n.toNat else if x.kind = 2 then be 2 x.b.length ++ x.b else if x.kind = 3 then x.b else []
def okI (x : It) : Prop := x.b.length ≤ 100 ∧ (x.kind = 1 → mayPut x.n x.size = true)
theorem stepS_ok {s : WSt} {x : It} (h : (stepS s x).1 = 0) (hb : x.b.length ≤ 100) : s.1 = 0 ∧ okI x ∧ stepS s x = (0, s.2 ++ encI x) := by
  unfold stepS encI okI at *
  by_cases h1 : x.kind = 1
  · simp only [if_pos h1] at h ⊢
    simp only [numS, putS] at h ⊢
    by_cases hs : s.1 = 0
    · rw [if_pos hs] at h ⊢
      by_cases hp : mayPut x.n x.size = true
      · rw [putE_good hp, putL_good hp]
        exact ⟨hs, ⟨hb, fun _ => hp⟩, by simp⟩
      · rw [Bool.not_eq_true] at hp
        rw [putE_bad hp] at h
        simp at h
    · rw [if_neg hs] at h
      exact absurd h hs
  · simp only [if_neg h1] at h ⊢
    by_cases h2 : x.kind = 2
    · simp only [if_pos h2] at h ⊢
      simp only [bytesS] at h ⊢
      by_cases hs : s.1 = 0
      · rw [if_pos hs, if_pos (by omega)]
        exact ⟨hs, ⟨hb, fun e => absurd e h1⟩, by simp⟩
      · rw [if_neg hs] at h
        exact absurd h hs
    · simp only [if_neg h2] at h ⊢
      by_cases h3 : x.kind = 3
      · simp only [if_pos h3] at h ⊢
        simp only [putS] at h ⊢
        by_cases hs : s.1 = 0
        · rw [if_pos hs]
          exact ⟨hs, ⟨hb, fun e => absurd e h1⟩, by simp⟩
        · rw [if_neg hs] at h
          exact absurd h hs
      · simp only [if_neg h3] at h ⊢
        exact ⟨h, ⟨hb, fun e => absurd e h1⟩, by rw [List.append_nil, ← h]⟩
theorem stS_ok : ∀ (l : List It) (s : WSt), (l.foldl stepS s).1 = 0 → (∀ x ∈ l, x.b.length ≤ 100) → s.1 = 0 ∧ (∀ x ∈ l, okI x) ∧ (l.foldl stepS s).2 = s.2 ++ (l.map encI).flatten := by
  intro l
  induction l with
  | nil => intro s h _; exact ⟨h, by simp, by simp⟩
  | cons x l ih =>
    intro s h hb
    rw [List.foldl_cons] at h ⊢
    obtain ⟨h1, h2, h3⟩ := ih _ h (fun y hy => hb y (by simp [hy]))
    obtain ⟨k1, k2, k3⟩ := stepS_ok h1 (hb x (by simp))
    refine ⟨k1, ?_, ?_⟩
    · intro y hy
      rcases List.mem_cons.1 hy with rfl | hy
      · exact k2
      · exact h2 y hy
    · rw [h3, k3]; simp
/-- n bytes are there -/
theorem take_good (b r : List UInt8) : takeR b.length (0, b ++ r) = (0, r) ∧ takeV b.length (0, b ++ r) = b := by
  unfold takeR takeV
  have : (0 : Int) ≤ b.length ∧ (b.length : Int) ≤ (b ++ r).length := by rw [List.length_append]; omega
  rw [if_pos this, if_pos this]
  simp
theorem take_short (n : Nat) (b : List UInt8) (h : b.length < n) : takeR n (0, b) = (10, b) ∧ takeV n (0, b) = [] := by
  unfold takeR takeV
  have : ¬ ((0 : Int) ≤ n ∧ (n : Int) ≤ b.length) := by omega
  rw [if_neg this, if_neg this]
  simp
theorem num_good {n z : Int} (h : mayPut n z = true) (r : List UInt8) (m : Int) (hm : n ≤ m) : numR z m (0, be z.toNat n.toNat ++ r) = (0, r) ∧ numV z m (0, be z.toNat n.toNat ++ r) = n := by
  obtain ⟨h1, h2, h3, h4, h5⟩ := (mayPut_iff n z).1 h
  have hs : sizeR z (0, be z.toNat n.toNat ++ r) = (0, be z.toNat n.toNat ++ r) := by unfold sizeR; rw [if_neg (by omega)]
  obtain ⟨t1, t2⟩ := take_good (be z.toNat n.toNat) r
  have hz : ((be z.toNat n.toNat).length : Int) = z := by rw [be_length]; omega
  rw [hz] at t1 t2
  have hn := num_be z.toNat n.toNat (mayPut_lt h)
  have e1 : getE (be z.toNat n.toNat) = 0 := getE_ok (by rw [be_length]; omega) (by rw [be_length]; omega) (by rw [hn]; omega)
  have e2 : getN (be z.toNat n.toNat) = n := by rw [getN_ok e1, hn]; omega
  have hb : numBad (be z.toNat n.toNat) m = false := by unfold numBad; rw [e1, e2]; exact decide_eq_false (by omega)
  unfold numR numV
  rw [hs, t1, t2, hb, e2]
  simp
theorem num_short (z m : Int) (b : List UInt8) (h1 : 1 ≤ z) (h2 : z ≤ 8) (h : (b.length : Int) < z) : (numR z m (0, b)).1 = 10 ∧ numV z m (0, b) = 0 := by
  have hs : sizeR z (0, b) = (0, b) := by unfold sizeR; rw [if_neg (by omega)]
  have ⟨t1, t2⟩ := take_short z.toNat b (by omega)
  rw [show ((z.toNat : Nat) : Int) = z by omega] at t1 t2
  unfold numR numV
  rw [hs, t1]
  simp
theorem take_bad (n : Int) (s : RSt) (h : s.1 ≠ 0) : takeR n s = s := by unfold takeR; split <;> simp [h]
theorem fail_bad (e : Int) (s : RSt) (h : s.1 ≠ 0) : failR e s = s := by simp [failR, h]
theorem num_bad (z m : Int) (s : RSt) (h : s.1 ≠ 0) : numR z m s = s ∧ numV z m s = 0 := by
  have hs : sizeR z s = s := by unfold sizeR; split; exact fail_bad 2 s h; rfl
  unfold numR numV
  rw [hs, take_bad z s h, if_neg h, if_neg h]; exact ⟨rfl, rfl⟩
theorem fix_bad (n : Int) (s : RSt) (h : s.1 ≠ 0) : fixR n s = s := by
  unfold fixR negR
  split
  · rw [fail_bad 2 s h, take_bad n s h]
  · exact take_bad n s h
theorem byt_bad (m : Int) (s : RSt) (h : s.1 ≠ 0) : bytR m s = s := by
  unfold bytR
  rw [(num_bad 2 _ s h).1, fix_bad _ s h]
theorem step_bad (p : RSt × Bool) (x : It) (h : p.1.1 ≠ 0) : (readStep p x).1 = p.1 := by
  unfold readStep
  split
  · exact (num_bad _ _ _ h).1
  · split
    · exact byt_bad _ _ h
    · split
      · exact fix_bad _ _ h
      · rfl
theorem fold_bad : ∀ (l : List It) (p : RSt × Bool), p.1.1 ≠ 0 → (l.foldl readStep p).1 = p.1 := by
  intro l
  induction l with
  | nil => intro p _; rfl
  | cons x l ih => intro p h; rw [List.foldl_cons, ih _ (by rw [step_bad p x h]; exact h), step_bad p x h]
theorem fix_good (b r : List UInt8) : fixR b.length (0, b ++ r) = (0, r) ∧ fixV b.length (0, b ++ r) = b := by
  have : negR b.length (0, b ++ r) = (0, b ++ r) := by unfold negR; rw [if_neg (by omega)]
  unfold fixR fixV
  rw [this]; exact take_good b r
theorem mayPut2 (n : Nat) (h : n ≤ 100) : mayPut n 2 = true := (mayPut_iff n 2).2 ⟨by decide, by decide, by omega, by omega, .inr (by show (n : Int) < 65536; omega)⟩
theorem byt_good (b r : List UInt8) (h : b.length ≤ 100) : bytR b.length (0, be 2 b.length ++ b ++ r) = (0, r) ∧ bytV b.length (0, be 2 b.length ++ b ++ r) = b := by
  have e : bytesMost b.length = b.length := by unfold bytesMost; rw [if_pos (by omega)]
  obtain ⟨h1, h2⟩ := num_good (mayPut2 b.length h) (b ++ r) b.length (Int.le_refl _)
  have e2 : be (2 : Int).toNat (b.length : Int).toNat = be 2 b.length := rfl
  rw [e2, ← List.append_assoc] at h1 h2
  unfold bytR bytV
  rw [e, h1, h2]
  exact fix_good b r
theorem step_good (x : It) (r : List UInt8) (g : Bool) (h : okI x) : readStep ((0, encI x ++ r), g) x = ((0, r), g) := by
  obtain ⟨hb, h1⟩ := h
  unfold readStep encI
  by_cases k1 : x.kind = 1
  · simp only [if_pos k1]
    obtain ⟨a, b⟩ := num_good (h1 k1) r x.n (Int.le_refl _)
    rw [a, b]; simp
  · simp only [if_neg k1]
    by_cases k2 : x.kind = 2
    · simp only [if_pos k2]
      obtain ⟨a, b⟩ := byt_good x.b r hb
      rw [a, b]; simp
    · simp only [if_neg k2]
      by_cases k3 : x.kind = 3
      · simp only [if_pos k3]
        obtain ⟨a, b⟩ := fix_good x.b r
        rw [a, b]; simp
      · simp only [if_neg k3]; simp
theorem fold_good : ∀ (l : List It) (r : List UInt8) (g : Bool), (∀ x ∈ l, okI x) → l.foldl readStep ((0, (l.map encI).flatten ++ r), g) = ((0, r), g) := by
  intro l
  induction l with
  | nil => intro r g _; simp
  | cons x l ih =>
    intro r g h
    rw [List.foldl_cons]
    rw [show ((x :: l).map encI).flatten ++ r = encI x ++ ((l.map encI).flatten ++ r) by simp, step_good x _ g (h x (by simp))]
    exact ih r g (fun y hy => h y (by simp [hy]))
theorem step_short (x : It) (p : List UInt8) (g : Bool) (h : okI x) (hp : p <+: encI x) (hl : p.length < (encI x).length) : (readStep ((0, p), g) x).1.1 = 10 := by
  obtain ⟨hb, h1⟩ := h
  unfold readStep encI at *
  by_cases k1 : x.kind = 1
  · simp only [if_pos k1] at hl ⊢
    obtain ⟨q1, q2, q3, q4, q5⟩ := (mayPut_iff _ _).1 (h1 k1)
    exact (num_short x.size x.n p q1 q2 (by rw [be_length] at hl; omega)).1
  · simp only [if_neg k1] at hl hp ⊢
    by_cases k2 : x.kind = 2
    · simp only [if_pos k2] at hl hp ⊢
      unfold bytR
      have e : bytesMost x.b.length = x.b.length := by unfold bytesMost; rw [if_pos (by omega)]
      rw [e]
      by_cases hs : p.length < 2
      · have h10 := (num_short 2 x.b.length p (by decide) (by decide) (by omega)).1
        rw [fix_bad _ _ (by rw [h10]; decide)]; exact h10
      · obtain ⟨t, ht⟩ := hp
        have hp2 : p = be 2 x.b.length ++ p.drop 2 := by
          have : p.take 2 = be 2 x.b.length := by
            have := congrArg (List.take 2) ht
            rw [List.take_append_of_le_length (by omega), List.take_left' (by rw [be_length])] at this
            exact this
          rw [← this, List.take_append_drop]
        obtain ⟨a, b⟩ := num_good (mayPut2 x.b.length hb) (p.drop 2) x.b.length (Int.le_refl _)
        have e2 : be (2 : Int).toNat (x.b.length : Int).toNat = be 2 x.b.length := rfl
        rw [e2, ← hp2] at a b
        rw [a, b]
        unfold fixR
        rw [show negR x.b.length (0, p.drop 2) = (0, p.drop 2) by unfold negR; rw [if_neg (by omega)]]
        rw [(take_short x.b.length (p.drop 2) (by rw [List.length_drop]; rw [List.length_append, be_length] at hl; omega)).1]
    · simp only [if_neg k2] at hl hp ⊢
      by_cases k3 : x.kind = 3
      · simp only [if_pos k3] at hl hp ⊢
        unfold fixR
        rw [show negR x.b.length (0, p) = (0, p) by unfold negR; rw [if_neg (by omega)]]
        rw [(take_short x.b.length p hl).1]
      · simp only [if_neg k3] at hl; simp at hl
theorem fold_short : ∀ (l : List It) (p : List UInt8) (g : Bool), (∀ x ∈ l, okI x) → p <+: (l.map encI).flatten → p.length < ((l.map encI).flatten).length → (l.foldl readStep ((0, p), g)).1.1 = 10 := by
  intro l
  induction l with
  | nil => intro p g _ _ hl; simp at hl
  | cons x l ih =>
    intro p g h hp hl
    rw [List.foldl_cons]
    rw [List.map_cons, List.flatten_cons] at hp hl
    by_cases hs : p.length < (encI x).length
    · have h10 := step_short x p g (h x (by simp)) (List.prefix_of_prefix_length_le hp (List.prefix_append _ _) (by omega)) hs
      rw [fold_bad l _ (by rw [h10]; decide)]; exact h10
    · obtain ⟨q, rfl⟩ : ∃ q, p = encI x ++ q := by
        obtain ⟨q, hq⟩ := List.prefix_of_prefix_length_le (List.prefix_append (encI x) _) hp (by omega)
        exact ⟨q, hq.symm⟩
      rw [step_good x q g (h x (by simp))]
      refine ih q g (fun y hy => h y (by simp [hy])) ((List.prefix_append_right_inj _).1 hp) ?_
      rw [List.length_append, List.length_append] at hl; omega
end Go.Proofs.Ytlgcfnbhnpnkiaa
