/- Lots, told over lists: the next number, a number below another, credentials, loads that may be. -/
import Derived.Test.YtcjleeclpmgbjaaLo
import Derived.Test.YtcjleeclpmgbjaaEsm
set_option linter.unusedVariables false
set_option linter.unusedSimpArgs false
namespace Go.Proofs.Ytcjleeclpmgbjaa
open Go.RowKit
theorem bnd_eqL {α β : Type} {o : Option α} {x : α} (h : o = some x) (f : α → Option β) : o.bind f = f x := by rw [h]; rfl
theorem app_sL {α : Type} {b : Nat} (hb : b ≤ 100) (l m : List α) (h : l.length + m.length ≤ 1000000) : app b l m = some (l ++ m) := by
  unfold app
  have := Nat.mul_le_mul h hb
  rw [if_pos ⟨by omega, by unfold maxLen; omega⟩]
theorem or_mulL (a b i : Nat) (h : b < 2 ^ i) : (a * 2 ^ i) ||| b = a * 2 ^ i + b := by
  rw [← Nat.shiftLeft_eq, Nat.shiftLeft_add_eq_or_of_lt h]
theorem put32L (x : UInt32) : word_Put32 300 x = some [UInt8.ofNat (u32_shr x 24).toNat, UInt8.ofNat (u32_shr x 16).toNat, UInt8.ofNat (u32_shr x 8).toNat, UInt8.ofNat (u32_shr x 0).toNat] := by
  rfl
theorem u64shrN (x : UInt64) (n : Nat) (h : n ≤ 64) : (u64_shr x n).toNat = x.toNat / 2 ^ n := by
  unfold u64_shr
  rw [Nat.min_eq_left h, UInt64.toNat_ofNat', Nat.mod_eq_of_lt]
  exact Nat.lt_of_le_of_lt (Nat.div_le_self _ _) x.toNat_lt
theorem u32shrN (x : UInt32) (n : Nat) (h : n ≤ 32) : (u32_shr x n).toNat = x.toNat / 2 ^ n := by
  unfold u32_shr
  rw [Nat.min_eq_left h, UInt32.toNat_ofNat', Nat.mod_eq_of_lt]
  exact Nat.lt_of_le_of_lt (Nat.div_le_self _ _) x.toNat_lt
theorem p64L (x : UInt64) : word_Put64 300 x = some (be 8 x.toNat) := by
  unfold word_Put64
  refine (bnd_eqL (put32L _) _).trans ?_
  refine (bnd_eqL (put32L _) _).trans ?_
  refine (bnd_eqL (x := be 8 x.toNat) ?_ _).trans rfl
  unfold appF
  rw [if_neg (by simp), app_sL (by omega) _ _ (by simp)]
  simp only [be, List.cons_append, List.nil_append, Option.some.injEq, List.cons.injEq, and_true]
  have hx := x.toNat_lt
  have h1 : (UInt32.ofNat (u64_shr x 32).toNat).toNat = x.toNat / 2 ^ 32 := by
    rw [UInt32.toNat_ofNat', u64shrN x 32 (by omega)]; omega
  have h2 : (UInt32.ofNat x.toNat).toNat = x.toNat % 2 ^ 32 := by rw [UInt32.toNat_ofNat']
  refine ⟨?_, ?_, ?_, ?_, ?_, ?_, ?_, ?_⟩ <;> apply UInt8.toNat_inj.1 <;> rw [UInt8.toNat_ofNat', UInt8.toNat_ofNat', u32shrN _ _ (by omega)] <;> (first | rw [h1] | rw [h2]) <;> omega
theorem r64_all (x : UInt64) : chatelaineref01_Put64 300 x = some [UInt8.ofNat (x / 72057594037927936 % 256).toNat, UInt8.ofNat (x / 281474976710656 % 256).toNat, UInt8.ofNat (x / 1099511627776 % 256).toNat, UInt8.ofNat (x / 4294967296 % 256).toNat, UInt8.ofNat (x / 16777216 % 256).toNat, UInt8.ofNat (x / 65536 % 256).toNat, UInt8.ofNat (x / 256 % 256).toNat, UInt8.ofNat (x / 1 % 256).toNat] := by
  rfl
theorem r64L (x : UInt64) : chatelaineref01_Put64 300 x = some (be 8 x.toNat) := by
  rw [r64_all]
  simp only [be, Option.some.injEq, List.cons.injEq, and_true]
  refine ⟨?_, ?_, ?_, ?_, ?_, ?_, ?_, ?_⟩ <;> apply UInt8.toNat_inj.1 <;> simp only [UInt8.toNat_ofNat', UInt64.toNat_mod, UInt64.toNat_div] <;> simp <;> omega
/-- the k-th number of a seed -/
def nx (seed : List UInt8) (k : Nat) : Nat := num ((shaS (seed ++ be 8 k)).take 8) / 4
theorem num8 (b0 b1 b2 b3 b4 b5 b6 b7 : UInt8) : num [b0, b1, b2, b3, b4, b5, b6, b7] = 256 * (256 * (256 * (256 * (256 * (256 * (256 * b0.toNat + b1.toNat) + b2.toNat) + b3.toNat) + b4.toNat) + b5.toNat) + b6.toNat) + b7.toNat := by
  unfold num; simp
theorem get32L (a b c d : UInt8) : ∃ x : UInt32, word_Get32 300 [a, b, c, d] = some (x, true) ∧ x.toNat = 256 * (256 * (256 * a.toNat + b.toNat) + c.toNat) + d.toNat := by
  refine ⟨_, rfl, ?_⟩
  have ha := a.toNat_lt; have hb := b.toNat_lt; have hc := c.toNat_lt; have hd := d.toNat_lt
  have sh : ∀ (x : UInt8) (n : Nat), n ≤ 24 → (u32_shl (UInt32.ofNat x.toNat) n).toNat = x.toNat * 2 ^ n := by
    intro x n hn
    have hx := x.toNat_lt
    unfold u32_shl
    rw [Nat.min_eq_left (by omega), UInt32.toNat_ofNat', UInt32.toNat_ofNat', Nat.mod_eq_of_lt (a := x.toNat) (by omega), Nat.mod_eq_of_lt]
    have : x.toNat * 2 ^ n ≤ 255 * 2 ^ 24 := Nat.mul_le_mul (by omega) (Nat.pow_le_pow_right (by omega) hn)
    omega
  rw [UInt32.toNat_or, UInt32.toNat_or, UInt32.toNat_or, sh _ _ (by omega), sh _ _ (by omega), sh _ _ (by omega), UInt32.toNat_ofNat', Nat.mod_eq_of_lt (by omega)]
  rw [or_mulL _ _ 24 (by omega), show a.toNat * 2 ^ 24 + b.toNat * 2 ^ 16 = (a.toNat * 256 + b.toNat) * 2 ^ 16 by omega, or_mulL _ _ 16 (by omega), show (a.toNat * 256 + b.toNat) * 2 ^ 16 + c.toNat * 2 ^ 8 = ((a.toNat * 256 + b.toNat) * 256 + c.toNat) * 2 ^ 8 by omega, or_mulL _ _ 8 (by omega)]
  omega
theorem get64L (b0 b1 b2 b3 b4 b5 b6 b7 : UInt8) : ∃ x : UInt64, word_Get64 300 [b0, b1, b2, b3, b4, b5, b6, b7] = some (x, true) ∧ x.toNat = num [b0, b1, b2, b3, b4, b5, b6, b7] := by
  obtain ⟨x, hx, ex⟩ := get32L b0 b1 b2 b3
  obtain ⟨y, hy, ey⟩ := get32L b4 b5 b6 b7
  have h0 := b0.toNat_lt; have h1 := b1.toNat_lt; have h2 := b2.toNat_lt; have h3 := b3.toNat_lt; have h4 := b4.toNat_lt; have h5 := b5.toNat_lt; have h6 := b6.toNat_lt; have h7 := b7.toNat_lt
  refine ⟨u64_shl (UInt64.ofNat x.toNat) 32 ||| UInt64.ofNat y.toNat, ?_, ?_⟩
  · unfold word_Get64
    rw [if_neg (by simp)]
    refine (bnd_eqL (show sub [b0, b1, b2, b3, b4, b5, b6, b7] 0 4 = some [b0, b1, b2, b3] from rfl) _).trans ?_
    refine (bnd_eqL hx _).trans ?_
    refine (bnd_eqL (show sub [b0, b1, b2, b3, b4, b5, b6, b7] 4 (([b0, b1, b2, b3, b4, b5, b6, b7] : List UInt8).length : Int) = some [b4, b5, b6, b7] from rfl) _).trans ?_
    exact (bnd_eqL hy _).trans rfl
  · have e1 : (u64_shl (UInt64.ofNat x.toNat) 32).toNat = x.toNat * 2 ^ 32 := by
      unfold u64_shl
      rw [Nat.min_eq_left (by omega), UInt64.toNat_ofNat', UInt64.toNat_ofNat']; omega
    rw [UInt64.toNat_or, e1, UInt64.toNat_ofNat', Nat.mod_eq_of_lt (by omega), or_mulL _ _ 32 (by omega), num8]
    omega
theorem sha8 (m : List UInt8) : ∃ b0 b1 b2 b3 b4 b5 b6 b7 t, shaS m = b0 :: b1 :: b2 :: b3 :: b4 :: b5 :: b6 :: b7 :: t ∧ t.length = 24 := by
  have h := shaS_length m
  generalize shaS m = l at h
  rcases l with _ | ⟨b0, _ | ⟨b1, _ | ⟨b2, _ | ⟨b3, _ | ⟨b4, _ | ⟨b5, _ | ⟨b6, _ | ⟨b7, t⟩⟩⟩⟩⟩⟩⟩⟩ <;> simp at h
  exact ⟨b0, b1, b2, b3, b4, b5, b6, b7, t, rfl, by omega⟩
theorem nx_lt (seed : List UInt8) (k : Nat) : nx seed k < 4611686018427387904 := by
  unfold nx
  obtain ⟨b0, b1, b2, b3, b4, b5, b6, b7, t, e, _⟩ := sha8 (seed ++ be 8 k)
  rw [e, show (b0 :: b1 :: b2 :: b3 :: b4 :: b5 :: b6 :: b7 :: t).take 8 = [b0, b1, b2, b3, b4, b5, b6, b7] from rfl, num8]
  have h0 := b0.toNat_lt; have h1 := b1.toNat_lt; have h2 := b2.toNat_lt; have h3 := b3.toNat_lt; have h4 := b4.toNat_lt; have h5 := b5.toNat_lt; have h6 := b6.toNat_lt; have h7 := b7.toNat_lt
  omega
theorem pNext (seed : List UInt8) (hs : seed.length ≤ 100) (k : Nat) (hk : k < 1000000) : lot_Lot_Next 300 (seed, UInt64.ofNat k, true) = some ((nx seed k : Int), (seed, UInt64.ofNat (k + 1), true)) := by
  have hkk : (UInt64.ofNat k).toNat = k := by rw [UInt64.toNat_ofNat']; omega
  unfold lot_Lot_Next
  rw [if_neg (by simp)]
  refine (bnd_eqL (p64L _) _).trans ?_
  rw [hkk]
  refine (bnd_eqL (show sha_Sum 300 [seed, be 8 k] = some (shaS (seed ++ be 8 k)) from ?_) _).trans ?_
  · unfold sha_Sum
    rw [show ([seed, be 8 k] : List (List UInt8)).flatten = seed ++ be 8 k by simp, if_pos (by rw [List.length_append, be_length]; omega)]
  refine (bnd_eqL (show bnd 32 0 8 = some (0, 8) from rfl) _).trans ?_
  obtain ⟨b0, b1, b2, b3, b4, b5, b6, b7, t, e, _⟩ := sha8 (seed ++ be 8 k)
  obtain ⟨x, hx, ex⟩ := get64L b0 b1 b2 b3 b4 b5 b6 b7
  rw [e]
  refine (bnd_eqL (show word_Get64 300 (((b0 :: b1 :: b2 :: b3 :: b4 :: b5 :: b6 :: b7 :: t).take 8).drop 0) = some (x, true) from hx) _).trans ?_
  have hn := nx_lt seed k
  have e2 : ((u64_shr x 2).toNat : Int) = (nx seed k : Int) := by
    rw [u64shrN x 2 (by omega), ex]
    unfold nx
    rw [e]
    rfl
  rw [e2, w64_of (by omega)]
  have e3 : UInt64.ofNat k + 1 = UInt64.ofNat (k + 1) := by
    apply UInt64.toNat_inj.1
    rw [UInt64.toNat_add, UInt64.toNat_ofNat', UInt64.toNat_ofNat']
    simp
  rw [e3]
theorem rLoop (a : List UInt8 × Int) (b0 b1 b2 b3 b4 b5 b6 b7 : UInt8) (t : List UInt8) : chatelaineref43_Lot_Next_l0 300 a (b0 :: b1 :: b2 :: b3 :: b4 :: b5 :: b6 :: b7 :: t) 300 0 0 = some (.inl (w64 (w64 (64 * w64 (w64 (256 * w64 (w64 (256 * w64 (w64 (256 * w64 (w64 (256 * w64 (w64 (256 * w64 (w64 (256 * w64 (w64 (256 * 0) + (b0.toNat : Int))) + (b1.toNat : Int))) + (b2.toNat : Int))) + (b3.toNat : Int))) + (b4.toNat : Int))) + (b5.toNat : Int))) + (b6.toNat : Int))) + w64 (Int.tdiv (b7.toNat : Int) 4)), (a.1, w64 (a.2 + 1)))) := by
  rfl
theorem rNext (seed : List UInt8) (hs : seed.length ≤ 100) (k : Nat) (hk : k < 1000000) : chatelaineref43_Lot_Next 300 (seed, (k : Int)) = some ((nx seed k : Int), (seed, ((k + 1 : Nat) : Int))) := by
  have hkk : (u64I (k : Int)).toNat = k := by unfold u64I; rw [UInt64.toNat_ofNat']; omega
  unfold chatelaineref43_Lot_Next
  refine (bnd_eqL (app_sL (by omega) [] seed (by simp; omega)) _).trans ?_
  refine (bnd_eqL (r64L _) _).trans ?_
  rw [hkk]
  refine (bnd_eqL (app_sL (by omega) _ _ (by simp [be_length]; omega)) _).trans ?_
  rw [List.nil_append]
  refine (bnd_eqL (show chatelaineref05_Sum 300 (seed ++ be 8 k) = some (shaS (seed ++ be 8 k)) from ?_) _).trans ?_
  · unfold chatelaineref05_Sum
    rw [if_pos (by rw [List.length_append, be_length]; omega)]
  obtain ⟨b0, b1, b2, b3, b4, b5, b6, b7, t, e, _⟩ := sha8 (seed ++ be 8 k)
  rw [e]
  refine (bnd_eqL (rLoop _ b0 b1 b2 b3 b4 b5 b6 b7 t) _).trans ?_
  have h0 := b0.toNat_lt; have h1 := b1.toNat_lt; have h2 := b2.toNat_lt; have h3 := b3.toNat_lt; have h4 := b4.toNat_lt; have h5 := b5.toNat_lt; have h6 := b6.toNat_lt; have h7 := b7.toNat_lt
  have e2 : nx seed k = (256 * (256 * (256 * (256 * (256 * (256 * (256 * b0.toNat + b1.toNat) + b2.toNat) + b3.toNat) + b4.toNat) + b5.toNat) + b6.toNat) + b7.toNat) / 4 := by
    unfold nx
    rw [e, show (b0 :: b1 :: b2 :: b3 :: b4 :: b5 :: b6 :: b7 :: t).take 8 = [b0, b1, b2, b3, b4, b5, b6, b7] from rfl, num8]
  have e3 : Int.tdiv (b7.toNat : Int) 4 = ((b7.toNat / 4 : Nat) : Int) := by rw [Int.tdiv_eq_ediv_of_nonneg (by omega)]; rfl
  have st : ∀ (x y : Nat), x < 36028797018963968 → y < 256 → w64 (w64 (256 * (x : Int)) + (y : Int)) = ((256 * x + y : Nat) : Int) := by
    intro x y hx hy
    rw [w64_of (x := 256 * (x : Int)) (by omega), w64_of (by omega)]; omega
  have s0 : w64 (w64 (256 * 0) + (b0.toNat : Int)) = (b0.toNat : Int) := by rw [w64_of (x := 256 * 0) (by omega), w64_of (by omega)]; omega
  rw [s0, st _ _ (by omega) (by omega), st _ _ (by omega) (by omega), st _ _ (by omega) (by omega), st _ _ (by omega) (by omega), st _ _ (by omega) (by omega), st _ _ (by omega) (by omega), e3]
  generalize hX : 256 * (256 * (256 * (256 * (256 * (256 * b0.toNat + b1.toNat) + b2.toNat) + b3.toNat) + b4.toNat) + b5.toNat) + b6.toNat = X at e2 ⊢
  rw [w64_of (x := 64 * (X : Int)) (by omega), w64_of (x := ((b7.toNat / 4 : Nat) : Int)) (by omega), w64_of (x := 64 * (X : Int) + ((b7.toNat / 4 : Nat) : Int)) (by omega), w64_of (x := (k : Int) + 1) (by omega), e2]
  have e5 : 64 * (X : Int) + ((b7.toNat / 4 : Nat) : Int) = (((256 * X + b7.toNat) / 4 : Nat) : Int) := by omega
  rw [e5]
  rfl
theorem pBelow (seed : List UInt8) (hs : seed.length ≤ 100) (k : Nat) (hk : k < 1000000) (n : Int) (hn : 1 ≤ n) : lot_Lot_Below 300 (seed, UInt64.ofNat k, true) n = some (Int.tmod (nx seed k : Int) n, (seed, UInt64.ofNat (k + 1), true)) := by
  unfold lot_Lot_Below
  rw [if_neg (by omega)]
  refine (bnd_eqL (pNext seed hs k hk) _).trans ?_
  refine (bnd_eqL (show remI (nx seed k : Int) n = some (Int.tmod (nx seed k : Int) n) from ?_) _).trans rfl
  unfold remI; rw [if_neg (by omega)]
theorem rBelow (seed : List UInt8) (hs : seed.length ≤ 100) (k : Nat) (hk : k < 1000000) (n : Int) (hn : 1 ≤ n) : chatelaineref43_Lot_Below 300 (seed, (k : Int)) n = some (Int.tmod (nx seed k : Int) n, (seed, ((k + 1 : Nat) : Int))) := by
  unfold chatelaineref43_Lot_Below
  refine (bnd_eqL (rNext seed hs k hk) _).trans ?_
  refine (bnd_eqL (show remI (nx seed k : Int) n = some (Int.tmod (nx seed k : Int) n) from ?_) _).trans rfl
  unfold remI; rw [if_neg (by omega)]
/-- a tenant's credential -/
def credL (t : Nat) : List UInt8 := [116, 101, 110, 97, 110, 116, UInt8.ofNat (48 + t / 10), UInt8.ofNat (48 + t % 10)]
theorem cred_all : ∀ t : Fin 16, lot_Cred 300 ((t.val + 1 : Nat) : Int) = some (credL (t.val + 1)) ∧ chatelaineref43_Cred 300 ((t.val + 1 : Nat) : Int) = some (credL (t.val + 1)) := by decide +kernel
theorem pCred (t : Int) (h1 : 1 ≤ t) (h2 : t ≤ 16) : lot_Cred 300 t = some (credL t.toNat) ∧ chatelaineref43_Cred 300 t = some (credL t.toNat) := by
  have := cred_all ⟨t.toNat - 1, by omega⟩
  rw [show (⟨t.toNat - 1, by omega⟩ : Fin 16).val + 1 = t.toNat by simp; omega, Int.toNat_of_nonneg (by omega)] at this
  exact this
theorem pCred0 (t : Int) (h : ¬ (1 ≤ t ∧ t ≤ 16)) : lot_Cred 300 t = some [] := by
  unfold lot_Cred lot_within
  simp only [Option.bind_some]
  rw [if_pos]
  simp only [Bool.not_eq_true', Bool.and_eq_false_iff, decide_eq_false_iff_not]
  omega
abbrev Ld := Int × Int × Int × Int × Int × Int
def inB (n l h : Int) : Bool := decide (l ≤ n) && decide (n ≤ h)
/-- may there be such a load? -/
def mayL (x : Ld) : Bool := inB x.1 0 4096 && inB x.2.1 1 16 && inB x.2.2.1 1 4096 && inB x.2.2.2.1 0 100 && inB x.2.2.2.2.1 0 100 && inB x.2.2.2.2.2 0 100 && decide (x.2.2.2.1 + x.2.2.2.2.1 + x.2.2.2.2.2 ≤ 100)
theorem chk_l0 (x : Ld) : lot_Check_l0 300 x 300 0 0 = if (!inB x.2.2.2.1 0 100) = true then some (.inl 2) else if (!inB x.2.2.2.2.1 0 100) = true then some (.inl 2) else if (!inB x.2.2.2.2.2 0 100) = true then some (.inl 2) else some (.inr (w64 (w64 (w64 (0 + x.2.2.2.1) + x.2.2.2.2.1) + x.2.2.2.2.2))) := by
  rfl
theorem inB_iff {n l h : Int} : inB n l h = true ↔ l ≤ n ∧ n ≤ h := by unfold inB; simp
theorem pCheck (x : Ld) : lot_Check 300 x = some (if mayL x then 0 else 2) := by
  unfold lot_Check
  rw [chk_l0]
  by_cases h1 : inB x.2.2.2.1 0 100 = true
  · by_cases h2 : inB x.2.2.2.2.1 0 100 = true
    · by_cases h3 : inB x.2.2.2.2.2 0 100 = true
      · have k1 := inB_iff.1 h1; have k2 := inB_iff.1 h2; have k3 := inB_iff.1 h3
        rw [if_neg (by simp [h1]), if_neg (by simp [h2]), if_neg (by simp [h3]), w64_of (x := 0 + x.2.2.2.1) (by omega), w64_of (x := 0 + x.2.2.2.1 + x.2.2.2.2.1) (by omega), w64_of (by omega)]
        simp only [Option.bind_some, lot_within]
        unfold mayL
        rw [h1, h2, h3]
        simp only [Bool.and_true]
        by_cases h4 : 100 < 0 + x.2.2.2.1 + x.2.2.2.2.1 + x.2.2.2.2.2
        · rw [if_pos h4]
          have : decide (x.2.2.2.1 + x.2.2.2.2.1 + x.2.2.2.2.2 ≤ 100) = false := decide_eq_false (by omega)
          simp [this]
        · have : decide (x.2.2.2.1 + x.2.2.2.2.1 + x.2.2.2.2.2 ≤ 100) = true := decide_eq_true (by omega)
          rw [if_neg h4, this]
          unfold inB
          cases (decide (0 ≤ x.1) && decide (x.1 ≤ 4096)) <;> cases (decide (1 ≤ x.2.1) && decide (x.2.1 ≤ 16)) <;> cases (decide (1 ≤ x.2.2.1) && decide (x.2.2.1 ≤ 4096)) <;> rfl
      · rw [if_neg (by simp [h1]), if_neg (by simp [h2]), if_pos (by simp [h3])]
        unfold mayL; simp [h3]
    · rw [if_neg (by simp [h1]), if_pos (by simp [h2])]
      unfold mayL; simp [h2]
  · rw [if_pos (by simp [h1])]
    unfold mayL; simp [h1]
theorem rMay (x : Ld) : chatelaineref43_May 300 x = some (mayL x) := by
  unfold chatelaineref43_May chatelaineref43_from
  simp only [Option.bind_some]
  have e : (decide (w64 (w64 (x.2.2.2.1 + x.2.2.2.2.1) + x.2.2.2.2.2) ≤ 100) && (inB x.2.2.2.1 0 100 && inB x.2.2.2.2.1 0 100 && inB x.2.2.2.2.2 0 100)) = (decide (x.2.2.2.1 + x.2.2.2.2.1 + x.2.2.2.2.2 ≤ 100) && (inB x.2.2.2.1 0 100 && inB x.2.2.2.2.1 0 100 && inB x.2.2.2.2.2 0 100)) := by
    by_cases h : (inB x.2.2.2.1 0 100 && inB x.2.2.2.2.1 0 100 && inB x.2.2.2.2.2 0 100) = true
    · simp only [Bool.and_eq_true, inB_iff] at h
      rw [w64_of (x := x.2.2.2.1 + x.2.2.2.2.1) (by omega), w64_of (by omega)]
    · rw [Bool.eq_false_iff.2 h]; simp
  unfold mayL
  unfold inB at e ⊢
  revert e
  generalize decide (w64 (w64 (x.2.2.2.1 + x.2.2.2.2.1) + x.2.2.2.2.2) ≤ 100) = p
  generalize decide (x.2.2.2.1 + x.2.2.2.2.1 + x.2.2.2.2.2 ≤ 100) = q
  cases (decide (0 ≤ x.1) && decide (x.1 ≤ 4096)) <;> cases (decide (1 ≤ x.2.1) && decide (x.2.1 ≤ 16)) <;> cases (decide (1 ≤ x.2.2.1) && decide (x.2.2.1 ≤ 4096)) <;> cases (decide (0 ≤ x.2.2.2.1) && decide (x.2.2.2.1 ≤ 100)) <;> cases (decide (0 ≤ x.2.2.2.2.1) && decide (x.2.2.2.2.1 ≤ 100)) <;> cases (decide (0 ≤ x.2.2.2.2.2) && decide (x.2.2.2.2.2 ≤ 100)) <;> cases p <;> cases q <;> simp
theorem pNew (seed : List UInt8) (hs : seed.length ≤ 100) : lot_New 300 seed = some (seed, UInt64.ofNat 0, true) := by
  unfold lot_New
  refine (bnd_eqL (app_sL (by omega) [] seed (by simp; omega)) _).trans ?_
  rfl
theorem awakeL : chatelainelaw43_awake 300 = some true := by
  unfold chatelainelaw43_awake
  refine (bnd_eqL (pNew [5] (by simp)) _).trans ?_
  refine (bnd_eqL (pCred 3 (by omega) (by omega)).1 _).trans ?_
  refine (bnd_eqL (x := (true, (([5] : List UInt8), UInt64.ofNat 1, true), (([5] : List UInt8), ((1 : Nat) : Int)))) ?_ _).trans ?_
  · rw [if_pos (by decide)]
    refine (bnd_eqL (pBelow [5] (by simp) 0 (by omega) 1000 (by omega)) _).trans ?_
    refine (bnd_eqL (rBelow [5] (by simp) 0 (by omega) 1000 (by omega)) _).trans ?_
    simp
  · dsimp only
    rw [if_pos rfl]
    refine (bnd_eqL (x := true) ?_ _).trans rfl
    refine (bnd_eqL (pNext [5] (by simp) 1 (by omega)) _).trans ?_
    refine (bnd_eqL (rNext [5] (by simp) 1 (by omega)) _).trans ?_
    simp
end Go.Proofs.Ytcjleeclpmgbjaa
