/- The statements of layer 1, walked. -/
import Derived.Test.YtdahdlidpplllaaWord2
set_option linter.unusedVariables false
set_option linter.unusedSimpArgs false
namespace Go.Proofs.Ytdahdlidpplllaa
open Go.RowKit
theorem drewN_below (w : World) (n : Nat) : Below w.heap.size w (w.drewN n) := ⟨rfl, rfl, rfl, Nat.le_refl _, fun _ _ => rfl⟩
theorem by8_012 : by8 [0, 1, 2] = [Value.int .u8 0, Value.int .u8 1, Value.int .u8 2] := rfl
set_option maxRecDepth 100000 in
theorem awake01_ok (w : World) : Calls Try.prog 15 #[] w fun e w' => e = .returned (.bool true) ∧ Below w.heap.size w w' := by
  have p0 : putE 258 3 = 0 := by decide
  have p1 : putL 258 3 = [0, 1, 2] := by decide
  have P := put_ok 258 3 w (by omega)
  rw [p0, p1] at P
  have P' := hid P
  clear P p0 p1
  go_enter Try.func15, Try.ntmps15
  go_wp2_with fail
  refine P'.out.mono ?_
  rintro e w1 ⟨v, rfl, hb, hown⟩
  obtain ⟨A, c, rfl, hc, hm, hr⟩ := rd_of_own hown
  have HB := hid hb
  have HR := hid hr
  clear hb hr hown
  go_wp2_with fail
  refine (same_ok A (some ⟨w1.heap.size, 0, none⟩) [0, 1, 2] [0, 1, 2] c 3 _ (HR.out.below (below_alloc (Below.refl _ _) _)) (rd_alloc _ (by8 [0, 1, 2]) _) (by simp)).mono ?_
  rintro e w2 ⟨rfl, j, rfl⟩
  go_wp2_with fail
  go_ret
  exact ⟨rfl, below_drewN (below_alloc HB.out _) _⟩
set_option maxRecDepth 100000 in
theorem wordNumbers_ok (n s : Int) (A : Option Addr) (l : List UInt8) (c : Nat) (w : World) (hn : -9223372036854775808 ≤ n ∧ n ≤ 9223372036854775807) (_hs : -9223372036854775808 ≤ s ∧ s ≤ 9223372036854775807) (ha : Rd w A (by8 l)) (_hc : l.length ≤ c) (_hm : c ≤ maxLen) :
    Calls Try.prog 4 #[.int .i64 n, .int .i64 s, .slice A l.length c] w fun e w' => e = .returned (.bool true) ∧ Below w.heap.size w w' := by
  have HA := hid ha
  clear ha
  by_cases h1 : 100 < l.length
  · have g : decide (100 < (l.length : Int)) = true := decide_eq_true (by omega)
    go_enter Try.func4, Try.ntmps4
    go_wp2_with fail
    refine (awake01_ok _).mono ?_
    rintro e w1 ⟨rfl, hb⟩
    have HB := hid hb
    clear hb
    go_wp2_with fail
    go_ret
    exact ⟨rfl, HB.out⟩
  have g : decide (100 < (l.length : Int)) = false := decide_eq_false (by omega)
  go_enter Try.func4, Try.ntmps4
  go_wp2_with fail
  refine (awake01_ok _).mono ?_
  rintro e w1 ⟨rfl, hb1⟩
  have HB1 := hid hb1
  clear hb1
  go_wp2_with fail
  refine (put_ok n s _ hn).mono ?_
  rintro e w2 ⟨v, rfl, hb2, hown⟩
  obtain ⟨A1, c1, rfl, hc1, hm1, hr1⟩ := rd_of_own hown
  have HB2 := hid (below_step HB1.out hb2)
  have HR1 := hid hr1
  clear hb2 hr1 hown HB1
  go_wp2_with fail
  refine (rput_ok n s _).mono ?_
  rintro e w3 ⟨v, rfl, hb2, hown⟩
  obtain ⟨A2, c2, rfl, hc2, hm2, hr2⟩ := rd_of_own hown
  have HB3 := hid (below_step HB2.out hb2)
  have HR1' := hid (HR1.out.below hb2)
  have HR2 := hid hr2
  clear hb2 hr2 hown HB2 HR1
  go_wp2_with fail
  refine (get_ok A l c _ (HA.out.below HB3.out) (by omega)).mono ?_
  rintro e w4 ⟨rfl, rfl⟩
  go_wp2_with fail
  refine (rget_ok A l c _ (HA.out.below HB3.out) (by omega)).mono ?_
  rintro e w5 ⟨rfl, rfl⟩
  go_wp2_with fail
  refine (same_ok A1 A2 (putL n s) (putL n s) c1 c2 _ HR1'.out HR2.out (by unfold maxLen at hm1; omega)).mono ?_
  rintro e w6 ⟨rfl, j, rfl⟩
  go_wp2_with fail
  go_ret
  exact ⟨by simp, below_drewN HB3.out _⟩

theorem back_put {n s : Int} (h : mayPut n s = true) : getE (be s.toNat n.toNat) = 0 ∧ getN (be s.toNat n.toNat) = n := by
  obtain ⟨h1, h2, h3, h4, _⟩ := (mayPut_iff n s).1 h
  have hn := num_be s.toNat n.toNat (mayPut_lt h)
  have e : getE (be s.toNat n.toNat) = 0 := getE_ok (by rw [be_length]; omega) (by rw [be_length]; omega) (by rw [hn]; omega)
  exact ⟨e, by rw [getN_ok e, hn]; omega⟩
theorem get_zero {l : List UInt8} (h : getE l = 0) : 0 < l.length ∧ l.length ≤ 8 ∧ num l ≤ 4611686018427387904 := by
  unfold getE at h
  split at h
  · omega
  split at h
  · omega
  split at h
  · omega
  omega
theorem back_get {l : List UInt8} (h : getE l = 0) : putE (getN l) l.length = 0 ∧ putL (getN l) l.length = l := by
  obtain ⟨h1, h2, h3⟩ := get_zero h
  have hlt := num_lt l
  have hp : mayPut (getN l) l.length = true := by
    rw [getN_ok h, mayPut_iff]
    refine ⟨by omega, by omega, by omega, by omega, .inr ?_⟩
    rw [Int.toNat_natCast]
    have e : ((256 ^ l.length : Nat) : Int) = (256 : Int) ^ l.length := Int.natCast_pow 256 l.length
    omega
  refine ⟨putE_good hp, ?_⟩
  rw [putL_good hp, getN_ok h]
  simp only [Int.toNat_natCast]
  exact be_num l
theorem getN_range (l : List UInt8) : 0 ≤ getN l ∧ getN l ≤ 4611686018427387904 := by
  unfold getN
  split
  · rename_i h; have := get_zero h; omega
  · omega
set_option maxRecDepth 100000 in
theorem wordBack_ok (n s : Int) (A : Option Addr) (l : List UInt8) (c : Nat) (w : World) (hn : -9223372036854775808 ≤ n ∧ n ≤ 9223372036854775807) (_hs : -9223372036854775808 ≤ s ∧ s ≤ 9223372036854775807) (ha : Rd w A (by8 l)) (_hc : l.length ≤ c) (_hm : c ≤ maxLen) :
    Calls Try.prog 5 #[.int .i64 n, .int .i64 s, .slice A l.length c] w fun e w' => e = .returned (.bool true) ∧ Below w.heap.size w w' := by
  have HA := hid ha
  clear ha
  by_cases h1 : 100 < l.length
  · have g : decide (100 < (l.length : Int)) = true := decide_eq_true (by omega)
    go_enter Try.func5, Try.ntmps5
    go_wp2_with fail
    refine (awake01_ok _).mono ?_
    rintro e w1 ⟨rfl, hb⟩
    have HB := hid hb
    clear hb
    go_wp2_with fail
    go_ret
    exact ⟨rfl, HB.out⟩
  have g : decide (100 < (l.length : Int)) = false := decide_eq_false (by omega)
  -- what comes behind the first part
  have hG := getN_range l
  have P1 : ∀ w, Calls Try.prog 20 #[.int .i64 n, .int .i64 s] w fun e w' => (mayPut n s = true ∧ ∃ v, e = .returned (.tuple #[v, .int .i64 0]) ∧ New w w' 5 v s.toNat (by8 (be s.toNat n.toNat))) ∨ (mayPut n s = false ∧ e = .returned (.tuple #[.slice none 0 0, .int .i64 2]) ∧ w' = w) := by
    intro w
    cases h : mayPut n s
    · exact (put_bad n s w h hn).mono fun e w' h' => .inr ⟨rfl, h'⟩
    · exact (put_good n s w h).mono fun e w' h' => .inl ⟨rfl, h'⟩
  have G1 : ∀ w', Below w.heap.size w w' → Calls Try.prog 22 #[.slice A l.length c] w' fun e w'' => (getE l = 0 ∧ e = .returned (.tuple #[.int .i64 (getN l), .int .i64 0]) ∨ ∃ E : Int, (E != 0) = true ∧ e = .returned (.tuple #[.int .i64 0, .int .i64 E])) ∧ w'' = w' := by
    intro w' hb
    refine (get_ok A l c w' (HA.out.below hb) (by omega)).mono fun e w'' h => ?_
    obtain ⟨rfl, rfl⟩ := h
    refine ⟨?_, rfl⟩
    by_cases hE : getE l = 0
    · rw [hE]; exact .inl ⟨rfl, rfl⟩
    · rw [getN_zero hE]; exact .inr ⟨_, bne_iff_ne.mpr hE, rfl⟩
  have GG := hid G1
  clear G1
  have PP := hid P1
  clear P1
  go_enter Try.func5, Try.ntmps5
  go_wp2_with fail
  refine (awake01_ok _).mono ?_
  rintro e w1 ⟨rfl, hb1⟩
  have HB1 := hid hb1
  clear hb1
  go_wp2_with fail
  refine (PP.out _).mono ?_
  rintro e w2 (⟨hp, v, rfl, hb2, hown⟩ | ⟨hp, rfl, rfl⟩)
  · obtain ⟨A1, c1, rfl, hc1, hm1, hr1⟩ := rd_of_own hown
    have HB2 := hid (below_step HB1.out hb2)
    obtain ⟨q1, q2⟩ := back_put hp
    have hs1 := ((mayPut_iff n s).1 hp).1
    have GQ := get_ok A1 (be s.toNat n.toNat) c1 w2 hr1 (by rw [be_length]; have := ((mayPut_iff n s).1 hp).2.1; omega)
    rw [q1, q2, be_length] at GQ
    have GG' := hid GQ
    clear GQ q1 q2 hb2 hr1 hown HB1 hp
    go_wp2_with fail
    refine GG'.out.mono ?_
    rintro e w3 ⟨rfl, rfl⟩
    go_wp2_with fail
    refine (GG.out _ HB2.out).mono ?_
    rintro e w4 ⟨⟨hE, rfl⟩ | ⟨E, hE, rfl⟩, rfl⟩
    · obtain ⟨b1, b2⟩ := back_get hE
      have Q := put_ok (getN l) l.length w4 (by omega)
      rw [b1, b2] at Q
      have Q' := hid Q
      clear Q b1 b2 hE
      go_wp2_with fail
      refine Q'.out.mono ?_
      rintro e w5 ⟨v2, rfl, hb3, hown2⟩
      obtain ⟨A2, c2, rfl, hc2, hm2, hr2⟩ := rd_of_own hown2
      have HB3 := hid (below_step HB2.out hb3)
      have HR2 := hid hr2
      clear hb3 hr2 hown2
      go_wp2_with fail
      refine (same_ok A2 A l l c2 c _ HR2.out (HA.out.below HB3.out) (by omega)).mono ?_
      rintro e w6 ⟨rfl, j, rfl⟩
      go_wp2_with fail
      go_ret
      exact ⟨by simp, below_drewN HB3.out _⟩
    · go_wp2_with fail
      go_ret
      exact ⟨by simp, HB2.out⟩
  · have HB2 := HB1
    clear HB1 hp
    go_wp2_with fail
    refine (GG.out _ HB2.out).mono ?_
    rintro e w4 ⟨⟨hE, rfl⟩ | ⟨E, hE, rfl⟩, rfl⟩
    · obtain ⟨b1, b2⟩ := back_get hE
      have Q := put_ok (getN l) l.length w4 (by omega)
      rw [b1, b2] at Q
      have Q' := hid Q
      clear Q b1 b2 hE
      go_wp2_with fail
      refine Q'.out.mono ?_
      rintro e w5 ⟨v2, rfl, hb3, hown2⟩
      obtain ⟨A2, c2, rfl, hc2, hm2, hr2⟩ := rd_of_own hown2
      have HB3 := hid (below_step HB2.out hb3)
      have HR2 := hid hr2
      clear hb3 hr2 hown2
      go_wp2_with fail
      refine (same_ok A2 A l l c2 c _ HR2.out (HA.out.below HB3.out) (by omega)).mono ?_
      rintro e w6 ⟨rfl, j, rfl⟩
      go_wp2_with fail
      go_ret
      exact ⟨by simp, below_drewN HB3.out _⟩
    · go_wp2_with fail
      go_ret
      exact ⟨by simp, HB2.out⟩

set_option maxRecDepth 100000 in
theorem wordWide_ok (x : UInt64) (A : Option Addr) (l : List UInt8) (c : Nat) (w : World) (ha : Rd w A (by8 l)) (hc : l.length ≤ c) (hm : c ≤ maxLen) :
    Calls Try.prog 6 #[.int .u64 (x.toNat : Int), .slice A l.length c] w fun e w' => e = .returned (.bool true) ∧ Below w.heap.size w w' := by
  have HA := hid ha
  clear ha
  by_cases h1 : 100 < l.length
  · have g : decide (100 < (l.length : Int)) = true := decide_eq_true (by omega)
    go_enter Try.func6, Try.ntmps6
    go_wp2_with fail
    refine (awake01_ok _).mono ?_
    rintro e w1 ⟨rfl, hb⟩
    have HB := hid hb
    clear hb
    go_wp2_with fail
    go_ret
    exact ⟨rfl, HB.out⟩
  have g : decide (100 < (l.length : Int)) = false := decide_eq_false (by omega)
  have M1 : ∀ w', Below w.heap.size w w' → Calls Try.prog 27 #[.slice A l.length c] w' fun e w'' => (∃ (m : Int) (ok : Bool), e = .returned (.tuple #[.int .u64 m, .bool ok]) ∧ ((ok = true ∧ l.length = 8 ∧ m = num l) ∨ (ok = false ∧ l.length ≠ 8 ∧ m = 0))) ∧ Below w.heap.size w w'' := by
    intro w' hb
    by_cases h8 : l.length = 8
    · have := get64_ok A l c w' (HA.out.below hb) h8 (by omega) (by unfold maxLen at hm; omega)
      rw [h8]
      exact this.mono fun e w'' h => by
        obtain ⟨rfl, j, rfl⟩ := h
        exact ⟨⟨_, _, rfl, .inl ⟨rfl, rfl, rfl⟩⟩, below_drewN hb _⟩
    · exact (get64_no A l.length c w' h8).mono fun e w'' h => by
        obtain ⟨rfl, rfl⟩ := h
        exact ⟨⟨_, _, rfl, .inr ⟨rfl, h8, rfl⟩⟩, hb⟩
  have M2 : ∀ w', Below w.heap.size w w' → Calls Try.prog 28 #[.slice A l.length c] w' fun e w'' => (∃ (m : Int) (ok : Bool), e = .returned (.tuple #[.int .u32 m, .bool ok]) ∧ ((ok = true ∧ l.length = 4 ∧ m = num l) ∨ (ok = false ∧ l.length ≠ 4 ∧ m = 0))) ∧ Below w.heap.size w w'' := by
    intro w' hb
    by_cases h8 : l.length = 4
    · have := get32_ok A l c w' (HA.out.below hb) h8
      rw [h8]
      exact this.mono fun e w'' h => by
        obtain ⟨rfl, j, rfl⟩ := h
        exact ⟨⟨_, _, rfl, .inl ⟨rfl, rfl, rfl⟩⟩, below_drewN hb _⟩
    · exact (get32_no A l.length c w' h8).mono fun e w'' h => by
        obtain ⟨rfl, rfl⟩ := h
        exact ⟨⟨_, _, rfl, .inr ⟨rfl, h8, rfl⟩⟩, hb⟩
  have GM1 := hid M1
  have GM2 := hid M2
  clear M1 M2
  have NB : l.length = 8 ∨ l.length = 4 → num l % 18446744073709551616 = num l := by
    intro h
    have := num_take_le l l.length (by omega)
    rw [List.take_of_length_le (Nat.le_refl _)] at this
    omega
  have NB4 : l.length = 4 → num l < 4294967296 := by
    intro h
    have := num_lt l
    rw [h] at this
    have e : (256 : Nat) ^ 4 = 4294967296 := by decide
    omega
  have GN := hid NB
  have GN4 := hid NB4
  clear NB NB4
  obtain ⟨hh, ll, eh, el, eb⟩ := u32_split x
  have k2 : IntKind.u32.wrap (x.toNat : Int) = (ll.toNat : Int) := by rw [el, IntKind.wrap_u32]
  have HEB := hid eb
  clear eh el eb
  go_enter Try.func6, Try.ntmps6
  go_wp2_with fail
  refine (awake01_ok _).mono ?_
  rintro e w1 ⟨rfl, hb1⟩
  have HB1 := hid hb1
  clear hb1
  go_wp2_with fail
  refine (put64_ok x _).mono ?_
  rintro e w2 ⟨v, rfl, hb2, hown⟩
  obtain ⟨A1, c1, rfl, hc1, hm1, hr1⟩ := rd_of_own hown
  obtain ⟨a1, rfl, _⟩ := hr1.byte 0 (by rw [be_length]; omega)
  have HB2 := hid (below_step HB1.out hb2)
  have HR1 := hid hr1
  clear hb2 hr1 hown HB1
  go_wp2_with fail
  refine (put32_ok ll _).mono ?_
  rintro e w3 ⟨A2, rfl, hb2, hz2, hr2⟩
  have HB3 := hid (below_step HB2.out hb2)
  have HR1' := hid (HR1.out.below hb2)
  have HR2 := hid hr2
  clear hb2 hr2 HB2 HR1 hz2
  go_wp2_with fail
  refine (rput64_ok x _).mono ?_
  rintro e w4 ⟨v, rfl, hb2, hown⟩
  obtain ⟨A3, c3, rfl, hc3, hm3, hr3⟩ := rd_of_own hown
  have HB4 := hid (below_step HB3.out hb2)
  have HR1 := hid (HR1'.out.below hb2)
  have HR2' := hid (HR2.out.below hb2)
  have HR3 := hid hr3
  clear hb2 hr3 hown HB3 HR1' HR2
  go_wp2_with fail
  refine (same_ok (some a1) A3 (be 8 x.toNat) (be 8 x.toNat) c1 c3 _ HR1.out HR3.out (by rw [be_length]; omega)).mono ?_
  rintro e w6 ⟨rfl, j, rfl⟩
  have e0 : decide (be 8 x.toNat = be 8 x.toNat) = true := by simp
  rw [e0]
  clear e0
  go_wp2_with fail
  have hl4 : (be 4 ll.toNat).length = 4 := be_length _ _
  have hd : (be 8 x.toNat).drop 4 = be 4 ll.toNat := by
    rw [HEB.out, List.drop_append_of_le_length (by rw [be_length]; omega), List.drop_of_length_le (by rw [be_length]; omega)]; rfl
  have hr4 := rd_drop_lit HR1.out 4 (by omega)
  rw [by8_drop, hd] at hr4
  have S := same_ok (some A2) (some ⟨a1.block, a1.off + 4, none⟩) (be 4 ll.toNat) (be 4 ll.toNat) 4 (c1 - 4) (w4.drewN j) HR2'.out hr4 (by omega)
  rw [hl4] at S
  have S' := hid S
  clear S hd hr4 hl4
  refine S'.out.mono ?_
  rintro e w6 ⟨rfl, j2, rfl⟩
  have e0 : decide (be 4 ll.toNat = be 4 ll.toNat) = true := by simp
  rw [e0]
  clear e0 S'
  have HB5 := hid (below_drewN HB4.out (j + j2))
  clear HB4 HR1 HR2' HR3
  go_wp2_with fail
  refine (GM1.out _ HB5.out).mono ?_
  rintro e w7 ⟨⟨m, ok, rfl, hok⟩, hb⟩
  have HB6 := hid hb
  have HOK := hid hok
  clear hb HB5 hok
  go_wp2_with fail
  refine (GM2.out _ HB6.out).mono ?_
  rintro e w8 ⟨⟨n, is, rfl, his⟩, hb⟩
  have HB7 := hid hb
  clear hb HB6
  rcases HOK.out with ⟨rfl, h8, hm8⟩ | ⟨rfl, h8, rfl⟩
  · rcases his with ⟨_, h4, _⟩ | ⟨rfl, _, rfl⟩
    · omega
    have b8 : ((l.length : Int) == 8) = true := beq_iff_eq.mpr (by omega)
    have b4 : ((l.length : Int) == 4) = false := beq_eq_false_iff_ne.mpr (by omega)
    have R := rget64_ok A l c w8 (HA.out.below HB7.out) (by omega)
    rw [GN.out (.inl h8), ← hm8] at R
    have R' := hid R
    clear R h8 hm8 HOK
    go_wp2_with fail
    refine R'.out.mono ?_
    rintro e w9 ⟨rfl, rfl⟩
    go_wp2_with fail
    go_ret
    exact ⟨by simp, HB7.out⟩
  · have b8 : ((l.length : Int) == 8) = false := beq_eq_false_iff_ne.mpr (by omega)
    rcases his with ⟨rfl, h4, hm4⟩ | ⟨rfl, h4, rfl⟩
    · have b4 : ((l.length : Int) == 4) = true := beq_iff_eq.mpr (by omega)
      have R := rget64_ok A l c w8 (HA.out.below HB7.out) (by omega)
      rw [GN.out (.inr h4), ← hm4] at R
      have hn4 := GN4.out h4
      have hn0 : 0 ≤ n := by omega
      have hn1 : n ≤ 4294967295 := by omega
      have R' := hid R
      clear R h4 h8 hm4 HOK hn4
      go_wp2_with fail
      refine R'.out.mono ?_
      rintro e w9 ⟨rfl, rfl⟩
      go_wp2_with fail
      go_ret
      exact ⟨by simp, HB7.out⟩
    · have b4 : ((l.length : Int) == 4) = false := beq_eq_false_iff_ne.mpr (by omega)
      clear h4 h8 HOK
      go_wp2_with fail
      go_ret
      exact ⟨by simp, HB7.out⟩
end Go.Proofs.Ytdahdlidpplllaa
