/- The statement WordTurns, walked. -/
import Derived.Test.YtdahdlidpplllaaWordL
namespace Go.Proofs.Ytdahdlidpplllaa
open Go.RowKit
set_option linter.unusedVariables false
theorem tmod32 (n : Int) (h : n < 0) : -31 ≤ n.tmod 32 ∧ n.tmod 32 ≤ 0 ∧ (n.tmod 32 < 0 → n.tmod 32 + 32 = n % 32) ∧ (¬ n.tmod 32 < 0 → n.tmod 32 = n % 32) := by
  have e := Int.tmod_eq_emod (a := n) (b := 32)
  rw [e]
  split <;> omega
theorem rot_back (x : UInt32) (K : Nat) (hK : K ≤ 31) : rotr (rotr x (((K : Int) % 32).toNat)) ((-(K : Int)) % 32).toNat = x := by
  have e1 : ((K : Int) % 32).toNat = K := by omega
  rw [e1]
  by_cases h : K = 0
  · subst h; rw [rotr_zero, show ((-((0 : Nat) : Int)) % 32).toNat = 0 by decide, rotr_zero]
  · have e2 : ((-(K : Int)) % 32).toNat = 32 - K := by omega
    rw [e2, rotr_add _ _ _ (by omega), show K + (32 - K) = 32 by omega, rotr_full]
set_option maxRecDepth 100000 in
set_option maxHeartbeats 400000 in
theorem wordTurns_ok (x : UInt32) (n : Int) (A : Option Addr) (l : List UInt8) (c : Nat) (w : World) (hn : -9223372036854775808 ≤ n ∧ n ≤ 9223372036854775807) (ha : Rd w A (by8 l)) (hc : l.length ≤ c) (hm : c ≤ maxLen) :
    Calls Try.prog 3 #[.int .u32 (x.toNat : Int), .int .i64 n, .slice A l.length c] w fun e w' => e = .returned (.bool true) ∧ Below w.heap.size w w' := by
  have HA := hid ha
  clear ha
  unfold maxLen at hm
  by_cases h1 : 200 < l.length
  · have g : decide (200 < (l.length : Int)) = true := decide_eq_true (by omega)
    go_enter Try.func3, Try.ntmps3
    go_wp2_with fail
    refine (awake01_ok _).mono ?_
    rintro e w1 ⟨rfl, hb⟩
    have HB := hid hb
    clear hb
    go_wp2_with fail
    go_ret
    exact ⟨rfl, HB.out⟩
  have g : decide (200 < (l.length : Int)) = false := decide_eq_false (by omega)
  obtain ⟨K, hK⟩ : ∃ K : Nat, n % 32 = (K : Int) := ⟨(n % 32).toNat, by omega⟩
  have hK31 : K ≤ 31 := by omega
  have R1 := fun w => rotate_ok x n w hn
  have R2 := fun w => rotate_ok x (K : Int) w (by omega)
  have R3 := fun w => rotate_ok (rotr x (((K : Int) % 32).toNat)) (-(K : Int)) w (by omega)
  rw [rot_back x K hK31] at R3
  have e1 : ((K : Int) % 32).toNat = K := by omega
  rw [e1] at R2 R3
  rw [hK, Int.toNat_natCast] at R1
  have GR1 := hid R1
  have GR2 := hid R2
  have GR3 := hid R3
  clear R1 R2 R3 e1
  have hcase : (∃ N : Nat, n = N ∧ N ≤ l.length) ∨ (∃ N : Nat, n = N ∧ l.length < N) ∨ (n < 0 ∧ n.tmod 32 < 0) ∨ (n < 0 ∧ ¬ n.tmod 32 < 0) := by
    by_cases h : n < 0
    · by_cases h2 : n.tmod 32 < 0
      · exact .inr (.inr (.inl ⟨h, h2⟩))
      · exact .inr (.inr (.inr ⟨h, h2⟩))
    · obtain ⟨N, rfl⟩ := Int.eq_ofNat_of_zero_le (a := n) (by omega)
      by_cases h2 : N ≤ l.length
      · exact .inl ⟨N, rfl, h2⟩
      · exact .inr (.inl ⟨N, rfl, by omega⟩)
  rcases hcase with ⟨N, rfl, hN⟩ | ⟨N, rfl, hN⟩ | ⟨h0, h2⟩ | ⟨h0, h2⟩
  case inl =>
    have hk := hK
    have HK := hid hK
    clear hK
    go_enter Try.func3, Try.ntmps3
    go_wp2_with fail
    refine (awake01_ok _).mono ?_
    rintro e w1 ⟨rfl, hb1⟩
    have HB1 := hid hb1
    clear hb1
    go_wp2_with fail
    simp only [hk]
    clear hk
    go_loop [7, 25] (fun u i => ∃ j : Nat, j ≤ K ∧ i = .int .i64 j ∧ u = .int .u32 ((rotr x j).toNat : Int)) (fun _ i => K - (intOf i).toNat)
    case atStart => exact ⟨0, by omega, rfl, by rw [rotr_zero]⟩
    case round =>
      obtain ⟨j, hj, rfl, rfl⟩ := hrel
      by_cases hlt : j < K
      · go_wp2_with fail
        refine (right_ok (rotr x j) _).mono ?_
        rintro e w2 ⟨rfl, rfl⟩
        go_wp2_with fail
        go_round
        case rel => exact ⟨j + 1, by omega, by go_num, by rw [rotr_succ _ _ (by omega)]⟩
        case measure => simp [intOf]; omega
      · have hjK : j = K := by omega
        subst hjK
        go_wp2_with fail
        refine (GR1.out _).mono ?_
        rintro e w2 ⟨rfl, rfl⟩
        go_wp2_with fail
        refine (GR2.out _).mono ?_
        rintro e w2 ⟨rfl, rfl⟩
        go_wp2_with fail
        refine (GR3.out _).mono ?_
        rintro e w2 ⟨rfl, rfl⟩
        go_wp2_with fail
        refine (cut_ok A l.length c N _ (by omega) (by omega) hc hm).mono ?_
        rintro e w2 ⟨rfl, j2, rfl⟩
        obtain ⟨W, hW⟩ : ∃ W, W = w2.drewN j2 := ⟨_, rfl⟩
        have HB2 : Hid (Below w.heap.size w W) := hid (hW ▸ below_drewN HB1.out j2)
        rw [← hW]
        clear hW HB1
        have HR1 := hid (show Rd W A (by8 (l.take N)) from by8_take l N ▸ ((HA.out.below HB2.out).take N))
        have HR2 := hid (show Rd W (if c = N then A else A.map (·.add N)) (by8 (l.drop N)) from by8_drop l N ▸ ((HA.out.below HB2.out).tail N c (by rw [by8_length]; exact hc)))
        have hz := HB2.out.size
        have tok1 : True := trivial
        go_wp2_with (first
          | (at_builtin; have _t := tok1; go_must (refine wanted_plain rfl (append_any (w0 := w) rfl (.tmp 91) (.tmp 92) 23 5 (.int .u8 0) 1 1 rfl Try.underlying23 info_u8 rfl (by decide) _ 0 [] rfl _ N N (by8 (l.take N)) rfl (by simp [by8_length]; omega) (HR1.out.below (below_alloc (Below.refl _ _) _)) (by8_one _) w.heap.size (World.ownsRow_lit _ #[] 0 hz (by simp [maxLen]) rfl) (below_alloc HB2.out _) (le_alloc hz) (by omega) (by unfold maxLen; omega) ?_); intro v1 w3 hown1 hb3 hk3; have HB3 := hid hb3; have HR3 := hid (HR2.out.below (((Below.refl _ _).alloc (Nat.le_refl _) _).trans (hk3 W.heap.size (le_alloc (Nat.le_refl _)) (fun k hk => by cases hk; exact Nat.le_refl _)))); have HO1 := hid hown1; have hz4 := hb3.size; clear hown1 hb3 hk3 tok1 _t))
          | (at_builtin; go_must (refine wanted_plain rfl (append_any (w0 := w) rfl (.tmp 93) (.tmp 94) 23 5 (.int .u8 0) 1 1 rfl Try.underlying23 info_u8 rfl (by decide) _ _ _ rfl _ (l.length - N) (c - N) (by8 (l.drop N)) rfl (by simp [by8_length]) HR3.out (by8_one _) w.heap.size HO1.out HB3.out hz4 (by omega) (by unfold maxLen; omega) ?_); intro v2 w4 hown2 hb4 hk4; have HB4 := hid hb4; have HO2 := hid hown2; clear hown2 hb4 hk4)))
        all_goals
          have ho := HO2.out
          have en : 0 + N + (l.length - N) = l.length := by omega
          rw [en, List.nil_append, ← by8_append, List.take_append_drop] at ho
          obtain ⟨A2, c2, rfl, hc2, hm2, hr2⟩ := rd_of_own ho
          have HRR := hid hr2
          clear en ho hr2 HO2
          refine (same_b A2 A l l c2 _ _ HRR.out (HA.out.below HB4.out) (by omega)).mono ?_
          rintro e w5 ⟨rfl, hb5⟩
          have HB5 := hid (below_step HB4.out hb5)
          clear hb5
          go_wp2_with fail
          go_ret
          exact ⟨by simp, HB5.out⟩
  case inr.inl =>
    have hk := hK
    have HK := hid hK
    clear hK
    go_enter Try.func3, Try.ntmps3
    go_wp2_with fail
    refine (awake01_ok _).mono ?_
    rintro e w1 ⟨rfl, hb1⟩
    have HB1 := hid hb1
    clear hb1
    go_wp2_with fail
    simp only [hk]
    clear hk
    go_loop [7, 25] (fun u i => ∃ j : Nat, j ≤ K ∧ i = .int .i64 j ∧ u = .int .u32 ((rotr x j).toNat : Int)) (fun _ i => K - (intOf i).toNat)
    case atStart => exact ⟨0, by omega, rfl, by rw [rotr_zero]⟩
    case round =>
      obtain ⟨j, hj, rfl, rfl⟩ := hrel
      by_cases hlt : j < K
      · go_wp2_with fail
        refine (right_ok (rotr x j) _).mono ?_
        rintro e w2 ⟨rfl, rfl⟩
        go_wp2_with fail
        go_round
        case rel => exact ⟨j + 1, by omega, by go_num, by rw [rotr_succ _ _ (by omega)]⟩
        case measure => simp [intOf]; omega
      · have hjK : j = K := by omega
        subst hjK
        go_wp2_with fail
        refine (GR1.out _).mono ?_
        rintro e w2 ⟨rfl, rfl⟩
        go_wp2_with fail
        refine (GR2.out _).mono ?_
        rintro e w2 ⟨rfl, rfl⟩
        go_wp2_with fail
        refine (GR3.out _).mono ?_
        rintro e w2 ⟨rfl, rfl⟩
        go_wp2_with fail
        refine (cut_no A l.length c N _ (.inr (by omega))).mono ?_
        rintro e w2 ⟨rfl, rfl⟩
        go_wp2_with fail
        go_ret
        exact ⟨by simp, HB1.out⟩
  case inr.inr.inl =>
    obtain ⟨t1, t2, t3, _⟩ := tmod32 n h0
    have hk := t3 h2
    rw [hK] at hk
    clear t3
    have HK := hid hK
    clear hK
    go_enter Try.func3, Try.ntmps3
    go_wp2_with fail
    refine (awake01_ok _).mono ?_
    rintro e w1 ⟨rfl, hb1⟩
    have HB1 := hid hb1
    clear hb1
    go_wp2_with fail
    go_loop [7, 25] (fun u i => ∃ j : Nat, j ≤ K ∧ i = .int .i64 j ∧ u = .int .u32 ((rotr x j).toNat : Int)) (fun _ i => K - (intOf i).toNat)
    case atStart => exact ⟨0, by omega, rfl, by rw [rotr_zero]⟩
    case round =>
      obtain ⟨j, hj, rfl, rfl⟩ := hrel
      by_cases hlt : j < K
      · go_wp2_with fail
        refine (right_ok (rotr x j) _).mono ?_
        rintro e w2 ⟨rfl, rfl⟩
        go_wp2_with fail
        go_round
        case rel => exact ⟨j + 1, by omega, by go_num, by rw [rotr_succ _ _ (by omega)]⟩
        case measure => simp [intOf]; omega
      · have hjK : j = K := by omega
        subst hjK
        go_wp2_with fail
        refine (GR1.out _).mono ?_
        rintro e w2 ⟨rfl, rfl⟩
        go_wp2_with fail
        refine (GR2.out _).mono ?_
        rintro e w2 ⟨rfl, rfl⟩
        go_wp2_with fail
        refine (GR3.out _).mono ?_
        rintro e w2 ⟨rfl, rfl⟩
        go_wp2_with fail
        refine (cut_no A l.length c n _ (.inl h0)).mono ?_
        rintro e w2 ⟨rfl, rfl⟩
        go_wp2_with fail
        go_ret
        exact ⟨by simp, HB1.out⟩
  case inr.inr.inr =>
    obtain ⟨t1, t2, _, t3⟩ := tmod32 n h0
    have hk := t3 h2
    rw [hK] at hk
    clear t3
    have HK := hid hK
    clear hK
    go_enter Try.func3, Try.ntmps3
    go_wp2_with fail
    refine (awake01_ok _).mono ?_
    rintro e w1 ⟨rfl, hb1⟩
    have HB1 := hid hb1
    clear hb1
    go_wp2_with fail
    go_loop [7, 25] (fun u i => ∃ j : Nat, j ≤ K ∧ i = .int .i64 j ∧ u = .int .u32 ((rotr x j).toNat : Int)) (fun _ i => K - (intOf i).toNat)
    case atStart => exact ⟨0, by omega, rfl, by rw [rotr_zero]⟩
    case round =>
      obtain ⟨j, hj, rfl, rfl⟩ := hrel
      by_cases hlt : j < K
      · go_wp2_with fail
        refine (right_ok (rotr x j) _).mono ?_
        rintro e w2 ⟨rfl, rfl⟩
        go_wp2_with fail
        go_round
        case rel => exact ⟨j + 1, by omega, by go_num, by rw [rotr_succ _ _ (by omega)]⟩
        case measure => simp [intOf]; omega
      · have hjK : j = K := by omega
        subst hjK
        go_wp2_with fail
        refine (GR1.out _).mono ?_
        rintro e w2 ⟨rfl, rfl⟩
        go_wp2_with fail
        refine (GR2.out _).mono ?_
        rintro e w2 ⟨rfl, rfl⟩
        go_wp2_with fail
        refine (GR3.out _).mono ?_
        rintro e w2 ⟨rfl, rfl⟩
        go_wp2_with fail
        refine (cut_no A l.length c n _ (.inl h0)).mono ?_
        rintro e w2 ⟨rfl, rfl⟩
        go_wp2_with fail
        go_ret
        exact ⟨by simp, HB1.out⟩
end Go.Proofs.Ytdahdlidpplllaa
