/- The statements of layer 1, walked. -/
import Derived.Test.YtdahdlidpplllaaWord2
set_option linter.unusedVariables false
set_option linter.unusedSimpArgs false
namespace Go.Proofs.Ytdahdlidpplllaa
open Go.RowKit
theorem drewN_below (w : World) (n : Nat) : Below w.heap.size w (w.drewN n) := ⟨rfl, rfl, rfl, Nat.le_refl _, fun _ _ => rfl⟩
theorem by8_012 : by8 [0, 1, 2] = [Value.int .u8 0, Value.int .u8 1, Value.int .u8 2] := rfl
set_option maxRecDepth 100000 in
theorem awake01_ok (w : World) : Calls Try.prog 15 #[] w fun e w' => e = .returned (.bool true) ∧ Below w.heap.size w w' := by
  have p0 : putE 258 3 = 0 := by decide
  have p1 : putL 258 3 = [0, 1, 2] := by decide
  have P := put_ok 258 3 w (by omega)
  rw [p0, p1] at P
  have P' := hid P
  clear P p0 p1
  go_enter Try.func15, Try.ntmps15
  go_wp2_with fail
  refine P'.out.mono ?_
  rintro e w1 ⟨v, rfl, hb, hown⟩
  obtain ⟨A, c, rfl, hc, hm, hr⟩ := rd_of_own hown
  have HB := hid hb
  have HR := hid hr
  clear hb hr hown
  go_wp2_with fail
  refine (same_ok A (some ⟨w1.heap.size, 0, none⟩) [0, 1, 2] [0, 1, 2] c 3 _ (HR.out.below (below_alloc (Below.refl _ _) _)) (rd_alloc _ (by8 [0, 1, 2]) _) (by simp)).mono ?_
  rintro e w2 ⟨rfl, j, rfl⟩
  go_wp2_with fail
  go_ret
  exact ⟨rfl, below_drewN (below_alloc HB.out _) _⟩
set_option maxRecDepth 100000 in
theorem wordNumbers_ok (n s : Int) (A : Option Addr) (l : List UInt8) (c : Nat) (w : World) (hn : -9223372036854775808 ≤ n ∧ n ≤ 9223372036854775807) (_hs : -9223372036854775808 ≤ s ∧ s ≤ 9223372036854775807) (ha : Rd w A (by8 l)) (_hc : l.length ≤ c) (_hm : c ≤ maxLen) :
    Calls Try.prog 4 #[.int .i64 n, .int .i64 s, .slice A l.length c] w fun e w' => e = .returned (.bool true) ∧ Below w.heap.size w w' := by
  have HA := hid ha
  clear ha
  by_cases h1 : 100 < l.length
  · have g : decide (100 < (l.length : Int)) = true := decide_eq_true (by omega)
    go_enter Try.func4, Try.ntmps4
    go_wp2_with fail
    refine (awake01_ok _).mono ?_
    rintro e w1 ⟨rfl, hb⟩
    have HB := hid hb
    clear hb
    go_wp2_with fail
    go_ret
    exact ⟨rfl, HB.out⟩
  have g : decide (100 < (l.length : Int)) = false := decide_eq_false (by omega)
  go_enter Try.func4, Try.ntmps4
  go_wp2_with fail
  refine (awake01_ok _).mono ?_
  rintro e w1 ⟨rfl, hb1⟩
  have HB1 := hid hb1
  clear hb1
  go_wp2_with fail
  refine (put_ok n s _ hn).mono ?_
  rintro e w2 ⟨v, rfl, hb2, hown⟩
  obtain ⟨A1, c1, rfl, hc1, hm1, hr1⟩ := rd_of_own hown
  have HB2 := hid (below_step HB1.out hb2)
  have HR1 := hid hr1
  clear hb2 hr1 hown HB1
  go_wp2_with fail
  refine (rput_ok n s _).mono ?_
  rintro e w3 ⟨v, rfl, hb2, hown⟩
  obtain ⟨A2, c2, rfl, hc2, hm2, hr2⟩ := rd_of_own hown
  have HB3 := hid (below_step HB2.out hb2)
  have HR1' := hid (HR1.out.below hb2)
  have HR2 := hid hr2
  clear hb2 hr2 hown HB2 HR1
  go_wp2_with fail
  refine (get_ok A l c _ (HA.out.below HB3.out) (by omega)).mono ?_
  rintro e w4 ⟨rfl, rfl⟩
  go_wp2_with fail
  refine (rget_ok A l c _ (HA.out.below HB3.out) (by omega)).mono ?_
  rintro e w5 ⟨rfl, rfl⟩
  go_wp2_with fail
  refine (same_ok A1 A2 (putL n s) (putL n s) c1 c2 _ HR1'.out HR2.out (by unfold maxLen at hm1; omega)).mono ?_
  rintro e w6 ⟨rfl, j, rfl⟩
  go_wp2_with fail
  go_ret
  exact ⟨by simp, below_drewN HB3.out _⟩
end Go.Proofs.Ytdahdlidpplllaa
