/- The statements on trees of sums: the example, and MerkleAlong. -/
import Derived.Test.YtlgcfnbhnpnkiaaMk3
import Derived.Test.YtlgcfnbhnpnkiaaSumO
set_option linter.unusedVariables false
set_option linter.unusedSimpArgs false
namespace Go.Proofs.Ytlgcfnbhnpnkiaa
open Go.RowKit

def absorbF : Nat → List UInt32 → List UInt8 → List UInt32
  | 0, s, _ => s
  | n + 1, s, l => absorbF n (pieceS s (l.take 64)) (l.drop 64)
theorem absorb_eq (n : Nat) : ∀ (s : List UInt32) (l : List UInt8), l.length / 64 = n → (absorb s l).1 = absorbF n s l := by
  induction n with
  | zero => intro s l h; rw [absorb_lt s l (by omega)]; rfl
  | succ n ih => intro s l h; rw [absorb_ge s l (by omega), ih _ _ (by simp; omega)]; rfl
theorem shaS_eval (m : List UInt8) : shaS m = wordsB (absorbF ((m ++ padL m.length).length / 64) beginL (m ++ padL m.length)) := by unfold shaS; rw [absorb_eq _ _ _ rfl]
def sum7 : List UInt8 := 7 :: List.replicate 31 0
def sum8 : List UInt8 := 8 :: List.replicate 31 0
set_option maxRecDepth 1000000 in
theorem pair78 : pairS sum7 sum8 ≠ sum7 ∧ pairS sum7 sum8 ≠ z32 := by
  unfold pairS
  rw [shaS_eval]
  decide +kernel
theorem rootV7 : rootV [sum7] = sum7 := by decide +kernel
theorem rootV78 : rootV [sum7, sum8] = pairS sum7 sum8 := by
  unfold rootV
  rw [if_pos (by decide)]
  rfl
set_option maxRecDepth 100000 in
theorem awake23_ok (w0 : World) : Calls Try.prog 23 #[] w0 fun e w' => e = .returned (.bool true) ∧ Below w0.heap.size w0 w' := by
  refine c_enter Try.func23 rfl 39 rfl (by simp) (fun _ => False) _ rfl (fun a h => ?_)
  refine c_rs ?_ -- region 0
  refine s_assign h rfl _ rfl rfl (by decide) rfl (fun a h => ?_)
  refine l_end ?_
  refine c_rs ?_ -- region 1
  refine s_build h rfl rfl rfl (by decide) [(0, .int .u8 7)] rfl (by8 sum7) (by kernel_rfl) (fun a h => ?_)
  refine s_bslice h rfl rfl rfl (by decide) Try.underlying39 zi_A32_uint8 [(0, .agg (by8 sum7).toArray)] rfl (by decide) (by decide) (by8 [sum7].flatten) (by kernel_rfl) (fun a w g7 h => ?_)
  have hs7 : S32 [sum7] := S32.cons (by decide) S32.nil
  refine s_callB h rfl rfl rfl (by decide) Try.func24 rfl rfl rfl (root_ok w (some ⟨g7, 0, none⟩) [sum7] 1 hs7 (h.m.rdBox (i := 0) rfl 0)) (fun a w hb h => ?_)
  rw [rootV7] at h
  refine s_move h rfl _ rfl rfl (by decide) rfl (fun a h => ?_)
  refine s_ext h rfl rfl rfl (by decide) rfl rfl (fun a h => ?_)
  refine s_ext h rfl rfl rfl (by decide) rfl rfl (fun a h => ?_)
  refine s_alloc h rfl rfl rfl (by decide) zi_A32_uint8 rfl (fun a w g1 h => ?_)
  refine s_stW h rfl rfl rfl ag_A32_uint8 rfl rfl (by decide) (by8_one _) 0 rfl (by rfl) (fun a w h => ?_)
  refine s_assign h rfl _ rfl rfl (by decide) rfl (fun a h => ?_)
  refine l_end ?_
  refine c_rs ?_ -- region 2
  refine s_build h rfl rfl rfl (by decide) [(0, .int .u8 7)] rfl (by8 sum7) (by kernel_rfl) (fun a h => ?_)
  refine s_build h rfl rfl rfl (by decide) [(0, .int .u8 8)] rfl (by8 sum8) (by kernel_rfl) (fun a h => ?_)
  refine s_bslice h rfl rfl rfl (by decide) Try.underlying39 zi_A32_uint8 [(0, .agg (by8 sum7).toArray), (1, .agg (by8 sum8).toArray)] rfl (by decide) (by decide) (by8 [sum7, sum8].flatten) (by kernel_rfl) (fun a w g14 h => ?_)
  have hs78 : S32 [sum7, sum8] := S32.cons (by decide) (S32.cons (by decide) S32.nil)
  refine s_callB h rfl rfl rfl (by decide) Try.func24 rfl rfl rfl (root_ok w (some ⟨g14, 0, none⟩) [sum7, sum8] 2 hs78 (h.m.rdBox (i := 0) rfl 0)) (fun a w hb h => ?_)
  obtain ⟨y, hy⟩ : ∃ y, y = pairS sum7 sum8 := ⟨_, rfl⟩
  have hy32 : y.length = 32 := by rw [hy]; exact pairS_length _ _
  obtain ⟨hy7, hyz⟩ := pair78
  rw [rootV78, ← hy] at h
  rw [← hy] at hy7 hyz
  refine s_move h rfl _ rfl rfl (by decide) rfl (fun a h => ?_)
  refine s_ext h rfl rfl rfl (by decide) rfl rfl (fun a h => ?_)
  refine s_ext h rfl rfl rfl (by decide) rfl rfl (fun a h => ?_)
  refine s_alloc h rfl rfl rfl (by decide) zi_A32_uint8 rfl (fun a w g3 h => ?_)
  refine s_stW h rfl rfl rfl ag_A32_uint8 rfl rfl (by rw [by8_length, hy32]) (by8_one _) 0 rfl (by rfl) (fun a w h => ?_)
  refine s_assign h rfl _ rfl rfl (by decide) rfl (fun a h => ?_)
  refine l_end ?_
  refine c_rs ?_ -- region 3
  refine s_move h rfl _ rfl rfl (by decide) rfl (fun a h => ?_)
  refine s_bin h rfl rfl rfl (by decide) rfl rfl (ib_eql) (fun a h => ?_)
  refine s_move h rfl _ rfl rfl (by decide) rfl (fun a h => ?_)
  apply s_and (t := 20) (d := 23) h 3 rfl
  · intro hB
    refine g_yes h rfl rfl rfl rfl hB ?_
    refine s_move h rfl _ rfl rfl (by decide) rfl (fun a h => ?_)
    refine g_yes h rfl rfl rfl rfl hB ?_
    refine s_bin h rfl rfl rfl (by decide) rfl rfl (ib_eql) (fun a h => ?_)
    refine s_pick h rfl rfl rfl (by decide) rfl (fun _ => rfl) (fun hh => absurd (hB.symm.trans hh) (by decide)) (fun a h => ?_)
    exact h.has (by repeat (first | exact trivial | refine ⟨rfl, ?_⟩))
  · intro hB
    refine g_no h rfl rfl rfl rfl hB rfl (by decide) (fun a h => ?_)
    refine g_no h rfl rfl rfl rfl hB rfl (by decide) (fun a h => ?_)
    refine s_pick h rfl rfl rfl (by decide) rfl (fun hh => absurd (hB.symm.trans hh) (by decide)) (fun _ => rfl) (fun a h => ?_)
    exact h.has (by repeat (first | exact trivial | refine ⟨rfl, ?_⟩))
  intro a w h
  refine s_move h rfl _ rfl rfl (by decide) rfl (fun a h => ?_)
  apply s_and (t := 24) (d := 28) h 4 rfl
  · intro hB
    refine g_yes h rfl rfl rfl rfl hB ?_
    refine s_ldW h rfl rfl rfl (by decide) ag_A32_uint8 rfl 2 rfl (by decide) (fun a h => ?_)
    refine g_yes h rfl rfl rfl rfl hB ?_
    refine s_build h rfl rfl rfl (by decide) [(0, .int .u8 7)] rfl (by8 sum7) (by kernel_rfl) (fun a h => ?_)
    refine g_yes h rfl rfl rfl rfl hB ?_
    refine s_eqA h rfl rfl rfl (by decide) Try.underlying40 Try.underlying5 sz_uint8 (by kernel_rfl) rfl rfl (by decide) (by decide) (fun a h => ?_)
    refine s_pick h rfl rfl rfl (by decide) rfl (fun _ => rfl) (fun hh => absurd (hB.symm.trans hh) (by decide)) (fun a h => ?_)
    exact h.has (by repeat (first | exact trivial | refine ⟨rfl, ?_⟩))
  · intro hB
    refine g_no h rfl rfl rfl rfl hB rfl (by decide) (fun a h => ?_)
    refine g_no h rfl rfl rfl rfl hB rfl (by decide) (fun a h => ?_)
    refine g_no h rfl rfl rfl rfl hB rfl (by decide) (fun a h => ?_)
    refine s_pick h rfl rfl rfl (by decide) rfl (fun hh => absurd (hB.symm.trans hh) (by decide)) (fun _ => rfl) (fun a h => ?_)
    exact h.has (by repeat (first | exact trivial | refine ⟨rfl, ?_⟩))
  intro a w h
  refine s_move h rfl _ rfl rfl (by decide) rfl (fun a h => ?_)
  apply s_and (t := 29) (d := 33) h 4 rfl
  · intro hB
    refine g_yes h rfl rfl rfl rfl hB ?_
    refine s_ldW h rfl rfl rfl (by decide) ag_A32_uint8 rfl 0 rfl (by rw [by8_length, hy32]) (fun a h => ?_)
    refine g_yes h rfl rfl rfl rfl hB ?_
    refine s_ldW h rfl rfl rfl (by decide) ag_A32_uint8 rfl 2 rfl (by decide) (fun a h => ?_)
    refine g_yes h rfl rfl rfl rfl hB ?_
    refine s_neA h rfl rfl rfl (by decide) Try.underlying40 Try.underlying5 sz_uint8 (by kernel_rfl) rfl rfl hy32 (by decide) (fun a h => ?_)
    refine s_pick h rfl rfl rfl (by decide) rfl (fun _ => rfl) (fun hh => absurd (hB.symm.trans hh) (by decide)) (fun a h => ?_)
    exact h.has (by repeat (first | exact trivial | refine ⟨rfl, ?_⟩))
  · intro hB
    refine g_no h rfl rfl rfl rfl hB rfl (by decide) (fun a h => ?_)
    refine g_no h rfl rfl rfl rfl hB rfl (by decide) (fun a h => ?_)
    refine g_no h rfl rfl rfl rfl hB rfl (by decide) (fun a h => ?_)
    refine s_pick h rfl rfl rfl (by decide) rfl (fun hh => absurd (hB.symm.trans hh) (by decide)) (fun _ => rfl) (fun a h => ?_)
    exact h.has (by repeat (first | exact trivial | refine ⟨rfl, ?_⟩))
  intro a w h
  refine s_move h rfl _ rfl rfl (by decide) rfl (fun a h => ?_)
  apply s_and (t := 34) (d := 38) h 4 rfl
  · intro hB
    refine g_yes h rfl rfl rfl rfl hB ?_
    refine s_ldW h rfl rfl rfl (by decide) ag_A32_uint8 rfl 0 rfl (by rw [by8_length, hy32]) (fun a h => ?_)
    refine g_yes h rfl rfl rfl rfl hB ?_
    refine s_build h rfl rfl rfl (by decide) [] rfl (by8 z32) (by kernel_rfl) (fun a h => ?_)
    refine g_yes h rfl rfl rfl rfl hB ?_
    refine s_neA h rfl rfl rfl (by decide) Try.underlying40 Try.underlying5 sz_uint8 (by kernel_rfl) rfl rfl hy32 z32_length (fun a h => ?_)
    refine s_pick h rfl rfl rfl (by decide) rfl (fun _ => rfl) (fun hh => absurd (hB.symm.trans hh) (by decide)) (fun a h => ?_)
    exact h.has (by repeat (first | exact trivial | refine ⟨rfl, ?_⟩))
  · intro hB
    refine g_no h rfl rfl rfl rfl hB rfl (by decide) (fun a h => ?_)
    refine g_no h rfl rfl rfl rfl hB rfl (by decide) (fun a h => ?_)
    refine g_no h rfl rfl rfl rfl hB rfl (by decide) (fun a h => ?_)
    refine s_pick h rfl rfl rfl (by decide) rfl (fun hh => absurd (hB.symm.trans hh) (by decide)) (fun _ => rfl) (fun a h => ?_)
    exact h.has (by repeat (first | exact trivial | refine ⟨rfl, ?_⟩))
  intro a w h
  refine s_assign h rfl _ rfl rfl (by decide) rfl (fun a h => ?_)
  refine l_end ?_
  refine wp_ret ?_
  refine r_ret1 h rfl (rv_tmp h rfl) ⟨?_, h.m.below⟩
  have e1 : errV (okN [sum7].length) = 0 := by decide
  have e2 : errV (okN [sum7, sum8].length) = 0 := by decide
  rw [e1, e2, decide_eq_false hy7, decide_eq_false hyz]
  rfl
set_option maxRecDepth 100000 in
theorem merkleAlong_walk (w0 : World) (x : List UInt8) (hx : x.length = 32) (i : Int) (hi : -9223372036854775808 ≤ i ∧ i ≤ 9223372036854775807) (A : Option Addr) (l : List (List UInt8)) (c : Nat) (hl : S32 l) (hr : Rd w0 A (by8 l.flatten)) :
    Calls Try.prog 6 #[.agg (by8 x).toArray, .int .i64 i, .slice A l.length c] w0 fun e w' => e = .returned (.bool true) ∧ Below w0.heap.size w0 w' := by
  refine c_enter Try.func6 rfl 69 rfl (by simp) (fun _ => False) _ rfl (fun a h => ?_)
  have h := h.mem (h.m.arg (rdP A (by8 l.flatten)) hr (fun _ _ hh => hh))
  refine c_rs ?_ -- region 0
  refine s_box h rfl rfl rfl (by decide) rfl rfl (fun a w g3 h => ?_)
  refine s_assign h rfl _ rfl rfl (by decide) rfl (fun a h => ?_)
  refine l_end ?_
  refine wp_seq ?_
  refine c_rs ?_ -- region 1
  refine s_callB h rfl rfl rfl (by decide) Try.func23 rfl rfl rfl (awake23_ok w) (fun a w hb h => ?_)
  refine s_boolop h rfl rfl rfl (by decide) rfl (fun a h => ?_)
  refine l_end ?_
  refine c_cond h rfl (fun hb => ?_) (fun hb => ?_)
  · cases hb
  · refine wp_skip ?_
    refine e_thenN ?_
    refine wp_seq ?_
    refine c_rs ?_ -- region 3
    refine s_move h rfl _ rfl rfl (by decide) rfl (fun a h => ?_)
    refine s_len h rfl rfl rfl (by decide) Try.underlying39 rfl (fun a h => ?_)
    refine s_bin h rfl rfl rfl (by decide) rfl rfl (ib_gtr) (fun a h => ?_)
    refine l_end ?_
    refine c_cond h rfl (fun hb => ?_) (fun hb => ?_)
    · refine c_rs ?_ -- region 4
      refine s_assign h rfl _ rfl rfl (by decide) rfl (fun a h => ?_)
      refine l_end ?_
      refine wp_ret ?_
      refine e_thenR ?_
      exact r_ret1 h rfl (rv_tmp h rfl) ⟨rfl, h.m.below⟩
    · refine wp_skip ?_
      refine e_thenN ?_
      refine c_rs ?_ -- region 5
      refine s_ldW h rfl rfl rfl (by decide) ag_A32_uint8 rfl 0 rfl (by rw [by8_length, hx]) (fun a h => ?_)
      refine s_move h rfl _ rfl rfl (by decide) rfl (fun a h => ?_)
      refine s_move h rfl _ rfl rfl (by decide) rfl (fun a h => ?_)
      refine s_callB h rfl rfl rfl (by decide) Try.func29 rfl rfl rfl (along_ok w x hx i hi A l c hl (h.m.ok 1 _ rfl)) (fun a w hb h => ?_)
      have hv32 : (alongV x i l).length = 32 := by unfold alongV; split <;> first | exact alongS_length _ _ _ hx | exact z32_length
      refine s_move h rfl _ rfl rfl (by decide) rfl (fun a h => ?_)
      refine s_ext h rfl rfl rfl (by decide) rfl rfl (fun a h => ?_)
      refine s_ext h rfl rfl rfl (by decide) rfl rfl (fun a h => ?_)
      refine s_alloc h rfl rfl rfl (by decide) zi_A32_uint8 rfl (fun a w g7 h => ?_)
      refine s_stW h rfl rfl rfl ag_A32_uint8 rfl rfl (by rw [by8_length, hv32]) (by8_one _) 0 rfl (by rfl) (fun a w h => ?_)
      refine s_assign h rfl _ rfl rfl (by decide) rfl (fun a h => ?_)
      refine l_end ?_
      refine wp_seq ?_
      refine c_rs ?_ -- region 6
      refine s_move h rfl _ rfl rfl (by decide) rfl (fun a h => ?_)
      refine s_len h rfl rfl rfl (by decide) Try.underlying39 rfl (fun a h => ?_)
      refine s_bin h rfl rfl rfl (by decide) rfl rfl (ib_gtr) (fun a h => ?_)
      refine s_move h rfl _ rfl rfl (by decide) rfl (fun a h => ?_)
      apply s_or (t := 26) (d := 29) h 3 rfl
      · intro hB
        refine g_no h rfl rfl rfl rfl hB rfl (by decide) (fun a h => ?_)
        refine g_no h rfl rfl rfl rfl hB rfl (by decide) (fun a h => ?_)
        refine s_pick h rfl rfl rfl (by decide) rfl (fun _ => rfl) (fun hh => absurd (hB.symm.trans hh) (by decide)) (fun a h => ?_)
        exact h.has (by repeat (first | exact trivial | refine ⟨rfl, ?_⟩))
      · intro hB
        refine g_yes h rfl rfl rfl rfl hB ?_
        refine s_move h rfl _ rfl rfl (by decide) rfl (fun a h => ?_)
        refine g_yes h rfl rfl rfl rfl hB ?_
        refine s_bin h rfl rfl rfl (by decide) rfl rfl (ib_lss) (fun a h => ?_)
        refine s_pick h rfl rfl rfl (by decide) rfl (fun hh => absurd (hB.symm.trans hh) (by decide)) (fun _ => rfl) (fun a h => ?_)
        exact h.has (by repeat (first | exact trivial | refine ⟨rfl, ?_⟩))
      intro a w h
      refine s_move h rfl _ rfl rfl (by decide) rfl (fun a h => ?_)
      apply s_or (t := 30) (d := 36) h 6 rfl
      · intro hB
        refine g_no h rfl rfl rfl rfl hB rfl (by decide) (fun a h => ?_)
        refine g_no h rfl rfl rfl rfl hB rfl (by decide) (fun a h => ?_)
        refine g_no h rfl rfl rfl rfl hB rfl (by decide) (fun a h => ?_)
        refine g_no h rfl rfl rfl rfl hB rfl (by decide) (fun a h => ?_)
        refine g_no h rfl rfl rfl rfl hB rfl (by decide) (fun a h => ?_)
        refine s_pick h rfl rfl rfl (by decide) rfl (fun _ => rfl) (fun hh => absurd (hB.symm.trans hh) (by decide)) (fun a h => ?_)
        exact h.has (by repeat (first | exact trivial | refine ⟨rfl, ?_⟩))
      · intro hB
        refine g_yes h rfl rfl rfl rfl hB ?_
        refine s_move h rfl _ rfl rfl (by decide) rfl (fun a h => ?_)
        refine g_yes h rfl rfl rfl rfl hB ?_
        refine s_move h rfl _ rfl rfl (by decide) rfl (fun a h => ?_)
        refine g_yes h rfl rfl rfl rfl hB ?_
        refine s_len h rfl rfl rfl (by decide) Try.underlying39 rfl (fun a h => ?_)
        refine g_yes h rfl rfl rfl rfl hB ?_
        refine s_bin h rfl rfl rfl (by decide) rfl rfl (ib_shl (by omega) (shl12 _ (by simp at hB; omega))) (fun a h => ?_)
        refine g_yes h rfl rfl rfl rfl hB ?_
        refine s_bin h rfl rfl rfl (by decide) rfl rfl (ib_geq) (fun a h => ?_)
        refine s_pick h rfl rfl rfl (by decide) rfl (fun hh => absurd (hB.symm.trans hh) (by decide)) (fun _ => rfl) (fun a h => ?_)
        exact h.has (by repeat (first | exact trivial | refine ⟨rfl, ?_⟩))
      intro a w h
      refine l_end ?_
      refine c_cond h rfl (fun hb => ?_) (fun hb => ?_)
      · have hno : ¬ wayOk i l.length := by
          intro ⟨h1, h2, h3⟩
          have h4 : ((2 ^ l.length : Nat) : Int) = (2 : Int) ^ l.length := by simp
          simp only [Bool.or_eq_true, decide_eq_true_eq] at hb
          omega
        refine c_rs ?_ -- region 7
        refine s_move h rfl _ rfl rfl (by decide) rfl (fun a h => ?_)
        refine s_bin h rfl rfl rfl (by decide) rfl rfl (ib_eql) (fun a h => ?_)
        refine s_move h rfl _ rfl rfl (by decide) rfl (fun a h => ?_)
        apply s_and (t := 39) (d := 43) h 4 rfl
        · intro hB
          refine g_yes h rfl rfl rfl rfl hB ?_
          refine s_ldW h rfl rfl rfl (by decide) ag_A32_uint8 rfl 0 rfl (by rw [by8_length, hv32]) (fun a h => ?_)
          refine g_yes h rfl rfl rfl rfl hB ?_
          refine s_build h rfl rfl rfl (by decide) [] rfl (by8 z32) (by kernel_rfl) (fun a h => ?_)
          refine g_yes h rfl rfl rfl rfl hB ?_
          refine s_eqA h rfl rfl rfl (by decide) Try.underlying40 Try.underlying5 sz_uint8 (by kernel_rfl) rfl rfl hv32 z32_length (fun a h => ?_)
          refine s_pick h rfl rfl rfl (by decide) rfl (fun _ => rfl) (fun hh => absurd (hB.symm.trans hh) (by decide)) (fun a h => ?_)
          exact h.has (by repeat (first | exact trivial | refine ⟨rfl, ?_⟩))
        · intro hB
          refine g_no h rfl rfl rfl rfl hB rfl (by decide) (fun a h => ?_)
          refine g_no h rfl rfl rfl rfl hB rfl (by decide) (fun a h => ?_)
          refine g_no h rfl rfl rfl rfl hB rfl (by decide) (fun a h => ?_)
          refine s_pick h rfl rfl rfl (by decide) rfl (fun hh => absurd (hB.symm.trans hh) (by decide)) (fun _ => rfl) (fun a h => ?_)
          exact h.has (by repeat (first | exact trivial | refine ⟨rfl, ?_⟩))
        intro a w h
        refine s_assign h rfl _ rfl rfl (by decide) rfl (fun a h => ?_)
        refine l_end ?_
        refine wp_ret ?_
        refine e_thenR ?_
        refine r_ret1 h rfl (rv_tmp h rfl) ⟨?_, h.m.below⟩
        unfold errV alongV
        rw [if_neg hno, if_neg hno]
        rfl
      · have hok : wayOk i l.length := by
          have h4 : ((2 ^ l.length : Nat) : Int) = (2 : Int) ^ l.length := by simp
          simp only [Bool.or_eq_false_iff, decide_eq_false_iff_not] at hb
          unfold wayOk
          omega
        have hn12 := hok.1
        obtain ⟨n, rfl⟩ : ∃ n : Nat, i = (n : Int) := ⟨i.toNat, by have := hok.2.1; omega⟩
        refine wp_skip ?_
        refine e_thenN ?_
        refine wp_seq ?_
        refine c_rs ?_ -- region 8
        refine s_move h rfl _ rfl rfl (by decide) rfl (fun a h => ?_)
        refine s_len h rfl rfl rfl (by decide) Try.underlying39 rfl (fun a h => ?_)
        refine s_move h rfl _ rfl rfl (by decide) rfl (fun a h => ?_)
        refine l_end ?_
        refine wp_block ?_
        refine c_loop (fun m a w => ∃ (k i' : Nat) (x' : List UInt8), k + m = l.length ∧ (i' : Int) ≤ 9223372036854775807 ∧ x'.length = 32 ∧ alongS x' i' (l.drop k) = alongS x n l ∧ St 69 w0 (fun _ => False) [(1, .int .i64 (i' : Int)), (3, .pointer (some ⟨g3, 0, none⟩)), (7, .pointer (some ⟨g7, 0, none⟩)), (8, .int .i64 (errV (wayOk n l.length))), (44, .slice A l.length c), (45, .int .i64 (l.length : Int)), (46, .int .i64 (k : Int))] [.box g7 40 (by8 (alongV x n l)), .box g3 40 (by8 x'), .ro (rdP A (by8 l.flatten))] a w) l.length ⟨0, n, x, by omega, hi.2, hx, by rw [List.drop_zero], h.has (by exact ⟨rfl, rfl, rfl, rfl, rfl, rfl, rfl, trivial⟩)⟩ (fun m a w hI => ?_)
        obtain ⟨k, i', x', hk, hi', hx', hal, h⟩ := hI
        refine c_rs ?_ -- region 9
        refine s_bin h rfl rfl rfl (by decide) rfl rfl (ib_lss) (fun a h => ?_)
        refine l_end ?_
        refine c_cs h rfl (fun hb => ?_) (fun hb => ?_)
        · have hlt : k < l.length := by have := of_decide_eq_true hb; omega
          obtain ⟨b, off, hA⟩ := (show Rd w A (by8 l.flatten) from h.m.ok 2 _ rfl).addr (by rw [by8_length, flat_len hl]; omega)
          subst hA
          have ho32 := hl.at hlt
          have hsum : w.rangeAt b (off + k * 32) (by8 l[k]) := Rd.sum hl (h.m.ok 2 _ rfl) hlt
          rw [List.drop_eq_getElem_cons hlt, alongS] at hal
          refine wp_skip ?_
          refine e_thenN ?_
          refine wp_seq ?_
          refine wp_block ?_
          refine c_rs ?_ -- region 10
          refine s_iaddr h rfl rfl rfl (by decide) Try.underlying39 sz_A32_uint8 rfl rfl (m := k) (by omega) (by omega) (r := off + k * 32) (by omega) (fun a h => ?_)
          refine s_ldR h rfl rfl rfl (by decide) ag_A32_uint8 rfl (by8 l[k]) (by rw [by8_length, ho32]) hsum (fun a h => ?_)
          refine s_alloc h rfl rfl rfl (by decide) zi_A32_uint8 rfl (fun a w g10 h => ?_)
          refine s_stW h rfl rfl rfl ag_A32_uint8 rfl rfl (by rw [by8_length, ho32]) (by8_one _) 0 rfl (by rfl) (fun a w h => ?_)
          refine l_end ?_
          refine wp_seq ?_
          refine c_rs ?_ -- region 11
          refine s_move h rfl _ rfl rfl (by decide) rfl (fun a h => ?_)
          refine s_bin h rfl rfl rfl (by decide) rfl rfl (ib_rem (by omega)) (fun a h => ?_)
          refine s_bin h rfl rfl rfl (by decide) rfl rfl (ib_eql) (fun a h => ?_)
          refine l_end ?_
          refine c_cond h rfl (fun hb => ?_) (fun hb => ?_)
          · have hev : i' % 2 = 0 := by have := of_decide_eq_true hb; omega
            rw [if_pos hev] at hal
            refine c_r ?_ -- region 12
            refine s_ldW h rfl rfl rfl (by decide) ag_A32_uint8 rfl 2 rfl (by rw [by8_length, hx']) (fun a h => ?_)
            refine s_ldW h rfl rfl rfl (by decide) ag_A32_uint8 rfl 0 rfl (by rw [by8_length, ho32]) (fun a h => ?_)
            refine s_callB h rfl rfl rfl (by decide) Try.func27 rfl rfl rfl (rpair_ok w x' l[k] hx' ho32) (fun a w hb h => ?_)
            refine s_stW h rfl rfl rfl ag_A32_uint8 rfl rfl (by rw [by8_length, pairS_length]) (by8_one _) 2 rfl (by rw [by8_length, hx']) (fun a w h => ?_)
            refine l_nil ?_
            refine e_thenN ?_
            refine c_r ?_ -- region 14
            refine s_move h rfl _ rfl rfl (by decide) rfl (fun a h => ?_)
            refine s_bin h rfl rfl rfl (by decide) rfl rfl (ib_quo (by omega)) (fun a h => ?_)
            refine s_assign h rfl _ rfl rfl (by decide) rfl (fun a h => ?_)
            refine l_nil ?_
            refine e_blkN ?_
            refine e_thenN ?_
            refine c_r ?_ -- region 15
            refine s_bin h rfl rfl rfl (by decide) rfl rfl (ib_add (nw64 (by omega))) (fun a h => ?_)
            refine s_move h rfl _ rfl rfl (by decide) rfl (fun a h => ?_)
            refine l_nil ?_
            exact e_thenN ⟨m - 1, by omega, k + 1, i' / 2, _, by omega, by omega, pairS_length _ _, hal, (h.pick [1, 2, 3] (by decide) rfl).has (by exact ⟨rfl, rfl, rfl, rfl, rfl, rfl, rfl, trivial⟩)⟩
          · have hev : ¬ i' % 2 = 0 := by have := of_decide_eq_false hb; omega
            rw [if_neg hev] at hal
            refine c_r ?_ -- region 13
            refine s_ldW h rfl rfl rfl (by decide) ag_A32_uint8 rfl 0 rfl (by rw [by8_length, ho32]) (fun a h => ?_)
            refine s_ldW h rfl rfl rfl (by decide) ag_A32_uint8 rfl 2 rfl (by rw [by8_length, hx']) (fun a h => ?_)
            refine s_callB h rfl rfl rfl (by decide) Try.func27 rfl rfl rfl (rpair_ok w l[k] x' ho32 hx') (fun a w hb h => ?_)
            refine s_stW h rfl rfl rfl ag_A32_uint8 rfl rfl (by rw [by8_length, pairS_length]) (by8_one _) 2 rfl (by rw [by8_length, hx']) (fun a w h => ?_)
            refine l_nil ?_
            refine e_thenN ?_
            refine c_r ?_ -- region 14
            refine s_move h rfl _ rfl rfl (by decide) rfl (fun a h => ?_)
            refine s_bin h rfl rfl rfl (by decide) rfl rfl (ib_quo (by omega)) (fun a h => ?_)
            refine s_assign h rfl _ rfl rfl (by decide) rfl (fun a h => ?_)
            refine l_nil ?_
            refine e_blkN ?_
            refine e_thenN ?_
            refine c_r ?_ -- region 15
            refine s_bin h rfl rfl rfl (by decide) rfl rfl (ib_add (nw64 (by omega))) (fun a h => ?_)
            refine s_move h rfl _ rfl rfl (by decide) rfl (fun a h => ?_)
            refine l_nil ?_
            exact e_thenN ⟨m - 1, by omega, k + 1, i' / 2, _, by omega, by omega, pairS_length _ _, hal, (h.pick [1, 2, 3] (by decide) rfl).has (by exact ⟨rfl, rfl, rfl, rfl, rfl, rfl, rfl, trivial⟩)⟩
        · have hge : k = l.length := by have := of_decide_eq_false hb; omega
          subst hge
          rw [List.drop_length] at hal
          refine wp_exit ?_
          refine e_thenX ?_
          refine e_thenX ?_
          refine e_blkX ?_
          refine e_thenN ?_
          refine c_rs ?_ -- region 16
          refine s_move h rfl _ rfl rfl (by decide) rfl (fun a h => ?_)
          refine s_bin h rfl rfl rfl (by decide) rfl rfl (ib_eql) (fun a h => ?_)
          refine s_move h rfl _ rfl rfl (by decide) rfl (fun a h => ?_)
          apply s_and (t := 64) (d := 68) h 4 rfl
          · intro hB
            refine g_yes h rfl rfl rfl rfl hB ?_
            refine s_ldW h rfl rfl rfl (by decide) ag_A32_uint8 rfl 0 rfl (by rw [by8_length, hv32]) (fun a h => ?_)
            refine g_yes h rfl rfl rfl rfl hB ?_
            refine s_ldW h rfl rfl rfl (by decide) ag_A32_uint8 rfl 1 rfl (by rw [by8_length, hx']) (fun a h => ?_)
            refine g_yes h rfl rfl rfl rfl hB ?_
            refine s_eqA h rfl rfl rfl (by decide) Try.underlying40 Try.underlying5 sz_uint8 (by kernel_rfl) rfl rfl hv32 hx' (fun a h => ?_)
            refine s_pick h rfl rfl rfl (by decide) rfl (fun _ => rfl) (fun hh => absurd (hB.symm.trans hh) (by decide)) (fun a h => ?_)
            exact h.has (by repeat (first | exact trivial | refine ⟨rfl, ?_⟩))
          · intro hB
            refine g_no h rfl rfl rfl rfl hB rfl (by decide) (fun a h => ?_)
            refine g_no h rfl rfl rfl rfl hB rfl (by decide) (fun a h => ?_)
            refine g_no h rfl rfl rfl rfl hB rfl (by decide) (fun a h => ?_)
            refine s_pick h rfl rfl rfl (by decide) rfl (fun hh => absurd (hB.symm.trans hh) (by decide)) (fun _ => rfl) (fun a h => ?_)
            exact h.has (by repeat (first | exact trivial | refine ⟨rfl, ?_⟩))
          intro a w h
          refine s_assign h rfl _ rfl rfl (by decide) rfl (fun a h => ?_)
          refine l_end ?_
          refine wp_ret ?_
          refine r_ret1 h rfl (rv_tmp h rfl) ⟨?_, h.m.below⟩
          unfold errV alongV
          rw [if_pos hok, if_pos hok, Int.toNat_natCast, ← hal, alongS]
          simp
theorem merkleAlong_ok (v : Value) (x : List UInt8) (i : Int) (A : Option Addr) (l : List (List UInt8)) (cp : Nat) (w : World) (hK : kSum.K w x v.cells.toList) (hi : -9223372036854775808 ≤ i ∧ i ≤ 9223372036854775807) (hat : kSum.At w A l) (hc : l.length ≤ cp) (hm : cp ≤ maxLen) :
    Calls Try.prog 6 #[v, .int .i64 i, .slice A l.length cp] w fun e w' => e = .returned (.bool true) ∧ Below w.heap.size w w' := by
  obtain ⟨hx, rfl⟩ := sum_in hK
  obtain ⟨hl, hr⟩ := sums_in hat
  exact merkleAlong_walk w x hx i hi A l cp hl hr
end Go.Proofs.Ytlgcfnbhnpnkiaa
