/- The statement MerkleRoots. -/
import Derived.Test.YtlgcfnbhnpnkiaaMk5
import Derived.Test.YtlgcfnbhnpnkiaaMkL
set_option linter.unusedVariables false
set_option linter.unusedSimpArgs false
namespace Go.Proofs.Ytlgcfnbhnpnkiaa
open Go.RowKit

def kAt : Kn (List Int) := Kn.int.arr 2
theorem opens_at : Opens Try.prog 51 kAt := Opens.arr Try.underlying51 (by kernel_rfl) (by kernel_rfl) (Opens.int Try.underlying3)
theorem at_in {w : World} {v : Value} {l : List Int} (h : kAt.K w l v.cells.toList) : ∃ n i : Int, l = [n, i] ∧ v = .agg #[.int .i64 n, .int .i64 i] ∧ (-9223372036854775808 ≤ n ∧ n ≤ 9223372036854775807) ∧ (-9223372036854775808 ≤ i ∧ i ≤ 9223372036854775807) := by
  obtain ⟨h1, h2, h3⟩ := h
  match l, h1 with
  | [n, i], _ =>
    refine ⟨n, i, rfl, ?_⟩
    have e0 := h3 0 (by simp)
    have e1 := h3 1 (by simp)
    have hl : v.cells.toList.length = 2 := by simpa [Kn.int] using h2
    cases v
    case agg xs =>
      obtain ⟨xs⟩ := xs
      match xs, hl with
      | [x, y], _ =>
        have f0 : [x] = [.int .i64 n] ∧ -9223372036854775808 ≤ n ∧ n ≤ 9223372036854775807 := e0
        have f1 : [y] = [.int .i64 i] ∧ -9223372036854775808 ≤ i ∧ i ≤ 9223372036854775807 := e1
        obtain ⟨f0, g0⟩ := f0
        obtain ⟨f1, g1⟩ := f1
        cases f0
        cases f1
        exact ⟨rfl, g0, g1⟩
    all_goals simp [Value.cells] at hl
set_option maxRecDepth 100000 in
theorem lleaf_ok (w0 : World) (n i : Int) (hn : -9223372036854775808 ≤ n ∧ n ≤ 9223372036854775807) (hi : -9223372036854775808 ≤ i ∧ i ≤ 9223372036854775807) (A : Option Addr) (b : List UInt8) (c : Nat) (hr : Rd w0 A (by8 b)) (hb1 : b.length ≤ 1099511627000) :
    Calls Try.prog 31 #[.agg #[.int .i64 n, .int .i64 i], .slice A b.length c] w0 fun e w' => e = .returned (.agg (by8 (leafS n i b)).toArray) ∧ Below w0.heap.size w0 w' := by
  refine c_enter Try.func31 rfl 11 rfl (by simp) (fun _ => False) _ rfl (fun a h => ?_)
  have h := h.mem (h.m.arg (rdP A (by8 b)) hr (fun _ _ hh => hh))
  have h32 := leafS_length n i b
  refine c_rs ?_ -- region 0
  refine s_box h rfl rfl rfl (by decide) rfl rfl (fun a w g2 h => ?_)
  refine s_alloc h rfl rfl rfl (by decide) zi_A32_uint8 rfl (fun a w g4 h => ?_)
  refine l_end ?_
  refine c_rs ?_ -- region 1
  refine s_iaddrA h rfl rfl rfl (by decide) Try.underlying51 sz_int rfl rfl (m := 0) rfl (by decide) (r := 0) (by omega) (fun a h => ?_)
  refine s_ldb h rfl rfl rfl (by decide) Try.underlying3 rfl rfl 1 rfl (by rfl) (fun a h => ?_)
  refine s_iaddrA h rfl rfl rfl (by decide) Try.underlying51 sz_int rfl rfl (m := 1) rfl (by decide) (r := 1) (by omega) (fun a h => ?_)
  refine s_ldb h rfl rfl rfl (by decide) Try.underlying3 rfl rfl 1 rfl (by rfl) (fun a h => ?_)
  refine s_move h rfl _ rfl rfl (by decide) rfl (fun a h => ?_)
  refine s_callB h rfl rfl rfl (by decide) Try.func45 rfl rfl rfl (rleaf_ok w n i hn hi A b c (h.m.ok 2 _ rfl) hb1) (fun a w hb h => ?_)
  refine s_stW h rfl rfl rfl ag_A32_uint8 rfl rfl (by first | assumption | (rw [by8_length]; assumption) | (rw [by8_length]; rfl) | rfl | decide) (by first | exact by8_one _ | simp [Value.oneCell']) 0 rfl (by first | assumption | (rw [by8_length]; assumption) | (rw [by8_length]; rfl) | rfl | decide) (fun a w h => ?_)
  refine l_end ?_
  refine wp_ret ?_
  exact r_ret1 h rfl (rv_cellA h rfl 0 rfl ag_A32_uint8 (by first | assumption | (rw [by8_length]; assumption) | (rw [by8_length]; rfl) | rfl | decide)) ⟨rfl, h.m.below⟩
set_option maxRecDepth 100000 in
theorem merkleRoots_walk (w0 : World) (A : Option Addr) (l : List (List UInt8)) (c : Nat) (hl : S32 l) (hr : Rd w0 A (by8 l.flatten)) (n i : Int) (hn : -9223372036854775808 ≤ n ∧ n ≤ 9223372036854775807) (hi : -9223372036854775808 ≤ i ∧ i ≤ 9223372036854775807) (Ab : Option Addr) (b : List UInt8) (cb : Nat) (hrb : Rd w0 Ab (by8 b)) (hcb : b.length ≤ cb) (hcb2 : cb ≤ maxLen) :
    Calls Try.prog 7 #[.slice A l.length c, .agg #[.int .i64 n, .int .i64 i], .slice Ab b.length cb] w0 fun e w' => e = .returned (.bool true) ∧ Below w0.heap.size w0 w' := by
  refine c_enter Try.func7 rfl 52 rfl (by simp) (fun _ => False) _ rfl (fun a h => ?_)
  have h := h.mem (h.m.arg (rdP A (by8 l.flatten)) hr (fun _ _ hh => hh))
  have h := h.mem (h.m.arg (rdP Ab (by8 b)) hrb (fun _ _ hh => hh))
  have h32 := leafS_length n i b
  have hv32 : (rootV l).length = 32 := by unfold rootV; split <;> first | exact rootS_length hl | exact z32_length
  have hs32 := rootS_length hl
  refine c_rs ?_ -- region 0
  refine s_box h rfl rfl rfl (by decide) rfl rfl (fun a w g4 h => ?_)
  refine s_assign h rfl _ rfl rfl (by decide) rfl (fun a h => ?_)
  refine l_end ?_
  refine wp_seq ?_
  refine c_rs ?_ -- region 1
  refine s_callB h rfl rfl rfl (by decide) Try.func23 rfl rfl rfl (awake23_ok w) (fun a w hb h => ?_)
  refine s_boolop h rfl rfl rfl (by decide) rfl (fun a h => ?_)
  refine l_end ?_
  refine c_cond h rfl (fun hb => ?_) (fun hb => ?_)
  · cases hb
  · refine wp_skip ?_
    refine e_thenN ?_
    refine wp_seq ?_
    refine c_rs ?_ -- region 3
    refine s_move h rfl _ rfl rfl (by decide) rfl (fun a h => ?_)
    refine s_len h rfl rfl rfl (by decide) Try.underlying39 rfl (fun a h => ?_)
    refine s_bin h rfl rfl rfl (by decide) rfl rfl (ib_gtr) (fun a h => ?_)
    refine s_move h rfl _ rfl rfl (by decide) rfl (fun a h => ?_)
    apply s_or (t := 14) (d := 18) h 4 rfl
    · intro hB
      refine g_no h rfl rfl rfl rfl hB rfl (by decide) (fun a h => ?_)
      refine g_no h rfl rfl rfl rfl hB rfl (by decide) (fun a h => ?_)
      refine g_no h rfl rfl rfl rfl hB rfl (by decide) (fun a h => ?_)
      refine s_pick h rfl rfl rfl (by decide) rfl (fun _ => rfl) (fun hh => absurd (hB.symm.trans hh) (by decide)) (fun a h => ?_)
      exact h.has (by repeat (first | exact trivial | refine ⟨rfl, ?_⟩))
    · intro hB
      refine g_yes h rfl rfl rfl rfl hB ?_
      refine s_move h rfl _ rfl rfl (by decide) rfl (fun a h => ?_)
      refine g_yes h rfl rfl rfl rfl hB ?_
      refine s_len h rfl rfl rfl (by decide) Try.underlying52 rfl (fun a h => ?_)
      refine g_yes h rfl rfl rfl rfl hB ?_
      refine s_bin h rfl rfl rfl (by decide) rfl rfl (ib_gtr) (fun a h => ?_)
      refine s_pick h rfl rfl rfl (by decide) rfl (fun hh => absurd (hB.symm.trans hh) (by decide)) (fun _ => rfl) (fun a h => ?_)
      exact h.has (by repeat (first | exact trivial | refine ⟨rfl, ?_⟩))
    intro a w h
    refine l_end ?_
    refine c_cond h rfl (fun hb => ?_) (fun hb => ?_)
    · have hbig := hb
      refine c_rs ?_ -- region 4
      refine s_assign h rfl _ rfl rfl (by decide) rfl (fun a h => ?_)
      refine l_end ?_
      refine wp_ret ?_
      refine e_thenR ?_
      exact r_ret1 h rfl (rv_tmp h rfl) ⟨rfl, h.m.below⟩
    · have hsm : l.length ≤ 24 ∧ b.length ≤ 300 := by simp only [Bool.or_eq_false_iff, decide_eq_false_iff_not] at hb; omega
      obtain ⟨hl24, hb300⟩ := hsm
      refine wp_skip ?_
      refine e_thenN ?_
      refine c_rs ?_ -- region 5
      refine s_move h rfl _ rfl rfl (by decide) rfl (fun a h => ?_)
      refine s_callB h rfl rfl rfl (by decide) Try.func24 rfl rfl rfl (root_ok w A l c hl (h.m.ok 2 _ rfl)) (fun a w hb h => ?_)
      refine s_move h rfl _ rfl rfl (by decide) rfl (fun a h => ?_)
      refine s_ext h rfl rfl rfl (by decide) rfl rfl (fun a h => ?_)
      refine s_ext h rfl rfl rfl (by decide) rfl rfl (fun a h => ?_)
      refine s_alloc h rfl rfl rfl (by decide) zi_A32_uint8 rfl (fun a w g7 h => ?_)
      refine s_stW h rfl rfl rfl ag_A32_uint8 rfl rfl (by first | assumption | (rw [by8_length]; assumption) | (rw [by8_length]; rfl) | rfl | decide) (by first | exact by8_one _ | simp [Value.oneCell']) 0 rfl (by first | assumption | (rw [by8_length]; assumption) | (rw [by8_length]; rfl) | rfl | decide) (fun a w h => ?_)
      refine s_assign h rfl _ rfl rfl (by decide) rfl (fun a h => ?_)
      refine l_end ?_
      refine wp_seq ?_
      refine wp_seq ?_
      -- region 6 DRAWS
      refine d_start h (Mem _ _ _) 10 10 rfl (by kernel_rfl) (fun _ _ _ _ _ h => h) (fun _ h => h) (fun Q a w HE HN h HS => ?_)
      refine d_takeP h (fun _ => HS) HN 0 rfl (by kernel_rfl) (by kernel_rfl) (by kernel_rfl) (by decide) rfl rfl (by decide) (fun w' => x_iaddrA h.k rfl Try.underlying51 sz_int rfl rfl (m := 0) rfl (by decide) (r := 0) (by omega)) (fun a h => ?_)
      refine d_take h HS HN 1 rfl (by kernel_rfl) (by kernel_rfl) (by kernel_rfl) (by kernel_rfl) (by kernel_rfl) rfl rfl (by decide) (fun w' hw => x_ld h.k rfl Try.underlying3 rfl rfl ((hw.cell (i := 1) rfl _).trans (by rfl))) (fun a h => ?_)
      refine d_takeP h (fun _ => HS) HN 2 rfl (by kernel_rfl) (by kernel_rfl) (by kernel_rfl) (by decide) rfl rfl (by decide) (fun w' => x_iaddrA h.k rfl Try.underlying51 sz_int rfl rfl (m := 1) rfl (by decide) (r := 1) (by omega)) (fun a h => ?_)
      refine d_take h HS HN 3 rfl (by kernel_rfl) (by kernel_rfl) (by kernel_rfl) (by kernel_rfl) (by kernel_rfl) rfl rfl (by decide) (fun w' hw => x_ld h.k rfl Try.underlying3 rfl rfl ((hw.cell (i := 1) rfl _).trans (by rfl))) (fun a h => ?_)
      refine d_takeP h (fun _ => HS) HN 4 rfl (by kernel_rfl) (by kernel_rfl) (by kernel_rfl) (by decide) rfl rfl (by decide) (fun w' => x_move h.k _ rfl rfl) (fun a h => ?_)
      refine d_take h HS HN 6 rfl (by kernel_rfl) (by kernel_rfl) (by kernel_rfl) (by kernel_rfl) (by kernel_rfl) rfl rfl (by decide) (fun w' hw => x_ldR h.k rfl ag_A2_int rfl _ (by first | assumption | (rw [by8_length]; assumption) | (rw [by8_length]; rfl) | rfl | decide) (hw.range0 (i := 1) rfl)) (fun a h => ?_)
      refine d_takeP h (fun _ => HS) HN 7 rfl (by kernel_rfl) (by kernel_rfl) (by kernel_rfl) (by decide) rfl rfl (by decide) (fun w' => x_move h.k _ rfl rfl) (fun a h => ?_)
      refine d_alone 5 rfl (by kernel_rfl) (fun K hK => ?_)
      have hC1 := leaf_ok w n i hn hi Ab b cb (h.m.ok 2 _ rfl) hcb (by unfold maxLen at hcb2; omega) (by omega)
      refine s_callB h rfl rfl rfl (by decide) Try.func30 rfl rfl rfl (hC1) (fun a w hb h => ?_)
      refine hK _ _ (fun _ _ => HS.ext hb) ?_
      replace HS := HS.ext hb
      clear hK
      refine d_alone 8 rfl (by kernel_rfl) (fun K hK => ?_)
      have hC2 := lleaf_ok w n i hn hi Ab b cb (h.m.ok 2 _ rfl) (by omega)
      refine s_callB h rfl rfl rfl (by decide) Try.func31 rfl rfl rfl (hC2) (fun a w hb h => ?_)
      refine hK _ _ (fun _ _ => HS.ext hb) ?_
      replace HS := HS.ext hb
      clear hK
      refine d_takeP h (fun _ => HS) HN 9 rfl (by kernel_rfl) (by kernel_rfl) (by kernel_rfl) (by decide) rfl rfl (by decide) (fun w' => x_neA h.k rfl Try.underlying40 Try.underlying5 sz_uint8 (by kernel_rfl) rfl rfl (by first | assumption | (rw [by8_length]; assumption) | (rw [by8_length]; rfl) | rfl | decide) (by first | assumption | (rw [by8_length]; assumption) | (rw [by8_length]; rfl) | rfl | decide)) (fun a h => ?_)
      refine d_done (by kernel_rfl) (HE _ _ ?_) _
      refine e_thenN ?_
      refine c_cond h rfl (fun hb => ?_) (fun hb => ?_)
      · simp at hb
      · refine wp_skip ?_
        refine e_thenN ?_
        refine wp_seq ?_
        refine c_rs ?_ -- region 8
        refine s_move h rfl _ rfl rfl (by decide) rfl (fun a h => ?_)
        refine s_len h rfl rfl rfl (by decide) Try.underlying39 rfl (fun a h => ?_)
        refine s_bin h rfl rfl rfl (by decide) rfl rfl (ib_eql) (fun a h => ?_)
        refine l_end ?_
        refine c_cond h rfl (fun hb => ?_) (fun hb => ?_)
        · have hl0 : l = [] := by have := of_decide_eq_true hb; exact List.eq_nil_of_length_eq_zero (by omega)
          subst hl0
          refine c_rs ?_ -- region 9
          refine s_move h rfl _ rfl rfl (by decide) rfl (fun a h => ?_)
          refine s_bin h rfl rfl rfl (by decide) rfl rfl (ib_eql) (fun a h => ?_)
          refine s_move h rfl _ rfl rfl (by decide) rfl (fun a h => ?_)
          apply s_and (t := 39) (d := 43) h 4 rfl
          · intro hB
            refine g_yes h rfl rfl rfl rfl hB ?_
            refine s_ldW h rfl rfl rfl (by decide) ag_A32_uint8 rfl 0 rfl (by first | assumption | (rw [by8_length]; assumption) | (rw [by8_length]; rfl) | rfl | decide) (fun a h => ?_)
            refine g_yes h rfl rfl rfl rfl hB ?_
            refine s_build h rfl rfl rfl (by decide) [] rfl (by8 z32) (by kernel_rfl) (fun a h => ?_)
            refine g_yes h rfl rfl rfl rfl hB ?_
            refine s_eqA h rfl rfl rfl (by decide) Try.underlying40 Try.underlying5 sz_uint8 (by kernel_rfl) rfl rfl hv32 z32_length (fun a h => ?_)
            refine s_pick h rfl rfl rfl (by decide) rfl (fun _ => rfl) (fun hh => absurd (hB.symm.trans hh) (by decide)) (fun a h => ?_)
            exact h.has (by repeat (first | exact trivial | refine ⟨rfl, ?_⟩))
          · intro hB
            refine g_no h rfl rfl rfl rfl hB rfl (by decide) (fun a h => ?_)
            refine g_no h rfl rfl rfl rfl hB rfl (by decide) (fun a h => ?_)
            refine g_no h rfl rfl rfl rfl hB rfl (by decide) (fun a h => ?_)
            refine s_pick h rfl rfl rfl (by decide) rfl (fun hh => absurd (hB.symm.trans hh) (by decide)) (fun _ => rfl) (fun a h => ?_)
            exact h.has (by repeat (first | exact trivial | refine ⟨rfl, ?_⟩))
          intro a w h
          refine s_assign h rfl _ rfl rfl (by decide) rfl (fun a h => ?_)
          refine l_end ?_
          refine wp_ret ?_
          refine e_thenR ?_
          refine r_ret1 h rfl (rv_tmp h rfl) ⟨?_, h.m.below⟩
          have e1 : rootV [] = z32 := rfl
          rw [e1]
          rfl
        · have hl1 : 1 ≤ l.length := by have := of_decide_eq_false hb; omega
          have hok : okN l.length := ⟨hl1, by omega⟩
          have hrv : rootV l = rootS l := by unfold rootV; rw [if_pos hok]
          have he0 : errV (okN l.length) = 0 := by unfold errV; rw [if_pos hok]
          refine wp_skip ?_
          refine e_thenN ?_
          refine wp_seq ?_
          -- region 10 DRAWS
          refine c_fin (fun a w => St 52 w0 (fun _ => False) [(6, .bool true)] [] a w) ?_ (fun a w h => ?_)
          · refine d_start h (Mem _ _ _) 9 9 rfl (by kernel_rfl) (fun _ _ _ _ _ h => h) (fun _ h => h) (fun Q a w HE HN h HS => ?_)
            refine d_takeP h (fun _ => HS) HN 0 rfl (by kernel_rfl) (by kernel_rfl) (by kernel_rfl) (by decide) rfl rfl (by decide) (fun w' => x_move h.k _ rfl rfl) (fun a h => ?_)
            refine d_takeP h (fun _ => HS) HN 1 rfl (by kernel_rfl) (by kernel_rfl) (by kernel_rfl) (by decide) rfl rfl (by decide) (fun w' => x_bin h.k rfl rfl rfl (ib_eql)) (fun a h => ?_)
            refine d_takeP h (fun _ => HS) HN 2 rfl (by kernel_rfl) (by kernel_rfl) (by kernel_rfl) (by decide) rfl rfl (by decide) (fun w' => x_move h.k _ rfl rfl) (fun a h => ?_)
            refine d_split (t := 46) h rfl (fun hB2 => ?_) (fun hB2 => ?_)
            · refine d_takeY h HS HN 3 rfl (by kernel_rfl) (by kernel_rfl) (by kernel_rfl) (by kernel_rfl) (by kernel_rfl) (by rw [g_want h rfl rfl rfl rfl hB2]; rfl) rfl (by decide) (fun w' hw => x_ldR h.k rfl ag_A32_uint8 rfl _ (by first | assumption | (rw [by8_length]; assumption) | (rw [by8_length]; rfl) | rfl | decide) (hw.range0 (i := 0) rfl)) (fun a h => ?_)
              refine d_takeP h (fun _ => HS) HN 4 rfl (by kernel_rfl) (by kernel_rfl) (by kernel_rfl) (by decide) (by rw [g_want h rfl rfl rfl rfl hB2]; rfl) rfl (by decide) (fun w' => x_move h.k _ rfl rfl) (fun a h => ?_)
              refine d_alone 5 rfl (by kernel_rfl) (fun K hK => ?_)
              refine g_yes (j := 2) (t := 46) h rfl rfl rfl rfl hB2 ?_
              have hC3 := rroot_ok w A l c hl (h.m.ok 3 _ rfl) hl1 (by omega)
              refine s_callB h rfl rfl rfl (by decide) Try.func32 rfl rfl rfl (hC3) (fun a w hb h => ?_)
              refine hK _ _ (fun _ _ => HS.ext hb) ?_
              replace HS := HS.ext hb
              clear hK
              refine d_takeP h (fun _ => HS) HN 6 rfl (by kernel_rfl) (by kernel_rfl) (by kernel_rfl) (by decide) (by rw [g_want h rfl rfl rfl rfl hB2]; rfl) rfl (by decide) (fun w' => x_eqA h.k rfl Try.underlying40 Try.underlying5 sz_uint8 (by kernel_rfl) rfl rfl (by first | assumption | (rw [by8_length]; assumption) | (rw [by8_length]; rfl) | rfl | decide) (by first | assumption | (rw [by8_length]; assumption) | (rw [by8_length]; rfl) | rfl | decide)) (fun a h => ?_)
              refine d_takeP h (fun _ => HS) HN 7 rfl (by kernel_rfl) (by kernel_rfl) (by kernel_rfl) (by decide) rfl rfl (by decide) (fun w' => x_pick (u' := undef) h.k rfl rfl (fun _ => rfl) (fun hh => absurd (hB2.symm.trans hh) (by decide))) (fun a h => ?_)
              refine d_takeP h (fun _ => HS) HN 8 rfl (by kernel_rfl) (by kernel_rfl) (by kernel_rfl) (by decide) rfl rfl (by decide) (fun w' => x_assign h.k _ rfl rfl) (fun a h => ?_)
              refine d_done (by kernel_rfl) (HE _ _ ?_) _
              have hd : decide (rootV l = rootS l) = true := decide_eq_true hrv
              first | exact absurd hB2 (by rw [he0]; decide) | (rw [hd] at h; exact (h.pick [] (by decide) rfl).has (by exact ⟨rfl, trivial⟩))
            · refine d_takeNP h (fun _ => HS) HN 3 rfl (by kernel_rfl) (by kernel_rfl) (by kernel_rfl) (by decide) (by rw [g_want h rfl rfl rfl rfl hB2]; rfl) rfl (by decide) (fun a h => ?_)
              refine d_takeNP h (fun _ => HS) HN 4 rfl (by kernel_rfl) (by kernel_rfl) (by kernel_rfl) (by decide) (by rw [g_want h rfl rfl rfl rfl hB2]; rfl) rfl (by decide) (fun a h => ?_)
              have hC3 := rroot_ok w A l c hl (h.m.ok 3 _ rfl) hl1 (by omega)
              refine d_takeNP h (fun _ => HS) HN 5 rfl (by kernel_rfl) (by kernel_rfl) (by kernel_rfl) (by decide) (by rw [g_want h rfl rfl rfl rfl hB2]; rfl) rfl (by decide) (fun a h => ?_)
              refine d_takeNP h (fun _ => HS) HN 6 rfl (by kernel_rfl) (by kernel_rfl) (by kernel_rfl) (by decide) (by rw [g_want h rfl rfl rfl rfl hB2]; rfl) rfl (by decide) (fun a h => ?_)
              refine d_takeP h (fun _ => HS) HN 7 rfl (by kernel_rfl) (by kernel_rfl) (by kernel_rfl) (by decide) rfl rfl (by decide) (fun w' => x_pick (u' := undef) h.k rfl rfl (fun hh => absurd (hB2.symm.trans hh) (by decide)) (fun _ => rfl)) (fun a h => ?_)
              refine d_takeP h (fun _ => HS) HN 8 rfl (by kernel_rfl) (by kernel_rfl) (by kernel_rfl) (by decide) rfl rfl (by decide) (fun w' => x_assign h.k _ rfl rfl) (fun a h => ?_)
              refine d_done (by kernel_rfl) (HE _ _ ?_) _
              have hd : decide (rootV l = rootS l) = true := decide_eq_true hrv
              first | exact absurd hB2 (by rw [he0]; decide) | (rw [hd] at h; exact (h.pick [] (by decide) rfl).has (by exact ⟨rfl, trivial⟩))
          refine e_thenN ?_
          refine wp_ret ?_
          exact r_ret1 h rfl (rv_tmp h rfl) ⟨rfl, h.m.below⟩
theorem merkleRoots_ok (A : Option Addr) (l : List (List UInt8)) (cp : Nat) (v : Value) (at_ : List Int) (Ab : Option Addr) (b : List UInt8) (cb : Nat) (w : World) (hat : kSum.At w A l) (hc : l.length ≤ cp) (hm : cp ≤ maxLen) (hK : kAt.K w at_ v.cells.toList) (hrb : Rd w Ab (by8 b)) (hcb : b.length ≤ cb) (hcb2 : cb ≤ maxLen) :
    Calls Try.prog 7 #[.slice A l.length cp, v, .slice Ab b.length cb] w fun e w' => e = .returned (.bool true) ∧ Below w.heap.size w w' := by
  obtain ⟨n, i, _, rfl, hn, hi⟩ := at_in hK
  obtain ⟨hl, hr⟩ := sums_in hat
  exact merkleRoots_walk w A l cp hl hr n i hn hi Ab b cb hrb hcb hcb2
end Go.Proofs.Ytlgcfnbhnpnkiaa
