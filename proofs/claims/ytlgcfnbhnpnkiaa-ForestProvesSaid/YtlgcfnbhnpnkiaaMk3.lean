/- Trees of sums: the root, and what a way leads to. -/
import Derived.Test.YtlgcfnbhnpnkiaaMk2
set_option linter.unusedVariables false
set_option linter.unusedSimpArgs false
namespace Go.Proofs.Ytlgcfnbhnpnkiaa
open Go.RowKit

/-- the root above 2^e sums -/
def rootE : Nat → List (List UInt8) → List UInt8
  | 0, l => l.headD z32
  | e + 1, l => rootE e (upL l)
def rootS (l : List (List UInt8)) : List UInt8 := rootE (lg l.length) (wideL l)
theorem rootE_length : ∀ (e : Nat) (l : List (List UInt8)), S32 l → (rootE e l).length = 32
  | 0, [], _ => z32_length
  | 0, x :: l, h => h x (List.mem_cons_self ..)
  | e + 1, l, _ => rootE_length e (upL l) (upL_s32 l)
theorem rootS_length {l : List (List UInt8)} (h : S32 l) : (rootS l).length = 32 := rootE_length _ _ (wideL_s32 h)
def okN (n : Nat) : Prop := 1 ≤ n ∧ n ≤ 4096
instance (n : Nat) : Decidable (okN n) := by unfold okN; infer_instance
def rootV (l : List (List UInt8)) : List UInt8 := if okN l.length then rootS l else z32
def errV (b : Prop) [Decidable b] : Int := if b then 0 else 2
theorem by8_z32 : by8 z32 = List.replicate 32 (.int .u8 0) := rfl
theorem pow_half (e : Nat) : 2 ^ (e + 1) / 2 = 2 ^ e := by rw [Nat.pow_succ]; omega
set_option maxRecDepth 100000 in
theorem root_ok (w0 : World) (A : Option Addr) (l : List (List UInt8)) (c : Nat) (hl : S32 l) (hr : Rd w0 A (by8 l.flatten)) :
    Calls Try.prog 24 #[.slice A l.length c] w0 fun e w' => e = .returned (.tuple #[.agg (by8 (rootV l)).toArray, .int .i64 (errV (okN l.length))]) ∧ Below w0.heap.size w0 w' := by
  refine c_enter Try.func24 rfl 19 rfl (by simp) (fun _ => False) _ rfl (fun a h => ?_)
  have h := h.mem (h.m.arg (rdP A (by8 l.flatten)) hr (fun _ _ hh => hh))
  refine c_rs ?_ -- region 0
  refine s_alloc h rfl rfl rfl (by decide) zi_A32_uint8 rfl (fun a w g2 h => ?_)
  refine s_assign h rfl _ rfl rfl (by decide) rfl (fun a h => ?_)
  refine l_end ?_
  refine wp_seq ?_
  refine c_rs ?_ -- region 1
  refine s_move h rfl _ rfl rfl (by decide) rfl (fun a h => ?_)
  refine s_callB h rfl rfl rfl (by decide) Try.func68 rfl rfl rfl (may_ok w A l.length c) (fun a w hb h => ?_)
  refine s_boolop h rfl rfl rfl (by decide) rfl (fun a h => ?_)
  refine l_end ?_
  refine c_cond h rfl (fun hb => ?_) (fun hb => ?_)
  · have hno : ¬ okN l.length := fun hh => by
      have : decide (1 ≤ l.length ∧ l.length ≤ 4096) = true := decide_eq_true hh
      rw [this] at hb; cases hb
    refine c_rs ?_ -- region 2
    refine s_build h rfl rfl rfl (by decide) [] rfl (by8 z32) (by kernel_rfl) (fun a h => ?_)
    refine s_stW h rfl rfl rfl ag_A32_uint8 rfl rfl (by rfl) (by8_one _) 0 rfl (by rfl) (fun a w h => ?_)
    refine s_assign h rfl _ rfl rfl (by decide) rfl (fun a h => ?_)
    refine l_end ?_
    refine wp_ret ?_
    refine e_thenR ?_
    refine r_ret2 h rfl (rv_cellA h rfl 0 rfl ag_A32_uint8 rfl) (rv_tmp h rfl) ⟨?_, h.m.below⟩
    unfold rootV errV
    rw [if_neg hno, if_neg hno]
  · have hok : okN l.length := by simpa [okN] using hb
    have hok' := hok
    obtain ⟨h1, h2⟩ := hok'
    refine wp_skip ?_
    refine e_thenN ?_
    refine c_rs ?_ -- region 3
    refine s_move h rfl _ rfl rfl (by decide) rfl (fun a h => ?_)
    refine s_callNS h rfl rfl rfl (by decide) Try.func69 rfl rfl rfl (wide_ok w A l c hl (h.m.ok 1 _ rfl) h1 h2) (fun a w v10 hb h => ?_)
    refine s_assign h rfl _ rfl rfl (by decide) rfl (fun a h => ?_)
    obtain ⟨g10, c10, J, rfl, hc1, hc2, hmb⟩ := h.m.rowBox (i := 0) rfl (Nat.pow_pos (by decide))
    have h := h.mem hmb
    refine l_end ?_
    refine wp_seq ?_
    refine wp_block ?_
    refine c_loop (fun m a w => ∃ (l' : List (List UInt8)) (J : List Value) (c : Nat), l'.length = 2 ^ m ∧ l'.length ≤ c ∧ c ≤ 9223372036854775807 ∧ S32 l' ∧ rootE m l' = rootS l ∧ St 19 w0 (fun _ => False) [(2, .pointer (some ⟨g2, 0, none⟩)), (4, .slice (some ⟨g10, 0, none⟩) l'.length c)] [.box g10 40 (by8 l'.flatten ++ J), .box g2 40 (by8 z32)] a w) (lg l.length) ⟨wideL l, J, c10, wideL_length l (by omega), by rw [wideL_length l (by omega)]; exact hc1, by unfold maxLen at hc2; omega, wideL_s32 hl, rfl, by rw [wideL_length l (by omega)]; exact (h.pick [0, 1] (by decide) rfl).has (by exact ⟨rfl, rfl, trivial⟩)⟩ (fun m a w hI => ?_)
    obtain ⟨l', J, c', hl2, hc1', hc2', hs', hroot, h⟩ := hI
    refine wp_seq ?_
    refine c_rs ?_ -- region 4
    refine s_move h rfl _ rfl rfl (by decide) rfl (fun a h => ?_)
    refine s_len h rfl rfl rfl (by decide) Try.underlying39 rfl (fun a h => ?_)
    refine s_bin h rfl rfl rfl (by decide) rfl rfl (ib_gtr) (fun a h => ?_)
    refine l_end ?_
    refine c_cond h rfl (fun hb => ?_) (fun hb => ?_)
    · have hgt : 1 < l'.length := by have := of_decide_eq_true hb; omega
      obtain ⟨m', rfl⟩ : ∃ m', m = m' + 1 := ⟨m - 1, by
        rcases m with _ | m
        · simp at hl2; omega
        · omega⟩
      refine wp_skip ?_
      refine e_thenN ?_
      refine wp_block ?_
      refine c_r ?_ -- region 5
      refine s_move h rfl _ rfl rfl (by decide) rfl (fun a h => ?_)
      refine s_call h rfl rfl rfl (by decide) Try.func70 rfl rfl rfl (up_ok w _ g10 _ l' J c' hs' (Mem.sub (Ls := [_]) h.m) hc1' hc2') (fun e w' hp => ?_)
      obtain ⟨J', rfl, _, hm'⟩ := hp
      refine ⟨_, rfl, fun a hk => ?_⟩
      have h : St 19 w0 _ _ _ a w' := ⟨hk, h.m.frame hm' rfl⟩
      refine s_assign h rfl _ rfl rfl (by decide) rfl (fun a h => ?_)
      refine l_nil ?_
      refine e_blkN ?_
      exact e_thenN ⟨m', by omega, upL l', J', _, by rw [upL_length, hl2, pow_half], Nat.le_refl _, by rw [upL_length]; omega, upL_s32 _, hroot, h.has (by exact ⟨rfl, rfl, trivial⟩)⟩
    · have hle : ¬ 1 < l'.length := by have := of_decide_eq_false hb; omega
      have hm0 : m = 0 := by
        rcases m with _ | m
        · rfl
        · have : 0 < 2 ^ m := Nat.pow_pos (by decide)
          rw [Nat.pow_succ] at hl2; omega
      subst hm0
      obtain ⟨x, hx⟩ : ∃ x, l' = [x] := by
        match l', hl2 with
        | [x], _ => exact ⟨x, rfl⟩
      subst hx
      have hx32 : x.length = 32 := hs' x (List.mem_cons_self ..)
      have hxr : x = rootS l := hroot
      refine wp_exit ?_
      refine e_thenX ?_
      refine e_thenX ?_
      refine e_blkX ?_
      refine e_thenN ?_
      refine c_rs ?_ -- region 6
      refine s_move h rfl _ rfl rfl (by decide) rfl (fun a h => ?_)
      refine s_iaddr h rfl rfl rfl (by decide) Try.underlying39 sz_A32_uint8 rfl rfl (m := 0) rfl (by simp) (r := 0) (by omega) (fun a h => ?_)
      refine s_ldA h rfl rfl rfl (by decide) ag_A32_uint8 rfl 0 rfl (by rw [List.length_append, by8_length]; simp [hx32]) (es := by8 x) (by have := junk_at hs' J (k := 0) (by simp); simpa using this) (fun a h => ?_)
      refine s_stW h rfl rfl rfl ag_A32_uint8 rfl rfl (by rw [by8_length, hx32]) (by8_one _) 1 rfl (by rfl) (fun a w h => ?_)
      refine s_assign h rfl _ rfl rfl (by decide) rfl (fun a h => ?_)
      refine l_end ?_
      refine wp_ret ?_
      refine r_ret2 h rfl (rv_cellA h rfl 1 rfl ag_A32_uint8 (by rw [by8_length, hx32])) (rv_tmp h rfl) ⟨?_, h.m.below⟩
      unfold rootV errV
      rw [if_pos hok, if_pos hok, hxr]
/-- what a way leads to -/
def alongS : List UInt8 → Nat → List (List UInt8) → List UInt8
  | x, _, [] => x
  | x, i, o :: w => alongS (if i % 2 = 0 then pairS x o else pairS o x) (i / 2) w
theorem alongS_length : ∀ (w : List (List UInt8)) (x : List UInt8) (i : Nat), x.length = 32 → (alongS x i w).length = 32
  | [], x, i, h => h
  | o :: w, x, i, h => alongS_length w _ _ (by split <;> exact pairS_length _ _)
def wayOk (i : Int) (n : Nat) : Prop := n ≤ 12 ∧ 0 ≤ i ∧ i < 2 ^ n
instance (i : Int) (n : Nat) : Decidable (wayOk i n) := by unfold wayOk; infer_instance
def alongV (x : List UInt8) (i : Int) (w : List (List UInt8)) : List UInt8 := if wayOk i w.length then alongS x i.toNat w else z32
theorem shl12 (n : Nat) (h : n ≤ 12) : IntKind.i64.wrap (1 * 2 ^ (min (n : Int).toNat IntKind.i64.bits)) = ((2 ^ n : Nat) : Int) := by
  have h1 : min (n : Int).toNat IntKind.i64.bits = n := by simp [IntKind.bits]; omega
  have h2 : 2 ^ n ≤ 2 ^ 12 := Nat.pow_le_pow_right (by decide) h
  have h3 : (2 : Nat) ^ 12 = 4096 := by decide
  have h4 : (0 : Int) ≤ ((2 ^ n : Nat) : Int) := Int.natCast_nonneg _
  rw [h1, Int.one_mul, show (2 : Int) ^ n = ((2 ^ n : Nat) : Int) by simp, nw64 (by omega)]
set_option maxRecDepth 100000 in
theorem along_ok (w0 : World) (x : List UInt8) (hx : x.length = 32) (i : Int) (hi : -9223372036854775808 ≤ i ∧ i ≤ 9223372036854775807) (A : Option Addr) (l : List (List UInt8)) (c : Nat) (hl : S32 l) (hr : Rd w0 A (by8 l.flatten)) :
    Calls Try.prog 29 #[.agg (by8 x).toArray, .int .i64 i, .slice A l.length c] w0 fun e w' => e = .returned (.tuple #[.agg (by8 (alongV x i l)).toArray, .int .i64 (errV (wayOk i l.length))]) ∧ Below w0.heap.size w0 w' := by
  refine c_enter Try.func29 rfl 44 rfl (by simp) (fun _ => False) _ rfl (fun a h => ?_)
  have h := h.mem (h.m.arg (rdP A (by8 l.flatten)) hr (fun _ _ hh => hh))
  refine c_rs ?_ -- region 0
  refine s_box h rfl rfl rfl (by decide) rfl rfl (fun a w g3 h => ?_)
  refine s_alloc h rfl rfl rfl (by decide) zi_A32_uint8 rfl (fun a w g6 h => ?_)
  refine s_assign h rfl _ rfl rfl (by decide) rfl (fun a h => ?_)
  refine l_end ?_
  refine wp_seq ?_
  refine c_rs ?_ -- region 1
  refine s_move h rfl _ rfl rfl (by decide) rfl (fun a h => ?_)
  refine s_len h rfl rfl rfl (by decide) Try.underlying39 rfl (fun a h => ?_)
  refine s_bin h rfl rfl rfl (by decide) rfl rfl (ib_gtr) (fun a h => ?_)
  refine s_move h rfl _ rfl rfl (by decide) rfl (fun a h => ?_)
  apply s_or (t := 13) (d := 16) h 3 rfl
  · intro hB
    refine g_no h rfl rfl rfl rfl hB rfl (by decide) (fun a h => ?_)
    refine g_no h rfl rfl rfl rfl hB rfl (by decide) (fun a h => ?_)
    refine s_pick h rfl rfl rfl (by decide) rfl (fun _ => rfl) (fun hh => absurd (hB.symm.trans hh) (by decide)) (fun a h => ?_)
    exact h.has (by repeat (first | exact trivial | refine ⟨rfl, ?_⟩))
  · intro hB
    refine g_yes h rfl rfl rfl rfl hB ?_
    refine s_move h rfl _ rfl rfl (by decide) rfl (fun a h => ?_)
    refine g_yes h rfl rfl rfl rfl hB ?_
    refine s_bin h rfl rfl rfl (by decide) rfl rfl (ib_lss) (fun a h => ?_)
    refine s_pick h rfl rfl rfl (by decide) rfl (fun hh => absurd (hB.symm.trans hh) (by decide)) (fun _ => rfl) (fun a h => ?_)
    exact h.has (by repeat (first | exact trivial | refine ⟨rfl, ?_⟩))
  intro a w h
  refine s_move h rfl _ rfl rfl (by decide) rfl (fun a h => ?_)
  apply s_or (t := 17) (d := 23) h 6 rfl
  · intro hB
    refine g_no h rfl rfl rfl rfl hB rfl (by decide) (fun a h => ?_)
    refine g_no h rfl rfl rfl rfl hB rfl (by decide) (fun a h => ?_)
    refine g_no h rfl rfl rfl rfl hB rfl (by decide) (fun a h => ?_)
    refine g_no h rfl rfl rfl rfl hB rfl (by decide) (fun a h => ?_)
    refine g_no h rfl rfl rfl rfl hB rfl (by decide) (fun a h => ?_)
    refine s_pick h rfl rfl rfl (by decide) rfl (fun _ => rfl) (fun hh => absurd (hB.symm.trans hh) (by decide)) (fun a h => ?_)
    exact h.has (by repeat (first | exact trivial | refine ⟨rfl, ?_⟩))
  · intro hB
    refine g_yes h rfl rfl rfl rfl hB ?_
    refine s_move h rfl _ rfl rfl (by decide) rfl (fun a h => ?_)
    refine g_yes h rfl rfl rfl rfl hB ?_
    refine s_move h rfl _ rfl rfl (by decide) rfl (fun a h => ?_)
    refine g_yes h rfl rfl rfl rfl hB ?_
    refine s_len h rfl rfl rfl (by decide) Try.underlying39 rfl (fun a h => ?_)
    refine g_yes h rfl rfl rfl rfl hB ?_
    refine s_bin h rfl rfl rfl (by decide) rfl rfl (ib_shl (by omega) (shl12 _ (by simp at hB; omega))) (fun a h => ?_)
    refine g_yes h rfl rfl rfl rfl hB ?_
    refine s_bin h rfl rfl rfl (by decide) rfl rfl (ib_geq) (fun a h => ?_)
    refine s_pick h rfl rfl rfl (by decide) rfl (fun hh => absurd (hB.symm.trans hh) (by decide)) (fun _ => rfl) (fun a h => ?_)
    exact h.has (by repeat (first | exact trivial | refine ⟨rfl, ?_⟩))
  intro a w h
  refine l_end ?_
  refine c_cond h rfl (fun hb => ?_) (fun hb => ?_)
  · have hno : ¬ wayOk i l.length := by
      intro ⟨h1, h2, h3⟩
      have h4 : ((2 ^ l.length : Nat) : Int) = (2 : Int) ^ l.length := by simp
      simp only [Bool.or_eq_true, decide_eq_true_eq] at hb
      omega
    refine c_rs ?_ -- region 2
    refine s_build h rfl rfl rfl (by decide) [] rfl (by8 z32) (by kernel_rfl) (fun a h => ?_)
    refine s_stW h rfl rfl rfl ag_A32_uint8 rfl rfl (by rfl) (by8_one _) 0 rfl (by rfl) (fun a w h => ?_)
    refine s_assign h rfl _ rfl rfl (by decide) rfl (fun a h => ?_)
    refine l_end ?_
    refine wp_ret ?_
    refine e_thenR ?_
    refine r_ret2 h rfl (rv_cellA h rfl 0 rfl ag_A32_uint8 rfl) (rv_tmp h rfl) ⟨?_, h.m.below⟩
    unfold alongV errV
    rw [if_neg hno, if_neg hno]
  · have hok : wayOk i l.length := by
      have h4 : ((2 ^ l.length : Nat) : Int) = (2 : Int) ^ l.length := by simp
      simp only [Bool.or_eq_false_iff, decide_eq_false_iff_not] at hb
      unfold wayOk
      omega
    have hn12 := hok.1
    obtain ⟨n, rfl⟩ : ∃ n : Nat, i = (n : Int) := ⟨i.toNat, by have := hok.2.1; omega⟩
    refine wp_skip ?_
    refine e_thenN ?_
    refine wp_seq ?_
    refine c_rs ?_ -- region 3
    refine s_move h rfl _ rfl rfl (by decide) rfl (fun a h => ?_)
    refine s_len h rfl rfl rfl (by decide) Try.underlying39 rfl (fun a h => ?_)
    refine s_move h rfl _ rfl rfl (by decide) rfl (fun a h => ?_)
    refine l_end ?_
    refine wp_block ?_
    refine c_loop (fun m a w => ∃ (k i' : Nat) (x' : List UInt8), k + m = l.length ∧ (i' : Int) ≤ 9223372036854775807 ∧ x'.length = 32 ∧ alongS x' i' (l.drop k) = alongS x n l ∧ St 44 w0 (fun _ => False) [(1, .int .i64 (i' : Int)), (3, .pointer (some ⟨g3, 0, none⟩)), (6, .pointer (some ⟨g6, 0, none⟩)), (25, .slice A l.length c), (26, .int .i64 (l.length : Int)), (27, .int .i64 (k : Int))] [.box g6 40 (by8 z32), .box g3 40 (by8 x'), .ro (rdP A (by8 l.flatten))] a w) l.length ⟨0, n, x, by omega, hi.2, hx, by rw [List.drop_zero], h.has (by exact ⟨rfl, rfl, rfl, rfl, rfl, rfl, trivial⟩)⟩ (fun m a w hI => ?_)
    obtain ⟨k, i', x', hk, hi', hx', hal, h⟩ := hI
    refine c_rs ?_ -- region 4
    refine s_bin h rfl rfl rfl (by decide) rfl rfl (ib_lss) (fun a h => ?_)
    refine l_end ?_
    refine c_cs h rfl (fun hb => ?_) (fun hb => ?_)
    · have hlt : k < l.length := by have := of_decide_eq_true hb; omega
      obtain ⟨b, off, hA⟩ := (show Rd w A (by8 l.flatten) from h.m.ok 2 _ rfl).addr (by rw [by8_length, flat_len hl]; omega)
      subst hA
      have ho32 := hl.at hlt
      have hsum : w.rangeAt b (off + k * 32) (by8 l[k]) := Rd.sum hl (h.m.ok 2 _ rfl) hlt
      rw [List.drop_eq_getElem_cons hlt, alongS] at hal
      refine wp_skip ?_
      refine e_thenN ?_
      refine wp_seq ?_
      refine wp_block ?_
      refine c_rs ?_ -- region 5
      refine s_iaddr h rfl rfl rfl (by decide) Try.underlying39 sz_A32_uint8 rfl rfl (m := k) (by omega) (by omega) (r := off + k * 32) (by omega) (fun a h => ?_)
      refine s_ldR h rfl rfl rfl (by decide) ag_A32_uint8 rfl (by8 l[k]) (by rw [by8_length, ho32]) hsum (fun a h => ?_)
      refine s_alloc h rfl rfl rfl (by decide) zi_A32_uint8 rfl (fun a w g9 h => ?_)
      refine s_stW h rfl rfl rfl ag_A32_uint8 rfl rfl (by rw [by8_length, ho32]) (by8_one _) 0 rfl (by rfl) (fun a w h => ?_)
      refine l_end ?_
      refine wp_seq ?_
      refine c_rs ?_ -- region 6
      refine s_move h rfl _ rfl rfl (by decide) rfl (fun a h => ?_)
      refine s_bin h rfl rfl rfl (by decide) rfl rfl (ib_rem (by omega)) (fun a h => ?_)
      refine s_bin h rfl rfl rfl (by decide) rfl rfl (ib_eql) (fun a h => ?_)
      refine l_end ?_
      refine c_cond h rfl (fun hb => ?_) (fun hb => ?_)
      · have hev : i' % 2 = 0 := by have := of_decide_eq_true hb; omega
        rw [if_pos hev] at hal
        refine c_r ?_ -- region 7
        refine s_ldW h rfl rfl rfl (by decide) ag_A32_uint8 rfl 2 rfl (by rw [by8_length, hx']) (fun a h => ?_)
        refine s_ldW h rfl rfl rfl (by decide) ag_A32_uint8 rfl 0 rfl (by rw [by8_length, ho32]) (fun a h => ?_)
        refine s_callB h rfl rfl rfl (by decide) Try.func73 rfl rfl rfl (pair_ok w x' l[k] hx' ho32) (fun a w hb h => ?_)
        refine s_stW h rfl rfl rfl ag_A32_uint8 rfl rfl (by rw [by8_length, pairS_length]) (by8_one _) 2 rfl (by rw [by8_length, hx']) (fun a w h => ?_)
        refine l_nil ?_
        refine e_thenN ?_
        refine c_r ?_ -- region 9
        refine s_move h rfl _ rfl rfl (by decide) rfl (fun a h => ?_)
        refine s_bin h rfl rfl rfl (by decide) rfl rfl (ib_quo (by omega)) (fun a h => ?_)
        refine s_assign h rfl _ rfl rfl (by decide) rfl (fun a h => ?_)
        refine l_nil ?_
        refine e_blkN ?_
        refine e_thenN ?_
        refine c_r ?_ -- region 10
        refine s_bin h rfl rfl rfl (by decide) rfl rfl (ib_add (nw64 (by omega))) (fun a h => ?_)
        refine s_move h rfl _ rfl rfl (by decide) rfl (fun a h => ?_)
        refine l_nil ?_
        exact e_thenN ⟨m - 1, by omega, k + 1, i' / 2, _, by omega, by omega, pairS_length _ _, hal, (h.pick [1, 2, 3] (by decide) rfl).has (by exact ⟨rfl, rfl, rfl, rfl, rfl, rfl, trivial⟩)⟩
      · have hev : ¬ i' % 2 = 0 := by have := of_decide_eq_false hb; omega
        rw [if_neg hev] at hal
        refine c_r ?_ -- region 8
        refine s_ldW h rfl rfl rfl (by decide) ag_A32_uint8 rfl 0 rfl (by rw [by8_length, ho32]) (fun a h => ?_)
        refine s_ldW h rfl rfl rfl (by decide) ag_A32_uint8 rfl 2 rfl (by rw [by8_length, hx']) (fun a h => ?_)
        refine s_callB h rfl rfl rfl (by decide) Try.func73 rfl rfl rfl (pair_ok w l[k] x' ho32 hx') (fun a w hb h => ?_)
        refine s_stW h rfl rfl rfl ag_A32_uint8 rfl rfl (by rw [by8_length, pairS_length]) (by8_one _) 2 rfl (by rw [by8_length, hx']) (fun a w h => ?_)
        refine l_nil ?_
        refine e_thenN ?_
        refine c_r ?_ -- region 9
        refine s_move h rfl _ rfl rfl (by decide) rfl (fun a h => ?_)
        refine s_bin h rfl rfl rfl (by decide) rfl rfl (ib_quo (by omega)) (fun a h => ?_)
        refine s_assign h rfl _ rfl rfl (by decide) rfl (fun a h => ?_)
        refine l_nil ?_
        refine e_blkN ?_
        refine e_thenN ?_
        refine c_r ?_ -- region 10
        refine s_bin h rfl rfl rfl (by decide) rfl rfl (ib_add (nw64 (by omega))) (fun a h => ?_)
        refine s_move h rfl _ rfl rfl (by decide) rfl (fun a h => ?_)
        refine l_nil ?_
        exact e_thenN ⟨m - 1, by omega, k + 1, i' / 2, _, by omega, by omega, pairS_length _ _, hal, (h.pick [1, 2, 3] (by decide) rfl).has (by exact ⟨rfl, rfl, rfl, rfl, rfl, rfl, trivial⟩)⟩
    · have hge : k = l.length := by have := of_decide_eq_false hb; omega
      subst hge
      rw [List.drop_length] at hal
      refine wp_exit ?_
      refine e_thenX ?_
      refine e_thenX ?_
      refine e_blkX ?_
      refine e_thenN ?_
      refine c_rs ?_ -- region 11
      refine s_ldW h rfl rfl rfl (by decide) ag_A32_uint8 rfl 1 rfl (by rw [by8_length, hx']) (fun a h => ?_)
      refine s_stW h rfl rfl rfl ag_A32_uint8 rfl rfl (by rw [by8_length, hx']) (by8_one _) 0 rfl (by rfl) (fun a w h => ?_)
      refine s_assign h rfl _ rfl rfl (by decide) rfl (fun a h => ?_)
      refine l_end ?_
      refine wp_ret ?_
      refine r_ret2 h rfl (rv_cellA h rfl 0 rfl ag_A32_uint8 (by rw [by8_length, hx'])) (rv_tmp h rfl) ⟨?_, h.m.below⟩
      unfold alongV errV
      rw [if_pos hok, if_pos hok, Int.toNat_natCast, ← hal, alongS]
end Go.Proofs.Ytlgcfnbhnpnkiaa
