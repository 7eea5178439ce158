/- Trees of sums: a level, and the next. -/
import Derived.Test.YtlgcfnbhnpnkiaaMk
import Derived.Test.YtlgcfnbhnpnkiaaBig
set_option linter.unusedVariables false
set_option linter.unusedSimpArgs false
namespace Go.Proofs.Ytlgcfnbhnpnkiaa
open Go.RowKit

/-- the exponent of the least power of two -/
def lg (n : Nat) : Nat := Nat.log2 (2 * n - 1)
theorem lg_spec (n : Nat) (h : 0 < n) : 2 ^ lg n ≤ 2 * n - 1 ∧ 2 * n - 1 < 2 ^ (lg n + 1) := (Nat.log2_eq_iff (by omega)).1 rfl
theorem le_lg (n : Nat) (h : 0 < n) : n ≤ 2 ^ lg n := by have := lg_spec n h; rw [Nat.pow_succ] at this; omega
theorem lt_lg (n : Nat) (h : 0 < n) {j : Nat} (hj : j < lg n) : 2 ^ j < n := by
  have h1 := lg_spec n h
  have h2 : 2 ^ (j + 1) ≤ 2 ^ lg n := Nat.pow_le_pow_right (by decide) hj
  rw [Nat.pow_succ] at h2; omega
theorem lg_lt (n : Nat) (h : 0 < n) : 2 ^ lg n < 2 * n := by have := lg_spec n h; omega
/-- sums with noughts up to a power of two -/
def wideL (l : List (List UInt8)) : List (List UInt8) := l ++ List.replicate (2 ^ lg l.length - l.length) z32
theorem wideL_length (l : List (List UInt8)) (h : 0 < l.length) : (wideL l).length = 2 ^ lg l.length := by unfold wideL; have := le_lg _ h; simp; omega
theorem wideL_s32 {l : List (List UInt8)} (h : S32 l) : S32 (wideL l) := h.append (fun x hx => by rw [(List.mem_replicate.1 hx).2]; exact z32_length)
/-- the next level -/
def upL : List (List UInt8) → List (List UInt8)
  | x :: y :: l => pairS x y :: upL l
  | _ => []
theorem upL_length : ∀ l : List (List UInt8), (upL l).length = l.length / 2
  | [] => rfl
  | [_] => by simp [upL]
  | x :: y :: l => by simp only [upL, List.length_cons, upL_length l]; omega
theorem upL_s32 : ∀ l : List (List UInt8), S32 (upL l)
  | [] => S32.nil
  | [_] => S32.nil
  | x :: y :: l => S32.cons (pairS_length _ _) (upL_s32 l)
theorem upL_at : ∀ (l : List (List UInt8)) (k : Nat) (h1 : k < (upL l).length) (h2 : 2 * k + 1 < l.length), (upL l)[k] = pairS (l[2 * k]'(by omega)) (l[2 * k + 1])
  | [], _, h, _ => by simp [upL] at h
  | [_], _, h, _ => by simp [upL] at h
  | x :: y :: l, 0, _, _ => rfl
  | x :: y :: l, k + 1, h1, h2 => by
    have := upL_at l k (by simpa [upL] using h1) (by simp at h2; omega)
    simp only [upL, List.getElem_cons_succ, show 2 * (k + 1) = 2 * k + 1 + 1 by omega, show 2 * (k + 1) + 1 = 2 * k + 1 + 1 + 1 by omega]
    exact this
/-- the next level, k sums of which are there -/
def upK (l : List (List UInt8)) (k : Nat) : List (List UInt8) := (upL l).take k ++ l.drop k
theorem upK_length (l : List (List UInt8)) (k : Nat) (h : k ≤ l.length / 2) : (upK l k).length = l.length := by unfold upK; simp [upL_length]; omega
theorem upK_s32 {l : List (List UInt8)} (h : S32 l) (k : Nat) : S32 (upK l k) := ((upL_s32 l).take k).append (h.drop k)
theorem upK_at (l : List (List UInt8)) (k j : Nat) (hj : j < l.length) (h : k ≤ l.length / 2) (hk : k ≤ j) (h' : j < (upK l k).length) : (upK l k)[j] = l[j] := by
  have hl : ((upL l).take k).length = k := by simp [upL_length]; omega
  have e : (upK l k)[j]? = some l[j] := by unfold upK; rw [List.getElem?_append_right (by omega), hl, List.getElem?_drop, show k + (j - k) = j by omega, List.getElem?_eq_getElem hj]
  rw [List.getElem?_eq_getElem h'] at e
  exact Option.some.inj e
theorem upK_set (l : List (List UInt8)) (k : Nat) (hk : k < l.length / 2) : (upK l k).set k (pairS (l[2 * k]'(by omega)) (l[2 * k + 1]'(by omega))) = upK l (k + 1) := by
  have hl : ((upL l).take k).length = k := by simp [upL_length]; omega
  unfold upK
  rw [List.set_append_right _ _ (by omega), hl, Nat.sub_self, List.drop_eq_getElem_cons (by omega), List.set_cons_zero, List.take_succ_eq_append_getElem (by rw [upL_length]; omega), upL_at _ _ _ (by omega)]
  simp
theorem upK_zero (l : List (List UInt8)) : upK l 0 = l := by simp [upK]
theorem upK_full (l : List (List UInt8)) : upK l (l.length / 2) = upL l ++ l.drop (l.length / 2) := by unfold upK; rw [List.take_of_length_le (by rw [upL_length]; exact Nat.le_refl _)]
set_option maxRecDepth 100000 in
theorem may_ok (w0 : World) (A : Option Addr) (n c : Nat) :
    Calls Try.prog 68 #[.slice A n c] w0 fun e w' => e = .returned (.bool (decide (1 ≤ n ∧ n ≤ 4096))) ∧ Below w0.heap.size w0 w' := by
  refine c_enter Try.func68 rfl 11 rfl (by simp) (fun _ => False) _ rfl (fun a h => ?_)
  refine c_rs ?_ -- region 0
  refine s_assign h rfl _ rfl rfl (by decide) rfl (fun a h => ?_)
  refine l_end ?_
  refine c_rs ?_ -- region 1
  refine s_move h rfl _ rfl rfl (by decide) rfl (fun a h => ?_)
  refine s_len h rfl rfl rfl (by decide) Try.underlying39 rfl (fun a h => ?_)
  refine s_bin h rfl rfl rfl (by decide) rfl rfl (ib_geq) (fun a h => ?_)
  refine s_move h rfl _ rfl rfl (by decide) rfl (fun a h => ?_)
  apply s_and (t := 6) (d := 10) h 4 rfl
  · intro hB
    refine g_yes h rfl rfl rfl rfl hB ?_
    refine s_move h rfl _ rfl rfl (by decide) rfl (fun a h => ?_)
    refine g_yes h rfl rfl rfl rfl hB ?_
    refine s_len h rfl rfl rfl (by decide) Try.underlying39 rfl (fun a h => ?_)
    refine g_yes h rfl rfl rfl rfl hB ?_
    refine s_bin h rfl rfl rfl (by decide) rfl rfl (ib_leq) (fun a h => ?_)
    refine s_pick h rfl rfl rfl (by decide) rfl (fun _ => rfl) (fun hh => absurd (hB.symm.trans hh) (by decide)) (fun a h => ?_)
    exact h.has (by repeat (first | exact trivial | refine ⟨rfl, ?_⟩))
  · intro hB
    refine g_no h rfl rfl rfl rfl hB rfl (by decide) (fun a h => ?_)
    refine g_no h rfl rfl rfl rfl hB rfl (by decide) (fun a h => ?_)
    refine g_no h rfl rfl rfl rfl hB rfl (by decide) (fun a h => ?_)
    refine s_pick h rfl rfl rfl (by decide) rfl (fun hh => absurd (hB.symm.trans hh) (by decide)) (fun _ => rfl) (fun a h => ?_)
    exact h.has (by repeat (first | exact trivial | refine ⟨rfl, ?_⟩))
  intro a w h
  refine s_assign h rfl _ rfl rfl (by decide) rfl (fun a h => ?_)
  refine l_end ?_
  refine wp_ret ?_
  refine r_ret1 h rfl (rv_tmp h rfl) ⟨?_, h.m.below⟩
  congr 2
  rw [← Bool.decide_and, decide_eq_decide]; omega
set_option maxRecDepth 100000 in
theorem wide_ok (w0 : World) (A : Option Addr) (l : List (List UInt8)) (c : Nat) (hl : S32 l) (hr : Rd w0 A (by8 l.flatten)) (h1 : 1 ≤ l.length) (h2 : l.length ≤ 4096) :
    Calls Try.prog 69 #[.slice A l.length c] w0 fun e w' => ∃ v, e = .returned v ∧ NewS w0 w' 40 32 v (2 ^ lg l.length) (by8 (wideL l).flatten) := by
  refine c_enter Try.func69 rfl 17 rfl (by simp) (fun _ => False) _ rfl (fun a h => ?_)
  have h := h.mem (h.m.arg (rdP A (by8 l.flatten)) hr (fun _ _ hh => hh))
  have hle := le_lg l.length (by omega)
  have hlt2 := lg_lt l.length (by omega)
  have hfl := flat_len hl
  refine c_rs ?_ -- region 0
  refine s_assign h rfl _ rfl rfl (by decide) rfl (fun a h => ?_)
  refine l_end ?_
  refine c_rs ?_ -- region 1
  refine s_assign h rfl _ rfl rfl (by decide) rfl (fun a h => ?_)
  refine l_end ?_
  refine wp_seq ?_
  refine wp_block ?_
  refine c_loop (fun m a w => ∃ j : Nat, j + m = lg l.length ∧ St 17 w0 (fun _ => False) [(0, .slice A l.length c), (3, .int .i64 ((2 ^ j : Nat) : Int))] [.ro (rdP A (by8 l.flatten))] a w) (lg l.length) ⟨0, by omega, h.has (by exact ⟨rfl, rfl, trivial⟩)⟩ (fun m a w hI => ?_)
  obtain ⟨j, hj, h⟩ := hI
  have hjle : 2 ^ j ≤ 2 ^ lg l.length := Nat.pow_le_pow_right (by decide) (by omega)
  have hj0 : 0 < 2 ^ j := Nat.pow_pos (by decide)
  refine wp_seq ?_
  refine c_rs ?_ -- region 2
  refine s_move h rfl _ rfl rfl (by decide) rfl (fun a h => ?_)
  refine s_move h rfl _ rfl rfl (by decide) rfl (fun a h => ?_)
  refine s_len h rfl rfl rfl (by decide) Try.underlying39 rfl (fun a h => ?_)
  refine s_bin h rfl rfl rfl (by decide) rfl rfl (ib_lss) (fun a h => ?_)
  refine l_end ?_
  refine c_cond h rfl (fun hb => ?_) (fun hb => ?_)
  · have hb' : 2 ^ j < l.length := by have := of_decide_eq_true hb; omega
    have hlt : j < lg l.length := by
      rcases Nat.lt_or_ge j (lg l.length) with h3 | h3
      · exact h3
      · have : 2 ^ lg l.length ≤ 2 ^ j := Nat.pow_le_pow_right (by decide) h3
        omega
    refine wp_skip ?_
    refine e_thenN ?_
    refine wp_block ?_
    refine c_r ?_ -- region 3
    refine s_move h rfl _ rfl rfl (by decide) rfl (fun a h => ?_)
    refine s_bin h rfl rfl rfl (by decide) rfl rfl (ib_mul (nw64 (by omega))) (fun a h => ?_)
    refine s_assign h rfl _ rfl rfl (by decide) rfl (fun a h => ?_)
    refine l_nil ?_
    refine e_blkN ?_
    exact e_thenN ⟨m - 1, by omega, j + 1, by omega, h.has (by exact ⟨rfl, by rw [Nat.pow_succ]; rfl, trivial⟩)⟩
  · have hb' : l.length ≤ 2 ^ j := by have := of_decide_eq_false hb; omega
    have hge : j = lg l.length := by
      rcases Nat.lt_or_ge j (lg l.length) with h3 | h3
      · have := lt_lg l.length (by omega) h3; omega
      · omega
    subst hge
    obtain ⟨M, hM⟩ : ∃ M, M = 2 ^ lg l.length := ⟨_, rfl⟩
    rw [← hM] at h hle hlt2
    refine wp_exit ?_
    refine e_thenX ?_
    refine e_thenX ?_
    refine e_blkX ?_
    refine e_thenN ?_
    refine c_rs ?_ -- region 4
    refine s_move h rfl _ rfl rfl (by decide) rfl (fun a h => ?_)
    refine s_make h rfl rfl rfl (by decide) Try.underlying39 zb_A32_uint8 M rfl rfl rfl rfl (by omega) (by unfold maxLen; omega) (cs := List.replicate (M * 32) (.int .u8 0)) (by exact madeCells_rep _ 32 _ (by decide)) (fun a w g12 h => ?_)
    have h := h.mem (h.m.asBox (i := 0) rfl)
    obtain ⟨b, off, rfl⟩ := hr.addr (by rw [by8_length]; omega)
    refine s_assign h rfl _ rfl rfl (by decide) rfl (fun a h => ?_)
    refine l_end ?_
    refine c_rs ?_ -- region 5
    refine s_move h rfl _ rfl rfl (by decide) rfl (fun a h => ?_)
    refine s_move h rfl _ rfl rfl (by decide) rfl (fun a h => ?_)
    refine s_copyS h rfl rfl rfl (by decide) Try.underlying39 sz_A32_uint8 rfl rfl 0 rfl (by8 l.flatten) l.length (Nat.min_eq_left hle).symm (by rw [by8_length, hfl]) (h.m.ok 1 _ rfl) (by rw [by8_length, List.length_replicate]; omega) (by8_one _) (fun a w h => ?_)
    refine l_end ?_
    refine c_rs ?_ -- region 6
    refine s_move h rfl _ rfl rfl (by decide) rfl (fun a h => ?_)
    refine s_assign h rfl _ rfl rfl (by decide) rfl (fun a h => ?_)
    refine l_end ?_
    refine wp_ret ?_
    have hw : splice (List.replicate (M * 32) (.int .u8 0)) 0 (by8 l.flatten) = by8 (wideL l).flatten := by
      unfold splice wideL
      rw [← hM, List.take_zero, List.nil_append, Nat.zero_add, List.drop_replicate, by8_length, hfl, List.flatten_append, by8_append]
      congr 1
      have : ∀ k, by8 (List.replicate k z32).flatten = List.replicate (k * 32) (.int .u8 0) := by
        intro k
        induction k with
        | zero => rfl
        | succ k ih => rw [List.replicate_succ, List.flatten_cons, by8_append, ih, show (k + 1) * 32 = 32 + k * 32 by omega, ← List.replicate_append_replicate]; rfl
      rw [this]; congr 1; omega
    rw [hw] at h
    have hwl : (wideL l).length = M := by rw [hM]; exact wideL_length l (by omega)
    have h := h.mem (h.m.asRow (i := 0) rfl M 32 (by rw [by8_length, flat_len (wideL_s32 hl), hwl]) (by unfold maxLen; omega))
    refine r_ret1 h rfl (rv_tmp h rfl) ⟨_, rfl, ?_⟩
    have := h.m.newRowS (i := 0) rfl
    rw [hM] at this ⊢
    exact this
set_option maxRecDepth 100000 in
theorem up_ok (w0 : World) (B : Nat → Prop) (g : Nat) (T : TypeId) (l : List (List UInt8)) (J : List Value) (c : Nat) (hl : S32 l) (hM : Mem w0 B [.box g T (by8 l.flatten ++ J)] w0) (hc : l.length ≤ c) (hc2 : c ≤ 9223372036854775807) :
    Calls Try.prog 70 #[.slice (some ⟨g, 0, none⟩) l.length c] w0 fun e w' => ∃ J', e = .returned (.slice (some ⟨g, 0, none⟩) (upL l).length (upL l).length) ∧ True ∧ Mem w0 B [.box g T (by8 (upL l).flatten ++ J')] w' := by
  refine c_enterM Try.func70 rfl 34 rfl (by simp) B hM _ rfl (fun a h => ?_)
  refine c_rs ?_ -- region 0
  refine s_assign h rfl _ rfl rfl (by decide) rfl (fun a h => ?_)
  refine l_end ?_
  refine wp_seq ?_
  refine c_rs ?_ -- region 1
  refine s_move h rfl _ rfl rfl (by decide) rfl (fun a h => ?_)
  refine s_len h rfl rfl rfl (by decide) Try.underlying39 rfl (fun a h => ?_)
  refine s_bin h rfl rfl rfl (by decide) rfl rfl (ib_quo (by omega)) (fun a h => ?_)
  refine s_move h rfl _ rfl rfl (by decide) rfl (fun a h => ?_)
  refine l_end ?_
  refine wp_block ?_
  refine c_loop (fun m a w => ∃ k : Nat, k + m = l.length / 2 ∧ St 34 w0 B [(0, .slice (some ⟨g, 0, none⟩) l.length c), (6, .int .i64 ((l.length / 2 : Nat) : Int)), (7, .int .i64 (k : Int))] [.box g T (by8 (upK l k).flatten ++ J)] a w) (l.length / 2) ⟨0, by omega, by rw [upK_zero]; exact h.has (by exact ⟨rfl, rfl, rfl, trivial⟩)⟩ (fun m a w hI => ?_)
  obtain ⟨k, hk, h⟩ := hI
  refine c_rs ?_ -- region 2
  refine s_bin h rfl rfl rfl (by decide) rfl rfl (ib_lss) (fun a h => ?_)
  refine l_end ?_
  refine c_cs h rfl (fun hb => ?_) (fun hb => ?_)
  · have hlt : k < l.length / 2 := by have := of_decide_eq_true hb; omega
    have hkl := upK_length l k (by omega)
    have hks := upK_s32 hl k
    have e0 := junk_at hks J (k := 2 * k) (by omega)
    have e1 := junk_at hks J (k := 2 * k + 1) (by omega)
    rw [upK_at l k (2 * k) (by omega) (by omega) (by omega)] at e0
    rw [upK_at l k (2 * k + 1) (by omega) (by omega) (by omega)] at e1
    obtain ⟨x, hx⟩ : ∃ x, x = l[2 * k]'(by omega) := ⟨_, rfl⟩
    obtain ⟨y, hy⟩ : ∃ y, y = l[2 * k + 1]'(by omega) := ⟨_, rfl⟩
    rw [← hx] at e0
    rw [← hy] at e1
    have hx32 : x.length = 32 := by rw [hx]; exact hl.at _
    have hy32 : y.length = 32 := by rw [hy]; exact hl.at _
    refine wp_skip ?_
    refine e_thenN ?_
    refine wp_seq ?_
    refine wp_block ?_
    refine c_rs ?_ -- region 3
    refine s_move h rfl _ rfl rfl (by decide) rfl (fun a h => ?_)
    refine s_assign h rfl _ rfl rfl (by decide) rfl (fun a h => ?_)
    refine l_end ?_
    -- region 4 DRAWS
    refine d_start h (Mem _ _ _) 15 16 rfl (by kernel_rfl) (fun _ _ _ _ _ h => h) (fun _ h => h) (fun Q a w HE HN h HS => ?_)
    refine d_takeP h (fun _ => HS) HN 0 rfl (by kernel_rfl) (by kernel_rfl) (by kernel_rfl) (by decide) rfl rfl (by decide) (fun w' => x_move h.k _ rfl rfl) (fun a h => ?_)
    refine d_takeP h (fun _ => HS) HN 1 rfl (by kernel_rfl) (by kernel_rfl) (by kernel_rfl) (by decide) rfl rfl (by decide) (fun w' => x_move h.k _ rfl rfl) (fun a h => ?_)
    refine d_takeP h (fun _ => HS) HN 2 rfl (by kernel_rfl) (by kernel_rfl) (by kernel_rfl) (by decide) rfl rfl (by decide) (fun w' => x_move h.k _ rfl rfl) (fun a h => ?_)
    refine d_takeP h (fun _ => HS) HN 3 rfl (by kernel_rfl) (by kernel_rfl) (by kernel_rfl) (by decide) rfl rfl (by decide) (fun w' => x_move h.k _ rfl rfl) (fun a h => ?_)
    refine d_takeP h (fun _ => HS) HN 4 rfl (by kernel_rfl) (by kernel_rfl) (by kernel_rfl) (by decide) rfl rfl (by decide) (fun w' => x_bin h.k rfl rfl rfl (ib_mul (nw64 (by omega)))) (fun a h => ?_)
    refine d_takeP h (fun _ => HS) HN 5 rfl (by kernel_rfl) (by kernel_rfl) (by kernel_rfl) (by decide) rfl rfl (by decide) (fun w' => x_iaddr h.k rfl Try.underlying39 sz_A32_uint8 rfl rfl (m := 2 * k) (by omega) (by omega) rfl) (fun a h => ?_)
    refine d_take h HS HN 6 rfl (by kernel_rfl) (by kernel_rfl) (by kernel_rfl) (by kernel_rfl) (by kernel_rfl) rfl rfl (by decide) (fun w' hw => x_ldR h.k rfl ag_A32_uint8 rfl (by8 x) (by rw [by8_length, hx32]) (by have := hw.range (i := 0) rfl (0 + 2 * k * 32) 32; rw [Nat.zero_add] at this ⊢; rwa [e0] at this)) (fun a h => ?_)
    refine d_takeP h (fun _ => HS) HN 7 rfl (by kernel_rfl) (by kernel_rfl) (by kernel_rfl) (by decide) rfl rfl (by decide) (fun w' => x_move h.k _ rfl rfl) (fun a h => ?_)
    refine d_takeP h (fun _ => HS) HN 8 rfl (by kernel_rfl) (by kernel_rfl) (by kernel_rfl) (by decide) rfl rfl (by decide) (fun w' => x_move h.k _ rfl rfl) (fun a h => ?_)
    refine d_takeP h (fun _ => HS) HN 9 rfl (by kernel_rfl) (by kernel_rfl) (by kernel_rfl) (by decide) rfl rfl (by decide) (fun w' => x_bin h.k rfl rfl rfl (ib_mul (nw64 (by omega)))) (fun a h => ?_)
    refine d_takeP h (fun _ => HS) HN 10 rfl (by kernel_rfl) (by kernel_rfl) (by kernel_rfl) (by decide) rfl rfl (by decide) (fun w' => x_bin h.k rfl rfl rfl (ib_add (nw64 (by omega)))) (fun a h => ?_)
    refine d_takeP h (fun _ => HS) HN 11 rfl (by kernel_rfl) (by kernel_rfl) (by kernel_rfl) (by decide) rfl rfl (by decide) (fun w' => x_iaddr h.k rfl Try.underlying39 sz_A32_uint8 rfl rfl (m := 2 * k + 1) (by omega) (by omega) rfl) (fun a h => ?_)
    refine d_take h HS HN 12 rfl (by kernel_rfl) (by kernel_rfl) (by kernel_rfl) (by kernel_rfl) (by kernel_rfl) rfl rfl (by decide) (fun w' hw => x_ldR h.k rfl ag_A32_uint8 rfl (by8 y) (by rw [by8_length, hy32]) (by have := hw.range (i := 0) rfl (0 + (2 * k + 1) * 32) 32; rw [Nat.zero_add] at this ⊢; rwa [e1] at this)) (fun a h => ?_)
    refine d_alone 13 rfl (by kernel_rfl) (fun K hK => ?_)
    refine s_callB h rfl rfl rfl (by decide) Try.func73 rfl rfl rfl (pair_ok w x y hx32 hy32) (fun a w hb h => ?_)
    refine hK _ _ (fun _ _ => HS.ext hb) ?_
    replace HS := HS.ext hb
    clear hK
    refine d_takeP h (fun _ => HS) HN 14 rfl (by kernel_rfl) (by kernel_rfl) (by kernel_rfl) (by decide) rfl rfl (by decide) (fun w' => x_iaddr h.k rfl Try.underlying39 sz_A32_uint8 rfl rfl (m := k) (by omega) (by omega) (r := k * 32) (by omega)) (fun a h => ?_)
    refine d_alone 15 rfl (by kernel_rfl) (fun K hK => ?_)
    refine s_stA h rfl rfl rfl ag_A32_uint8 rfl rfl (by rw [by8_length, pairS_length]) (by8_one _) 0 rfl (by rw [List.length_append, by8_length, flat_len hks]; omega) (fun a w h => ?_)
    have h : St 34 w0 B _ [.box g T (by8 (upK l (k + 1)).flatten ++ J)] a w := h.parts (by
      have := junk_set hks J (k := k) (by omega) (x := pairS x y) (pairS_length _ _)
      rw [this, hx, hy, upK_set l k hlt]; rfl)
    refine hK _ _ (fun hne _ => absurd rfl hne) ?_
    clear hK
    refine d_done (by kernel_rfl) (HE _ _ ?_) _
    refine e_blkN ?_
    refine e_thenN ?_
    refine c_r ?_ -- region 5
    refine s_bin h rfl rfl rfl (by decide) rfl rfl (ib_add (nw64 (by omega))) (fun a h => ?_)
    refine s_move h rfl _ rfl rfl (by decide) rfl (fun a h => ?_)
    refine l_nil ?_
    exact e_thenN ⟨m - 1, by omega, k + 1, by omega, h.has (by exact ⟨rfl, rfl, rfl, trivial⟩)⟩
  · have hge : k = l.length / 2 := by have := of_decide_eq_false hb; omega
    refine wp_exit ?_
    refine e_thenX ?_
    refine e_thenX ?_
    refine e_blkX ?_
    refine e_thenN ?_
    refine c_rs ?_ -- region 6
    refine s_move h rfl _ rfl rfl (by decide) rfl (fun a h => ?_)
    refine s_move h rfl _ rfl rfl (by decide) rfl (fun a h => ?_)
    refine s_len h rfl rfl rfl (by decide) Try.underlying39 rfl (fun a h => ?_)
    refine s_bin h rfl rfl rfl (by decide) rfl rfl (ib_quo (by omega)) (fun a h => ?_)
    refine s_move h rfl _ rfl rfl (by decide) rfl (fun a h => ?_)
    refine s_len h rfl rfl rfl (by decide) Try.underlying39 rfl (fun a h => ?_)
    refine s_bin h rfl rfl rfl (by decide) rfl rfl (ib_quo (by omega)) (fun a h => ?_)
    refine s_slice h rfl rfl rfl (by decide) Try.underlying39 sz_A32_uint8 rfl 0 (l.length / 2) (l.length / 2) (by exact rfl) (by exact ⟨_, _, rfl, by omega⟩) (by exact ⟨_, _, rfl, by omega⟩) (by intro hh; cases hh) (by omega) (by omega) (by omega) (fun a A33 hA33 h => ?_)
    refine s_assign h rfl _ rfl rfl (by decide) rfl (fun a h => ?_)
    refine l_end ?_
    refine wp_ret ?_
    have e33 : A33 = some ⟨g, 0, none⟩ := by
      rw [hA33]
      split
      · rfl
      · rfl
    rw [e33] at h
    refine r_ret1 h rfl (rv_tmp h rfl) ⟨by8 (l.drop (l.length / 2)).flatten ++ J, ?_, trivial, ?_⟩
    · rw [upL_length]; rfl
    · have := h.m
      rw [hge, upK_full, List.flatten_append, by8_append, List.append_assoc] at this
      exact this
end Go.Proofs.Ytlgcfnbhnpnkiaa
