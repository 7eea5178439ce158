/- Trees of sums: ways. -/
import Derived.Test.YtlgcfnbhnpnkiaaMk3
import Derived.Test.YtlgcfnbhnpnkiaaBig2
set_option linter.unusedVariables false
set_option linter.unusedSimpArgs false
namespace Go.Proofs.Ytlgcfnbhnpnkiaa
open Go.RowKit

/-- a place's way, up from 2^e sums -/
def wayE : Nat → List (List UInt8) → Nat → List (List UInt8)
  | 0, _, _ => []
  | e + 1, l, i => l.getD (sib i) z32 :: wayE e (upL l) (i / 2)
theorem wayE_length : ∀ (e : Nat) (l : List (List UInt8)) (i : Nat), (wayE e l i).length = e
  | 0, _, _ => rfl
  | e + 1, l, i => by rw [wayE, List.length_cons, wayE_length]
theorem getD_32 {l : List (List UInt8)} (h : S32 l) (k : Nat) : (l.getD k z32).length = 32 := by
  rw [List.getD_eq_getElem?_getD]
  rcases Nat.lt_or_ge k l.length with h1 | h1
  · rw [List.getElem?_eq_getElem h1]; exact h.at h1
  · rw [List.getElem?_eq_none h1]; exact z32_length
theorem wayE_s32 : ∀ (e : Nat) (l : List (List UInt8)) (i : Nat), S32 l → S32 (wayE e l i)
  | 0, _, _, _ => S32.nil
  | e + 1, l, i, h => S32.cons (getD_32 h _) (wayE_s32 e _ _ (upL_s32 l))
def wayS (l : List (List UInt8)) (i : Nat) : List (List UInt8) := wayE (lg l.length) (wideL l) i
def inOk (n : Nat) (i : Int) : Prop := okN n ∧ 0 ≤ i ∧ i < n
instance (n : Nat) (i : Int) : Decidable (inOk n i) := by unfold inOk; infer_instance
def wayV (l : List (List UInt8)) (i : Int) : List (List UInt8) := if inOk l.length i then wayS l i.toNat else []
theorem wayV_s32 {l : List (List UInt8)} (h : S32 l) (i : Int) : S32 (wayV l i) := by unfold wayV; split; exact wayE_s32 _ _ _ (wideL_s32 h); exact S32.nil
theorem lg_le (n : Nat) (h : 0 < n) (h2 : n ≤ 4096) : lg n ≤ 12 := by
  rcases Nat.lt_or_ge 12 (lg n) with h1 | h1
  · have := lt_lg n h h1; simp at this; omega
  · exact h1
set_option maxRecDepth 100000 in
theorem way_ok (w0 : World) (A : Option Addr) (l : List (List UInt8)) (c : Nat) (hl : S32 l) (hr : Rd w0 A (by8 l.flatten)) (i : Int) (hi : -9223372036854775808 ≤ i ∧ i ≤ 9223372036854775807) :
    Calls Try.prog 33 #[.slice A l.length c, .int .i64 i] w0 fun e w' => ∃ v, e = .returned (.tuple #[v, .int .i64 (errV (inOk l.length i))]) ∧ NewS w0 w' 40 32 v (wayV l i).length (by8 (wayV l i).flatten) := by
  refine c_enter Try.func33 rfl 39 rfl (by simp) (fun _ => False) _ rfl (fun a h => ?_)
  have h := h.mem (h.m.arg (rdP A (by8 l.flatten)) hr (fun _ _ hh => hh))
  refine c_rs ?_ -- region 0
  refine s_assign h rfl _ rfl rfl (by decide) rfl (fun a h => ?_)
  refine s_assign h rfl _ rfl rfl (by decide) rfl (fun a h => ?_)
  refine l_end ?_
  refine wp_seq ?_
  refine c_rs ?_ -- region 1
  refine s_move h rfl _ rfl rfl (by decide) rfl (fun a h => ?_)
  refine s_callB h rfl rfl rfl (by decide) Try.func68 rfl rfl rfl (may_ok _ A l.length c) (fun a w hb h => ?_)
  refine s_boolop h rfl rfl rfl (by decide) rfl (fun a h => ?_)
  refine s_move h rfl _ rfl rfl (by decide) rfl (fun a h => ?_)
  apply s_or (t := 11) (d := 14) h 3 rfl
  · intro hB
    refine g_no h rfl rfl rfl rfl hB rfl (by decide) (fun a h => ?_)
    refine g_no h rfl rfl rfl rfl hB rfl (by decide) (fun a h => ?_)
    refine s_pick h rfl rfl rfl (by decide) rfl (fun _ => rfl) (fun hh => absurd (hB.symm.trans hh) (by decide)) (fun a h => ?_)
    exact h.has (by repeat (first | exact trivial | refine ⟨rfl, ?_⟩))
  · intro hB
    refine g_yes h rfl rfl rfl rfl hB ?_
    refine s_move h rfl _ rfl rfl (by decide) rfl (fun a h => ?_)
    refine g_yes h rfl rfl rfl rfl hB ?_
    refine s_bin h rfl rfl rfl (by decide) rfl rfl (ib_lss) (fun a h => ?_)
    refine s_pick h rfl rfl rfl (by decide) rfl (fun hh => absurd (hB.symm.trans hh) (by decide)) (fun _ => rfl) (fun a h => ?_)
    exact h.has (by repeat (first | exact trivial | refine ⟨rfl, ?_⟩))
  intro a w h
  refine s_move h rfl _ rfl rfl (by decide) rfl (fun a h => ?_)
  apply s_or (t := 15) (d := 20) h 5 rfl
  · intro hB
    refine g_no h rfl rfl rfl rfl hB rfl (by decide) (fun a h => ?_)
    refine g_no h rfl rfl rfl rfl hB rfl (by decide) (fun a h => ?_)
    refine g_no h rfl rfl rfl rfl hB rfl (by decide) (fun a h => ?_)
    refine g_no h rfl rfl rfl rfl hB rfl (by decide) (fun a h => ?_)
    refine s_pick h rfl rfl rfl (by decide) rfl (fun _ => rfl) (fun hh => absurd (hB.symm.trans hh) (by decide)) (fun a h => ?_)
    exact h.has (by repeat (first | exact trivial | refine ⟨rfl, ?_⟩))
  · intro hB
    refine g_yes h rfl rfl rfl rfl hB ?_
    refine s_move h rfl _ rfl rfl (by decide) rfl (fun a h => ?_)
    refine g_yes h rfl rfl rfl rfl hB ?_
    refine s_move h rfl _ rfl rfl (by decide) rfl (fun a h => ?_)
    refine g_yes h rfl rfl rfl rfl hB ?_
    refine s_len h rfl rfl rfl (by decide) Try.underlying39 rfl (fun a h => ?_)
    refine g_yes h rfl rfl rfl rfl hB ?_
    refine s_bin h rfl rfl rfl (by decide) rfl rfl (ib_geq) (fun a h => ?_)
    refine s_pick h rfl rfl rfl (by decide) rfl (fun hh => absurd (hB.symm.trans hh) (by decide)) (fun _ => rfl) (fun a h => ?_)
    exact h.has (by repeat (first | exact trivial | refine ⟨rfl, ?_⟩))
  intro a w h
  refine l_end ?_
  refine c_cond h rfl (fun hb => ?_) (fun hb => ?_)
  · have hno : ¬ inOk l.length i := by
      intro ⟨h1, h2, h3⟩
      have h4 : decide (1 ≤ l.length ∧ l.length ≤ 4096) = true := decide_eq_true h1
      rw [h4] at hb
      simp only [Bool.not_true, Bool.false_or, Bool.or_eq_true, decide_eq_true_eq] at hb
      omega
    refine c_rs ?_ -- region 2
    refine s_assign h rfl _ rfl rfl (by decide) rfl (fun a h => ?_)
    refine s_assign h rfl _ rfl rfl (by decide) rfl (fun a h => ?_)
    refine l_end ?_
    refine wp_ret ?_
    refine e_thenR ?_
    have h := h.mem (h.m.nilrow 40 32)
    refine r_ret2 h rfl (rv_tmp h rfl) (rv_tmp h rfl) ⟨.slice none 0 0, ?_, ?_⟩
    · unfold errV; rw [if_neg hno]
    · unfold wayV; rw [if_neg hno]; exact h.m.newRowS (i := 0) rfl
  · have hok : inOk l.length i := by
      simp only [Bool.or_eq_false_iff, decide_eq_false_iff_not, Bool.not_eq_false', decide_eq_true_eq] at hb
      obtain ⟨⟨h1, h2⟩, h3⟩ := hb
      exact ⟨h1, by omega, by omega⟩
    have hok' := hok
    obtain ⟨⟨h1, h2⟩, h3, h4⟩ := hok'
    obtain ⟨i0, rfl⟩ : ∃ n : Nat, i = (n : Int) := ⟨i.toNat, by omega⟩
    have hlg := lg_le l.length (by omega) h2
    refine wp_skip ?_
    refine e_thenN ?_
    refine c_rs ?_ -- region 3
    refine s_assign h rfl _ rfl rfl (by decide) rfl (fun a h => ?_)
    refine l_end ?_
    refine wp_seq ?_
    refine c_rs ?_ -- region 4
    refine s_move h rfl _ rfl rfl (by decide) rfl (fun a h => ?_)
    refine s_callNS h rfl rfl rfl (by decide) Try.func69 rfl rfl rfl (wide_ok w A l c hl (h.m.ok 0 _ rfl) h1 h2) (fun a w v22 hb h => ?_)
    refine s_assign h rfl _ rfl rfl (by decide) rfl (fun a h => ?_)
    obtain ⟨g22, c22, J, rfl, hc1, hc2, hmb⟩ := h.m.rowBox (i := 0) rfl (Nat.pow_pos (by decide))
    have h := h.mem hmb
    have h := h.mem (h.m.nilrow 40 32)
    have hle := le_lg l.length (by omega)
    refine l_end ?_
    refine wp_block ?_
    refine c_loop (fun m a w => ∃ (l' : List (List UInt8)) (J : List Value) (c i' : Nat) (out : List (List UInt8)) (A' : Option Addr) (c' : Nat), m ≤ 12 ∧ out.length + m = lg l.length ∧ S32 out ∧ l'.length = 2 ^ m ∧ l'.length ≤ c ∧ c ≤ 9223372036854775807 ∧ S32 l' ∧ i' < 2 ^ m ∧ out ++ wayE m l' i' = wayS l i0 ∧ St 39 w0 (fun _ => False) [(1, .int .i64 (i' : Int)), (6, .slice A' out.length c'), (7, .slice (some ⟨g22, 0, none⟩) l'.length c), (5, .int .i64 0)] [.row (.slice A' out.length c') 40 32 out.length (by8 out.flatten), .box g22 40 (by8 l'.flatten ++ J)] a w) (lg l.length) ⟨wideL l, J, c22, i0, [], none, 0, hlg, by simp, S32.nil, wideL_length l (by omega), by rw [wideL_length l (by omega)]; exact hc1, by unfold maxLen at hc2; omega, wideL_s32 hl, by omega, rfl, by rw [wideL_length l (by omega)]; exact (h.pick [0, 1] (by decide) rfl).has (by exact ⟨rfl, rfl, rfl, rfl, trivial⟩)⟩ (fun m a w hI => ?_)
    obtain ⟨l', J, c', i', out, A', co, hm12, hom, hso, hl2, hc1', hc2', hs', hi', hway, h⟩ := hI
    refine wp_seq ?_
    refine c_rs ?_ -- region 5
    refine s_move h rfl _ rfl rfl (by decide) rfl (fun a h => ?_)
    refine s_len h rfl rfl rfl (by decide) Try.underlying39 rfl (fun a h => ?_)
    refine s_bin h rfl rfl rfl (by decide) rfl rfl (ib_gtr) (fun a h => ?_)
    refine l_end ?_
    refine c_cond h rfl (fun hb => ?_) (fun hb => ?_)
    · have hgt : 1 < l'.length := by have := of_decide_eq_true hb; omega
      obtain ⟨m', rfl⟩ : ∃ m', m = m' + 1 := ⟨m - 1, by
        rcases m with _ | m
        · simp at hl2; omega
        · omega⟩
      have hsib := sib_lt i' m' hi'
      have hp12 : 2 ^ (m' + 1) ≤ 2 ^ 12 := Nat.pow_le_pow_right (by decide) hm12
      have e12 : (2 : Nat) ^ 12 = 4096 := by decide
      obtain ⟨x, hx⟩ : ∃ x, x = l'[sib i']'(by omega) := ⟨_, rfl⟩
      have hx32 : x.length = 32 := by rw [hx]; exact hs'.at _
      have ex := junk_at hs' J (k := sib i') (by omega)
      rw [← hx] at ex
      have hg : l'.getD (sib i') z32 = x := by rw [List.getD_eq_getElem?_getD, List.getElem?_eq_getElem (by omega), hx]; rfl
      rw [wayE, hg] at hway
      have hfl := flat_len hs'
      refine wp_skip ?_
      refine e_thenN ?_
      refine wp_seq ?_
      refine wp_block ?_
      refine c_rs ?_ -- region 7
      refine s_move h rfl _ rfl rfl (by decide) rfl (fun a h => ?_)
      refine s_move h rfl _ rfl rfl (by decide) rfl (fun a h => ?_)
      refine s_move h rfl _ rfl rfl (by decide) rfl (fun a h => ?_)
      refine s_bin h rfl rfl rfl (by decide) rfl rfl (ib_xor (xor_one _ (by omega))) (fun a h => ?_)
      refine s_iaddr h rfl rfl rfl (by decide) Try.underlying39 sz_A32_uint8 rfl rfl (m := sib i') (by omega) (by omega) (r := sib i' * 32) (by omega) (fun a h => ?_)
      refine s_ldA h rfl rfl rfl (by decide) ag_A32_uint8 rfl 1 rfl (by rw [List.length_append, by8_length]; omega) ex (fun a h => ?_)
      refine s_bsliceS h rfl rfl rfl (by decide) Try.underlying39 zi_A32_uint8 rfl hx32 (fun a w g34 h => ?_)
      refine s_append h rfl rfl rfl (by decide) Try.underlying39 zb_A32_uint8 rfl (by decide) rfl 1 rfl rfl (by8 x) (by rw [by8_length, hx32]) (by have := h.m.rdBox (i := 0) rfl 0; rwa [List.drop_zero] at this) (by8_one _) (by omega) (by unfold maxLen; omega) (fun a w v35 h => ?_)
      obtain ⟨A35, c35, rfl, _, _, _⟩ := h.m.rdRow (i := 1) rfl
      have h := h.pick [2, 1] (by decide) rfl
      refine s_assign h rfl _ rfl rfl (by decide) rfl (fun a h => ?_)
      refine l_end ?_
      refine c_r ?_ -- region 8
      refine s_move h rfl _ rfl rfl (by decide) rfl (fun a h => ?_)
      refine s_bin h rfl rfl rfl (by decide) rfl rfl (ib_quo (by omega)) (fun a h => ?_)
      refine s_assign h rfl _ rfl rfl (by decide) rfl (fun a h => ?_)
      refine l_nil ?_
      refine e_blkN ?_
      refine e_thenN ?_
      refine c_r ?_ -- region 6
      refine s_move h rfl _ rfl rfl (by decide) rfl (fun a h => ?_)
      refine s_call h rfl rfl rfl (by decide) Try.func70 rfl rfl rfl (up_ok w _ g22 _ l' J c' hs' (Mem.sub (Ls := [_]) h.m) hc1' hc2') (fun e w' hp => ?_)
      obtain ⟨J', rfl, _, hm'⟩ := hp
      refine ⟨_, rfl, fun a hk => ?_⟩
      have h : St 39 w0 _ _ _ a w' := ⟨hk, h.m.frame hm' rfl⟩
      refine s_assign h rfl _ rfl rfl (by decide) rfl (fun a h => ?_)
      refine l_nil ?_
      have h := h.pick [1, 0] (by decide) rfl
      refine e_thenN ⟨m', by omega, upL l', J', _, i' / 2, out ++ [x], A35, c35, by omega, by simp; omega, hso.append (S32.cons hx32 S32.nil), by rw [upL_length, hl2, pow_half], Nat.le_refl _, by rw [upL_length]; omega, upL_s32 _, by rw [Nat.pow_succ] at hi'; omega, by rw [← hway]; simp, ?_⟩
      have efl : by8 (out ++ [x]).flatten = by8 out.flatten ++ by8 x := by rw [List.flatten_append, by8_append]; simp
      rw [efl, List.length_append]
      exact h.has (by exact ⟨rfl, rfl, rfl, rfl, trivial⟩)
    · have hle' : ¬ 1 < l'.length := by have := of_decide_eq_false hb; omega
      have hm0 : m = 0 := by
        rcases m with _ | m
        · rfl
        · have : 0 < 2 ^ m := Nat.pow_pos (by decide)
          rw [Nat.pow_succ] at hl2; omega
      subst hm0
      rw [wayE, List.append_nil] at hway
      refine wp_exit ?_
      refine e_thenX ?_
      refine e_thenX ?_
      refine e_blkX ?_
      refine e_thenN ?_
      refine c_rs ?_ -- region 9
      refine s_move h rfl _ rfl rfl (by decide) rfl (fun a h => ?_)
      refine s_assign h rfl _ rfl rfl (by decide) rfl (fun a h => ?_)
      refine s_assign h rfl _ rfl rfl (by decide) rfl (fun a h => ?_)
      refine l_end ?_
      refine wp_ret ?_
      refine r_ret2 h rfl (rv_tmp h rfl) (rv_tmp h rfl) ⟨.slice A' out.length co, ?_, ?_⟩
      · unfold errV; rw [if_pos hok]
      · unfold wayV; rw [if_pos hok, Int.toNat_natCast, ← hway]; exact h.m.newRowS (i := 0) rfl
set_option maxRecDepth 100000 in
theorem cloneS_nil (w0 : World) : Calls Try.prog 76 #[.slice none 0 0] w0 fun e w' => ∃ v, e = .returned v ∧ NewS w0 w' 40 32 v 0 [] := by
  refine c_enter Try.func76 rfl 8 rfl (by simp) (fun _ => False) _ rfl (fun a h => ?_)
  refine c_rs ?_ -- region 0
  refine s_assign h rfl _ rfl rfl (by decide) rfl (fun a h => ?_)
  refine l_end ?_
  refine wp_seq ?_
  refine c_rs ?_ -- region 1
  refine s_move h rfl _ rfl rfl (by decide) rfl (fun a h => ?_)
  refine s_run h rfl rfl (by decide) rfl rfl rfl (fun a h => ?_)
  refine l_end ?_
  refine c_cond h rfl (fun hb => ?_) (fun hb => ?_)
  · refine c_rs ?_ -- region 2
    refine s_assign h rfl _ rfl rfl (by decide) rfl (fun a h => ?_)
    refine l_end ?_
    refine wp_ret ?_
    refine e_thenR ?_
    have h := h.mem (h.m.nilrow 40 32)
    exact r_ret1 h rfl (rv_tmp h rfl) ⟨_, rfl, h.m.newRowS (i := 0) rfl⟩
  · cases hb
set_option maxRecDepth 100000 in
theorem cloneS_some (w0 : World) (b off : Nat) (l : List (List UInt8)) (c : Nat) (hl : S32 l) (hr : Rd w0 (some ⟨b, off, none⟩) (by8 l.flatten)) (h2 : l.length ≤ 4096) :
    Calls Try.prog 76 #[.slice (some ⟨b, off, none⟩) l.length c] w0 fun e w' => ∃ v, e = .returned v ∧ NewS w0 w' 40 32 v l.length (by8 l.flatten) := by
  refine c_enter Try.func76 rfl 8 rfl (by simp) (fun _ => False) _ rfl (fun a h => ?_)
  have h := h.mem (h.m.arg (rdP (some ⟨b, off, none⟩) (by8 l.flatten)) hr (fun _ _ hh => hh))
  refine c_rs ?_ -- region 0
  refine s_assign h rfl _ rfl rfl (by decide) rfl (fun a h => ?_)
  refine l_end ?_
  refine wp_seq ?_
  refine c_rs ?_ -- region 1
  refine s_move h rfl _ rfl rfl (by decide) rfl (fun a h => ?_)
  refine s_run h rfl rfl (by decide) rfl rfl rfl (fun a h => ?_)
  refine l_end ?_
  refine c_cond h rfl (fun hb => ?_) (fun hb => ?_)
  · cases hb
  · refine wp_skip ?_
    refine e_thenN ?_
    refine c_rs ?_ -- region 3
    refine s_bslice0 h rfl rfl rfl (by decide) Try.underlying39 sz_A32_uint8 (fun a w g5 h => ?_)
    refine s_move h rfl _ rfl rfl (by decide) rfl (fun a h => ?_)
    refine s_append h rfl rfl rfl (by decide) Try.underlying39 zb_A32_uint8 rfl (by decide) rfl 0 rfl rfl (by8 l.flatten) (by rw [by8_length, flat_len hl]) (h.m.ok 1 _ rfl) (by8_one _) (by omega) (by unfold maxLen; omega) (fun a w v7 h => ?_)
    refine s_assign h rfl _ rfl rfl (by decide) rfl (fun a h => ?_)
    refine l_end ?_
    refine wp_ret ?_
    refine r_ret1 h rfl (rv_tmp h rfl) ⟨v7, rfl, ?_⟩
    have := h.m.newRowS (i := 0) rfl
    rw [List.nil_append, Nat.zero_add] at this
    exact this
end Go.Proofs.Ytlgcfnbhnpnkiaa
