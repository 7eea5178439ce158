/- Trees of sums: the document's answer. -/
import Derived.Test.YtlgcfnbhnpnkiaaMk3
set_option linter.unusedVariables false
set_option linter.unusedSimpArgs false
namespace Go.Proofs.Ytlgcfnbhnpnkiaa
open Go.RowKit

set_option maxRecDepth 100000 in
theorem rwide_ok (w0 : World) (n : Nat) (h1 : 1 ≤ n) (h2 : n ≤ 1099511627776) :
    Calls Try.prog 25 #[.int .i64 (n : Int)] w0 fun e w' => e = .returned (.int .i64 ((2 ^ lg n : Nat) : Int)) ∧ Below w0.heap.size w0 w' := by
  refine c_enter Try.func25 rfl 10 rfl (by simp) (fun _ => False) _ rfl (fun a h => ?_)
  have hle := le_lg n (by omega)
  have hlt2 := lg_lt n (by omega)
  refine c_rs ?_ -- region 0
  refine s_assign h rfl _ rfl rfl (by decide) rfl (fun a h => ?_)
  refine l_end ?_
  refine c_rs ?_ -- region 1
  refine s_assign h rfl _ rfl rfl (by decide) rfl (fun a h => ?_)
  refine l_end ?_
  refine wp_seq ?_
  refine wp_block ?_
  refine c_loop (fun m a w => ∃ j : Nat, j + m = lg n ∧ St 10 w0 (fun _ => False) [(0, .int .i64 (n : Int)), (3, .int .i64 ((2 ^ j : Nat) : Int))] [] a w) (lg n) ⟨0, by omega, h.has (by exact ⟨rfl, rfl, trivial⟩)⟩ (fun m a w hI => ?_)
  obtain ⟨j, hj, h⟩ := hI
  have hjle : 2 ^ j ≤ 2 ^ lg n := Nat.pow_le_pow_right (by decide) (by omega)
  have hj0 : 0 < 2 ^ j := Nat.pow_pos (by decide)
  refine wp_seq ?_
  refine c_rs ?_ -- region 2
  refine s_move h rfl _ rfl rfl (by decide) rfl (fun a h => ?_)
  refine s_move h rfl _ rfl rfl (by decide) rfl (fun a h => ?_)
  refine s_bin h rfl rfl rfl (by decide) rfl rfl (ib_lss) (fun a h => ?_)
  refine l_end ?_
  refine c_cond h rfl (fun hb => ?_) (fun hb => ?_)
  · have hb' : 2 ^ j < n := by have := of_decide_eq_true hb; omega
    have hlt : j < lg n := by
      rcases Nat.lt_or_ge j (lg n) with h3 | h3
      · exact h3
      · have : 2 ^ lg n ≤ 2 ^ j := Nat.pow_le_pow_right (by decide) h3
        omega
    refine wp_skip ?_
    refine e_thenN ?_
    refine wp_block ?_
    refine c_r ?_ -- region 3
    refine s_move h rfl _ rfl rfl (by decide) rfl (fun a h => ?_)
    refine s_bin h rfl rfl rfl (by decide) rfl rfl (ib_mul (nw64 (by omega))) (fun a h => ?_)
    refine s_assign h rfl _ rfl rfl (by decide) rfl (fun a h => ?_)
    refine l_nil ?_
    refine e_blkN ?_
    exact e_thenN ⟨m - 1, by omega, j + 1, by omega, h.has (by exact ⟨rfl, by rw [Nat.pow_succ, Nat.mul_comm]; rfl, trivial⟩)⟩
  · have hb' : n ≤ 2 ^ j := by have := of_decide_eq_false hb; omega
    have hge : j = lg n := by
      rcases Nat.lt_or_ge j (lg n) with h3 | h3
      · have := lt_lg n (by omega) h3; omega
      · omega
    subst hge
    refine wp_exit ?_
    refine e_thenX ?_
    refine e_thenX ?_
    refine e_blkX ?_
    refine e_thenN ?_
    refine c_rs ?_ -- region 4
    refine s_move h rfl _ rfl rfl (by decide) rfl (fun a h => ?_)
    refine s_assign h rfl _ rfl rfl (by decide) rfl (fun a h => ?_)
    refine l_end ?_
    refine wp_ret ?_
    exact r_ret1 h rfl (rv_tmp h rfl) ⟨rfl, h.m.below⟩
/-- the root of 2^e sums from a place on -/
def nodeS (l : List (List UInt8)) : Nat → Nat → List UInt8
  | 0, k => l.getD k z32
  | e + 1, k => pairS (nodeS l e k) (nodeS l e (k + 2 ^ e))
theorem nodeS_length {l : List (List UInt8)} (h : S32 l) (e k : Nat) : (nodeS l e k).length = 32 := by
  cases e with
  | zero =>
    unfold nodeS
    rw [List.getD_eq_getElem?_getD]
    rcases Nat.lt_or_ge k l.length with h1 | h1
    · rw [List.getElem?_eq_getElem h1]; exact h.at h1
    · rw [List.getElem?_eq_none h1]; exact z32_length
  | succ e => exact pairS_length _ _
set_option maxRecDepth 100000 in
theorem rnode_walk (l : List (List UInt8)) (hl : S32 l) (A : Option Addr) (c : Nat) (hl2 : l.length ≤ 1099511627776) (e : Nat)
    (ih : ∀ e', e = e' + 1 → ∀ (w0 : World) (k M : Nat), M = 2 ^ e' → Rd w0 A (by8 l.flatten) → k + M ≤ 1099511627776 → Calls Try.prog 26 #[.slice A l.length c, .int .i64 (k : Int), .int .i64 (M : Int)] w0 fun r w' => r = .returned (.agg (by8 (nodeS l e' k)).toArray) ∧ Below w0.heap.size w0 w')
    (w0 : World) (k M : Nat) (hM : M = 2 ^ e) (hr : Rd w0 A (by8 l.flatten)) (hk : k + M ≤ 1099511627776) :
    Calls Try.prog 26 #[.slice A l.length c, .int .i64 (k : Int), .int .i64 (M : Int)] w0 fun r w' => r = .returned (.agg (by8 (nodeS l e k)).toArray) ∧ Below w0.heap.size w0 w' := by
  refine c_enter Try.func26 rfl 33 rfl (by simp) (fun _ => False) _ rfl (fun a h => ?_)
  have h := h.mem (h.m.arg (rdP A (by8 l.flatten)) hr (fun _ _ hh => hh))
  have hn32 := nodeS_length hl e k
  refine c_rs ?_ -- region 0
  refine s_alloc h rfl rfl rfl (by decide) zi_A32_uint8 rfl (fun a w g6 h => ?_)
  refine l_end ?_
  refine wp_seq ?_
  refine c_rs ?_ -- region 1
  refine s_move h rfl _ rfl rfl (by decide) rfl (fun a h => ?_)
  refine s_bin h rfl rfl rfl (by decide) rfl rfl (ib_eql) (fun a h => ?_)
  refine l_end ?_
  refine c_cond h rfl (fun hb => ?_) (fun hb => ?_)
  · have he0 : e = 0 := by
      have h1 : M = 1 := by have := of_decide_eq_true hb; omega
      rcases e with _ | e
      · rfl
      · have : 0 < 2 ^ e := Nat.pow_pos (by decide)
        rw [Nat.pow_succ] at hM; omega
    subst he0
    refine c_rs ?_ -- region 2
    refine s_alloc h rfl rfl rfl (by decide) zi_A32_uint8 rfl (fun a w g7 h => ?_)
    refine l_end ?_
    refine wp_seq ?_
    refine c_rs ?_ -- region 3
    refine s_move h rfl _ rfl rfl (by decide) rfl (fun a h => ?_)
    refine s_move h rfl _ rfl rfl (by decide) rfl (fun a h => ?_)
    refine s_len h rfl rfl rfl (by decide) Try.underlying39 rfl (fun a h => ?_)
    refine s_bin h rfl rfl rfl (by decide) rfl rfl (ib_lss) (fun a h => ?_)
    refine l_end ?_
    refine c_cond h rfl (fun hb => ?_) (fun hb => ?_)
    · have hlt : k < l.length := by have := of_decide_eq_true hb; omega
      obtain ⟨b, off, hA⟩ := (show Rd w A (by8 l.flatten) from h.m.ok 2 _ rfl).addr (by rw [by8_length, flat_len hl]; omega)
      subst hA
      have ho32 := hl.at hlt
      have hsum : w.rangeAt b (off + k * 32) (by8 l[k]) := Rd.sum hl (h.m.ok 2 _ rfl) hlt
      have hno : nodeS l 0 k = l[k] := by unfold nodeS; rw [List.getD_eq_getElem?_getD, List.getElem?_eq_getElem hlt]; rfl
      refine c_rs ?_ -- region 4
      refine s_move h rfl _ rfl rfl (by decide) rfl (fun a h => ?_)
      refine s_move h rfl _ rfl rfl (by decide) rfl (fun a h => ?_)
      refine s_iaddr h rfl rfl rfl (by decide) Try.underlying39 sz_A32_uint8 rfl rfl (m := k) (by omega) (by omega) (r := off + k * 32) (by omega) (fun a h => ?_)
      refine s_ldR h rfl rfl rfl (by decide) ag_A32_uint8 rfl (by8 l[k]) (by rw [by8_length, ho32]) hsum (fun a h => ?_)
      refine s_stW h rfl rfl rfl ag_A32_uint8 rfl rfl (by first | assumption | (rw [by8_length]; assumption) | (rw [by8_length]; rfl) | rfl | decide) (by first | exact by8_one _ | simp [Value.oneCell']) 1 rfl (by first | assumption | (rw [by8_length]; assumption) | (rw [by8_length]; rfl) | rfl | decide) (fun a w h => ?_)
      refine l_end ?_
      refine wp_ret ?_
      refine e_thenR ?_
      refine e_thenR ?_
      refine r_ret1 h rfl (rv_cellA h rfl 1 rfl ag_A32_uint8 (by first | assumption | (rw [by8_length]; assumption) | (rw [by8_length]; rfl) | rfl | decide)) ⟨?_, h.m.below⟩
      rw [hno]
    · have hge : l.length ≤ k := by have := of_decide_eq_false hb; omega
      have hno : nodeS l 0 k = z32 := by unfold nodeS; rw [List.getD_eq_getElem?_getD, List.getElem?_eq_none hge]; rfl
      refine wp_skip ?_
      refine e_thenN ?_
      refine c_rs ?_ -- region 5
      refine s_ldW h rfl rfl rfl (by decide) ag_A32_uint8 rfl 0 (cs := by8 z32) rfl (by rw [by8_length, z32_length]) (fun a h => ?_)
      refine s_stW h rfl rfl rfl ag_A32_uint8 rfl rfl (by rw [by8_length, z32_length]) (by8_one _) 1 rfl (by rfl) (fun a w h => ?_)
      refine l_end ?_
      refine wp_ret ?_
      refine e_thenR ?_
      refine r_ret1 h rfl (rv_cellA h rfl 1 rfl ag_A32_uint8 (by rw [by8_length, z32_length])) ⟨?_, h.m.below⟩
      rw [hno]
  · obtain ⟨e', he'⟩ : ∃ e', e = e' + 1 := ⟨e - 1, by
      have h1 : ¬ M = 1 := by have := of_decide_eq_false hb; omega
      rcases e with _ | e
      · simp at hM; omega
      · omega⟩
    subst he'
    obtain ⟨M', hM'⟩ : ∃ M', M' = 2 ^ e' := ⟨_, rfl⟩
    have hMM : M = 2 * M' := by rw [hM, hM', Nat.pow_succ]; omega
    have n1 := nodeS_length hl e' k
    have n2 := nodeS_length hl e' (k + M')
    have hno : nodeS l (e' + 1) k = pairS (nodeS l e' k) (nodeS l e' (k + M')) := by rw [hM']; rfl
    refine wp_skip ?_
    refine e_thenN ?_
    refine c_rs ?_ -- region 6
    refine s_move h rfl _ rfl rfl (by decide) rfl (fun a h => ?_)
    refine s_move h rfl _ rfl rfl (by decide) rfl (fun a h => ?_)
    refine s_move h rfl _ rfl rfl (by decide) rfl (fun a h => ?_)
    refine s_bin h rfl rfl rfl (by decide) rfl rfl (ib_quo (by omega)) (fun a h => ?_)
    rw [show (M : Int) / 2 = (M' : Int) by omega] at h
    refine s_callB h rfl rfl rfl (by decide) Try.func26 rfl rfl rfl (ih e' rfl w k M' hM' (h.m.ok 1 _ rfl) (by omega)) (fun a w hb h => ?_)
    refine s_move h rfl _ rfl rfl (by decide) rfl (fun a h => ?_)
    refine s_move h rfl _ rfl rfl (by decide) rfl (fun a h => ?_)
    refine s_move h rfl _ rfl rfl (by decide) rfl (fun a h => ?_)
    refine s_bin h rfl rfl rfl (by decide) rfl rfl (ib_quo (by omega)) (fun a h => ?_)
    rw [show (M : Int) / 2 = (M' : Int) by omega] at h
    refine s_bin h rfl rfl rfl (by decide) rfl rfl (ib_add (nw64 (by omega))) (fun a h => ?_)
    rw [show (k : Int) + (M' : Int) = ((k + M' : Nat) : Int) by omega] at h
    refine s_move h rfl _ rfl rfl (by decide) rfl (fun a h => ?_)
    refine s_bin h rfl rfl rfl (by decide) rfl rfl (ib_quo (by omega)) (fun a h => ?_)
    rw [show (M : Int) / 2 = (M' : Int) by omega] at h
    refine s_callB h rfl rfl rfl (by decide) Try.func26 rfl rfl rfl (ih e' rfl w (k + M') M' hM' (h.m.ok 1 _ rfl) (by omega)) (fun a w hb h => ?_)
    refine s_callB h rfl rfl rfl (by decide) Try.func27 rfl rfl rfl (rpair_ok w _ _ n1 n2) (fun a w hb h => ?_)
    refine s_stW h rfl rfl rfl ag_A32_uint8 rfl rfl (by rw [by8_length, pairS_length]) (by8_one _) 0 rfl (by rfl) (fun a w h => ?_)
    refine l_end ?_
    refine wp_ret ?_
    refine r_ret1 h rfl (rv_cellA h rfl 0 rfl ag_A32_uint8 (by rw [by8_length, pairS_length])) ⟨?_, h.m.below⟩
    rw [hno]
theorem rnode_ok (l : List (List UInt8)) (hl : S32 l) (A : Option Addr) (c : Nat) (hl2 : l.length ≤ 1099511627776) : ∀ (e : Nat) (w0 : World) (k M : Nat), M = 2 ^ e → Rd w0 A (by8 l.flatten) → k + M ≤ 1099511627776 → Calls Try.prog 26 #[.slice A l.length c, .int .i64 (k : Int), .int .i64 (M : Int)] w0 fun r w' => r = .returned (.agg (by8 (nodeS l e k)).toArray) ∧ Below w0.heap.size w0 w'
  | 0, w0, k, M, hM, hr, hk => rnode_walk l hl A c hl2 0 (fun e' h => by omega) w0 k M hM hr hk
  | e + 1, w0, k, M, hM, hr, hk => rnode_walk l hl A c hl2 (e + 1) (fun e' h => by obtain rfl : e = e' := by omega
                                                                                   exact rnode_ok l hl A c hl2 e) w0 k M hM hr hk
/-- the levels above: node by node -/
def levelL (l : List (List UInt8)) (e n : Nat) : List (List UInt8) := (List.range n).map fun k => nodeS l e (k * 2 ^ e)
theorem up_level (l : List (List UInt8)) (e n : Nat) : upL (levelL l e (2 * n)) = levelL l (e + 1) n := by
  apply List.ext_getElem
  · simp [upL_length, levelL]
  · intro k h1 h2
    have hk : k < n := by simpa [levelL] using h2
    rw [upL_at _ _ h1 (by simp [levelL]; omega)]
    simp only [levelL, List.getElem_map, List.getElem_range, nodeS]
    rw [show 2 * k * 2 ^ e = k * 2 ^ (e + 1) by rw [Nat.pow_succ, Nat.mul_comm 2 k, Nat.mul_assoc, Nat.mul_comm 2], show (2 * k + 1) * 2 ^ e = k * 2 ^ (e + 1) + 2 ^ e by rw [Nat.pow_succ, Nat.add_mul, Nat.one_mul, Nat.mul_comm 2 k, Nat.mul_assoc, Nat.mul_comm 2]]
theorem level_zero (l : List (List UInt8)) (h : 0 < l.length) : levelL l 0 (2 ^ lg l.length) = wideL l := by
  have hle := le_lg _ h
  apply List.ext_getElem
  · rw [wideL_length l h]; simp [levelL]
  · intro k h1 h2
    simp only [levelL, List.getElem_map, List.getElem_range, nodeS, Nat.pow_zero, Nat.mul_one, wideL]
    rw [List.getD_eq_getElem?_getD]
    rcases Nat.lt_or_ge k l.length with hk | hk
    · rw [List.getElem?_eq_getElem hk, List.getElem_append_left hk]; rfl
    · rw [List.getElem?_eq_none hk, List.getElem_append_right hk]; simp
theorem rootE_level (l : List (List UInt8)) : ∀ (d e : Nat), rootE d (levelL l e (2 ^ d)) = nodeS l (e + d) 0
  | 0, e => by simp [rootE, levelL]
  | d + 1, e => by rw [rootE, show 2 ^ (d + 1) = 2 * 2 ^ d by rw [Nat.pow_succ]; omega, up_level, rootE_level l d (e + 1), show e + 1 + d = e + (d + 1) by omega]
theorem root_node (l : List (List UInt8)) (h : 0 < l.length) : nodeS l (lg l.length) 0 = rootS l := by
  unfold rootS
  rw [← level_zero l h, rootE_level, Nat.zero_add]
set_option maxRecDepth 100000 in
theorem rroot_ok (w0 : World) (A : Option Addr) (l : List (List UInt8)) (c : Nat) (hl : S32 l) (hr : Rd w0 A (by8 l.flatten)) (h1 : 1 ≤ l.length) (h2 : l.length ≤ 4096) :
    Calls Try.prog 32 #[.slice A l.length c] w0 fun e w' => e = .returned (.agg (by8 (rootS l)).toArray) ∧ Below w0.heap.size w0 w' := by
  refine c_enter Try.func32 rfl 8 rfl (by simp) (fun _ => False) _ rfl (fun a h => ?_)
  have h := h.mem (h.m.arg (rdP A (by8 l.flatten)) hr (fun _ _ hh => hh))
  have hlt2 := lg_lt l.length (by omega)
  have h32 := rootS_length hl
  refine c_rs ?_ -- region 0
  refine s_alloc h rfl rfl rfl (by decide) zi_A32_uint8 rfl (fun a w g2 h => ?_)
  refine l_end ?_
  refine c_rs ?_ -- region 1
  refine s_move h rfl _ rfl rfl (by decide) rfl (fun a h => ?_)
  refine s_move h rfl _ rfl rfl (by decide) rfl (fun a h => ?_)
  refine s_len h rfl rfl rfl (by decide) Try.underlying39 rfl (fun a h => ?_)
  refine s_callB h rfl rfl rfl (by decide) Try.func25 rfl rfl rfl (rwide_ok w l.length h1 (by omega)) (fun a w hb h => ?_)
  have hC := rnode_ok l hl A c (by omega) (lg l.length) w 0 _ rfl (h.m.ok 1 _ rfl) (by omega)
  rw [root_node l (by omega)] at hC
  refine s_callB h rfl rfl rfl (by decide) Try.func26 rfl rfl rfl (hC) (fun a w hb h => ?_)
  refine s_stW h rfl rfl rfl ag_A32_uint8 rfl rfl (by first | assumption | (rw [by8_length]; assumption) | (rw [by8_length]; rfl) | rfl | decide) (by first | exact by8_one _ | simp [Value.oneCell']) 0 rfl (by first | assumption | (rw [by8_length]; assumption) | (rw [by8_length]; rfl) | rfl | decide) (fun a w h => ?_)
  refine l_end ?_
  refine wp_ret ?_
  exact r_ret1 h rfl (rv_cellA h rfl 0 rfl ag_A32_uint8 (by first | assumption | (rw [by8_length]; assumption) | (rw [by8_length]; rfl) | rfl | decide)) ⟨rfl, h.m.below⟩
end Go.Proofs.Ytlgcfnbhnpnkiaa
