/- The statement MerkleDistinct: the law. -/
import Derived.Test.YtlgcfnbhnpnkiaaMkD
set_option linter.unusedVariables false
set_option linter.unusedSimpArgs false
namespace Go.Proofs.Ytlgcfnbhnpnkiaa
open Go.RowKit
set_option maxRecDepth 100000 in
set_option maxHeartbeats 1000000 in
theorem merkleDistinct_walk (w0 : World) (A : Option Addr) (l : List (List UInt8)) (c : Nat) (hl : S32 l) (hr : Rd w0 A (by8 l.flatten)) (hlc : l.length ≤ c) (hc : c ≤ maxLen) :
    Calls Try.prog 5 #[.slice A l.length c] w0 fun e w' => e = .returned (.bool true) ∧ Below w0.heap.size w0 w' := by
  refine c_enter Try.func5 rfl 66 rfl (by simp) (fun _ => False) _ rfl (fun a h => ?_)
  have h := h.mem (h.m.arg (rdP A (by8 l.flatten)) hr (fun _ _ hh => hh))
  refine c_rs ?_ -- region 0
  refine s_assign h rfl _ rfl rfl (by decide) rfl (fun a h => ?_)
  refine l_end ?_
  refine wp_seq ?_
  refine c_rs ?_ -- region 1
  refine s_callB h rfl rfl rfl (by decide) Try.func23 rfl rfl rfl (awake23_ok _) (fun a w hb h => ?_)
  refine s_boolop h rfl rfl rfl (by decide) rfl (fun a h => ?_)
  refine l_end ?_
  refine c_cond h rfl (fun hb => ?_) (fun hb => ?_)
  · cases hb
  · refine wp_skip ?_
    refine e_thenN ?_
    refine wp_seq ?_
    refine c_rs ?_ -- region 3
    refine s_move h rfl _ rfl rfl (by decide) rfl (fun a h => ?_)
    refine s_len h rfl rfl rfl (by decide) Try.underlying39 rfl (fun a h => ?_)
    refine s_bin h rfl rfl rfl (by decide) rfl rfl (ib_gtr) (fun a h => ?_)
    refine l_end ?_
    refine c_cond h rfl (fun hb => ?_) (fun hb => ?_)
    · refine c_rs ?_ -- region 4
      refine s_assign h rfl _ rfl rfl (by decide) rfl (fun a h => ?_)
      refine l_end ?_
      refine wp_ret ?_
      refine e_thenR ?_
      exact r_ret1 h rfl (rv_tmp h rfl) ⟨rfl, h.m.below⟩
    · have hl100 : l.length ≤ 100 := by have := of_decide_eq_false hb; omega
      refine wp_skip ?_
      refine e_thenN ?_
      refine c_rs ?_ -- region 5
      refine s_assign h rfl _ rfl rfl (by decide) rfl (fun a h => ?_)
      refine l_end ?_
      refine c_rs ?_ -- region 6
      refine s_assign h rfl _ rfl rfl (by decide) rfl (fun a h => ?_)
      have h := h.mem (h.m.nilrow 40 32)
      refine l_end ?_
      refine wp_seq ?_
      refine c_rs ?_ -- region 7
      refine s_move h rfl _ rfl rfl (by decide) rfl (fun a h => ?_)
      refine s_len h rfl rfl rfl (by decide) Try.underlying39 rfl (fun a h => ?_)
      refine s_move h rfl _ rfl rfl (by decide) rfl (fun a h => ?_)
      refine l_end ?_
      refine wp_block ?_
      refine c_loop (fun m a w => ∃ (k : Nat) (Ao : Option Addr) (co : Nat), k + m = l.length ∧ St 66 w0 (fun _ => False) [(0, .slice A l.length c), (3, .int .i64 ((keysL (l.take k)).length : Int)), (4, .slice Ao k co), (15, .slice A l.length c), (16, .int .i64 (l.length : Int)), (17, .int .i64 (k : Int))] [.row (.slice Ao k co) 40 32 k (by8 (l.take k).reverse.flatten), .ro (rdP A (by8 l.flatten))] a w) l.length ⟨0, none, 0, by omega, h.has (by exact ⟨rfl, rfl, rfl, rfl, rfl, rfl, trivial⟩)⟩ (fun m a w hI => ?_)
      obtain ⟨k, Ao, co, hk, h⟩ := hI
      have hkl : (keysL (l.take k)).length ≤ 100 := by
        have h5 := nodup_le _ _ (keysL_nodup (l.take k)) (fun x hx => ((keysL_mem (l.take k) x).1 hx).1)
        have h6 : (l.take k).length ≤ l.length := by simp; omega
        omega
      refine c_rs ?_ -- region 8
      refine s_bin h rfl rfl rfl (by decide) rfl rfl (ib_lss) (fun a h => ?_)
      refine l_end ?_
      refine c_cs h rfl (fun hb => ?_) (fun hb => ?_)
      · have hlt : k < l.length := by have := of_decide_eq_true hb; omega
        obtain ⟨b, off, hA⟩ := (show Rd w A (by8 l.flatten) from h.m.ok 1 _ rfl).addr (by rw [by8_length, flat_len hl]; omega)
        subst hA
        have ho32 := hl.at hlt
        have hsum : w.rangeAt b (off + k * 32) (by8 l[k]) := Rd.sum hl (h.m.ok 1 _ rfl) hlt
        have hcnt := keysL_count l k hlt
        refine wp_skip ?_
        refine e_thenN ?_
        refine wp_seq ?_
        refine wp_block ?_
        refine c_rs ?_ -- region 9
        refine s_move h rfl _ rfl rfl (by decide) rfl (fun a h => ?_)
        refine s_iaddr h rfl rfl rfl (by decide) Try.underlying39 sz_A32_uint8 rfl rfl (m := k) (by omega) (by omega) (r := off + k * 32) (by omega) (fun a h => ?_)
        refine s_ldR h rfl rfl rfl (by decide) ag_A32_uint8 rfl (by8 l[k]) (by rw [by8_length, ho32]) hsum (fun a h => ?_)
        refine s_alloc h rfl rfl rfl (by decide) zi_A32_uint8 rfl (fun a w g6 h => ?_)
        refine s_assign h rfl _ rfl rfl (by decide) rfl (fun a h => ?_)
        refine s_stW h rfl rfl rfl ag_A32_uint8 rfl rfl (by first | assumption | (rw [by8_length]; assumption) | (rw [by8_length]; rfl) | rfl | decide) (by first | exact by8_one _ | simp [Value.oneCell']) 0 rfl (by first | assumption | (rw [by8_length]; assumption) | (rw [by8_length]; rfl) | rfl | decide) (fun a w h => ?_)
        refine l_end ?_
        refine c_rs ?_ -- region 10
        refine s_ldW h rfl rfl rfl (by decide) ag_A32_uint8 rfl 0 rfl (by first | assumption | (rw [by8_length]; assumption) | (rw [by8_length]; rfl) | rfl | decide) (fun a h => ?_)
        refine s_build h rfl rfl rfl (by decide) [] rfl (by8 z32) (by kernel_rfl) (fun a h => ?_)
        refine s_neA h rfl rfl rfl (by decide) Try.underlying40 Try.underlying5 sz_uint8 (by kernel_rfl) rfl rfl ho32 z32_length (fun a h => ?_)
        refine s_assign h rfl _ rfl rfl (by decide) rfl (fun a h => ?_)
        refine l_end ?_
        refine wp_seq ?_
        refine c_rs ?_ -- region 11
        refine s_move h rfl _ rfl rfl (by decide) rfl (fun a h => ?_)
        refine s_move h rfl _ rfl rfl (by decide) rfl (fun a h => ?_)
        refine s_slice h rfl rfl rfl (by decide) Try.underlying39 sz_A32_uint8 rfl 0 k c (by exact rfl) (by exact ⟨_, _, rfl, by omega⟩) (by exact rfl) (by intro hh; cases hh) (by omega) (by omega) (by unfold maxLen at hc; omega) (fun a A27 hA27 h => ?_)
        have e27 : A27 = some ⟨b, off, none⟩ := by
          rw [hA27]
          split
          · rfl
          · simp [Addr.add]
        rw [e27, Nat.sub_zero] at h
        refine s_len h rfl rfl rfl (by decide) Try.underlying39 rfl (fun a h => ?_)
        refine s_move h rfl _ rfl rfl (by decide) rfl (fun a h => ?_)
        refine l_end ?_
        refine wp_block ?_
        refine c_loop (fun m' a w => ∃ j : Nat, j + m' = k ∧ St 66 w0 (fun _ => False) [(0, .slice (some ⟨b, off, none⟩) l.length c), (3, .int .i64 ((keysL (l.take k)).length : Int)), (4, .slice Ao k co), (15, .slice (some ⟨b, off, none⟩) l.length c), (16, .int .i64 (l.length : Int)), (17, .int .i64 (k : Int)), (6, .pointer (some ⟨g6, 0, none⟩)), (7, .bool (decide (l[k] ≠ z32 ∧ l[k] ∉ l.take j))), (27, .slice (some ⟨b, off, none⟩) k (c - 0)), (28, .int .i64 (k : Int)), (29, .int .i64 (j : Int))] [.box g6 40 (by8 l[k]), .row (.slice Ao k co) 40 32 k (by8 (l.take k).reverse.flatten), .ro (rdP (some ⟨b, off, none⟩) (by8 l.flatten))] a w) k ⟨0, by omega, h.has (by refine ⟨rfl, rfl, rfl, rfl, rfl, rfl, rfl, congrArg (fun b => some (Value.bool b)) ?_, rfl, rfl, rfl, trivial⟩; simp)⟩ (fun m' a w hI => ?_)
        obtain ⟨j, hj, h⟩ := hI
        refine c_rs ?_ -- region 12
        refine s_bin h rfl rfl rfl (by decide) rfl rfl (ib_lss) (fun a h => ?_)
        refine l_end ?_
        refine c_cs h rfl (fun hb => ?_) (fun hb => ?_)
        · have hjk : j < k := by have := of_decide_eq_true hb; omega
          have hj32 := hl.at (show j < l.length by omega)
          have hsumj : w.rangeAt b (off + j * 32) (by8 l[j]) := Rd.sum hl (h.m.ok 2 _ rfl) (show j < l.length by omega)
          have hmt := mem_take_succ l j (by omega) l[k]
          refine wp_skip ?_
          refine e_thenN ?_
          refine wp_seq ?_
          refine wp_block ?_
          refine c_rs ?_ -- region 13
          refine s_iaddr h rfl rfl rfl (by decide) Try.underlying39 sz_A32_uint8 rfl rfl (m := j) (by omega) (by omega) (r := off + j * 32) (by omega) (fun a h => ?_)
          refine s_ldR h rfl rfl rfl (by decide) ag_A32_uint8 rfl (by8 l[j]) (by rw [by8_length, hj32]) hsumj (fun a h => ?_)
          refine s_alloc h rfl rfl rfl (by decide) zi_A32_uint8 rfl (fun a w g9 h => ?_)
          refine s_stW h rfl rfl rfl ag_A32_uint8 rfl rfl (by first | assumption | (rw [by8_length]; assumption) | (rw [by8_length]; rfl) | rfl | decide) (by first | exact by8_one _ | simp [Value.oneCell']) 0 rfl (by first | assumption | (rw [by8_length]; assumption) | (rw [by8_length]; rfl) | rfl | decide) (fun a w h => ?_)
          refine l_end ?_
          refine c_r ?_ -- region 14
          refine s_move h rfl _ rfl rfl (by decide) rfl (fun a h => ?_)
          refine s_move h rfl _ rfl rfl (by decide) rfl (fun a h => ?_)
          apply s_and (t := 34) (d := 38) h 4 rfl
          · intro hB
            refine g_yes h rfl rfl rfl rfl hB ?_
            refine s_ldW h rfl rfl rfl (by decide) ag_A32_uint8 rfl 1 rfl (by first | assumption | (rw [by8_length]; assumption) | (rw [by8_length]; rfl) | rfl | decide) (fun a h => ?_)
            refine g_yes h rfl rfl rfl rfl hB ?_
            refine s_ldW h rfl rfl rfl (by decide) ag_A32_uint8 rfl 0 rfl (by first | assumption | (rw [by8_length]; assumption) | (rw [by8_length]; rfl) | rfl | decide) (fun a h => ?_)
            refine g_yes h rfl rfl rfl rfl hB ?_
            refine s_neA h rfl rfl rfl (by decide) Try.underlying40 Try.underlying5 sz_uint8 (by kernel_rfl) rfl rfl ho32 hj32 (fun a h => ?_)
            refine s_pick h rfl rfl rfl (by decide) rfl (fun _ => rfl) (fun hh => absurd (hB.symm.trans hh) (by decide)) (fun a h => ?_)
            exact h.has (by repeat (first | exact trivial | refine ⟨rfl, ?_⟩))
          · intro hB
            refine g_no h rfl rfl rfl rfl hB rfl (by decide) (fun a h => ?_)
            refine g_no h rfl rfl rfl rfl hB rfl (by decide) (fun a h => ?_)
            refine g_no h rfl rfl rfl rfl hB rfl (by decide) (fun a h => ?_)
            refine s_pick h rfl rfl rfl (by decide) rfl (fun hh => absurd (hB.symm.trans hh) (by decide)) (fun _ => rfl) (fun a h => ?_)
            exact h.has (by repeat (first | exact trivial | refine ⟨rfl, ?_⟩))
          intro a w h
          refine s_assign h rfl _ rfl rfl (by decide) rfl (fun a h => ?_)
          refine l_nil ?_
          refine e_blkN ?_
          refine e_thenN ?_
          refine c_r ?_ -- region 15
          refine s_bin h rfl rfl rfl (by decide) rfl rfl (ib_add (nw64 (by omega))) (fun a h => ?_)
          refine s_move h rfl _ rfl rfl (by decide) rfl (fun a h => ?_)
          refine l_nil ?_
          exact e_thenN ⟨m' - 1, by omega, j + 1, by omega, (h.pick [1, 2, 3] (by decide) rfl).has (by refine ⟨rfl, rfl, rfl, rfl, rfl, rfl, rfl, congrArg (fun b => some (Value.bool b)) ?_, rfl, rfl, rfl, trivial⟩; rw [Bool.eq_iff_iff]; simp only [Bool.and_eq_true, decide_eq_true_eq, Bool.not_eq_true', decide_eq_false_iff_not]; rw [hmt]; exact ⟨fun hh => ⟨hh.1.1, fun q => q.elim hh.1.2 hh.2⟩, fun hh => ⟨⟨hh.1, fun q => hh.2 (.inl q)⟩, fun q => hh.2 (.inr q)⟩⟩)⟩
        · have hjk : k = j := by have := of_decide_eq_false hb; omega
          subst hjk
          refine wp_exit ?_
          refine e_thenX ?_
          refine e_thenX ?_
          refine e_blkX ?_
          refine e_thenN ?_
          refine wp_seq ?_
          refine c_rs ?_ -- region 16
          refine s_move h rfl _ rfl rfl (by decide) rfl (fun a h => ?_)
          refine l_end ?_
          refine c_cond h rfl (fun hb => ?_) (fun hb => ?_)
          · have hfi : l[k] ≠ z32 ∧ l[k] ∉ l.take k := of_decide_eq_true hb
            rw [if_pos hfi] at hcnt
            refine c_r ?_ -- region 17
            refine s_move h rfl _ rfl rfl (by decide) rfl (fun a h => ?_)
            refine s_bin h rfl rfl rfl (by decide) rfl rfl (ib_add (nw64 (by omega))) (fun a h => ?_)
            refine s_assign h rfl _ rfl rfl (by decide) rfl (fun a h => ?_)
            refine l_nil ?_
            refine e_thenN ?_
            refine c_r ?_ -- region 18
            refine s_ldW h rfl rfl rfl (by decide) ag_A32_uint8 rfl 0 rfl (by first | assumption | (rw [by8_length]; assumption) | (rw [by8_length]; rfl) | rfl | decide) (fun a h => ?_)
            refine s_bsliceS h rfl rfl rfl (by decide) Try.underlying39 zi_A32_uint8 rfl ho32 (fun a w g44 h => ?_)
            have h := h.mem (h.m.asRow (i := 0) rfl 1 32 (by rw [by8_length, ho32]) (by simp [maxLen]))
            refine s_move h rfl _ rfl rfl (by decide) rfl (fun a h => ?_)
            refine s_append h rfl rfl rfl (by decide) Try.underlying39 zb_A32_uint8 rfl (by decide) rfl 0 rfl rfl (by8 (l.take k).reverse.flatten) (by rw [by8_length, flat_len (fun x hx => (hl.take k) x (List.mem_reverse.1 hx)), List.length_reverse, List.length_take]; omega) (h.m.rdRowA (i := 2) rfl) (by8_one _) (by omega) (by unfold maxLen; omega) (fun a w v46 h => ?_)
            obtain ⟨A46, c46, rfl, _, _, _⟩ := h.m.rdRow (i := 0) rfl
            refine s_assign h rfl _ rfl rfl (by decide) rfl (fun a h => ?_)
            refine l_nil ?_
            refine e_blkN ?_
            refine e_thenN ?_
            refine c_r ?_ -- region 19
            refine s_bin h rfl rfl rfl (by decide) rfl rfl (ib_add (nw64 (by omega))) (fun a h => ?_)
            refine s_move h rfl _ rfl rfl (by decide) rfl (fun a h => ?_)
            refine l_nil ?_
            refine e_thenN ⟨m - 1, by omega, k + 1, A46, c46, by omega, ?_⟩
            have h := h.pick [0, 3] (by decide) rfl
            have efl : by8 (l.take (k + 1)).reverse.flatten = by8 l[k] ++ by8 (l.take k).reverse.flatten := by rw [List.take_succ_eq_append_getElem hlt, List.reverse_append, List.reverse_singleton, List.singleton_append, List.flatten_cons, by8_append]
            rw [efl, hcnt, show k + 1 = 1 + k by omega]
            exact h.has (by exact ⟨rfl, rfl, rfl, rfl, rfl, by simp; omega, trivial⟩)
          · have hfi : ¬ (l[k] ≠ z32 ∧ l[k] ∉ l.take k) := of_decide_eq_false hb
            rw [if_neg hfi] at hcnt
            refine wp_skip ?_
            refine e_thenN ?_
            refine c_r ?_ -- region 18
            refine s_ldW h rfl rfl rfl (by decide) ag_A32_uint8 rfl 0 rfl (by first | assumption | (rw [by8_length]; assumption) | (rw [by8_length]; rfl) | rfl | decide) (fun a h => ?_)
            refine s_bsliceS h rfl rfl rfl (by decide) Try.underlying39 zi_A32_uint8 rfl ho32 (fun a w g44 h => ?_)
            have h := h.mem (h.m.asRow (i := 0) rfl 1 32 (by rw [by8_length, ho32]) (by simp [maxLen]))
            refine s_move h rfl _ rfl rfl (by decide) rfl (fun a h => ?_)
            refine s_append h rfl rfl rfl (by decide) Try.underlying39 zb_A32_uint8 rfl (by decide) rfl 0 rfl rfl (by8 (l.take k).reverse.flatten) (by rw [by8_length, flat_len (fun x hx => (hl.take k) x (List.mem_reverse.1 hx)), List.length_reverse, List.length_take]; omega) (h.m.rdRowA (i := 2) rfl) (by8_one _) (by omega) (by unfold maxLen; omega) (fun a w v46 h => ?_)
            obtain ⟨A46, c46, rfl, _, _, _⟩ := h.m.rdRow (i := 0) rfl
            refine s_assign h rfl _ rfl rfl (by decide) rfl (fun a h => ?_)
            refine l_nil ?_
            refine e_blkN ?_
            refine e_thenN ?_
            refine c_r ?_ -- region 19
            refine s_bin h rfl rfl rfl (by decide) rfl rfl (ib_add (nw64 (by omega))) (fun a h => ?_)
            refine s_move h rfl _ rfl rfl (by decide) rfl (fun a h => ?_)
            refine l_nil ?_
            refine e_thenN ⟨m - 1, by omega, k + 1, A46, c46, by omega, ?_⟩
            have h := h.pick [0, 3] (by decide) rfl
            have efl : by8 (l.take (k + 1)).reverse.flatten = by8 l[k] ++ by8 (l.take k).reverse.flatten := by rw [List.take_succ_eq_append_getElem hlt, List.reverse_append, List.reverse_singleton, List.singleton_append, List.flatten_cons, by8_append]
            rw [efl, hcnt, show k + 1 = 1 + k by omega]
            exact h.has (by exact ⟨rfl, rfl, rfl, rfl, rfl, by simp; omega, trivial⟩)
      · have hge : k = l.length := by have := of_decide_eq_false hb; omega
        subst hge
        rw [List.take_length] at h
        have hrs : S32 l.reverse := fun x hx => hl x (List.mem_reverse.1 hx)
        have hd1 : (keysL l.reverse).length = (keysL l).length := keysL_same _ _ (fun x => List.mem_reverse)
        have hd2 : (keysL (l.reverse ++ l)).length = (keysL l).length := keysL_same _ _ (fun x => by simp)
        have hrl : l.reverse.length = l.length := List.length_reverse
        have hra : (l.reverse ++ l).length = l.length + l.length := by simp
        refine wp_exit ?_
        refine e_thenX ?_
        refine e_thenX ?_
        refine e_blkX ?_
        refine e_thenN ?_
        refine c_rs ?_ -- region 20
        refine s_move h rfl _ rfl rfl (by decide) rfl (fun a h => ?_)
        refine s_callB h rfl rfl rfl (by decide) Try.func28 rfl rfl rfl (distinct_ok w A l c hl (h.m.ok 1 _ rfl) (by omega)) (fun a w hb h => ?_)
        refine s_move h rfl _ rfl rfl (by decide) rfl (fun a h => ?_)
        refine s_bin h rfl rfl rfl (by decide) rfl rfl (ib_eql) (fun a h => ?_)
        refine s_move h rfl _ rfl rfl (by decide) rfl (fun a h => ?_)
        apply s_and (t := 52) (d := 57) h 5 rfl
        · intro hB
          refine g_yes h rfl rfl rfl rfl hB ?_
          refine s_move h rfl _ rfl rfl (by decide) rfl (fun a h => ?_)
          refine g_yes h rfl rfl rfl rfl hB ?_
          have hC6 := distinct_ok w Ao l.reverse co hrs (h.m.rdRowA (i := 0) rfl) (by omega)
          rw [hd1, hrl] at hC6
          refine s_callB h rfl rfl rfl (by decide) Try.func28 rfl rfl rfl (hC6) (fun a w hb h => ?_)
          refine g_yes h rfl rfl rfl rfl hB ?_
          refine s_move h rfl _ rfl rfl (by decide) rfl (fun a h => ?_)
          refine g_yes h rfl rfl rfl rfl hB ?_
          refine s_bin h rfl rfl rfl (by decide) rfl rfl (ib_eql) (fun a h => ?_)
          refine s_pick h rfl rfl rfl (by decide) rfl (fun _ => rfl) (fun hh => absurd (hB.symm.trans hh) (by decide)) (fun a h => ?_)
          exact h.has (by repeat (first | exact trivial | refine ⟨rfl, ?_⟩))
        · intro hB
          refine g_no h rfl rfl rfl rfl hB rfl (by decide) (fun a h => ?_)
          refine g_no h rfl rfl rfl rfl hB rfl (by decide) (fun a h => ?_)
          refine g_no h rfl rfl rfl rfl hB rfl (by decide) (fun a h => ?_)
          refine g_no h rfl rfl rfl rfl hB rfl (by decide) (fun a h => ?_)
          refine s_pick h rfl rfl rfl (by decide) rfl (fun hh => absurd (hB.symm.trans hh) (by decide)) (fun _ => rfl) (fun a h => ?_)
          exact h.has (by repeat (first | exact trivial | refine ⟨rfl, ?_⟩))
        intro a w h
        refine s_move h rfl _ rfl rfl (by decide) rfl (fun a h => ?_)
        apply s_andL (t := 58) (d := 65) h [] 7 rfl
        · intro hB
          refine g_yes h rfl rfl rfl rfl hB ?_
          refine s_move h rfl _ rfl rfl (by decide) rfl (fun a h => ?_)
          refine g_yes h rfl rfl rfl rfl hB ?_
          refine s_move h rfl _ rfl rfl (by decide) rfl (fun a h => ?_)
          refine g_yes h rfl rfl rfl rfl hB ?_
          refine s_append h rfl rfl rfl (by decide) Try.underlying39 zb_A32_uint8 rfl (by decide) rfl 0 rfl rfl (by8 l.flatten) (by rw [by8_length, flat_len hl]) (h.m.ok 1 _ rfl) (by8_one _) (by omega) (by unfold maxLen; omega) (fun a w v61 h => ?_)
          obtain ⟨A61, c61, rfl, _, _, hr61⟩ := h.m.rdRow (i := 0) rfl
          have hr61' : Rd w A61 (by8 (l.reverse ++ l).flatten) := by rw [List.flatten_append, by8_append]; exact hr61
          have hC14 := distinct_ok w A61 (l.reverse ++ l) c61 (hrs.append hl) hr61' (by omega)
          rw [hd2, hra] at hC14
          refine g_yes h rfl rfl rfl rfl hB ?_
          refine s_callB h rfl rfl rfl (by decide) Try.func28 rfl rfl rfl (hC14) (fun a w hb h => ?_)
          refine g_yes h rfl rfl rfl rfl hB ?_
          refine s_move h rfl _ rfl rfl (by decide) rfl (fun a h => ?_)
          refine g_yes h rfl rfl rfl rfl hB ?_
          refine s_bin h rfl rfl rfl (by decide) rfl rfl (ib_eql) (fun a h => ?_)
          refine s_pick h rfl rfl rfl (by decide) rfl (fun _ => rfl) (fun hh => absurd (hB.symm.trans hh) (by decide)) (fun a h => ?_)
          exact (h.pick [] (by decide) rfl).has (by repeat (first | exact trivial | refine ⟨rfl, ?_⟩))
        · intro hB
          refine g_no h rfl rfl rfl rfl hB rfl (by decide) (fun a h => ?_)
          refine g_no h rfl rfl rfl rfl hB rfl (by decide) (fun a h => ?_)
          refine g_no h rfl rfl rfl rfl hB rfl (by decide) (fun a h => ?_)
          refine g_no h rfl rfl rfl rfl hB rfl (by decide) (fun a h => ?_)
          refine g_no h rfl rfl rfl rfl hB rfl (by decide) (fun a h => ?_)
          refine g_no h rfl rfl rfl rfl hB rfl (by decide) (fun a h => ?_)
          refine s_pick h rfl rfl rfl (by decide) rfl (fun hh => absurd (hB.symm.trans hh) (by decide)) (fun _ => rfl) (fun a h => ?_)
          exact (h.pick [] (by decide) rfl).has (by repeat (first | exact trivial | refine ⟨rfl, ?_⟩))
        intro a w h
        refine s_assign h rfl _ rfl rfl (by decide) rfl (fun a h => ?_)
        refine l_end ?_
        refine wp_ret ?_
        refine r_ret1 h rfl (rv_tmp h rfl) ⟨?_, h.m.below⟩
        simp
theorem merkleDistinct_ok (A : Option Addr) (l : List (List UInt8)) (cp : Nat) (w : World) (hat : kSum.At w A l) (hc : l.length ≤ cp) (hm : cp ≤ maxLen) :
    Calls Try.prog 5 #[.slice A l.length cp] w fun e w' => e = .returned (.bool true) ∧ Below w.heap.size w w' := by
  obtain ⟨hl, hr⟩ := sums_in hat
  exact merkleDistinct_walk w A l cp hl hr hc hm
end Go.Proofs.Ytlgcfnbhnpnkiaa
