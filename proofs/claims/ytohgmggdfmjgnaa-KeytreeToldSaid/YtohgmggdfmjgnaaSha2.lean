/- The package sha: a piece's words, and its numbers. -/
import Derived.Test.YtohgmggdfmjgnaaTy
set_option linter.unusedVariables false
set_option linter.unusedSimpArgs false
namespace Go.Proofs.Ytohgmggdfmjgnaa
open Go.RowKit

theorem rd_cut {w : World} {A : Option Addr} {cs : List Value} (h : Rd w A cs) (i n m : Nat) (hm : cs.length ≤ m) : Rd w (if m = i then A else A.map (·.add (i * 1))) ((cs.drop i).take n) := by
  by_cases e : m = i
  · rw [if_pos e, List.drop_of_length_le (by omega), List.take_nil]; exact Rd.nil _ _
  · rw [if_neg e, Nat.mul_one]; exact (h.drop i).take n
theorem wd_toNat (p : List UInt8) (k : Nat) : (num ((p.drop (4 * k)).take 4) : Int) = U (wd p k) := by
  unfold U wd
  have h1 := num_lt ((p.drop (4 * k)).take 4)
  have h2 : ((p.drop (4 * k)).take 4).length ≤ 4 := by simp; omega
  have h3 : 256 ^ ((p.drop (4 * k)).take 4).length ≤ 256 ^ 4 := Nat.pow_le_pow_right (by decide) h2
  have h4 : (256 : Nat) ^ 4 = 4294967296 := by decide
  rw [UInt32.toNat_ofNat', Nat.mod_eq_of_lt (by omega)]
theorem nextW_lo (p : List UInt8) (k : Nat) (h : k < 16) : nextW p (sched p k) = wd p k := by unfold nextW; rw [sched_length, if_pos h]
theorem nextW_hi (p : List UInt8) (k : Nat) (h : ¬ k < 16) : nextW p (sched p k) = (sched p k).getD (k - 16) 0 + s0 ((sched p k).getD (k - 15) 0) + (sched p k).getD (k - 7) 0 + s1 ((sched p k).getD (k - 2) 0) := by unfold nextW; rw [sched_length, if_neg h]
theorem schedC_len (p : List UInt8) (k : Nat) (h : k ≤ 64) : (schedC p k).length = 64 := by unfold schedC; simp [ucs_length, sched_length]; omega
theorem schedC_one (p : List UInt8) (k : Nat) : ∀ v ∈ schedC p k, v.oneCell' = true := by
  intro v hv
  unfold schedC at hv
  rcases List.mem_append.1 hv with h | h
  · exact ucs_one _ v h
  · rw [(List.mem_replicate.1 h).2]; rfl
theorem schedC_full (p : List UInt8) : schedC p 64 = ucs (sched p 64) := by simp [schedC]
theorem Mem.below {w0 w : World} {L : List Ch} (h : Mem w0 (fun _ => False) L w) : Below w0.heap.size w0 w := ⟨h.chg.os, h.chg.tape, h.chg.output, h.chg.size, fun k hk => h.chg.block k hk (fun h => h)⟩
set_option maxRecDepth 100000 in
theorem schedule_ok (w0 : World) (A : Option Addr) (p : List UInt8) (c : Nat) (hr : Rd w0 A (by8 p)) (hl : p.length = 64) (hc : 64 ≤ c) (hm : c ≤ 9223372036854775807) :
    Calls Try.prog 106 #[.slice A 64 c] w0 fun e w' => e = .returned (.agg (ucs (sched p 64)).toArray) ∧ Below w0.heap.size w0 w' := by
  refine c_enter Try.func106 rfl 64 rfl (by simp) (fun _ => False) _ rfl (fun a h => ?_)
  have h := h.mem (h.m.arg (rdP A (by8 p)) hr (fun _ _ hh => hh))
  refine c_rs ?_
  refine s_alloc h rfl rfl rfl (by decide) zi_A64_uint32 rfl (fun a w g2 h => ?_)
  refine l_end ?_
  refine c_rs ?_
  refine s_alloc h rfl rfl rfl (by decide) zi_A64_uint32 rfl (fun a w g3 h => ?_)
  refine l_end ?_
  refine wp_seq ?_
  refine c_rs ?_
  refine sMV h (fun a h => ?_)
  refine l_end ?_
  refine wp_block ?_
  refine c_loop (fun m a w' => ∃ k : Nat, k + m = 64 ∧ St 64 w0 (fun _ => False) [(0, .slice A 64 c), (2, .pointer (some ⟨g2, 0, none⟩)), (3, .pointer (some ⟨g3, 0, none⟩)), (7, .int .i64 (k : Int))] [.box g3 126 (schedC p k), .box g2 126 (List.replicate 64 (.int .u32 0)), .ro (rdP A (by8 p))] a w') 64 ⟨0, rfl, h.has (by exact ⟨rfl, rfl, rfl, rfl, trivial⟩)⟩ (fun m a w hI => ?_)
  obtain ⟨k, hk, h⟩ := hI
  refine c_rs ?_
  refine s_bin h rfl rfl rfl (by decide) rfl rfl (ib_lss) (fun a h => ?_)
  refine l_end ?_
  refine c_cs h rfl (fun hb => ?_) (fun hb => ?_)
  · have hlt : k < 64 := by have := of_decide_eq_true hb; omega
    refine wp_skip ?_
    refine e_thenN ?_
    refine wp_seq ?_
    refine wp_block ?_
    refine c_rs ?_
    refine sMV h (fun a h => ?_)
    refine sAV h (fun a h => ?_)
    refine l_end ?_
    refine wp_seq ?_
    refine c_rs ?_
    refine sMV h (fun a h => ?_)
    refine s_bin h rfl rfl rfl (by decide) rfl rfl (ib_lss) (fun a h => ?_)
    refine l_end ?_
    refine c_cond h rfl (fun hb => ?_) (fun hb => ?_)
    · have hlo : k < 16 := by have := of_decide_eq_true hb; omega
      refine c_rs ?_
      refine sMV h (fun a h => ?_)
      refine sMV h (fun a h => ?_)
      refine sMV h (fun a h => ?_)
      refine s_bin h rfl rfl rfl (by decide) rfl rfl (ib_mul (nw64 (by omega))) (fun a h => ?_)
      refine sMV h (fun a h => ?_)
      refine s_bin h rfl rfl rfl (by decide) rfl rfl (ib_mul (nw64 (by omega))) (fun a h => ?_)
      refine s_bin h rfl rfl rfl (by decide) rfl rfl (ib_add (nw64 (by omega))) (fun a h => ?_)
      refine s_slice h rfl rfl rfl (by decide) Try.underlying22 sz_uint8 rfl (4 * k) (4 * k + 4) c ⟨_, _, rfl, by omega⟩ ⟨_, _, rfl, by omega⟩ rfl (by intro hh; cases hh) (by omega) (by omega) (by omega) (fun a A20 hA20 h => ?_)
      have hr4 : Rd w A20 (by8 ((p.drop (4 * k)).take 4)) := by
        have := rd_cut (h.m.ok 2 _ rfl : Rd w A (by8 p)) (4 * k) 4 c (by rw [by8_length]; omega)
        rw [← hA20, by8_drop, by8_take] at this; exact this
      have hl4 : ((p.drop (4 * k)).take 4).length = 4 := by simp; omega
      rw [show 4 * k + 4 - 4 * k = 4 by omega] at h
      refine s_callB h rfl rfl rfl (by decide) Try.func87 rfl rfl rfl (drew_below (get32_ok A20 _ _ _ hr4 hl4)) (fun a w hb h => ?_)
      refine sMV h (fun a h => ?_)
      refine s_ext h rfl rfl rfl (by decide) rfl rfl (fun a h => ?_)
      refine s_ext h rfl rfl rfl (by decide) rfl rfl (fun a h => ?_)
      refine s_iaddrA h rfl rfl rfl (by decide) Try.underlying126 sz_uint32 rfl rfl (m := k) (by omega) (by omega) (r := k) (by omega) (fun a h => ?_)
      refine s_stb h rfl rfl rfl sz_uint32 rfl rfl rfl 0 rfl (by rw [schedC_len p k (by omega)]; omega) (fun a w h => ?_)
      refine l_end ?_
      refine wp_exit ?_
      refine e_thenX ?_
      refine e_blkX ?_
      refine e_thenN ?_
      refine c_r ?_
      refine s_bin h rfl rfl rfl (by decide) rfl rfl (ib_add (nw64 (by omega))) (fun a h => ?_)
      refine sMV h (fun a h => ?_)
      refine l_nil ?_
      refine e_thenN ⟨m - 1, by omega, k + 1, by omega, ?_⟩
      refine St.parts (h.has (by exact ⟨rfl, rfl, rfl, rfl, trivial⟩)) ?_
      have := schedC_set p k hlt
      rw [nextW_lo p k hlo, ← wd_toNat] at this
      exact congrArg (· :: _) (congrArg (Ch.box g3 _) this)
    · have hhi : ¬ k < 16 := by have := of_decide_eq_false hb; omega
      have g16 := schedC_get p k (k - 16) (by omega)
      have g15 := schedC_get p k (k - 15) (by omega)
      have g7 := schedC_get p k (k - 7) (by omega)
      have g2' := schedC_get p k (k - 2) (by omega)
      refine wp_skip ?_
      refine e_thenN ?_
      refine wp_seq ?_
      -- region 7 DRAWS
      refine d_start h (Mem _ _ _) 10 10 rfl (by kernel_rfl) (fun _ _ _ _ _ h => h) (fun _ h => h) (fun Q a w HE HN h HS => ?_)
      refine d_takeP h (fun _ => HS) HN 0 rfl (by kernel_rfl) (by kernel_rfl) (by kernel_rfl) (by decide) rfl rfl (by decide) (fun w' => x_move h.k _ rfl rfl) (fun a h => ?_)
      refine d_takeP h (fun _ => HS) HN 1 rfl (by kernel_rfl) (by kernel_rfl) (by kernel_rfl) (by decide) rfl rfl (by decide) (fun w' => x_bin h.k rfl rfl rfl (ib_sub (nw64 (by omega)))) (fun a h => ?_)
      refine d_takeP h (fun _ => HS) HN 2 rfl (by kernel_rfl) (by kernel_rfl) (by kernel_rfl) (by decide) rfl rfl (by decide) (fun w' => x_iaddrA h.k rfl Try.underlying126 sz_uint32 rfl rfl (m := k - 15) (by omega) (by omega) (r := k - 15) (by omega)) (fun a h => ?_)
      refine d_take h HS HN 3 rfl (by kernel_rfl) (by kernel_rfl) (by kernel_rfl) (by kernel_rfl) (by kernel_rfl) rfl rfl (by decide) (fun w' hw => x_ld h.k rfl Try.underlying106 rfl rfl ((hw.cell (i := 0) rfl _).trans (g15))) (fun a h => ?_)
      refine d_takeP h (fun _ => HS) HN 4 rfl (by kernel_rfl) (by kernel_rfl) (by kernel_rfl) (by decide) rfl rfl (by decide) (fun w' => x_move h.k _ rfl rfl) (fun a h => ?_)
      refine d_takeP h (fun _ => HS) HN 5 rfl (by kernel_rfl) (by kernel_rfl) (by kernel_rfl) (by decide) rfl rfl (by decide) (fun w' => x_bin h.k rfl rfl rfl (ib_sub (nw64 (by omega)))) (fun a h => ?_)
      refine d_takeP h (fun _ => HS) HN 6 rfl (by kernel_rfl) (by kernel_rfl) (by kernel_rfl) (by decide) rfl rfl (by decide) (fun w' => x_iaddrA h.k rfl Try.underlying126 sz_uint32 rfl rfl (m := k - 2) (by omega) (by omega) (r := k - 2) (by omega)) (fun a h => ?_)
      refine d_take h HS HN 7 rfl (by kernel_rfl) (by kernel_rfl) (by kernel_rfl) (by kernel_rfl) (by kernel_rfl) rfl rfl (by decide) (fun w' hw => x_ld h.k rfl Try.underlying106 rfl rfl ((hw.cell (i := 0) rfl _).trans (g2'))) (fun a h => ?_)
      refine d_takeP h (fun _ => HS) HN 8 rfl (by kernel_rfl) (by kernel_rfl) (by kernel_rfl) (by decide) rfl rfl (by decide) (fun w' => x_assign h.k _ rfl rfl) (fun a h => ?_)
      refine d_takeP h (fun _ => HS) HN 9 rfl (by kernel_rfl) (by kernel_rfl) (by kernel_rfl) (by decide) rfl rfl (by decide) (fun w' => x_assign h.k _ rfl rfl) (fun a h => ?_)
      refine d_done (by kernel_rfl) (HE _ _ ?_) _
      refine e_thenN ?_
      -- region 8 DRAWS
      refine d_start h (Mem _ _ _) 29 30 rfl (by kernel_rfl) (fun _ _ _ _ _ h => h) (fun _ h => h) (fun Q a w HE HN h HS => ?_)
      refine d_takeP h (fun _ => HS) HN 0 rfl (by kernel_rfl) (by kernel_rfl) (by kernel_rfl) (by decide) rfl rfl (by decide) (fun w' => x_move h.k _ rfl rfl) (fun a h => ?_)
      refine d_takeP h (fun _ => HS) HN 1 rfl (by kernel_rfl) (by kernel_rfl) (by kernel_rfl) (by decide) rfl rfl (by decide) (fun w' => x_move h.k _ rfl rfl) (fun a h => ?_)
      refine d_takeP h (fun _ => HS) HN 2 rfl (by kernel_rfl) (by kernel_rfl) (by kernel_rfl) (by decide) rfl rfl (by decide) (fun w' => x_bin h.k rfl rfl rfl (ib_sub (nw64 (by omega)))) (fun a h => ?_)
      refine d_takeP h (fun _ => HS) HN 3 rfl (by kernel_rfl) (by kernel_rfl) (by kernel_rfl) (by decide) rfl rfl (by decide) (fun w' => x_iaddrA h.k rfl Try.underlying126 sz_uint32 rfl rfl (m := k - 16) (by omega) (by omega) (r := k - 16) (by omega)) (fun a h => ?_)
      refine d_take h HS HN 4 rfl (by kernel_rfl) (by kernel_rfl) (by kernel_rfl) (by kernel_rfl) (by kernel_rfl) rfl rfl (by decide) (fun w' hw => x_ld h.k rfl Try.underlying106 rfl rfl ((hw.cell (i := 0) rfl _).trans (g16))) (fun a h => ?_)
      refine d_takeP h (fun _ => HS) HN 5 rfl (by kernel_rfl) (by kernel_rfl) (by kernel_rfl) (by decide) rfl rfl (by decide) (fun w' => x_move h.k _ rfl rfl) (fun a h => ?_)
      refine d_takeP h (fun _ => HS) HN 7 rfl (by kernel_rfl) (by kernel_rfl) (by kernel_rfl) (by decide) rfl rfl (by decide) (fun w' => x_move h.k _ rfl rfl) (fun a h => ?_)
      refine d_takeP h (fun _ => HS) HN 10 rfl (by kernel_rfl) (by kernel_rfl) (by kernel_rfl) (by decide) rfl rfl (by decide) (fun w' => x_move h.k _ rfl rfl) (fun a h => ?_)
      refine d_takeP h (fun _ => HS) HN 11 rfl (by kernel_rfl) (by kernel_rfl) (by kernel_rfl) (by decide) rfl rfl (by decide) (fun w' => x_bin h.k rfl rfl rfl (ib_shr (by omega) (U_shr3 _))) (fun a h => ?_)
      refine d_takeP h (fun _ => HS) HN 14 rfl (by kernel_rfl) (by kernel_rfl) (by kernel_rfl) (by decide) rfl rfl (by decide) (fun w' => x_move h.k _ rfl rfl) (fun a h => ?_)
      refine d_takeP h (fun _ => HS) HN 15 rfl (by kernel_rfl) (by kernel_rfl) (by kernel_rfl) (by decide) rfl rfl (by decide) (fun w' => x_bin h.k rfl rfl rfl (ib_sub (nw64 (by omega)))) (fun a h => ?_)
      refine d_takeP h (fun _ => HS) HN 16 rfl (by kernel_rfl) (by kernel_rfl) (by kernel_rfl) (by decide) rfl rfl (by decide) (fun w' => x_iaddrA h.k rfl Try.underlying126 sz_uint32 rfl rfl (m := k - 7) (by omega) (by omega) (r := k - 7) (by omega)) (fun a h => ?_)
      refine d_take h HS HN 17 rfl (by kernel_rfl) (by kernel_rfl) (by kernel_rfl) (by kernel_rfl) (by kernel_rfl) rfl rfl (by decide) (fun w' hw => x_ld h.k rfl Try.underlying106 rfl rfl ((hw.cell (i := 0) rfl _).trans (g7))) (fun a h => ?_)
      refine d_takeP h (fun _ => HS) HN 19 rfl (by kernel_rfl) (by kernel_rfl) (by kernel_rfl) (by decide) rfl rfl (by decide) (fun w' => x_move h.k _ rfl rfl) (fun a h => ?_)
      refine d_takeP h (fun _ => HS) HN 21 rfl (by kernel_rfl) (by kernel_rfl) (by kernel_rfl) (by decide) rfl rfl (by decide) (fun w' => x_move h.k _ rfl rfl) (fun a h => ?_)
      refine d_takeP h (fun _ => HS) HN 24 rfl (by kernel_rfl) (by kernel_rfl) (by kernel_rfl) (by decide) rfl rfl (by decide) (fun w' => x_move h.k _ rfl rfl) (fun a h => ?_)
      refine d_takeP h (fun _ => HS) HN 25 rfl (by kernel_rfl) (by kernel_rfl) (by kernel_rfl) (by decide) rfl rfl (by decide) (fun w' => x_bin h.k rfl rfl rfl (ib_shr (by omega) (U_shr10 _))) (fun a h => ?_)
      refine d_alone 6 rfl (by kernel_rfl) (fun K hK => ?_)
      refine s_callB h rfl rfl rfl (by decide) Try.func89 rfl rfl rfl (same_below (rot_ok _ _ _ _ (by omega) rfl)) (fun a w hb h => ?_)
      refine hK _ _ (fun _ _ => HS.ext hb) ?_
      replace HS := HS.ext hb
      clear hK
      refine d_alone 8 rfl (by kernel_rfl) (fun K hK => ?_)
      refine s_callB h rfl rfl rfl (by decide) Try.func89 rfl rfl rfl (same_below (rot_ok _ _ _ _ (by omega) rfl)) (fun a w hb h => ?_)
      refine hK _ _ (fun _ _ => HS.ext hb) ?_
      replace HS := HS.ext hb
      clear hK
      refine d_takeP h (fun _ => HS) HN 9 rfl (by kernel_rfl) (by kernel_rfl) (by kernel_rfl) (by decide) rfl rfl (by decide) (fun w' => x_bin h.k rfl rfl rfl (ib_xor (U_xor _ _))) (fun a h => ?_)
      refine d_takeP h (fun _ => HS) HN 12 rfl (by kernel_rfl) (by kernel_rfl) (by kernel_rfl) (by decide) rfl rfl (by decide) (fun w' => x_bin h.k rfl rfl rfl (ib_xor (U_xor _ _))) (fun a h => ?_)
      refine d_takeP h (fun _ => HS) HN 13 rfl (by kernel_rfl) (by kernel_rfl) (by kernel_rfl) (by decide) rfl rfl (by decide) (fun w' => x_bin h.k rfl rfl rfl (ib_add (U_add _ _))) (fun a h => ?_)
      refine d_takeP h (fun _ => HS) HN 18 rfl (by kernel_rfl) (by kernel_rfl) (by kernel_rfl) (by decide) rfl rfl (by decide) (fun w' => x_bin h.k rfl rfl rfl (ib_add (U_add _ _))) (fun a h => ?_)
      refine d_alone 20 rfl (by kernel_rfl) (fun K hK => ?_)
      refine s_callB h rfl rfl rfl (by decide) Try.func89 rfl rfl rfl (same_below (rot_ok _ _ _ _ (by omega) rfl)) (fun a w hb h => ?_)
      refine hK _ _ (fun _ _ => HS.ext hb) ?_
      replace HS := HS.ext hb
      clear hK
      refine d_alone 22 rfl (by kernel_rfl) (fun K hK => ?_)
      refine s_callB h rfl rfl rfl (by decide) Try.func89 rfl rfl rfl (same_below (rot_ok _ _ _ _ (by omega) rfl)) (fun a w hb h => ?_)
      refine hK _ _ (fun _ _ => HS.ext hb) ?_
      replace HS := HS.ext hb
      clear hK
      refine d_takeP h (fun _ => HS) HN 23 rfl (by kernel_rfl) (by kernel_rfl) (by kernel_rfl) (by decide) rfl rfl (by decide) (fun w' => x_bin h.k rfl rfl rfl (ib_xor (U_xor _ _))) (fun a h => ?_)
      refine d_takeP h (fun _ => HS) HN 26 rfl (by kernel_rfl) (by kernel_rfl) (by kernel_rfl) (by decide) rfl rfl (by decide) (fun w' => x_bin h.k rfl rfl rfl (ib_xor (U_xor _ _))) (fun a h => ?_)
      refine d_takeP h (fun _ => HS) HN 27 rfl (by kernel_rfl) (by kernel_rfl) (by kernel_rfl) (by decide) rfl rfl (by decide) (fun w' => x_bin h.k rfl rfl rfl (ib_add (U_add _ _))) (fun a h => ?_)
      refine d_takeP h (fun _ => HS) HN 28 rfl (by kernel_rfl) (by kernel_rfl) (by kernel_rfl) (by decide) rfl rfl (by decide) (fun w' => x_iaddrA h.k rfl Try.underlying126 sz_uint32 rfl rfl (m := k) (by omega) (by omega) (r := k) (by omega)) (fun a h => ?_)
      refine d_alone 29 rfl (by kernel_rfl) (fun K hK => ?_)
      refine s_stb h rfl rfl rfl sz_uint32 rfl rfl rfl 0 rfl (by rw [schedC_len p k (by omega)]; omega) (fun a w h => ?_)
      refine hK _ _ (fun hne _ => absurd rfl hne) ?_
      clear hK
      refine d_done (by kernel_rfl) (HE _ _ ?_) _
      refine e_blkN ?_
      refine e_thenN ?_
      refine c_r ?_
      refine s_bin h rfl rfl rfl (by decide) rfl rfl (ib_add (nw64 (by omega))) (fun a h => ?_)
      refine sMV h (fun a h => ?_)
      refine l_nil ?_
      refine e_thenN ⟨m - 1, by omega, k + 1, by omega, ?_⟩
      refine St.parts (h.has (by exact ⟨rfl, rfl, rfl, rfl, trivial⟩)) ?_
      have := schedC_set p k hlt
      rw [nextW_hi p k hhi] at this
      exact congrArg (· :: _) (congrArg (Ch.box g3 _) this)
  · have hge : k = 64 := by have := of_decide_eq_false hb; omega
    subst hge
    refine wp_exit ?_
    refine e_thenX ?_
    refine e_thenX ?_
    refine e_blkX ?_
    refine e_thenN ?_
    refine c_rs ?_
    refine s_ldW h rfl rfl rfl (by decide) ag_A64_uint32 rfl 0 rfl (schedC_len p 64 (by omega)) (fun a h => ?_)
    refine s_stW h rfl rfl rfl ag_A64_uint32 rfl rfl (schedC_len p 64 (by omega)) (schedC_one p 64) 1 rfl (by rfl) (fun a w h => ?_)
    refine l_end ?_
    refine wp_ret ?_
    refine r_ret1 h rfl (rv_cellA h rfl 1 rfl ag_A64_uint32 (schedC_len p 64 (by omega))) ⟨?_, h.m.below⟩
    rw [schedC_full]
end Go.Proofs.Ytohgmggdfmjgnaa
