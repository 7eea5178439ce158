/- The package sha: what stands behind bytes, and the sum. -/
import Derived.Test.YtohgmggdfmjgnaaSha3
set_option linter.unusedVariables false
set_option linter.unusedSimpArgs false
namespace Go.Proofs.Ytohgmggdfmjgnaa
open Go.RowKit

/-- what stands behind bytes -/
def padL (n : Nat) : List UInt8 := [128] ++ List.replicate ((119 - n % 64) % 64) 0 ++ be 8 (8 * n)
theorem padL_length (n : Nat) : (padL n).length = 9 + (119 - n % 64) % 64 := by unfold padL; simp [be_length]; omega
theorem padL_cells (n : Nat) : [Value.int .u8 128] ++ List.replicate ((119 - n % 64) % 64) (Value.int .u8 0) ++ by8 (be 8 (8 * n)) = by8 (padL n) := by
  unfold padL; simp [by8_append, by8, byc]
theorem pad_shift (n : Nat) (hn : n ≤ 1099511627776) : IntKind.u64.wrap (IntKind.u64.wrap (n : Int) * 2 ^ (min (3 : Int).toNat IntKind.u64.bits)) = ((UInt64.ofNat (8 * n)).toNat : Int) := by
  have e : (UInt64.ofNat (8 * n)).toNat = 8 * n := by simp; omega
  rw [e, nwu64 (x := (n : Int)) (by omega)]
  have : (2 : Int) ^ (min (3 : Int).toNat IntKind.u64.bits) = 8 := by decide
  rw [this, nwu64 (by omega)]; omega
theorem pad_ok (w0 : World) (n : Nat) (hn : n ≤ 1099511627776) :
    Calls Try.prog 100 #[.int .i64 (n : Int)] w0 fun e w' => ∃ v, e = .returned v ∧ New w0 w' 5 v (padL n).length (by8 (padL n)) := by
  refine c_enter Try.func100 rfl 24 rfl (by simp) (fun _ => False) _ rfl (fun a h => ?_)
  refine c_rs ?_
  refine sAV h (fun a h => ?_)
  refine l_end ?_
  refine wp_seq ?_
  refine c_rs ?_
  refine sMV h (fun a h => ?_)
  refine s_bin h rfl rfl rfl (by decide) rfl rfl (ib_lss) (fun a h => ?_)
  refine sMV h (fun a h => ?_)
  apply s_or (t := 7) (d := 10) h 3 rfl
  · intro hB
    refine g_no h rfl rfl rfl rfl hB rfl (by decide) (fun a h => ?_)
    refine g_no h rfl rfl rfl rfl hB rfl (by decide) (fun a h => ?_)
    refine s_pick h rfl rfl rfl (by decide) rfl (fun _ => rfl) (fun hh => absurd (hB.symm.trans hh) (by decide)) (fun a h => ?_)
    exact h.has (by repeat (first | exact trivial | refine ⟨rfl, ?_⟩))
  · intro hB
    refine g_yes h rfl rfl rfl rfl hB ?_
    refine sMV h (fun a h => ?_)
    refine g_yes h rfl rfl rfl rfl hB ?_
    refine s_bin h rfl rfl rfl (by decide) rfl rfl (ib_gtr) (fun a h => ?_)
    refine s_pick h rfl rfl rfl (by decide) rfl (fun hh => absurd (hB.symm.trans hh) (by decide)) (fun _ => rfl) (fun a h => ?_)
    exact h.has (by repeat (first | exact trivial | refine ⟨rfl, ?_⟩))
  intro a w h
  refine l_end ?_
  refine c_cond h rfl (fun hb => ?_) (fun hb => ?_)
  · exact absurd hb (by simp; omega)
  · refine wp_skip ?_
    refine e_thenN ?_
    refine c_rs ?_
    refine sMV h (fun a h => ?_)
    refine s_bin h rfl rfl rfl (by decide) rfl rfl (ib_rem (by omega)) (fun a h => ?_)
    refine s_bin h rfl rfl rfl (by decide) rfl rfl (ib_sub (nw64 (by omega))) (fun a h => ?_)
    refine s_bin h rfl rfl rfl (by decide) rfl rfl (ib_rem (by omega)) (fun a h => ?_)
    refine sAV h (fun a h => ?_)
    refine l_end ?_
    refine c_rs ?_
    refine s_bslice1 h rfl rfl rfl (by decide) Try.underlying22 zi_uint8 rfl rfl (by simp [Value.oneCell']) (by decide) (by decide) (fun a w g15 h => ?_)
    have h := h.mem (h.m.asRow (i := 0) rfl 1 1 rfl (by simp [maxLen]))
    refine sMV h (fun a h => ?_)
    refine s_appendZ h rfl rfl rfl (by decide) Try.underlying22 Try.underlying3 zb_uint8 rfl rfl rfl 0 rfl rfl ((119 - n % 64) % 64) (by omega) (by omega) (by unfold maxLen; omega) (fun a w v17 h => ?_)
    refine sAV h (fun a h => ?_)
    refine l_end ?_
    refine c_rs ?_
    refine sMV h (fun a h => ?_)
    refine sMV h (fun a h => ?_)
    refine s_conv h rfl rfl rfl (by decide) Try.underlying3 Try.underlying59 rfl (fun a h => ?_)
    refine s_bin h rfl rfl rfl (by decide) rfl rfl (ib_shl (by omega) (pad_shift n hn)) (fun a h => ?_)
    refine s_callN h rfl rfl rfl (by decide) Try.func70 rfl rfl rfl (put64_ok (UInt64.ofNat (8 * n)) _) (fun a w v22 hb h => ?_)
    obtain ⟨A22, c22, rfl, _, _, hr22⟩ := h.m.rdRow (i := 0) rfl
    refine s_append h rfl rfl rfl (by decide) Try.underlying22 zb_uint8 rfl (by decide) rfl 1 rfl rfl _ (by simp [by8_length, be_length]) hr22 (by8_one _) (by omega) (by unfold maxLen; omega) (fun a w v23 h => ?_)
    refine sAV h (fun a h => ?_)
    refine l_end ?_
    refine wp_ret ?_
    refine r_ret1 h rfl (rv_tmp h rfl) ⟨v23, rfl, ?_⟩
    have e8 : (UInt64.ofNat (8 * n)).toNat = 8 * n := by simp; omega
    have hnr := h.m.newRow (i := 1) rfl
    rw [e8, padL_cells] at hnr
    rw [padL_length, show 9 + (119 - n % 64) % 64 = 1 + (119 - n % 64) % 64 + 8 by omega]
    exact hnr
/-- pieces of 64 -/
def absorb (s : List UInt32) (l : List UInt8) : List UInt32 × List UInt8 :=
  if h : 64 ≤ l.length then absorb (pieceS s (l.take 64)) (l.drop 64) else (s, l)
termination_by l.length
decreasing_by simp; omega
theorem absorb_lt (s : List UInt32) (l : List UInt8) (h : ¬ 64 ≤ l.length) : absorb s l = (s, l) := by rw [absorb, dif_neg h]
theorem absorb_ge (s : List UInt32) (l : List UInt8) (h : 64 ≤ l.length) : absorb s l = absorb (pieceS s (l.take 64)) (l.drop 64) := by rw [absorb, dif_pos h]
theorem absorb_length (l : List UInt8) (s : List UInt32) (hs : s.length = 8) : (absorb s l).1.length = 8 ∧ (absorb s l).2.length < 64 := by
  generalize hn : l.length = n
  induction n using Nat.strongRecOn generalizing l s with
  | _ n ih =>
    by_cases h : 64 ≤ l.length
    · rw [absorb_ge _ _ h]; exact ih (l.drop 64).length (by simp; omega) _ _ (pieceS_length _ _ hs) rfl
    · rw [absorb_lt _ _ h]; exact ⟨hs, by simp; omega⟩
/-- the parts of the closure 'take' -/
abbrev takeParts (g1 g2 : Nat) (v : Value) (l : List UInt8) (s : List UInt32) : List Ch := [.win v 5 l.length (by8 l), .box g1 22 [v], .box g2 128 (ucs s)]
set_option maxRecDepth 100000 in
theorem take_ok (w0 : World) (B : Nat → Prop) (g1 g2 kb : Nat) (v : Value) (l : List UInt8) (s : List UInt32) (hs : s.length = 8) (hM : Mem w0 B (takeParts g1 g2 v l s) w0) (hk : Rd w0 (some ⟨kb, 0, none⟩) (ucs kindsL)) (hkB : ¬ B kb)
    (A : Option Addr) (p : List UInt8) (c : Nat) (hp : Rd w0 A (by8 p)) (hpB : ∀ a, A = some a → by8 p ≠ [] → ¬ B a.block) (hsz : l.length + p.length ≤ 70368744177664) :
    Calls Try.prog 98 #[.slice A p.length c, .pointer (some ⟨g1, 0, none⟩), .pointer (some ⟨g2, 0, none⟩), .pointer (some ⟨kb, 0, none⟩)] w0 fun e w' => ∃ v' : Value, e = .returned (.tuple #[]) ∧ True ∧ Mem w0 B (takeParts g1 g2 v' (absorb s (l ++ p)).2 (absorb s (l ++ p)).1) w' := by
  refine c_enterM Try.func98 rfl 17 rfl (by simp) B hM _ rfl (fun a h => ?_)
  have h := h.mem (h.m.arg (rdP A (by8 p)) hp (fun k ⟨a, e1, e2, e3⟩ => by rw [← e3]; exact hpB a e1 e2))
  have h := h.mem (h.m.arg (rdP (some ⟨kb, 0, none⟩) (ucs kindsL)) hk (fun k ⟨a, e1, e2, e3⟩ => by cases e1; rw [← e3]; exact hkB))
  refine c_rs ?_
  refine s_ldb h rfl rfl rfl (by decide) Try.underlying22 rfl rfl 3 rfl (by rfl) (fun a h => ?_)
  refine sMV h (fun a h => ?_)
  refine s_appendW h rfl rfl rfl (by decide) Try.underlying22 zb_uint8 rfl rfl 2 rfl rfl (by8 p) (by rw [by8_length]) (h.m.ok 1 _ rfl) (by8_one _) (by omega) (by unfold maxLen; omega) (fun a w v7 h => ?_)
  obtain ⟨A7, c7, rfl, _, _, _⟩ := ownsWin.rd (h.m.ok 2 _ rfl)
  rw [← by8_append] at h
  refine s_stb h rfl rfl rfl sz_Suint8 rfl rfl rfl 3 rfl (by simp) (fun a w h => ?_)
  refine l_end ?_
  refine wp_block ?_
  refine c_loop (fun m a w => ∃ (s' : List UInt32) (l' : List UInt8) (v' : Value), l'.length = m ∧ l'.length ≤ 70368744177664 ∧ s'.length = 8 ∧ absorb s' l' = absorb s (l ++ p) ∧ St 17 w0 B [(1, .pointer (some ⟨g1, 0, none⟩)), (2, .pointer (some ⟨g2, 0, none⟩)), (3, .pointer (some ⟨kb, 0, none⟩))] [.ro (rdP (some ⟨kb, 0, none⟩) (ucs kindsL)), .ro (rdP A (by8 p)), .win v' 5 l'.length (by8 l'), .box g1 22 [v'], .box g2 128 (ucs s')] a w) (l ++ p).length ⟨s, l ++ p, _, rfl, by simp; omega, hs, rfl, by rw [List.length_append]; exact h.has (by exact ⟨rfl, rfl, rfl, trivial⟩)⟩ (fun m a w hI => ?_)
  obtain ⟨s', l', v', hlm, hlb, hs', habs, h⟩ := hI
  obtain ⟨A', c', rfl, hnc, hcm, hrd⟩ := ownsWin.rd (h.m.ok 2 _ rfl)
  unfold maxLen at hcm
  refine wp_seq ?_
  refine c_rs ?_
  refine s_ldb h rfl rfl rfl (by decide) Try.underlying22 rfl rfl 3 rfl (by rfl) (fun a h => ?_)
  refine s_len h rfl rfl rfl (by decide) Try.underlying22 rfl (fun a h => ?_)
  refine s_bin h rfl rfl rfl (by decide) rfl rfl (ib_geq) (fun a h => ?_)
  refine l_end ?_
  refine c_cond h rfl (fun hb => ?_) (fun hb => ?_)
  · have hge : 64 ≤ l'.length := by have := of_decide_eq_true hb; omega
    refine wp_skip ?_
    refine e_thenN ?_
    refine wp_block ?_
    refine wp_seq ?_
    -- region 2 DRAWS
    refine d_start h (Mem _ _ _) 4 5 rfl (by kernel_rfl) (fun _ _ _ _ _ h => h) (fun _ h => h) (fun Q a w HE HN h HS => ?_)
    refine d_take h HS HN 0 rfl (by kernel_rfl) (by kernel_rfl) (by kernel_rfl) (by kernel_rfl) (by kernel_rfl) rfl rfl (by decide) (fun w' hw => x_ldR h.k rfl ag_A8_uint32 rfl (ucs s') (by rw [ucs_length, hs']) (by have := hw.range (i := 4) rfl 0 8; rwa [List.drop_zero, List.take_of_length_le (by rw [ucs_length, hs']; omega)] at this)) (fun a h => ?_)
    refine d_take h HS HN 1 rfl (by kernel_rfl) (by kernel_rfl) (by kernel_rfl) (by kernel_rfl) (by kernel_rfl) rfl rfl (by decide) (fun w' hw => x_ld h.k rfl Try.underlying22 rfl rfl ((hw.cell (i := 3) rfl _).trans (by rfl))) (fun a h => ?_)
    refine d_takeP h (fun _ => HS) HN 2 rfl (by kernel_rfl) (by kernel_rfl) (by kernel_rfl) (by decide) rfl rfl (by decide) (fun w' => x_slice h.k rfl Try.underlying22 sz_uint8 rfl 0 64 c' (by exact rfl) (by exact ⟨_, _, rfl, by omega⟩) (by exact rfl) (by intro hh; cases hh) (by omega) (by omega) (by omega)) (fun a h => ?_)
    refine d_alone 3 rfl (by kernel_rfl) (fun K hK => ?_)
    have hrw := ownsWin.rd (h.m.ok 2 _ rfl)
    have hr64 : Rd w (if c' = 0 then A' else A'.map (·.add (0 * 1))) (by8 (l'.take 64)) := by
      obtain ⟨A2, c2, e2, _, _, h2⟩ := hrw
      cases e2
      have := rd_cut h2 0 64 c' (by rw [by8_length]; exact hnc)
      rwa [List.drop_zero, by8_take] at this
    refine s_callB h rfl rfl rfl (by decide) Try.func99 rfl rfl rfl (piece_ok w s' hs' kb 0 (h.m.ok 0 _ rfl) _ (l'.take 64) c' hr64 (by simp; omega) (by omega) (by omega)) (fun a w hb h => ?_)
    refine hK _ _ (fun _ _ => HS.ext hb) ?_
    replace HS := HS.ext hb
    clear hK
    refine d_alone 4 rfl (by kernel_rfl) (fun K hK => ?_)
    refine s_stW h rfl rfl rfl ag_A8_uint32 rfl rfl (by rw [ucs_length, pieceS_length _ _ hs']) (ucs_one _) 4 rfl (by rw [ucs_length, hs']) (fun a w h => ?_)
    refine hK _ _ (fun hne _ => absurd rfl hne) ?_
    clear hK
    refine d_done (by kernel_rfl) (HE _ _ ?_) _
    refine e_thenN ?_
    refine c_r ?_
    refine s_ldb h rfl rfl rfl (by decide) Try.underlying22 rfl rfl 3 rfl (by rfl) (fun a h => ?_)
    refine s_slice h rfl rfl rfl (by decide) Try.underlying22 sz_uint8 rfl 64 l'.length c' (by exact ⟨_, _, rfl, by omega⟩) (by exact rfl) (by exact rfl) (by intro _; rfl) (by omega) (by omega) (by omega) (fun a A16 hA16 h => ?_)
    refine s_stb h rfl rfl rfl sz_Suint8 rfl rfl rfl 3 rfl (by simp) (fun a w h => ?_)
    refine l_nil ?_
    refine e_blkN ?_
    have h := h.mem (h.m.winTail (i := 2) rfl 64 hge hA16)
    refine e_thenN ⟨l'.length - 64, by omega, pieceS s' (l'.take 64), l'.drop 64, .slice A16 (l'.length - 64) (c' - 64), by simp, by simp; omega, pieceS_length _ _ hs', by rw [← habs, absorb_ge _ _ hge], ?_⟩
    rw [List.length_drop, ← by8_drop]
    exact h.has (by exact ⟨rfl, rfl, rfl, trivial⟩)
  · have hlt : ¬ 64 ≤ l'.length := by have := of_decide_eq_false hb; omega
    rw [absorb_lt _ _ hlt] at habs
    refine wp_exit ?_
    refine e_thenX ?_
    refine e_thenX ?_
    refine e_blkX ?_
    refine r_end0 h rfl ⟨.slice A' l'.length c', rfl, trivial, ?_⟩
    rw [← habs]
    exact h.m.tail.tail
end Go.Proofs.Ytohgmggdfmjgnaa
