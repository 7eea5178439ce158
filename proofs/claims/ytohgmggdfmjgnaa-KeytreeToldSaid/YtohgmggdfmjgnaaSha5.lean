/- The package sha: the sum. -/
import Derived.Test.YtohgmggdfmjgnaaSha4
set_option linter.unusedVariables false
set_option linter.unusedSimpArgs false
namespace Go.Proofs.Ytohgmggdfmjgnaa
open Go.RowKit

theorem absorb_append (l : List UInt8) (s : List UInt32) (p : List UInt8) : absorb (absorb s l).1 ((absorb s l).2 ++ p) = absorb s (l ++ p) := by
  generalize hn : l.length = n
  induction n using Nat.strongRecOn generalizing l s with
  | _ n ih =>
    by_cases h : 64 ≤ l.length
    · rw [absorb_ge s l h, ih (l.drop 64).length (by simp; omega) _ _ rfl, absorb_ge s (l ++ p) (by simp; omega), List.take_append_of_le_length h, List.drop_append_of_le_length h]
    · rw [absorb_lt s l h]
/-- the words' bytes -/
def wordsB (s : List UInt32) : List UInt8 := s.flatMap fun x => be 4 x.toNat
theorem wordsB_length (s : List UInt32) : (wordsB s).length = 4 * s.length := by
  induction s with
  | nil => rfl
  | cons x s ih => simp only [wordsB, List.flatMap_cons, List.length_append, be_length, List.length_cons] at ih ⊢; omega
/-- the sum of bytes -/
def shaS (m : List UInt8) : List UInt8 := wordsB (absorb beginL (m ++ padL m.length)).1
theorem shaS_length (m : List UInt8) : (shaS m).length = 32 := by unfold shaS; rw [wordsB_length, (absorb_length _ _ rfl).1]
/-- the sum's bytes, k words of which are there -/
def outK (s : List UInt32) (k : Nat) : List UInt8 := wordsB (s.take k) ++ List.replicate (32 - 4 * k) 0
theorem outK_length (s : List UInt32) (k : Nat) (hs : s.length = 8) (hk : k ≤ 8) : (outK s k).length = 32 := by unfold outK; simp [wordsB_length, hs]; omega
theorem outK_step (s : List UInt32) (k : Nat) (hs : s.length = 8) (hk : k < 8) : splice (by8 (outK s k)) (4 * k) (by8 (be 4 (s.getD k 0).toNat)) = by8 (outK s (k + 1)) := by
  have hl : (wordsB (s.take k)).length = 4 * k := by simp [wordsB_length, hs]; omega
  unfold splice outK
  simp only [by8_append, by8_length, be_length]
  rw [List.take_left' (by rw [by8_length, hl]), List.drop_append, List.drop_of_length_le (by rw [by8_length, hl]; omega), by8_length, hl, List.nil_append, show 4 * k + 4 - 4 * k = 4 by omega, by8_drop, List.drop_replicate, show 32 - 4 * k - 4 = 32 - 4 * (k + 1) by omega, List.take_succ_eq_append_getElem (by omega), wordsB, wordsB, List.flatMap_append, by8_append, List.append_assoc]
  simp [List.getD_eq_getElem?_getD, hs, hk]
theorem outK_full (s : List UInt32) (hs : s.length = 8) : outK s 8 = wordsB s := by unfold outK; rw [List.take_of_length_le (by omega)]; simp
theorem rdK {w0 w : World} {B : Nat → Prop} {a b c : Ch} {R : List Ch} {g : Nat} {T : TypeId} {cs : List Value} (h : Mem w0 B ([a, b, c] ++ .box g T cs :: R) w) : Rd w (some ⟨g, 0, none⟩) cs := by
  have := h.rdBox (i := 3) rfl 0
  rwa [List.drop_zero] at this
set_option maxRecDepth 100000 in
theorem sum_ok (w0 : World) (A : Option Addr) (ls : List (List UInt8)) (c : Nat) (hL : RbL w0 A ls) (hlen : ls.length ≤ 9223372036854775807) (htot : ls.flatten.length ≤ 1099511627776) :
    Calls Try.prog 83 #[.slice A ls.length c] w0 fun e w' => e = .returned (.agg (by8 (shaS ls.flatten)).toArray) ∧ Below w0.heap.size w0 w' := by
  refine c_enter Try.func83 rfl 47 rfl (by simp) (fun _ => False) _ rfl (fun a h => ?_)
  refine c_rs ?_
  refine s_alloc h rfl rfl rfl (by decide) zi_A32_uint8 rfl (fun a w g2 h => ?_)
  refine l_end ?_
  refine c_rs ?_
  refine s_callB h rfl rfl rfl (by decide) Try.func96 rfl rfl rfl (kinds_ok w) (fun a w hb h => ?_)
  refine s_alloc h rfl rfl rfl (by decide) zi_A64_uint32 rfl (fun a w g3 h => ?_)
  refine s_stW h rfl rfl rfl ag_A64_uint32 rfl rfl (by rfl) (ucs_one _) 0 rfl (by rfl) (fun a w h => ?_)
  refine l_end ?_
  refine c_rs ?_
  refine s_callB h rfl rfl rfl (by decide) Try.func97 rfl rfl rfl (begin_ok w) (fun a w hb h => ?_)
  refine s_alloc h rfl rfl rfl (by decide) zi_A8_uint32 rfl (fun a w g4 h => ?_)
  refine s_stW h rfl rfl rfl ag_A8_uint32 rfl rfl (by rfl) (ucs_one _) 0 rfl (by rfl) (fun a w h => ?_)
  refine l_end ?_
  refine c_rs ?_
  refine s_alloc h rfl rfl rfl (by decide) zi_Suint8 rfl (fun a w g5 h => ?_)
  have h := h.mem (h.m.nilwin 5)
  refine l_end ?_
  refine c_rs ?_
  refine sAV h (fun a h => ?_)
  refine l_end ?_
  refine c_rs ?_
  refine s_makeFunc h rfl rfl rfl (by decide) (us := []) (vs := [_, _, _]) rfl rfl (fun a h => ?_)
  refine sAV h (fun a h => ?_)
  refine l_end ?_
  refine wp_seq ?_
  refine c_rs ?_
  refine sMV h (fun a h => ?_)
  refine s_len h rfl rfl rfl (by decide) Try.underlying24 rfl (fun a h => ?_)
  refine sMV h (fun a h => ?_)
  refine l_end ?_
  refine wp_block ?_
  refine c_loop (fun m a w => ∃ (k : Nat) (v : Value), k + m = ls.length ∧ St 47 w0 (fun _ => False) [(2, .pointer (some ⟨g2, 0, none⟩)), (4, .pointer (some ⟨g4, 0, none⟩)), (6, .int .i64 ((ls.take k).flatten.length : Int)), (7, .func (.func 98) #[] #[.pointer (some ⟨g5, 0, none⟩), .pointer (some ⟨g4, 0, none⟩), .pointer (some ⟨g3, 0, none⟩)]), (16, .slice A ls.length c), (17, .int .i64 (ls.length : Int)), (18, .int .i64 (k : Int))] (takeParts g5 g4 v (absorb beginL (ls.take k).flatten).2 (absorb beginL (ls.take k).flatten).1 ++ [.box g3 126 (ucs kindsL), .box g2 84 (by8 (List.replicate 32 0))]) a w) ls.length ⟨0, .slice none 0 0, by omega, by rw [List.take_zero, List.flatten_nil, absorb_lt beginL [] (by decide)]; exact h.has (by exact ⟨rfl, rfl, rfl, rfl, rfl, rfl, rfl, trivial⟩)⟩ (fun m a w hI => ?_)
  obtain ⟨k, v, hkm, h⟩ := hI
  have hab := absorb_length (ls.take k).flatten beginL rfl
  refine c_rs ?_
  refine s_bin h rfl rfl rfl (by decide) rfl rfl (ib_lss) (fun a h => ?_)
  refine l_end ?_
  refine c_cs h rfl (fun hb => ?_) (fun hb => ?_)
  · have hlt : k < ls.length := by have := of_decide_eq_true hb; omega
    have htk : (ls.take (k + 1)).flatten = (ls.take k).flatten ++ ls[k] := by rw [List.take_succ_eq_append_getElem hlt, List.flatten_append]; simp
    have hsum : (ls.take (k + 1)).flatten.length ≤ ls.flatten.length := by
      have : ls.flatten = (ls.take (k + 1)).flatten ++ (ls.drop (k + 1)).flatten := by rw [← List.flatten_append, List.take_append_drop]
      rw [this]; simp
    rw [htk, List.length_append] at hsum
    obtain ⟨b, off, v1, rfl, hv1', A1, c1, rfl, hc1, hc2, hr0⟩ := hL.at k hlt
    have hv1 := (h.m.below.cell (World.block_lt_of_cell? w0 _ hv1')).trans hv1'
    have hr1 := hr0.below h.m.below
    refine wp_skip ?_
    refine e_thenN ?_
    refine wp_seq ?_
    refine wp_block ?_
    refine c_rs ?_
    refine s_iaddr h rfl rfl rfl (by decide) Try.underlying24 sz_Suint8 rfl rfl (m := k) (by omega) (by omega) (r := off + k * 1) (by omega) (fun a h => ?_)
    refine s_ld h rfl rfl rfl (by decide) Try.underlying22 rfl rfl hv1 (fun a h => ?_)
    refine sAV h (fun a h => ?_)
    refine l_end ?_
    refine c_rs ?_
    refine sMV h (fun a h => ?_)
    refine sMV h (fun a h => ?_)
    refine s_len h rfl rfl rfl (by decide) Try.underlying22 rfl (fun a h => ?_)
    refine s_bin h rfl rfl rfl (by decide) rfl rfl (ib_add (nw64 (by omega))) (fun a h => ?_)
    refine sAV h (fun a h => ?_)
    refine l_end ?_
    refine c_r ?_
    refine sMV h (fun a h => ?_)
    refine sMV h (fun a h => ?_)
    have hT1 : Mem w (ownL (takeParts g5 g4 v _ _)) (takeParts g5 g4 v _ _) w := Mem.sub (Ls := takeParts g5 g4 v _ _) h.m
    have hT2 := rdK h.m
    have hT3 : ¬ ownL (takeParts g5 g4 v _ _) g3 := h.m.far (Ls := takeParts g5 g4 v _ _) (i := 0) rfl rfl
    have hT4 : ∀ ad, A1 = some ad → by8 ls[k] ≠ [] → ¬ ownL (takeParts g5 g4 v _ _) ad.block := fun ad e1 e2 hown => by
      have h1 := Mem.mine (Ls := takeParts g5 g4 v _ _) h.m hown
      have hh := rd_lt hr0 ad e1 e2
      omega
    have hT := take_ok w _ g5 g4 g3 v _ _ hab.1 hT1 hT2 hT3 A1 ls[k] c1 hr1 hT4 (by omega)
    refine s_callF (vs := [_]) h rfl rfl rfl (by decide) rfl Try.func98 rfl rfl rfl hT rfl (fun e w' hp => ?_)
    obtain ⟨v', rfl, _, hm'⟩ := hp
    rw [absorb_append] at hm'
    refine ⟨_, rfl, fun a hk => ?_⟩
    have h : St 47 w0 _ _ _ a w' := ⟨hk, h.m.frame hm' rfl⟩
    refine l_nil ?_
    refine e_blkN ?_
    refine e_thenN ?_
    refine c_r ?_
    refine s_bin h rfl rfl rfl (by decide) rfl rfl (ib_add (nw64 (by omega))) (fun a h => ?_)
    refine sMV h (fun a h => ?_)
    refine l_nil ?_
    refine e_thenN ⟨m - 1, by omega, k + 1, v', by omega, ?_⟩
    rw [htk, List.length_append]
    exact h.has (by exact ⟨rfl, rfl, rfl, rfl, rfl, rfl, rfl, trivial⟩)
  · have hge : k = ls.length := by have := of_decide_eq_false hb; omega
    subst hge
    rw [List.take_length] at h hab
    refine wp_exit ?_
    refine e_thenX ?_
    refine e_thenX ?_
    refine e_blkX ?_
    refine e_thenN ?_
    refine c_rs ?_
    refine sMV h (fun a h => ?_)
    refine sMV h (fun a h => ?_)
    refine s_callN h rfl rfl rfl (by decide) Try.func100 rfl rfl rfl (pad_ok w ls.flatten.length htot) (fun a w v32 hb h => ?_)
    obtain ⟨A32, c32, rfl, _, hc32, hr32⟩ := h.m.rdRow (i := 0) rfl
    have h := h.pick [1, 2, 3, 4, 5, 0] (by decide) rfl
    have hT1 : Mem w (ownL (takeParts g5 g4 v _ _)) (takeParts g5 g4 v _ _) w := Mem.sub (Ls := takeParts g5 g4 v _ _) h.m
    have hT2 := rdK h.m
    have hT3 : ¬ ownL (takeParts g5 g4 v _ _) g3 := h.m.far (Ls := takeParts g5 g4 v _ _) (i := 0) rfl rfl
    have hT4 : ∀ ad, A32 = some ad → by8 (padL ls.flatten.length) ≠ [] → ¬ ownL (takeParts g5 g4 v _ _) ad.block := fun ad e1 e2 => h.m.far (Ls := takeParts g5 g4 v _ _) (i := 2) rfl (by rw [e1]; rfl)
    have hT := take_ok w _ g5 g4 g3 v _ _ hab.1 hT1 hT2 hT3 A32 (padL ls.flatten.length) c32 hr32 hT4 (by rw [padL_length]; omega)
    refine s_callF (vs := [_]) h rfl rfl rfl (by decide) rfl Try.func98 rfl rfl rfl hT rfl (fun e w' hp => ?_)
    obtain ⟨v', rfl, _, hm'⟩ := hp
    rw [absorb_append] at hm'
    refine ⟨_, rfl, fun a hk => ?_⟩
    have h : St 47 w0 _ _ _ a w' := ⟨hk, h.m.frame hm' rfl⟩
    obtain ⟨s, hsd⟩ : ∃ s, s = (absorb beginL (ls.flatten ++ padL ls.flatten.length)).1 := ⟨_, rfl⟩
    have hs8 : s.length = 8 := by rw [hsd]; exact (absorb_length _ _ rfl).1
    have hsS : shaS ls.flatten = wordsB s := by rw [hsd]; rfl
    rw [← hsd] at h
    refine l_end ?_
    refine c_rs ?_
    refine s_alloc h rfl rfl rfl (by decide) zi_A32_uint8 rfl (fun a w g10 h => ?_)
    refine l_end ?_
    refine wp_seq ?_
    refine c_rs ?_
    refine s_ldW h rfl rfl rfl (by decide) ag_A8_uint32 rfl 3 rfl (by rw [ucs_length, hs8]) (fun a h => ?_)
    refine sMV h (fun a h => ?_)
    refine l_end ?_
    refine wp_block ?_
    refine c_loop (fun m a w => ∃ (k : Nat) (R : List Ch), k + m = 8 ∧ St 47 w0 (fun _ => False) [(2, .pointer (some ⟨g2, 0, none⟩)), (10, .pointer (some ⟨g10, 0, none⟩)), (34, .agg (ucs s).toArray), (35, .int .i64 (k : Int))] [.box g10 84 (by8 (outK s k)), .box g2 84 (by8 (List.replicate 32 0))] a w) 8 ⟨0, [], rfl, (h.pick [0, 5] (by decide) rfl).has (by exact ⟨rfl, rfl, rfl, rfl, trivial⟩)⟩ (fun m a w hI => ?_)
    obtain ⟨k, _, hk8, h⟩ := hI
    refine c_rs ?_
    refine s_bin h rfl rfl rfl (by decide) rfl rfl (ib_lss) (fun a h => ?_)
    refine l_end ?_
    refine c_cs h rfl (fun hb => ?_) (fun hb => ?_)
    · have hlt : k < 8 := by have := of_decide_eq_true hb; omega
      have hw := ucs_getD s k (by omega)
      refine wp_skip ?_
      refine e_thenN ?_
      refine wp_seq ?_
      refine wp_block ?_
      refine c_rs ?_
      refine sMV h (fun a h => ?_)
      refine s_index h rfl rfl rfl (by decide) Try.underlying128 Try.underlying106 rfl sz_uint32 rfl rfl (m := k) (by omega) (by omega) (by rw [List.getElem?_toArray]; exact hw) (fun a h => ?_)
      refine sAV h (fun a h => ?_)
      refine sAV h (fun a h => ?_)
      refine l_end ?_
      -- region 17 DRAWS
      refine d_start h (Mem _ _ _) 5 6 rfl (by kernel_rfl) (fun _ _ _ _ _ h => h) (fun _ h => h) (fun Q a w HE HN h HS => ?_)
      refine d_takeP h (fun _ => HS) HN 0 rfl (by kernel_rfl) (by kernel_rfl) (by kernel_rfl) (by decide) rfl rfl (by decide) (fun w' => x_move h.k _ rfl rfl) (fun a h => ?_)
      refine d_takeP h (fun _ => HS) HN 1 rfl (by kernel_rfl) (by kernel_rfl) (by kernel_rfl) (by decide) rfl rfl (by decide) (fun w' => x_bin h.k rfl rfl rfl (ib_mul (nw64 (by omega)))) (fun a h => ?_)
      refine d_takeP h (fun _ => HS) HN 2 rfl (by kernel_rfl) (by kernel_rfl) (by kernel_rfl) (by decide) rfl rfl (by decide) (fun w' => x_sliceA h.k rfl Try.underlying84 sz_uint8 rfl (4 * k) 32 32 (by exact ⟨_, _, rfl, by omega⟩) (by exact rfl) (by exact rfl) (by intro _; rfl) (by omega) (by omega) (by omega)) (fun a h => ?_)
      rw [if_neg (by omega)] at h
      refine d_takeP h (fun _ => HS) HN 3 rfl (by kernel_rfl) (by kernel_rfl) (by kernel_rfl) (by decide) rfl rfl (by decide) (fun w' => x_move h.k _ rfl rfl) (fun a h => ?_)
      refine d_alone 4 rfl (by kernel_rfl) (fun K hK => ?_)
      refine s_call h rfl rfl rfl (by decide) Try.func90 rfl rfl rfl (put32_ok (s.getD k 0) w) (fun e w' hp => ?_)
      obtain ⟨A44, rfl, hb, hz44, hr44⟩ := hp
      refine ⟨_, rfl, fun a hk => ?_⟩
      have h : St 47 w0 _ _ _ a w' := ⟨hk, h.m.addRd hb hz44 hr44⟩
      refine hK _ _ (fun _ _ => HS.ext hb) ?_
      replace HS := HS.ext hb
      clear hK
      refine d_alone 5 rfl (by kernel_rfl) (fun K hK => ?_)
      refine s_copyB h rfl rfl rfl (by decide) Try.underlying22 sz_uint8 rfl rfl 1 (4 * k) rfl (by8 (be 4 (s.getD k 0).toNat)) (by rw [by8_length, be_length]; exact (Nat.min_eq_left (by omega)).symm) (fun _ => by rw [Nat.zero_add, Nat.mul_one]) (h.m.ok 0 _ rfl) (by rw [by8_length, be_length, by8_length, outK_length _ _ hs8 (by omega)]; omega) (by8_one _) (fun a w h => ?_)
      refine hK _ _ (fun hne _ => absurd rfl hne) ?_
      clear hK
      refine d_done (by kernel_rfl) (HE _ _ ?_) _
      refine e_blkN ?_
      refine e_thenN ?_
      refine c_r ?_
      refine s_bin h rfl rfl rfl (by decide) rfl rfl (ib_add (nw64 (by omega))) (fun a h => ?_)
      refine sMV h (fun a h => ?_)
      refine l_nil ?_
      refine e_thenN ⟨m - 1, by omega, k + 1, [], by omega, ?_⟩
      have h := h.pick [1, 2] (by decide) rfl
      rw [outK_step s k hs8 hlt] at h
      exact h.has (by exact ⟨rfl, rfl, rfl, rfl, trivial⟩)
    · have hge : k = 8 := by have := of_decide_eq_false hb; omega
      subst hge
      refine wp_exit ?_
      refine e_thenX ?_
      refine e_thenX ?_
      refine e_blkX ?_
      refine e_thenN ?_
      refine c_rs ?_
      refine s_ldW h rfl rfl rfl (by decide) ag_A32_uint8 rfl 0 rfl (by rw [by8_length, outK_length _ _ hs8 (by omega)]) (fun a h => ?_)
      refine s_stW h rfl rfl rfl ag_A32_uint8 rfl rfl (by rw [by8_length, outK_length _ _ hs8 (by omega)]) (by8_one _) 1 rfl (by rfl) (fun a w h => ?_)
      refine l_end ?_
      refine wp_ret ?_
      refine r_ret1 h rfl (rv_cellA h rfl 1 rfl ag_A32_uint8 (by rw [by8_length, outK_length _ _ hs8 (by omega)])) ⟨?_, h.m.below⟩
      rw [outK_full _ hs8, hsS]
end Go.Proofs.Ytohgmggdfmjgnaa
