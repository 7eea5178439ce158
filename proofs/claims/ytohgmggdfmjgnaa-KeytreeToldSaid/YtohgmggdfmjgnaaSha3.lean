/- The package sha: the numbers behind a piece; what stands behind bytes. -/
import Derived.Test.YtohgmggdfmjgnaaSha2
import Derived.Test.YtohgmggdfmjgnaaCall
set_option linter.unusedVariables false
set_option linter.unusedSimpArgs false
namespace Go.Proofs.Ytohgmggdfmjgnaa
open Go.RowKit

/-- a step -/
def rnd (k w : UInt32) (s : List UInt32) : List UInt32 :=
  let one := s.getD 7 0 + turnsS (s.getD 4 0) 6 11 25 + (s.getD 4 0 &&& s.getD 5 0 ||| ~~~(s.getD 4 0) &&& s.getD 6 0) + k + w
  let two := turnsS (s.getD 0 0) 2 13 22 + (s.getD 0 0 &&& s.getD 1 0 ||| s.getD 0 0 &&& s.getD 2 0 ||| s.getD 1 0 &&& s.getD 2 0)
  [one + two, s.getD 0 0, s.getD 1 0, s.getD 2 0, s.getD 3 0 + one, s.getD 4 0, s.getD 5 0, s.getD 6 0]
/-- k steps -/
def rnds (ws s : List UInt32) : Nat → List UInt32
  | 0 => s
  | k + 1 => rnd (kindsL.getD k 0) (ws.getD k 0) (rnds ws s k)
theorem rnds_length (ws s : List UInt32) (k : Nat) (hs : s.length = 8) : (rnds ws s k).length = 8 := by
  cases k with
  | zero => exact hs
  | succ k => rfl
theorem eight {s : List UInt32} (h : s.length = 8) : ∃ a b c d e f g i, s = [a, b, c, d, e, f, g, i] := by
  rcases s with _ | ⟨a, _ | ⟨b, _ | ⟨c, _ | ⟨d, _ | ⟨e, _ | ⟨f, _ | ⟨g, _ | ⟨i, _ | ⟨j, s⟩⟩⟩⟩⟩⟩⟩⟩⟩
  all_goals first
    | exact ⟨_, _, _, _, _, _, _, _, rfl⟩
    | (simp at h; done)
    | (simp at h; omega)
/-- sums of two lists, the first k -/
def addK (s v : List UInt32) (k : Nat) : List UInt32 := (List.zipWith (· + ·) s v).take k ++ s.drop k
theorem addK_length (s v : List UInt32) (k : Nat) (h : s.length = v.length) : (addK s v k).length = s.length := by unfold addK; simp [h]; omega
theorem addK_get (s v : List UInt32) (k : Nat) (h : s.length = v.length) : (addK s v k).getD k 0 = s.getD k 0 := by
  unfold addK
  have hl : ((List.zipWith (· + ·) s v).take k).length = min k s.length := by simp [h]
  rcases Nat.lt_or_ge k s.length with hk | hk
  · rw [List.getD_eq_getElem?_getD, List.getElem?_append_right (by omega), hl, Nat.min_eq_left (by omega), Nat.sub_self, List.getElem?_drop]; simp [List.getD_eq_getElem?_getD]
  · rw [List.getD_eq_getElem?_getD, List.getD_eq_getElem?_getD, List.getElem?_eq_none (by simp [h]; omega), List.getElem?_eq_none hk]
theorem addK_set (s v : List UInt32) (k : Nat) (h : s.length = v.length) (hk : k < s.length) : (addK s v k).set k (s.getD k 0 + v.getD k 0) = addK s v (k + 1) := by
  unfold addK
  have hl : ((List.zipWith (· + ·) s v).take k).length = k := by simp [h]; omega
  rw [List.set_append_right _ _ (by omega), hl, Nat.sub_self, List.drop_eq_getElem_cons hk, List.set_cons_zero, List.take_succ_eq_append_getElem (by simp [h]; omega), List.append_assoc, List.singleton_append]
  simp [List.getD_eq_getElem?_getD, hk, show k < v.length by omega]
theorem addK_all (s v : List UInt32) (h : s.length = v.length) : addK s v s.length = List.zipWith (· + ·) s v := by
  unfold addK; rw [List.take_of_length_le (by simp [h]), List.drop_of_length_le (Nat.le_refl _), List.append_nil]
/-- the numbers behind a piece -/
def pieceS (s : List UInt32) (p : List UInt8) : List UInt32 := List.zipWith (· + ·) s (rnds (sched p 64) s 64)
theorem pieceS_length (s : List UInt32) (p : List UInt8) (hs : s.length = 8) : (pieceS s p).length = 8 := by simp [pieceS, rnds_length _ _ _ hs, hs]
theorem ucs_getD (l : List UInt32) (k : Nat) (h : k < l.length) : (ucs l)[k]? = some (.int .u32 (U (l.getD k 0))) := by simp [ucs, uc, h, List.getD_eq_getElem?_getD]
theorem ucs_set (l : List UInt32) (k : Nat) (x : UInt32) : (ucs l).set k (.int .u32 (U x)) = ucs (l.set k x) := by simp [ucs, uc, List.map_set]
theorem x_not32 {P : Program} {o : Oper} {N : Nat} {ρ : Slots} {a : Act} {w : World} (h : Knows N ρ a) {x : Operand} {t : TypeId} (ho : o.op = .unOp .xor t x) {y : UInt32} (hx : ev ρ x = some (.int .u32 (U y))) : (execOp a.eval o).run P w = .ok (.value (.int .u32 (U (~~~ y)))) w := by
  have e : bits .xor .u32 4294967295 (U y) = U (~~~ y) := by
    have := U_xor 4294967295 y
    rw [show U 4294967295 = 4294967295 from rfl] at this
    rw [this]
    congr 1
  have e2 : Op.unary UnOp.xor (.int .u32 (U y)) = (pure (.int .u32 (bits .xor .u32 4294967295 (U y))) : Sem Value) := rfl
  rw [← e]
  simp [execOp, ho, h.eval hx, e2]
set_option maxRecDepth 100000 in
theorem piece_ok (w0 : World) (s : List UInt32) (hs : s.length = 8) (kb ko : Nat) (hk : Rd w0 (some ⟨kb, ko, none⟩) (ucs kindsL)) (A : Option Addr) (p : List UInt8) (c : Nat) (hr : Rd w0 A (by8 p)) (hl : p.length = 64) (hc : 64 ≤ c) (hm : c ≤ 9223372036854775807) :
    Calls Try.prog 99 #[.agg (ucs s).toArray, .pointer (some ⟨kb, ko, none⟩), .slice A 64 c] w0 fun e w' => e = .returned (.agg (ucs (pieceS s p)).toArray) ∧ Below w0.heap.size w0 w' := by
  refine c_enter Try.func99 rfl 102 rfl (by simp) (fun _ => False) _ rfl (fun a h => ?_)
  have h := h.mem (h.m.arg (rdP A (by8 p)) hr (fun _ _ hh => hh))
  have h := h.mem (h.m.arg (rdP (some ⟨kb, ko, none⟩) (ucs kindsL)) hk (fun _ _ hh => hh))
  refine c_rs ?_
  refine s_box h rfl rfl rfl (by decide) rfl rfl (fun a w g3 h => ?_)
  refine s_alloc h rfl rfl rfl (by decide) zi_A8_uint32 rfl (fun a w g6 h => ?_)
  refine l_end ?_
  refine c_rs ?_
  refine s_ldW h rfl rfl rfl (by decide) ag_A8_uint32 rfl 1 rfl (by rw [ucs_length, hs]) (fun a h => ?_)
  refine s_alloc h rfl rfl rfl (by decide) zi_A8_uint32 rfl (fun a w g7 h => ?_)
  refine s_stW h rfl rfl rfl ag_A8_uint32 rfl rfl (by rw [ucs_length, hs]) (ucs_one _) 0 rfl (by rfl) (fun a w h => ?_)
  refine l_end ?_
  refine wp_seq ?_
  refine c_rs ?_
  refine sMV h (fun a h => ?_)
  refine s_callB h rfl rfl rfl (by decide) Try.func106 rfl rfl rfl (schedule_ok w A p c (h.m.ok 4 _ rfl) hl hc hm) (fun a w hb h => ?_)
  refine sMV h (fun a h => ?_)
  refine l_end ?_
  refine wp_block ?_
  refine c_loop (fun m a w => ∃ k : Nat, k + m = 64 ∧ St 102 w0 (fun _ => False) [(1, .pointer (some ⟨kb, ko, none⟩)), (3, .pointer (some ⟨g3, 0, none⟩)), (6, .pointer (some ⟨g6, 0, none⟩)), (7, .pointer (some ⟨g7, 0, none⟩)), (17, .agg (ucs (sched p 64)).toArray), (18, .int .i64 (k : Int))] [.box g7 128 (ucs (rnds (sched p 64) s k)), .box g6 128 (List.replicate 8 (.int .u32 0)), .box g3 128 (ucs s), .ro (rdP (some ⟨kb, ko, none⟩) (ucs kindsL)), .ro (rdP A (by8 p))] a w) 64 ⟨0, rfl, h.has (by exact ⟨rfl, rfl, rfl, rfl, rfl, rfl, trivial⟩)⟩ (fun m a w hI => ?_)
  obtain ⟨k, hk64, h⟩ := hI
  refine c_rs ?_
  refine s_bin h rfl rfl rfl (by decide) rfl rfl (ib_lss) (fun a h => ?_)
  refine l_end ?_
  refine c_cs h rfl (fun hb => ?_) (fun hb => ?_)
  · have hlt : k < 64 := by have := of_decide_eq_true hb; omega
    obtain ⟨x0, x1, x2, x3, x4, x5, x6, x7, hx⟩ := eight (rnds_length (sched p 64) s k hs)
    have hw := ucs_getD (sched p 64) k (by rw [sched_length]; exact hlt)
    have hkk := ucs_getD kindsL k (by exact hlt)
    rw [hx] at h
    refine wp_skip ?_
    refine e_thenN ?_
    refine wp_seq ?_
    refine wp_block ?_
    refine c_rs ?_
    refine sMV h (fun a h => ?_)
    refine s_index h rfl rfl rfl (by decide) Try.underlying126 Try.underlying106 rfl sz_uint32 rfl rfl (m := k) (by omega) (by omega) (by rw [List.getElem?_toArray]; exact hw) (fun a h => ?_)
    refine sAV h (fun a h => ?_)
    refine sAV h (fun a h => ?_)
    refine l_end ?_
    refine wp_seq ?_
    -- region 5 DRAWS
    refine d_start h (Mem _ _ _) 6 6 rfl (by kernel_rfl) (fun _ _ _ _ _ h => h) (fun _ h => h) (fun Q a w HE HN h HS => ?_)
    refine d_takeP h (fun _ => HS) HN 0 rfl (by kernel_rfl) (by kernel_rfl) (by kernel_rfl) (by decide) rfl rfl (by decide) (fun w' => x_iaddrA h.k rfl Try.underlying128 sz_uint32 rfl rfl (m := 0) rfl (by decide) (r := 0) (by omega)) (fun a h => ?_)
    refine d_take h HS HN 1 rfl (by kernel_rfl) (by kernel_rfl) (by kernel_rfl) (by kernel_rfl) (by kernel_rfl) rfl rfl (by decide) (fun w' hw => x_ld h.k rfl Try.underlying106 rfl rfl ((hw.cell (i := 0) rfl _).trans (by rfl))) (fun a h => ?_)
    refine d_takeP h (fun _ => HS) HN 2 rfl (by kernel_rfl) (by kernel_rfl) (by kernel_rfl) (by decide) rfl rfl (by decide) (fun w' => x_iaddrA h.k rfl Try.underlying128 sz_uint32 rfl rfl (m := 4) rfl (by decide) (r := 4) (by omega)) (fun a h => ?_)
    refine d_take h HS HN 3 rfl (by kernel_rfl) (by kernel_rfl) (by kernel_rfl) (by kernel_rfl) (by kernel_rfl) rfl rfl (by decide) (fun w' hw => x_ld h.k rfl Try.underlying106 rfl rfl ((hw.cell (i := 0) rfl _).trans (by rfl))) (fun a h => ?_)
    refine d_takeP h (fun _ => HS) HN 4 rfl (by kernel_rfl) (by kernel_rfl) (by kernel_rfl) (by decide) rfl rfl (by decide) (fun w' => x_assign h.k _ rfl rfl) (fun a h => ?_)
    refine d_takeP h (fun _ => HS) HN 5 rfl (by kernel_rfl) (by kernel_rfl) (by kernel_rfl) (by decide) rfl rfl (by decide) (fun w' => x_assign h.k _ rfl rfl) (fun a h => ?_)
    refine d_done (by kernel_rfl) (HE _ _ ?_) _
    refine e_thenN ?_
    refine wp_seq ?_
    -- region 6 DRAWS
    refine d_start h (Mem _ _ _) 25 25 rfl (by kernel_rfl) (fun _ _ _ _ _ h => h) (fun _ h => h) (fun Q a w HE HN h HS => ?_)
    refine d_takeP h (fun _ => HS) HN 0 rfl (by kernel_rfl) (by kernel_rfl) (by kernel_rfl) (by decide) rfl rfl (by decide) (fun w' => x_iaddrA h.k rfl Try.underlying128 sz_uint32 rfl rfl (m := 7) rfl (by decide) (r := 7) (by omega)) (fun a h => ?_)
    refine d_take h HS HN 1 rfl (by kernel_rfl) (by kernel_rfl) (by kernel_rfl) (by kernel_rfl) (by kernel_rfl) rfl rfl (by decide) (fun w' hw => x_ld h.k rfl Try.underlying106 rfl rfl ((hw.cell (i := 0) rfl _).trans (by rfl))) (fun a h => ?_)
    refine d_takeP h (fun _ => HS) HN 2 rfl (by kernel_rfl) (by kernel_rfl) (by kernel_rfl) (by decide) rfl rfl (by decide) (fun w' => x_move h.k _ rfl rfl) (fun a h => ?_)
    refine d_takeP h (fun _ => HS) HN 5 rfl (by kernel_rfl) (by kernel_rfl) (by kernel_rfl) (by decide) rfl rfl (by decide) (fun w' => x_move h.k _ rfl rfl) (fun a h => ?_)
    refine d_takeP h (fun _ => HS) HN 6 rfl (by kernel_rfl) (by kernel_rfl) (by kernel_rfl) (by decide) rfl rfl (by decide) (fun w' => x_iaddrA h.k rfl Try.underlying128 sz_uint32 rfl rfl (m := 5) rfl (by decide) (r := 5) (by omega)) (fun a h => ?_)
    refine d_take h HS HN 7 rfl (by kernel_rfl) (by kernel_rfl) (by kernel_rfl) (by kernel_rfl) (by kernel_rfl) rfl rfl (by decide) (fun w' hw => x_ld h.k rfl Try.underlying106 rfl rfl ((hw.cell (i := 0) rfl _).trans (by rfl))) (fun a h => ?_)
    refine d_takeP h (fun _ => HS) HN 8 rfl (by kernel_rfl) (by kernel_rfl) (by kernel_rfl) (by decide) rfl rfl (by decide) (fun w' => x_bin h.k rfl rfl rfl (ib_and (U_and _ _))) (fun a h => ?_)
    refine d_takeP h (fun _ => HS) HN 9 rfl (by kernel_rfl) (by kernel_rfl) (by kernel_rfl) (by decide) rfl rfl (by decide) (fun w' => x_move h.k _ rfl rfl) (fun a h => ?_)
    refine d_takeP h (fun _ => HS) HN 10 rfl (by kernel_rfl) (by kernel_rfl) (by kernel_rfl) (by decide) rfl rfl (by decide) (fun w' => x_not32 h.k rfl rfl) (fun a h => ?_)
    refine d_takeP h (fun _ => HS) HN 11 rfl (by kernel_rfl) (by kernel_rfl) (by kernel_rfl) (by decide) rfl rfl (by decide) (fun w' => x_iaddrA h.k rfl Try.underlying128 sz_uint32 rfl rfl (m := 6) rfl (by decide) (r := 6) (by omega)) (fun a h => ?_)
    refine d_take h HS HN 12 rfl (by kernel_rfl) (by kernel_rfl) (by kernel_rfl) (by kernel_rfl) (by kernel_rfl) rfl rfl (by decide) (fun w' hw => x_ld h.k rfl Try.underlying106 rfl rfl ((hw.cell (i := 0) rfl _).trans (by rfl))) (fun a h => ?_)
    refine d_takeP h (fun _ => HS) HN 13 rfl (by kernel_rfl) (by kernel_rfl) (by kernel_rfl) (by decide) rfl rfl (by decide) (fun w' => x_bin h.k rfl rfl rfl (ib_and (U_and _ _))) (fun a h => ?_)
    refine d_takeP h (fun _ => HS) HN 14 rfl (by kernel_rfl) (by kernel_rfl) (by kernel_rfl) (by decide) rfl rfl (by decide) (fun w' => x_bin h.k rfl rfl rfl (ib_or (U_or _ _))) (fun a h => ?_)
    refine d_takeP h (fun _ => HS) HN 16 rfl (by kernel_rfl) (by kernel_rfl) (by kernel_rfl) (by decide) rfl rfl (by decide) (fun w' => x_move h.k _ rfl rfl) (fun a h => ?_)
    refine d_takeP h (fun _ => HS) HN 17 rfl (by kernel_rfl) (by kernel_rfl) (by kernel_rfl) (by decide) rfl rfl (by decide) (fun w' => x_move h.k _ rfl rfl) (fun a h => ?_)
    refine d_takeP h (fun _ => HS) HN 18 rfl (by kernel_rfl) (by kernel_rfl) (by kernel_rfl) (by decide) rfl rfl (by decide) (fun w' => x_nil h.k rfl rfl) (fun a h => ?_)
    refine d_takeP h (fun _ => HS) HN 19 rfl (by kernel_rfl) (by kernel_rfl) (by kernel_rfl) (by decide) rfl rfl (by decide) (fun w' => x_iaddrA h.k rfl Try.underlying126 sz_uint32 rfl rfl (m := k) (by omega) (by omega) (r := ko + k) (by omega)) (fun a h => ?_)
    refine d_take h HS HN 20 rfl (by kernel_rfl) (by kernel_rfl) (by kernel_rfl) (by kernel_rfl) (by kernel_rfl) rfl rfl (by decide) (fun w' hw => x_ld h.k rfl Try.underlying106 rfl rfl (Rd.at (hw.ok 3 _ rfl) _ (hkk))) (fun a h => ?_)
    refine d_takeP h (fun _ => HS) HN 22 rfl (by kernel_rfl) (by kernel_rfl) (by kernel_rfl) (by decide) rfl rfl (by decide) (fun w' => x_move h.k _ rfl rfl) (fun a h => ?_)
    refine d_alone 3 rfl (by kernel_rfl) (fun K hK => ?_)
    refine s_callB h rfl rfl rfl (by decide) Try.func107 rfl rfl rfl (same_below (turns_ok x4 6 11 25 (by decide) (by decide) (by decide) _)) (fun a w hb h => ?_)
    refine hK _ _ (fun _ _ => HS.ext hb) ?_
    replace HS := HS.ext hb
    clear hK
    refine d_takeP h (fun _ => HS) HN 4 rfl (by kernel_rfl) (by kernel_rfl) (by kernel_rfl) (by decide) rfl rfl (by decide) (fun w' => x_bin h.k rfl rfl rfl (ib_add (U_add _ _))) (fun a h => ?_)
    refine d_takeP h (fun _ => HS) HN 15 rfl (by kernel_rfl) (by kernel_rfl) (by kernel_rfl) (by decide) rfl rfl (by decide) (fun w' => x_bin h.k rfl rfl rfl (ib_add (U_add _ _))) (fun a h => ?_)
    refine d_takeP h (fun _ => HS) HN 21 rfl (by kernel_rfl) (by kernel_rfl) (by kernel_rfl) (by decide) rfl rfl (by decide) (fun w' => x_bin h.k rfl rfl rfl (ib_add (U_add _ _))) (fun a h => ?_)
    refine d_takeP h (fun _ => HS) HN 23 rfl (by kernel_rfl) (by kernel_rfl) (by kernel_rfl) (by decide) rfl rfl (by decide) (fun w' => x_bin h.k rfl rfl rfl (ib_add (U_add _ _))) (fun a h => ?_)
    refine d_takeP h (fun _ => HS) HN 24 rfl (by kernel_rfl) (by kernel_rfl) (by kernel_rfl) (by decide) rfl rfl (by decide) (fun w' => x_assign h.k _ rfl rfl) (fun a h => ?_)
    refine d_done (by kernel_rfl) (HE _ _ ?_) _
    refine e_thenN ?_
    refine wp_seq ?_
    -- region 7 DRAWS
    refine d_start h (Mem _ _ _) 19 19 rfl (by kernel_rfl) (fun _ _ _ _ _ h => h) (fun _ h => h) (fun Q a w HE HN h HS => ?_)
    refine d_takeP h (fun _ => HS) HN 0 rfl (by kernel_rfl) (by kernel_rfl) (by kernel_rfl) (by decide) rfl rfl (by decide) (fun w' => x_move h.k _ rfl rfl) (fun a h => ?_)
    refine d_takeP h (fun _ => HS) HN 2 rfl (by kernel_rfl) (by kernel_rfl) (by kernel_rfl) (by decide) rfl rfl (by decide) (fun w' => x_move h.k _ rfl rfl) (fun a h => ?_)
    refine d_takeP h (fun _ => HS) HN 3 rfl (by kernel_rfl) (by kernel_rfl) (by kernel_rfl) (by decide) rfl rfl (by decide) (fun w' => x_iaddrA h.k rfl Try.underlying128 sz_uint32 rfl rfl (m := 1) rfl (by decide) (r := 1) (by omega)) (fun a h => ?_)
    refine d_take h HS HN 4 rfl (by kernel_rfl) (by kernel_rfl) (by kernel_rfl) (by kernel_rfl) (by kernel_rfl) rfl rfl (by decide) (fun w' hw => x_ld h.k rfl Try.underlying106 rfl rfl ((hw.cell (i := 0) rfl _).trans (by rfl))) (fun a h => ?_)
    refine d_takeP h (fun _ => HS) HN 5 rfl (by kernel_rfl) (by kernel_rfl) (by kernel_rfl) (by decide) rfl rfl (by decide) (fun w' => x_bin h.k rfl rfl rfl (ib_and (U_and _ _))) (fun a h => ?_)
    refine d_takeP h (fun _ => HS) HN 6 rfl (by kernel_rfl) (by kernel_rfl) (by kernel_rfl) (by decide) rfl rfl (by decide) (fun w' => x_move h.k _ rfl rfl) (fun a h => ?_)
    refine d_takeP h (fun _ => HS) HN 7 rfl (by kernel_rfl) (by kernel_rfl) (by kernel_rfl) (by decide) rfl rfl (by decide) (fun w' => x_iaddrA h.k rfl Try.underlying128 sz_uint32 rfl rfl (m := 2) rfl (by decide) (r := 2) (by omega)) (fun a h => ?_)
    refine d_take h HS HN 8 rfl (by kernel_rfl) (by kernel_rfl) (by kernel_rfl) (by kernel_rfl) (by kernel_rfl) rfl rfl (by decide) (fun w' hw => x_ld h.k rfl Try.underlying106 rfl rfl ((hw.cell (i := 0) rfl _).trans (by rfl))) (fun a h => ?_)
    refine d_takeP h (fun _ => HS) HN 9 rfl (by kernel_rfl) (by kernel_rfl) (by kernel_rfl) (by decide) rfl rfl (by decide) (fun w' => x_bin h.k rfl rfl rfl (ib_and (U_and _ _))) (fun a h => ?_)
    refine d_takeP h (fun _ => HS) HN 10 rfl (by kernel_rfl) (by kernel_rfl) (by kernel_rfl) (by decide) rfl rfl (by decide) (fun w' => x_bin h.k rfl rfl rfl (ib_or (U_or _ _))) (fun a h => ?_)
    refine d_takeP h (fun _ => HS) HN 11 rfl (by kernel_rfl) (by kernel_rfl) (by kernel_rfl) (by decide) rfl rfl (by decide) (fun w' => x_iaddrA h.k rfl Try.underlying128 sz_uint32 rfl rfl (m := 1) rfl (by decide) (r := 1) (by omega)) (fun a h => ?_)
    refine d_take h HS HN 12 rfl (by kernel_rfl) (by kernel_rfl) (by kernel_rfl) (by kernel_rfl) (by kernel_rfl) rfl rfl (by decide) (fun w' hw => x_ld h.k rfl Try.underlying106 rfl rfl ((hw.cell (i := 0) rfl _).trans (by rfl))) (fun a h => ?_)
    refine d_takeP h (fun _ => HS) HN 13 rfl (by kernel_rfl) (by kernel_rfl) (by kernel_rfl) (by decide) rfl rfl (by decide) (fun w' => x_iaddrA h.k rfl Try.underlying128 sz_uint32 rfl rfl (m := 2) rfl (by decide) (r := 2) (by omega)) (fun a h => ?_)
    refine d_take h HS HN 14 rfl (by kernel_rfl) (by kernel_rfl) (by kernel_rfl) (by kernel_rfl) (by kernel_rfl) rfl rfl (by decide) (fun w' hw => x_ld h.k rfl Try.underlying106 rfl rfl ((hw.cell (i := 0) rfl _).trans (by rfl))) (fun a h => ?_)
    refine d_takeP h (fun _ => HS) HN 15 rfl (by kernel_rfl) (by kernel_rfl) (by kernel_rfl) (by decide) rfl rfl (by decide) (fun w' => x_bin h.k rfl rfl rfl (ib_and (U_and _ _))) (fun a h => ?_)
    refine d_takeP h (fun _ => HS) HN 16 rfl (by kernel_rfl) (by kernel_rfl) (by kernel_rfl) (by decide) rfl rfl (by decide) (fun w' => x_bin h.k rfl rfl rfl (ib_or (U_or _ _))) (fun a h => ?_)
    refine d_alone 1 rfl (by kernel_rfl) (fun K hK => ?_)
    refine s_callB h rfl rfl rfl (by decide) Try.func107 rfl rfl rfl (same_below (turns_ok x0 2 13 22 (by decide) (by decide) (by decide) _)) (fun a w hb h => ?_)
    refine hK _ _ (fun _ _ => HS.ext hb) ?_
    replace HS := HS.ext hb
    clear hK
    refine d_takeP h (fun _ => HS) HN 17 rfl (by kernel_rfl) (by kernel_rfl) (by kernel_rfl) (by decide) rfl rfl (by decide) (fun w' => x_bin h.k rfl rfl rfl (ib_add (U_add _ _))) (fun a h => ?_)
    refine d_takeP h (fun _ => HS) HN 18 rfl (by kernel_rfl) (by kernel_rfl) (by kernel_rfl) (by decide) rfl rfl (by decide) (fun w' => x_assign h.k _ rfl rfl) (fun a h => ?_)
    refine d_done (by kernel_rfl) (HE _ _ ?_) _
    refine e_thenN ?_
    refine c_r ?_
    refine sMV h (fun a h => ?_)
    refine sMV h (fun a h => ?_)
    refine s_bin h rfl rfl rfl (by decide) rfl rfl (ib_add (U_add _ _)) (fun a h => ?_)
    refine s_iaddrA h rfl rfl rfl (by decide) Try.underlying128 sz_uint32 rfl rfl (m := 0) rfl (by decide) (r := 0) (by omega) (fun a h => ?_)
    refine s_ldb h rfl rfl rfl (by decide) Try.underlying106 rfl rfl 0 rfl (by rfl) (fun a h => ?_)
    refine s_iaddrA h rfl rfl rfl (by decide) Try.underlying128 sz_uint32 rfl rfl (m := 1) rfl (by decide) (r := 1) (by omega) (fun a h => ?_)
    refine s_ldb h rfl rfl rfl (by decide) Try.underlying106 rfl rfl 0 rfl (by rfl) (fun a h => ?_)
    refine s_iaddrA h rfl rfl rfl (by decide) Try.underlying128 sz_uint32 rfl rfl (m := 2) rfl (by decide) (r := 2) (by omega) (fun a h => ?_)
    refine s_ldb h rfl rfl rfl (by decide) Try.underlying106 rfl rfl 0 rfl (by rfl) (fun a h => ?_)
    refine s_iaddrA h rfl rfl rfl (by decide) Try.underlying128 sz_uint32 rfl rfl (m := 3) rfl (by decide) (r := 3) (by omega) (fun a h => ?_)
    refine s_ldb h rfl rfl rfl (by decide) Try.underlying106 rfl rfl 0 rfl (by rfl) (fun a h => ?_)
    refine sMV h (fun a h => ?_)
    refine s_bin h rfl rfl rfl (by decide) rfl rfl (ib_add (U_add _ _)) (fun a h => ?_)
    refine s_iaddrA h rfl rfl rfl (by decide) Try.underlying128 sz_uint32 rfl rfl (m := 4) rfl (by decide) (r := 4) (by omega) (fun a h => ?_)
    refine s_ldb h rfl rfl rfl (by decide) Try.underlying106 rfl rfl 0 rfl (by rfl) (fun a h => ?_)
    refine s_iaddrA h rfl rfl rfl (by decide) Try.underlying128 sz_uint32 rfl rfl (m := 5) rfl (by decide) (r := 5) (by omega) (fun a h => ?_)
    refine s_ldb h rfl rfl rfl (by decide) Try.underlying106 rfl rfl 0 rfl (by rfl) (fun a h => ?_)
    refine s_iaddrA h rfl rfl rfl (by decide) Try.underlying128 sz_uint32 rfl rfl (m := 6) rfl (by decide) (r := 6) (by omega) (fun a h => ?_)
    refine s_ldb h rfl rfl rfl (by decide) Try.underlying106 rfl rfl 0 rfl (by rfl) (fun a h => ?_)
    refine s_build h rfl rfl rfl (by decide) ((List.range 8).zip (ucs (rnd (kindsL.getD k 0) ((sched p 64).getD k 0) [x0, x1, x2, x3, x4, x5, x6, x7]))) (by rfl) (ucs (rnd (kindsL.getD k 0) ((sched p 64).getD k 0) [x0, x1, x2, x3, x4, x5, x6, x7])) (by kernel_rfl) (fun a h => ?_)
    refine s_stW h rfl rfl rfl ag_A8_uint32 rfl rfl (by rfl) (ucs_one _) 0 rfl (by rfl) (fun a w h => ?_)
    refine l_nil ?_
    refine e_blkN ?_
    refine e_thenN ?_
    refine c_r ?_
    refine s_bin h rfl rfl rfl (by decide) rfl rfl (ib_add (nw64 (by omega))) (fun a h => ?_)
    refine sMV h (fun a h => ?_)
    refine l_nil ?_
    refine e_thenN ⟨m - 1, by omega, k + 1, by omega, ?_⟩
    simp only [rnds, hx]
    exact h.has (by exact ⟨rfl, rfl, rfl, rfl, rfl, rfl, trivial⟩)
  · have hge : k = 64 := by have := of_decide_eq_false hb; omega
    subst hge
    refine wp_exit ?_
    refine e_thenX ?_
    refine e_thenX ?_
    refine e_blkX ?_
    refine e_thenN ?_
    refine wp_seq ?_
    refine c_rs ?_
    refine sMV h (fun a h => ?_)
    refine l_end ?_
    refine wp_block ?_
    have hlv : s.length = (rnds (sched p 64) s 64).length := hs.trans (rnds_length _ _ _ hs).symm
    refine c_loop (fun m a w => ∃ k : Nat, k + m = 8 ∧ St 102 w0 (fun _ => False) [(3, .pointer (some ⟨g3, 0, none⟩)), (6, .pointer (some ⟨g6, 0, none⟩)), (7, .pointer (some ⟨g7, 0, none⟩)), (89, .int .i64 (k : Int))] [.box g7 128 (ucs (rnds (sched p 64) s 64)), .box g6 128 (List.replicate 8 (.int .u32 0)), .box g3 128 (ucs (addK s (rnds (sched p 64) s 64) k)), .ro (rdP (some ⟨kb, ko, none⟩) (ucs kindsL)), .ro (rdP A (by8 p))] a w) 8 ⟨0, rfl, h.has (by exact ⟨rfl, rfl, rfl, rfl, trivial⟩)⟩ (fun m a w hI => ?_)
    obtain ⟨k, hk8, h⟩ := hI
    refine c_rs ?_
    refine s_bin h rfl rfl rfl (by decide) rfl rfl (ib_lss) (fun a h => ?_)
    refine l_end ?_
    refine c_cs h rfl (fun hb => ?_) (fun hb => ?_)
    · have hlt : k < 8 := by have := of_decide_eq_true hb; omega
      have e1 := ucs_getD (addK s (rnds (sched p 64) s 64) k) k (by rw [addK_length _ _ _ hlv, hs]; exact hlt)
      have e2 := ucs_getD (rnds (sched p 64) s 64) k (by rw [rnds_length _ _ _ hs]; exact hlt)
      rw [addK_get _ _ _ hlv] at e1
      refine wp_skip ?_
      refine e_thenN ?_
      refine wp_seq ?_
      refine wp_block ?_
      refine c_rs ?_
      refine sMV h (fun a h => ?_)
      refine sAV h (fun a h => ?_)
      refine l_end ?_
      -- region 13 DRAWS
      refine d_start h (Mem _ _ _) 8 9 rfl (by kernel_rfl) (fun _ _ _ _ _ h => h) (fun _ h => h) (fun Q a w HE HN h HS => ?_)
      refine d_takeP h (fun _ => HS) HN 0 rfl (by kernel_rfl) (by kernel_rfl) (by kernel_rfl) (by decide) rfl rfl (by decide) (fun w' => x_move h.k _ rfl rfl) (fun a h => ?_)
      refine d_takeP h (fun _ => HS) HN 1 rfl (by kernel_rfl) (by kernel_rfl) (by kernel_rfl) (by decide) rfl rfl (by decide) (fun w' => x_iaddrA h.k rfl Try.underlying128 sz_uint32 rfl rfl (m := k) (by omega) (by omega) (r := k) (by omega)) (fun a h => ?_)
      refine d_take h HS HN 2 rfl (by kernel_rfl) (by kernel_rfl) (by kernel_rfl) (by kernel_rfl) (by kernel_rfl) rfl rfl (by decide) (fun w' hw => x_ld h.k rfl Try.underlying106 rfl rfl ((hw.cell (i := 2) rfl _).trans (e1))) (fun a h => ?_)
      refine d_takeP h (fun _ => HS) HN 3 rfl (by kernel_rfl) (by kernel_rfl) (by kernel_rfl) (by decide) rfl rfl (by decide) (fun w' => x_move h.k _ rfl rfl) (fun a h => ?_)
      refine d_takeP h (fun _ => HS) HN 4 rfl (by kernel_rfl) (by kernel_rfl) (by kernel_rfl) (by decide) rfl rfl (by decide) (fun w' => x_iaddrA h.k rfl Try.underlying128 sz_uint32 rfl rfl (m := k) (by omega) (by omega) (r := k) (by omega)) (fun a h => ?_)
      refine d_take h HS HN 5 rfl (by kernel_rfl) (by kernel_rfl) (by kernel_rfl) (by kernel_rfl) (by kernel_rfl) rfl rfl (by decide) (fun w' hw => x_ld h.k rfl Try.underlying106 rfl rfl ((hw.cell (i := 0) rfl _).trans (e2))) (fun a h => ?_)
      refine d_takeP h (fun _ => HS) HN 6 rfl (by kernel_rfl) (by kernel_rfl) (by kernel_rfl) (by decide) rfl rfl (by decide) (fun w' => x_bin h.k rfl rfl rfl (ib_add (U_add _ _))) (fun a h => ?_)
      refine d_takeP h (fun _ => HS) HN 7 rfl (by kernel_rfl) (by kernel_rfl) (by kernel_rfl) (by decide) rfl rfl (by decide) (fun w' => x_iaddrA h.k rfl Try.underlying128 sz_uint32 rfl rfl (m := k) (by omega) (by omega) (r := k) (by omega)) (fun a h => ?_)
      refine d_alone 8 rfl (by kernel_rfl) (fun K hK => ?_)
      refine s_stb h rfl rfl rfl sz_uint32 rfl rfl rfl 2 rfl (by rw [ucs_length, addK_length _ _ _ hlv, hs]; exact hlt) (fun a w h => ?_)
      refine hK _ _ (fun hne _ => absurd rfl hne) ?_
      clear hK
      refine d_done (by kernel_rfl) (HE _ _ ?_) _
      refine e_blkN ?_
      refine e_thenN ?_
      refine c_r ?_
      refine s_bin h rfl rfl rfl (by decide) rfl rfl (ib_add (nw64 (by omega))) (fun a h => ?_)
      refine sMV h (fun a h => ?_)
      refine l_nil ?_
      refine e_thenN ⟨m - 1, by omega, k + 1, by omega, ?_⟩
      refine St.parts (h.has (by exact ⟨rfl, rfl, rfl, rfl, trivial⟩)) ?_
      have := addK_set s (rnds (sched p 64) s 64) k hlv (by omega)
      rw [← this, ← ucs_set]
      rfl
    · have hge : k = 8 := by have := of_decide_eq_false hb; omega
      subst hge
      refine wp_exit ?_
      refine e_thenX ?_
      refine e_thenX ?_
      refine e_blkX ?_
      refine e_thenN ?_
      refine c_rs ?_
      refine s_ldW h rfl rfl rfl (by decide) ag_A8_uint32 rfl 2 rfl (by rw [ucs_length, addK_length _ _ _ hlv, hs]) (fun a h => ?_)
      refine s_stW h rfl rfl rfl ag_A8_uint32 rfl rfl (by rw [ucs_length, addK_length _ _ _ hlv, hs]) (ucs_one _) 1 rfl (by rfl) (fun a w h => ?_)
      refine l_end ?_
      refine wp_ret ?_
      refine r_ret1 h rfl (rv_cellA h rfl 1 rfl ag_A8_uint32 (by rw [ucs_length, addK_length _ _ _ hlv, hs])) ⟨?_, h.m.below⟩
      have := addK_all s (rnds (sched p 64) s 64) hlv
      rw [hs] at this
      rw [this]; rfl
end Go.Proofs.Ytohgmggdfmjgnaa
