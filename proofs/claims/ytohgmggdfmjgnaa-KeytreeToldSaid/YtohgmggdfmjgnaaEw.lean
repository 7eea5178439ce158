/- Ew: Go functions as plain functions, and that they are so (written by xt.py). -/
import Derived.Test.YtohgmggdfmjgnaaLv
set_option linter.unusedVariables false
set_option linter.unusedSimpArgs false
namespace Go.Proofs.Ytohgmggdfmjgnaa
open Go.RowKit
def path_Total_r0 (Fu : Nat) (a0 : Int) : List (Int × Int) → Int → Option Int
  | [], x14 => some x14
  | z12 :: rest, x14 => (path_Count Fu a0 z12.1).bind fun x20 => path_Total_r0 Fu a0 rest (w64 (z12.2 + x20))
def path_Total (Fu : Nat) (a0 : Int) : Option Int :=
  (path_levels Fu a0).bind fun x3 => (path_Total_r0 Fu a0 x3 0).bind fun x14 => some x14
set_option maxRecDepth 100000 in
set_option maxHeartbeats 2000000 in
theorem path_Total_ok (Fu : Nat) {S0 : Snap} (a0 : Int) (hra0 : r64 a0) (r : Int) (hf : path_Total Fu a0 = some r) (w0 : World) (hm : Mem w0 (ownL ([] ++ [.sn S0])) ([] ++ [.sn S0]) w0) :
    Calls Try.prog 26 #[.int .i64 a0] w0 (Ret w0 S0 [] (fun v L1 S1 => v = .int .i64 r ∧ L1 = [] ∧ r64 r ∧ True)) := by
  unfold path_Total at hf
  refine c_enterR Try.func26 rfl 16 rfl (by simp) _ hm _ rfl (fun a h => ?_)
  refine c_rs ?_
  refine s_box h rfl rfl rfl (by decide) rfl (cs := [.int .i64 a0]) (by rfl) (fun a w g1 h => ?_)
  refine sAV h (fun a h => ?_)
  refine l_end ?_
  refine c_rs ?_
  refine s_alloc h rfl rfl rfl (by decide) zi_int rfl (fun a w g2 h => ?_)
  refine s_stb h rfl rfl rfl sz_int rfl rfl rfl 0 rfl (by first | decide | simp) (fun a w h => ?_)
  refine l_end ?_
  refine wp_seq ?_
  refine c_rs ?_
  refine sX h (x_ld h.k rfl Try.underlying3 rfl rfl ((h.m.cell (i := 1) rfl 0).trans rfl)) (fun a h => ?_)
  obtain ⟨x3, h4, hf⟩ := bsome hf
  have h := h.pick [2, 0, 1] (by decide) rfl
  have hX := path_levels_ok Fu (S0 := S0) a0 hra0 _ h4 _ (h.sub (Ls := []))
  refine q_callY (Ls := []) hX h (Up.refl _ _ _) rfl rfl rfl (by decide) Try.func47 rfl rfl rfl (fun a w v L1 S6 hR le8 up7 h => ?_)
  obtain ⟨hit10, rfl, hall11, _⟩ := hR
  obtain ⟨it9, rfl⟩ : ∃ x, x = v := ⟨_, rfl⟩
  refine l_end ?_
  obtain ⟨o16, hl17, hf⟩ := bsome hf
  refine wp_block ?_
  have h := h.pick [2, 1, 0] (by decide) rfl
  refine c_range (xs := x3) (encs := enc2) h rfl hit10 (fun _ => rfl) (by decide) (fun pre L => ∃ (rest18 : List (Int × Int)), ∃ (x14 : Int), x3 = pre ++ rest18 ∧ path_Total_r0 Fu a0 rest18 x14 = some o16 ∧ r64 x14 ∧ L = [.box g1 3 ([.int .i64 a0]), .box g2 3 ([.int .i64 x14]), .sn S6]) (fun _ => False) (fun pre L hI => ?_) ⟨x3, 0, rfl, hl17, (show r64 0 from ⟨by decide, by decide⟩), rfl⟩ (fun z12 => [(1, .pointer (some ⟨g1, 0, none⟩)), (2, .int .i64 0), (3, .pointer (some ⟨g2, 0, none⟩)), (4, .int .i64 z12.1), (5, .int .i64 z12.2)]) (fun l D o1 o2 z12 L a w h => ?_) (fun l D o1 o2 pre z12 rest L a w hxz hI h => ?_) (fun D L w hI h => ?_) (fun D L w hI h => ?_)
  · obtain ⟨rest18, x14, hxs, hl19, hr15, rfl⟩ := hI
    simp
  · have h : St 16 w0 (ownL ([] ++ [.sn S0])) ([(9, .int .i64 z12.2), (8, .int .i64 z12.1)] ++ _) _ a w := h
    refine m_rs rfl ?_
    refine sAV h (fun a h => ?_)
    refine l_nil (e_thenN ?_)
    refine m_r rfl ?_
    refine sAV h (fun a h => ?_)
    refine l_nil ?_
    exact e_thenN (h.has (by exact ⟨rfl, rfl, rfl, rfl, rfl, trivial⟩))
  · obtain ⟨rest18, x14, hxs, hl19, hr15, rfl⟩ := hI
    obtain rfl := List.append_cancel_left (hxs.symm.trans hxz)
    have hz13 := hall11 z12 (by rw [hxz]; simp)
    rw [path_Total_r0] at hl19
    have h : St 16 w0 (ownL ([] ++ [.sn S0])) _ [.obj l o1, .obj D o2, .box g1 3 ([.int .i64 a0]), .box g2 3 ([.int .i64 x14]), .sn S6] a w := h
    refine m_block ?_
    refine m_r rfl ?_
    refine sMV h (fun a h => ?_)
    refine sX h (x_ld h.k rfl Try.underlying3 rfl rfl ((h.m.cell (i := 2) rfl 0).trans rfl)) (fun a h => ?_)
    refine sMV h (fun a h => ?_)
    obtain ⟨x20, h21, hl19⟩ := bsome hl19
    have hX := path_Count_ok Fu (S0 := snapAll _) a0 hra0 z12.1 hz13.1 _ h21 _ h.startAll
    refine q_callX hX h rfl rfl rfl (by decide) Try.func48 rfl rfl rfl (fun a w v L1 S1 hR hb1 h => ?_)
    obtain ⟨rfl, rfl, hr23, _⟩ := hR
    refine sX h (x_bin h.k rfl rfl rfl (ib_add rfl)) (fun a h => ?_)
    refine s_stb h rfl rfl rfl sz_int rfl rfl rfl 3 rfl (by first | decide | simp) (fun a w h => ?_)
    refine l_nil ?_
    refine e_blkN ?_
    exact RPost.n _ ⟨rest, w64 (z12.2 + x20), (by rw [hxz]; simp), hl19, (w64_r _), rfl⟩ h.m
  · obtain ⟨rest18, x14, hxs, hl19, hr15, rfl⟩ := hI
    obtain rfl : rest18 = [] := by simpa using hxs
    rw [path_Total_r0] at hl19
    obtain rfl := Option.some.inj hl19
    try dsimp only at hf
    refine e_blkN ?_
    refine e_thenN ?_
    refine tail_M ?_
    have h : St 16 w0 (ownL ([] ++ [.sn S0])) _ [.obj D (.deferred (some [])), .box g1 3 ([.int .i64 a0]), .box g2 3 ([.int .i64 x14]), .sn S6] a w := h
    refine m_rs rfl ?_
    refine sX h (x_ld h.k rfl Try.underlying3 rfl rfl ((h.m.cell (i := 2) rfl 0).trans rfl)) (fun a h => ?_)
    refine sAV h (fun a h => ?_)
    refine l_nil (e_thenN ?_)
    refine m_ret ?_
    rw [← Option.some.inj hf]
    refine r_retT h (fun w h => ?_)
    exact r_ret1 h rfl (rv_tmp h rfl) ⟨_, [], _, rfl, ⟨rfl, rfl, hr15, trivial⟩, rfl, up7, (h.m.pick [2] _ (by decide) rfl)⟩
  · exact hI.elim
def path_Place_r0 (Fu : Nat) (a1 : Int) (a2 : Int) : List (Int × Int) → Option (Sum (Int × Bool) Unit)
  | [] => some (.inr ())
  | z22 :: rest => if z22.1 = a1 then (some (.inl (w64 (z22.2 + a2), true))) else (path_Place_r0 Fu a1 a2 rest)
def path_Place (Fu : Nat) (a0 : Int) (a1 : Int) (a2 : Int) : Option (Int × Bool) :=
  (if ((decide (a1 < 1)) || (decide (a2 < 0))) = true then some true else (path_Count Fu a0 a1).bind fun x9 => some (decide (x9 ≤ a2))).bind fun z7 => if z7 = true then (some (0, false)) else ((path_levels Fu a0).bind fun x13 => (path_Place_r0 Fu a1 a2 x13).bind fun o => match o with | .inl (x24, x26) => some (x24, x26) | .inr _ => some (0, false))
set_option maxRecDepth 100000 in
set_option maxHeartbeats 2000000 in
theorem path_Place_ok (Fu : Nat) {S0 : Snap} (a0 : Int) (hra0 : r64 a0) (a1 : Int) (hra1 : r64 a1) (a2 : Int) (hra2 : r64 a2) (r : Int × Bool) (hf : path_Place Fu a0 a1 a2 = some r) (w0 : World) (hm : Mem w0 (ownL ([] ++ [.sn S0])) ([] ++ [.sn S0]) w0) :
    Calls Try.prog 59 #[.int .i64 a0, .int .i64 a1, .int .i64 a2] w0 (Ret w0 S0 [] (fun v L1 S1 => v = .tuple #[.int .i64 r.1, .bool r.2] ∧ L1 = [] ∧ r64 r.1 ∧ True)) := by
  unfold path_Place at hf
  refine c_enterR Try.func59 rfl 33 rfl (by simp) _ hm _ rfl (fun a h => ?_)
  refine c_rs ?_
  refine s_box h rfl rfl rfl (by decide) rfl (cs := [.int .i64 a1]) (by rfl) (fun a w g1 h => ?_)
  refine s_box h rfl rfl rfl (by decide) rfl (cs := [.int .i64 a2]) (by rfl) (fun a w g2 h => ?_)
  refine s_alloc h rfl rfl rfl (by decide) zi_int rfl (fun a w g3 h => ?_)
  refine s_alloc h rfl rfl rfl (by decide) zi_bool rfl (fun a w g4 h => ?_)
  refine l_end ?_
  refine wp_seq ?_
  refine wp_seq ?_
  -- region 1 draws
  obtain ⟨z7, hz8, hf⟩ := bsome hf
  refine c_fin (fun a w => St 33 w0 (ownL ([] ++ [.sn S0])) [(0, .int .i64 a0), (4, .pointer (some ⟨g1, 0, none⟩)), (5, .pointer (some ⟨g2, 0, none⟩)), (6, .pointer (some ⟨g3, 0, none⟩)), (7, .pointer (some ⟨g4, 0, none⟩)), (22, .bool z7)] [.box g1 3 ([.int .i64 a1]), .box g2 3 ([.int .i64 a2]), .box g3 3 ([.int .i64 0]), .box g4 4 ([.bool false]), .sn S0] a w) ?_ (fun a w h => ?_)
  · refine d_start h (Mem _ _ _) 13 13 rfl (by kernel_rfl) (fun _ _ _ _ _ h => h) (fun _ h => h) (fun Q a w HE HN h HS => ?_)
    refine d_take h HS HN 0 rfl (by kernel_rfl) (by kernel_rfl) (by kernel_rfl) (by kernel_rfl) (by kernel_rfl) rfl rfl (by decide) (fun w' hw => x_ld h.k rfl Try.underlying3 rfl rfl ((hw.cell (i := 3) rfl 0).trans rfl)) (fun a h => ?_)
    refine d_takeP h (fun _ => HS) HN 1 rfl (by kernel_rfl) (by kernel_rfl) (by kernel_rfl) (by decide) rfl rfl (by decide) (fun w' => x_bin h.k rfl rfl rfl ib_lss) (fun a h => ?_)
    refine d_takeP h (fun _ => HS) HN 2 rfl (by kernel_rfl) (by kernel_rfl) (by kernel_rfl) (by decide) rfl rfl (by decide) (fun w' => x_move h.k _ rfl rfl) (fun a h => ?_)
    refine d_split (t := 12) h rfl (fun hB2 => ?_) (fun hB2 => ?_)
    · refine d_takeNP h (fun _ => HS) HN 3 rfl (by kernel_rfl) (by kernel_rfl) (by kernel_rfl) (by decide) (by rw [g_want h rfl rfl rfl rfl hB2]; rfl) rfl (by decide) (fun a h => ?_)
      refine d_takeNP h (fun _ => HS) HN 4 rfl (by kernel_rfl) (by kernel_rfl) (by kernel_rfl) (by decide) (by rw [g_want h rfl rfl rfl rfl hB2]; rfl) rfl (by decide) (fun a h => ?_)
      refine d_takeP h (fun _ => HS) HN 5 rfl (by kernel_rfl) (by kernel_rfl) (by kernel_rfl) (by decide) rfl rfl (by decide) (fun w' => x_pick (v := .bool ((decide (a1 < 1)) || (decide (a2 < 0)))) (u' := undef) h.k rfl rfl (fun _ => by rw [hB2]; first | rfl | simp [ev, List.lookup]) (fun hh => absurd (hB2.symm.trans hh) (by decide))) (fun a h => ?_)
      refine d_takeP h (fun _ => HS) HN 6 rfl (by kernel_rfl) (by kernel_rfl) (by kernel_rfl) (by decide) rfl rfl (by decide) (fun w' => x_move h.k _ rfl rfl) (fun a h => ?_)
      have hB6 : ((decide (a1 < 1)) || (decide (a2 < 0))) = true := (by rw [hB2]; first | rfl | simp)
      rw [if_pos hB6] at hz8
      refine d_takeNP h (fun _ => HS) HN 7 rfl (by kernel_rfl) (by kernel_rfl) (by kernel_rfl) (by decide) (by rw [g_want h rfl rfl rfl rfl hB6]; rfl) rfl (by decide) (fun a h => ?_)
      refine d_takeNP h (fun _ => HS) HN 8 rfl (by kernel_rfl) (by kernel_rfl) (by kernel_rfl) (by decide) (by rw [g_want h rfl rfl rfl rfl hB6]; rfl) rfl (by decide) (fun a h => ?_)
      refine d_takeNP h (fun _ => HS) HN 9 rfl (by kernel_rfl) (by kernel_rfl) (by kernel_rfl) (by decide) (by rw [g_want h rfl rfl rfl rfl hB6]; rfl) rfl (by decide) (fun a h => ?_)
      refine d_takeNP h (fun _ => HS) HN 10 rfl (by kernel_rfl) (by kernel_rfl) (by kernel_rfl) (by decide) (by rw [g_want h rfl rfl rfl rfl hB6]; rfl) rfl (by decide) (fun a h => ?_)
      refine d_takeNP h (fun _ => HS) HN 11 rfl (by kernel_rfl) (by kernel_rfl) (by kernel_rfl) (by decide) (by rw [g_want h rfl rfl rfl rfl hB6]; rfl) rfl (by decide) (fun a h => ?_)
      refine d_takeP h (fun _ => HS) HN 12 rfl (by kernel_rfl) (by kernel_rfl) (by kernel_rfl) (by decide) rfl rfl (by decide) (fun w' => x_pick (v := .bool z7) (u' := undef) h.k rfl rfl (fun _ => by rw [← Option.some.inj hz8]; rfl) (fun hh => absurd (hB6.symm.trans hh) (by decide))) (fun a h => ?_)
      refine d_done (by kernel_rfl) (HE _ _ ?_) _
      refine e_thenN ?_
      have h := h.pick [3, 2, 1, 0, 4] (by decide) rfl
      exact h.has (by exact ⟨rfl, rfl, rfl, rfl, rfl, rfl, trivial⟩)
    · refine d_takeY h HS HN 3 rfl (by kernel_rfl) (by kernel_rfl) (by kernel_rfl) (by kernel_rfl) (by kernel_rfl) (by rw [g_want h rfl rfl rfl rfl hB2]; rfl) rfl (by decide) (fun w' hw => x_ld h.k rfl Try.underlying3 rfl rfl ((hw.cell (i := 2) rfl 0).trans rfl)) (fun a h => ?_)
      refine d_takeP h (fun _ => HS) HN 4 rfl (by kernel_rfl) (by kernel_rfl) (by kernel_rfl) (by decide) (by rw [g_want h rfl rfl rfl rfl hB2]; rfl) rfl (by decide) (fun w' => x_bin h.k rfl rfl rfl ib_lss) (fun a h => ?_)
      refine d_takeP h (fun _ => HS) HN 5 rfl (by kernel_rfl) (by kernel_rfl) (by kernel_rfl) (by decide) rfl rfl (by decide) (fun w' => x_pick (v := .bool ((decide (a1 < 1)) || (decide (a2 < 0)))) (u' := undef) h.k rfl rfl (fun hh => absurd (hB2.symm.trans hh) (by decide)) (fun _ => by rw [hB2]; first | rfl | simp [ev, List.lookup])) (fun a h => ?_)
      refine d_takeP h (fun _ => HS) HN 6 rfl (by kernel_rfl) (by kernel_rfl) (by kernel_rfl) (by decide) rfl rfl (by decide) (fun w' => x_move h.k _ rfl rfl) (fun a h => ?_)
      refine d_split (t := 16) h rfl (fun hB6 => ?_) (fun hB6 => ?_)
      · rw [if_pos hB6] at hz8
        refine d_takeNP h (fun _ => HS) HN 7 rfl (by kernel_rfl) (by kernel_rfl) (by kernel_rfl) (by decide) (by rw [g_want h rfl rfl rfl rfl hB6]; rfl) rfl (by decide) (fun a h => ?_)
        refine d_takeNP h (fun _ => HS) HN 8 rfl (by kernel_rfl) (by kernel_rfl) (by kernel_rfl) (by decide) (by rw [g_want h rfl rfl rfl rfl hB6]; rfl) rfl (by decide) (fun a h => ?_)
        refine d_takeNP h (fun _ => HS) HN 9 rfl (by kernel_rfl) (by kernel_rfl) (by kernel_rfl) (by decide) (by rw [g_want h rfl rfl rfl rfl hB6]; rfl) rfl (by decide) (fun a h => ?_)
        refine d_takeNP h (fun _ => HS) HN 10 rfl (by kernel_rfl) (by kernel_rfl) (by kernel_rfl) (by decide) (by rw [g_want h rfl rfl rfl rfl hB6]; rfl) rfl (by decide) (fun a h => ?_)
        refine d_takeNP h (fun _ => HS) HN 11 rfl (by kernel_rfl) (by kernel_rfl) (by kernel_rfl) (by decide) (by rw [g_want h rfl rfl rfl rfl hB6]; rfl) rfl (by decide) (fun a h => ?_)
        refine d_takeP h (fun _ => HS) HN 12 rfl (by kernel_rfl) (by kernel_rfl) (by kernel_rfl) (by decide) rfl rfl (by decide) (fun w' => x_pick (v := .bool z7) (u' := undef) h.k rfl rfl (fun _ => by rw [← Option.some.inj hz8]; rfl) (fun hh => absurd (hB6.symm.trans hh) (by decide))) (fun a h => ?_)
        refine d_done (by kernel_rfl) (HE _ _ ?_) _
        refine e_thenN ?_
        have h := h.pick [3, 2, 1, 0, 4] (by decide) rfl
        exact h.has (by exact ⟨rfl, rfl, rfl, rfl, rfl, rfl, trivial⟩)
      · rw [if_neg (by rw [hB6]; decide)] at hz8
        obtain ⟨x9, h10, hz8⟩ := bsome hz8
        refine d_takeY h HS HN 7 rfl (by kernel_rfl) (by kernel_rfl) (by kernel_rfl) (by kernel_rfl) (by kernel_rfl) (by rw [g_want h rfl rfl rfl rfl hB6]; rfl) rfl (by decide) (fun w' hw => x_ld h.k rfl Try.underlying3 rfl rfl ((hw.cell (i := 2) rfl 0).trans rfl)) (fun a h => ?_)
        refine d_takeP h (fun _ => HS) HN 8 rfl (by kernel_rfl) (by kernel_rfl) (by kernel_rfl) (by decide) (by rw [g_want h rfl rfl rfl rfl hB6]; rfl) rfl (by decide) (fun w' => x_move h.k _ rfl rfl) (fun a h => ?_)
        refine d_takeY h HS HN 9 rfl (by kernel_rfl) (by kernel_rfl) (by kernel_rfl) (by kernel_rfl) (by kernel_rfl) (by rw [g_want h rfl rfl rfl rfl hB6]; rfl) rfl (by decide) (fun w' hw => x_ld h.k rfl Try.underlying3 rfl rfl ((hw.cell (i := 3) rfl 0).trans rfl)) (fun a h => ?_)
        refine d_alone 10 rfl (by kernel_rfl) (fun K hK => ?_)
        refine g_yes (j := 6) (t := 16) h rfl rfl rfl rfl hB6 ?_
        have hX := path_Count_ok Fu (S0 := snapAll _) a0 hra0 a1 hra1 _ h10 _ h.startAll
        refine q_callX hX h rfl rfl rfl (by decide) Try.func48 rfl rfl rfl (fun a w v L1 S1 hR hb1 h => ?_)
        obtain ⟨rfl, rfl, hr12, _⟩ := hR
        refine hK _ _ (fun _ _ => HS.ext hb1) ?_
        replace HS := HS.ext hb1
        clear hK
        refine d_takeP h (fun _ => HS) HN 11 rfl (by kernel_rfl) (by kernel_rfl) (by kernel_rfl) (by decide) (by rw [g_want h rfl rfl rfl rfl hB6]; rfl) rfl (by decide) (fun w' => x_bin h.k rfl rfl rfl ib_geq) (fun a h => ?_)
        refine d_takeP h (fun _ => HS) HN 12 rfl (by kernel_rfl) (by kernel_rfl) (by kernel_rfl) (by decide) rfl rfl (by decide) (fun w' => x_pick (v := .bool z7) (u' := undef) h.k rfl rfl (fun hh => absurd (hB6.symm.trans hh) (by decide)) (fun _ => by rw [← Option.some.inj hz8]; rfl)) (fun a h => ?_)
        refine d_done (by kernel_rfl) (HE _ _ ?_) _
        refine e_thenN ?_
        have h := h.pick [3, 2, 1, 0, 4] (by decide) rfl
        exact h.has (by exact ⟨rfl, rfl, rfl, rfl, rfl, rfl, trivial⟩)
  refine e_thenN ?_
  refine c_cond h rfl (fun hb => ?_) (fun hb => ?_)
  · rw [if_pos hb] at hf
    refine c_rs ?_
    refine s_stb h rfl rfl rfl sz_int rfl rfl rfl 2 rfl (by first | decide | simp) (fun a w h => ?_)
    refine s_stb h rfl rfl rfl sz_bool rfl rfl rfl 3 rfl (by first | decide | simp) (fun a w h => ?_)
    refine l_end ?_
    refine wp_ret ?_
    refine e_thenR ?_
    obtain rfl := Option.some.inj hf
    refine post_M ?_
    exact r_ret2 h rfl (rv_cell1 h rfl 2 rfl Try.underlying3 rfl) (rv_cell1 h rfl 3 rfl Try.underlying4 rfl) ⟨_, [], _, rfl, ⟨rfl, rfl, (show r64 0 from ⟨by decide, by decide⟩), trivial⟩, rfl, (Up.refl _ _ _), (h.m.pick [4] _ (by decide) rfl)⟩
  · rw [if_neg (by rw [hb]; decide)] at hf
    refine wp_skip ?_
    refine e_thenN ?_
    refine wp_seq ?_
    refine c_rs ?_
    refine sMV h (fun a h => ?_)
    obtain ⟨x13, h14, hf⟩ := bsome hf
    have h := h.pick [4, 0, 1, 2, 3] (by decide) rfl
    have hX := path_levels_ok Fu (S0 := S0) a0 hra0 _ h14 _ (h.sub (Ls := []))
    refine q_callY (Ls := []) hX h (Up.refl _ _ _) rfl rfl rfl (by decide) Try.func47 rfl rfl rfl (fun a w v L1 S16 hR le18 up17 h => ?_)
    obtain ⟨hit20, rfl, hall21, _⟩ := hR
    obtain ⟨it19, rfl⟩ : ∃ x, x = v := ⟨_, rfl⟩
    refine l_end ?_
    obtain ⟨o27, hl28, hf⟩ := bsome hf
    refine wp_block ?_
    have h := h.pick [1, 2, 3, 4, 0] (by decide) rfl
    refine c_range (xs := x13) (encs := enc2) h rfl hit20 (fun _ => rfl) (by decide) (fun pre L => ∃ (rest29 : List (Int × Int)), x13 = pre ++ rest29 ∧ path_Place_r0 Fu a1 a2 rest29 = some o27 ∧ L = [.box g1 3 ([.int .i64 a1]), .box g2 3 ([.int .i64 a2]), .box g3 3 ([.int .i64 0]), .box g4 4 ([.bool false]), .sn S16]) (fun L => ∃ (x24 : Int), ∃ (x26 : Bool), (.inl (x24, x26) : Sum (Int × Bool) Unit) = o27 ∧ r64 x24 ∧ L = [.box g3 3 ([.int .i64 x24]), .box g4 4 ([.bool x26]), .sn S16]) (fun pre L hI => ?_) ⟨x13, rfl, hl28, rfl⟩ (fun z22 => [(4, .pointer (some ⟨g1, 0, none⟩)), (5, .pointer (some ⟨g2, 0, none⟩)), (6, .pointer (some ⟨g3, 0, none⟩)), (7, .pointer (some ⟨g4, 0, none⟩)), (8, .int .i64 z22.1), (9, .int .i64 z22.2)]) (fun l D o1 o2 z22 L a w h => ?_) (fun l D o1 o2 pre z22 rest L a w hxz hI h => ?_) (fun D L w hI h => ?_) (fun D L w hI h => ?_)
    · obtain ⟨rest29, hxs, hl30, rfl⟩ := hI
      simp
    · have h : St 33 w0 (ownL ([] ++ [.sn S0])) ([(26, .int .i64 z22.2), (25, .int .i64 z22.1)] ++ _) _ a w := h
      refine m_rs rfl ?_
      refine sAV h (fun a h => ?_)
      refine l_nil (e_thenN ?_)
      refine m_r rfl ?_
      refine sAV h (fun a h => ?_)
      refine l_nil ?_
      exact e_thenN (h.has (by exact ⟨rfl, rfl, rfl, rfl, rfl, rfl, trivial⟩))
    · obtain ⟨rest29, hxs, hl30, rfl⟩ := hI
      obtain rfl := List.append_cancel_left (hxs.symm.trans hxz)
      have hz23 := hall21 z22 (by rw [hxz]; simp)
      rw [path_Place_r0] at hl30
      have h : St 33 w0 (ownL ([] ++ [.sn S0])) _ [.obj l o1, .obj D o2, .box g1 3 ([.int .i64 a1]), .box g2 3 ([.int .i64 a2]), .box g3 3 ([.int .i64 0]), .box g4 4 ([.bool false]), .sn S16] a w := h
      refine m_block ?_
      refine m_rs rfl ?_
      refine sMV h (fun a h => ?_)
      refine sX h (x_ld h.k rfl Try.underlying3 rfl rfl ((h.m.cell (i := 2) rfl 0).trans rfl)) (fun a h => ?_)
      refine sX h (x_bin h.k rfl rfl rfl ib_eql) (fun a h => ?_)
      refine l_nil (e_thenN ?_)
      refine m_cond h rfl (fun hb => ?_) (fun hb => ?_)
      · rw [if_pos (of_decide_eq_true hb)] at hl30
        refine m_rs rfl ?_
        refine sMV h (fun a h => ?_)
        refine sX h (x_ld h.k rfl Try.underlying3 rfl rfl ((h.m.cell (i := 3) rfl 0).trans rfl)) (fun a h => ?_)
        refine sX h (x_bin h.k rfl rfl rfl (ib_add rfl)) (fun a h => ?_)
        refine s_stb h rfl rfl rfl sz_int rfl rfl rfl 4 rfl (by first | decide | simp) (fun a w h => ?_)
        refine s_stb h rfl rfl rfl sz_bool rfl rfl rfl 5 rfl (by first | decide | simp) (fun a w h => ?_)
        refine l_nil (e_thenN ?_)
        refine m_ret ?_
        refine e_blkR ?_
        have h := h.pick [0, 1, 4, 5, 6] (by decide) rfl
        exact RPost.r _ ⟨w64 (z22.2 + a2), true, (Option.some.inj hl30), (w64_r _), rfl⟩ h.m
      · rw [if_neg (of_decide_eq_false hb)] at hl30
        refine m_skip ?_
        refine e_blkN ?_
        exact RPost.n _ ⟨rest, (by rw [hxz]; simp), hl30, rfl⟩ h.m
    · obtain ⟨rest29, hxs, hl30, rfl⟩ := hI
      obtain rfl : rest29 = [] := by simpa using hxs
      rw [path_Place_r0] at hl30
      obtain rfl := Option.some.inj hl30
      try dsimp only at hf
      refine e_blkN ?_
      refine e_thenN ?_
      refine tail_M ?_
      have h : St 33 w0 (ownL ([] ++ [.sn S0])) _ [.obj D (.deferred (some [])), .box g1 3 ([.int .i64 a1]), .box g2 3 ([.int .i64 a2]), .box g3 3 ([.int .i64 0]), .box g4 4 ([.bool false]), .sn S16] a w := h
      refine m_rs rfl ?_
      refine s_stb h rfl rfl rfl sz_int rfl rfl rfl 3 rfl (by first | decide | simp) (fun a w h => ?_)
      refine s_stb h rfl rfl rfl sz_bool rfl rfl rfl 4 rfl (by first | decide | simp) (fun a w h => ?_)
      refine l_nil (e_thenN ?_)
      refine m_ret ?_
      obtain rfl := Option.some.inj hf
      refine r_retT h (fun w h => ?_)
      exact r_ret2 h rfl (rv_cell1 h rfl 2 rfl Try.underlying3 rfl) (rv_cell1 h rfl 3 rfl Try.underlying4 rfl) ⟨_, [], _, rfl, ⟨rfl, rfl, (show r64 0 from ⟨by decide, by decide⟩), trivial⟩, rfl, up17, (h.m.pick [4] _ (by decide) rfl)⟩
    · obtain ⟨x24, x26, rfl, hr25, rfl⟩ := hI
      try dsimp only at hf
      refine e_blkR ?_
      refine e_thenR ?_
      refine post_T ?_ h.k.defers
      have h : St 33 w0 (ownL ([] ++ [.sn S0])) _ [.obj D (.deferred (some [])), .box g3 3 ([.int .i64 x24]), .box g4 4 ([.bool x26]), .sn S16] a w := h
      obtain rfl := Option.some.inj hf
      refine r_retT h (fun w h => ?_)
      exact r_ret2 h rfl (rv_cell1 h rfl 0 rfl Try.underlying3 rfl) (rv_cell1 h rfl 1 rfl Try.underlying4 rfl) ⟨_, [], _, rfl, ⟨rfl, rfl, hr25, trivial⟩, rfl, up17, (h.m.pick [2] _ (by decide) rfl)⟩
def path_Node_r0 (Fu : Nat) (a0 : Int) (a1 : Int) : List (Int × Int) → Option (Sum (Int × Int × Bool) Unit)
  | [] => some (.inr ())
  | z15 :: rest => (path_Count Fu a0 z15.1).bind fun x26 => if a1 < w64 (z15.2 + x26) then (some (.inl (z15.1, w64 (a1 - z15.2), true))) else (path_Node_r0 Fu a0 a1 rest)
def path_Node (Fu : Nat) (a0 : Int) (a1 : Int) : Option (Int × Int × Bool) :=
  if a1 < 0 then (some (0, 0, false)) else ((path_levels Fu a0).bind fun x6 => (path_Node_r0 Fu a0 a1 x6).bind fun o => match o with | .inl (x17, x19, x21) => some (x17, x19, x21) | .inr _ => some (0, 0, false))
set_option maxRecDepth 100000 in
set_option maxHeartbeats 2000000 in
theorem path_Node_ok (Fu : Nat) {S0 : Snap} (a0 : Int) (hra0 : r64 a0) (a1 : Int) (hra1 : r64 a1) (r : Int × Int × Bool) (hf : path_Node Fu a0 a1 = some r) (w0 : World) (hm : Mem w0 (ownL ([] ++ [.sn S0])) ([] ++ [.sn S0]) w0) :
    Calls Try.prog 39 #[.int .i64 a0, .int .i64 a1] w0 (Ret w0 S0 [] (fun v L1 S1 => v = .tuple #[.int .i64 r.1, .int .i64 r.2.1, .bool r.2.2] ∧ L1 = [] ∧ r64 r.1 ∧ r64 r.2.1 ∧ True)) := by
  unfold path_Node at hf
  refine c_enterR Try.func39 rfl 26 rfl (by simp) _ hm _ rfl (fun a h => ?_)
  refine c_rs ?_
  refine s_box h rfl rfl rfl (by decide) rfl (cs := [.int .i64 a0]) (by rfl) (fun a w g1 h => ?_)
  refine s_box h rfl rfl rfl (by decide) rfl (cs := [.int .i64 a1]) (by rfl) (fun a w g2 h => ?_)
  refine s_alloc h rfl rfl rfl (by decide) zi_int rfl (fun a w g3 h => ?_)
  refine s_alloc h rfl rfl rfl (by decide) zi_int rfl (fun a w g4 h => ?_)
  refine s_alloc h rfl rfl rfl (by decide) zi_bool rfl (fun a w g5 h => ?_)
  refine l_end ?_
  refine wp_seq ?_
  refine c_rs ?_
  refine sX h (x_ld h.k rfl Try.underlying3 rfl rfl ((h.m.cell (i := 3) rfl 0).trans rfl)) (fun a h => ?_)
  refine sX h (x_bin h.k rfl rfl rfl ib_lss) (fun a h => ?_)
  refine l_end ?_
  refine c_cond h rfl (fun hb => ?_) (fun hb => ?_)
  · rw [if_pos (of_decide_eq_true hb)] at hf
    refine c_rs ?_
    refine s_stb h rfl rfl rfl sz_int rfl rfl rfl 2 rfl (by first | decide | simp) (fun a w h => ?_)
    refine s_stb h rfl rfl rfl sz_int rfl rfl rfl 1 rfl (by first | decide | simp) (fun a w h => ?_)
    refine s_stb h rfl rfl rfl sz_bool rfl rfl rfl 0 rfl (by first | decide | simp) (fun a w h => ?_)
    refine l_end ?_
    refine wp_ret ?_
    refine e_thenR ?_
    obtain rfl := Option.some.inj hf
    refine post_M ?_
    exact r_ret3 h rfl (rv_cell1 h rfl 2 rfl Try.underlying3 rfl) (rv_cell1 h rfl 1 rfl Try.underlying3 rfl) (rv_cell1 h rfl 0 rfl Try.underlying4 rfl) ⟨_, [], _, rfl, ⟨rfl, rfl, (show r64 0 from ⟨by decide, by decide⟩), (show r64 0 from ⟨by decide, by decide⟩), trivial⟩, rfl, (Up.refl _ _ _), (h.m.pick [5] _ (by decide) rfl)⟩
  · rw [if_neg (of_decide_eq_false hb)] at hf
    refine wp_skip ?_
    refine e_thenN ?_
    refine wp_seq ?_
    refine c_rs ?_
    refine sX h (x_ld h.k rfl Try.underlying3 rfl rfl ((h.m.cell (i := 4) rfl 0).trans rfl)) (fun a h => ?_)
    obtain ⟨x6, h7, hf⟩ := bsome hf
    have h := h.pick [5, 0, 1, 2, 3, 4] (by decide) rfl
    have hX := path_levels_ok Fu (S0 := S0) a0 hra0 _ h7 _ (h.sub (Ls := []))
    refine q_callY (Ls := []) hX h (Up.refl _ _ _) rfl rfl rfl (by decide) Try.func47 rfl rfl rfl (fun a w v L1 S9 hR le11 up10 h => ?_)
    obtain ⟨hit13, rfl, hall14, _⟩ := hR
    obtain ⟨it12, rfl⟩ : ∃ x, x = v := ⟨_, rfl⟩
    refine l_end ?_
    obtain ⟨o22, hl23, hf⟩ := bsome hf
    refine wp_block ?_
    have h := h.pick [5, 4, 3, 2, 1, 0] (by decide) rfl
    refine c_range (xs := x6) (encs := enc2) h rfl hit13 (fun _ => rfl) (by decide) (fun pre L => ∃ (rest24 : List (Int × Int)), x6 = pre ++ rest24 ∧ path_Node_r0 Fu a0 a1 rest24 = some o22 ∧ L = [.box g1 3 ([.int .i64 a0]), .box g2 3 ([.int .i64 a1]), .box g3 3 ([.int .i64 0]), .box g4 3 ([.int .i64 0]), .box g5 4 ([.bool false]), .sn S9]) (fun L => ∃ (x17 : Int), ∃ (x19 : Int), ∃ (x21 : Bool), (.inl (x17, x19, x21) : Sum (Int × Int × Bool) Unit) = o22 ∧ r64 x17 ∧ r64 x19 ∧ L = [.box g3 3 ([.int .i64 x17]), .box g4 3 ([.int .i64 x19]), .box g5 4 ([.bool x21]), .sn S9]) (fun pre L hI => ?_) ⟨x6, rfl, hl23, rfl⟩ (fun z15 => [(2, .pointer (some ⟨g1, 0, none⟩)), (3, .pointer (some ⟨g2, 0, none⟩)), (4, .pointer (some ⟨g3, 0, none⟩)), (5, .pointer (some ⟨g4, 0, none⟩)), (6, .pointer (some ⟨g5, 0, none⟩)), (7, .int .i64 z15.1), (8, .int .i64 z15.2)]) (fun l D o1 o2 z15 L a w h => ?_) (fun l D o1 o2 pre z15 rest L a w hxz hI h => ?_) (fun D L w hI h => ?_) (fun D L w hI h => ?_)
    · obtain ⟨rest24, hxs, hl25, rfl⟩ := hI
      simp
    · have h : St 26 w0 (ownL ([] ++ [.sn S0])) ([(14, .int .i64 z15.2), (13, .int .i64 z15.1)] ++ _) _ a w := h
      refine m_rs rfl ?_
      refine sAV h (fun a h => ?_)
      refine l_nil (e_thenN ?_)
      refine m_r rfl ?_
      refine sAV h (fun a h => ?_)
      refine l_nil ?_
      exact e_thenN (h.has (by exact ⟨rfl, rfl, rfl, rfl, rfl, rfl, rfl, trivial⟩))
    · obtain ⟨rest24, hxs, hl25, rfl⟩ := hI
      obtain rfl := List.append_cancel_left (hxs.symm.trans hxz)
      have hz16 := hall14 z15 (by rw [hxz]; simp)
      rw [path_Node_r0] at hl25
      have h : St 26 w0 (ownL ([] ++ [.sn S0])) _ [.obj l o1, .obj D o2, .box g1 3 ([.int .i64 a0]), .box g2 3 ([.int .i64 a1]), .box g3 3 ([.int .i64 0]), .box g4 3 ([.int .i64 0]), .box g5 4 ([.bool false]), .sn S9] a w := h
      refine m_block ?_
      refine m_seq ?_
      -- region 6 draws
      obtain ⟨x26, h27, hl25⟩ := bsome hl25
      refine m_start h (Mem _ _ _) 7 7 rfl (by kernel_rfl) (fun _ _ _ _ _ h => h) rfl (fun _ h => h) (fun Q a w HE HN h HS => ?_)
      refine d_take h HS HN 0 rfl (by kernel_rfl) (by kernel_rfl) (by kernel_rfl) (by kernel_rfl) (by kernel_rfl) rfl rfl (by decide) (fun w' hw => x_ld h.k rfl Try.underlying3 rfl rfl ((hw.cell (i := 3) rfl 0).trans rfl)) (fun a h => ?_)
      refine d_takeP h (fun _ => HS) HN 1 rfl (by kernel_rfl) (by kernel_rfl) (by kernel_rfl) (by decide) rfl rfl (by decide) (fun w' => x_move h.k _ rfl rfl) (fun a h => ?_)
      refine d_take h HS HN 2 rfl (by kernel_rfl) (by kernel_rfl) (by kernel_rfl) (by kernel_rfl) (by kernel_rfl) rfl rfl (by decide) (fun w' hw => x_ld h.k rfl Try.underlying3 rfl rfl ((hw.cell (i := 2) rfl 0).trans rfl)) (fun a h => ?_)
      refine d_takeP h (fun _ => HS) HN 3 rfl (by kernel_rfl) (by kernel_rfl) (by kernel_rfl) (by decide) rfl rfl (by decide) (fun w' => x_move h.k _ rfl rfl) (fun a h => ?_)
      refine d_alone 4 rfl (by kernel_rfl) (fun K hK => ?_)
      have hX := path_Count_ok Fu (S0 := snapAll _) a0 hra0 z15.1 hz16.1 _ h27 _ h.startAll
      refine q_callX hX h rfl rfl rfl (by decide) Try.func48 rfl rfl rfl (fun a w v L1 S1 hR hb1 h => ?_)
      obtain ⟨rfl, rfl, hr29, _⟩ := hR
      refine hK _ _ (fun _ _ => HS.ext hb1) ?_
      replace HS := HS.ext hb1
      clear hK
      refine d_takeP h (fun _ => HS) HN 5 rfl (by kernel_rfl) (by kernel_rfl) (by kernel_rfl) (by decide) rfl rfl (by decide) (fun w' => x_bin h.k rfl rfl rfl (ib_add rfl)) (fun a h => ?_)
      refine d_takeP h (fun _ => HS) HN 6 rfl (by kernel_rfl) (by kernel_rfl) (by kernel_rfl) (by decide) rfl rfl (by decide) (fun w' => x_bin h.k rfl rfl rfl ib_lss) (fun a h => ?_)
      refine d_done (by kernel_rfl) (HE _ _ ?_) _
      refine e_thenN ?_
      refine m_cond h rfl (fun hb => ?_) (fun hb => ?_)
      · rw [if_pos (of_decide_eq_true hb)] at hl25
        refine m_seq ?_
        -- region 7 draws
        refine m_fin (fun a w => St 26 w0 (ownL ([] ++ [.sn S0])) [(4, .pointer (some ⟨g3, 0, none⟩)), (5, .pointer (some ⟨g4, 0, none⟩)), (6, .pointer (some ⟨g5, 0, none⟩))] [.obj l o1, .obj D o2, .box g3 3 ([.int .i64 z15.1]), .box g4 3 ([.int .i64 (w64 (a1 - z15.2))]), .box g5 4 ([.bool true]), .sn S9] a w) ?_ (fun a w h => ?_)
        · refine m_start h (Mem _ _ _) 7 7 rfl (by kernel_rfl) (fun _ _ _ _ _ h => h) rfl (fun _ h => h.pick [0, 1, 2, 3, 7] [.obj l o1, .obj D o2, .box g1 3 ([.int .i64 a0]), .box g2 3 ([.int .i64 a1]), .sn S9] (by decide) rfl) (fun Q a w HE HN h HS => ?_)
          refine d_takeP h (fun _ => HS) HN 0 rfl (by kernel_rfl) (by kernel_rfl) (by kernel_rfl) (by decide) rfl rfl (by decide) (fun w' => x_move h.k _ rfl rfl) (fun a h => ?_)
          refine d_take h HS HN 1 rfl (by kernel_rfl) (by kernel_rfl) (by kernel_rfl) (by kernel_rfl) (by kernel_rfl) rfl rfl (by decide) (fun w' hw => x_ld h.k rfl Try.underlying3 rfl rfl ((hw.cell (i := 3) rfl 0).trans rfl)) (fun a h => ?_)
          refine d_takeP h (fun _ => HS) HN 2 rfl (by kernel_rfl) (by kernel_rfl) (by kernel_rfl) (by decide) rfl rfl (by decide) (fun w' => x_move h.k _ rfl rfl) (fun a h => ?_)
          refine d_takeP h (fun _ => HS) HN 3 rfl (by kernel_rfl) (by kernel_rfl) (by kernel_rfl) (by decide) rfl rfl (by decide) (fun w' => x_bin h.k rfl rfl rfl (ib_sub rfl)) (fun a h => ?_)
          refine d_alone 4 rfl (by kernel_rfl) (fun K hK => ?_)
          refine s_stb h rfl rfl rfl sz_int rfl rfl rfl 4 rfl (by first | decide | simp) (fun a w h => ?_)
          replace HS := h.m.pick [0, 1, 2, 3, 7] [.obj l o1, .obj D o2, .box g1 3 ([.int .i64 a0]), .box g2 3 ([.int .i64 a1]), .sn S9] (by decide) rfl
          refine hK _ _ (fun _ _ => HS) ?_
          clear hK
          refine d_alone 5 rfl (by kernel_rfl) (fun K hK => ?_)
          refine s_stb h rfl rfl rfl sz_int rfl rfl rfl 5 rfl (by first | decide | simp) (fun a w h => ?_)
          replace HS := h.m.pick [0, 1, 2, 3, 7] [.obj l o1, .obj D o2, .box g1 3 ([.int .i64 a0]), .box g2 3 ([.int .i64 a1]), .sn S9] (by decide) rfl
          refine hK _ _ (fun _ _ => HS) ?_
          clear hK
          refine d_alone 6 rfl (by kernel_rfl) (fun K hK => ?_)
          refine s_stb h rfl rfl rfl sz_bool rfl rfl rfl 6 rfl (by first | decide | simp) (fun a w h => ?_)
          replace HS := h.m.pick [0, 1, 2, 3, 7] [.obj l o1, .obj D o2, .box g1 3 ([.int .i64 a0]), .box g2 3 ([.int .i64 a1]), .sn S9] (by decide) rfl
          refine hK _ _ (fun _ _ => HS) ?_
          clear hK
          refine d_done (by kernel_rfl) (HE _ _ ?_) _
          refine e_thenN ?_
          have h := h.pick [0, 1, 4, 5, 6, 7] (by decide) rfl
          exact h.has (by exact ⟨rfl, rfl, rfl, trivial⟩)
        refine e_thenN ?_
        refine m_ret ?_
        refine e_blkR ?_
        exact RPost.r _ ⟨z15.1, w64 (a1 - z15.2), true, (Option.some.inj hl25), hz16.1, (w64_r _), rfl⟩ h.m
      · rw [if_neg (of_decide_eq_false hb)] at hl25
        refine m_skip ?_
        refine e_blkN ?_
        exact RPost.n _ ⟨rest, (by rw [hxz]; simp), hl25, rfl⟩ h.m
    · obtain ⟨rest24, hxs, hl25, rfl⟩ := hI
      obtain rfl : rest24 = [] := by simpa using hxs
      rw [path_Node_r0] at hl25
      obtain rfl := Option.some.inj hl25
      try dsimp only at hf
      refine e_blkN ?_
      refine e_thenN ?_
      refine tail_M ?_
      have h : St 26 w0 (ownL ([] ++ [.sn S0])) _ [.obj D (.deferred (some [])), .box g1 3 ([.int .i64 a0]), .box g2 3 ([.int .i64 a1]), .box g3 3 ([.int .i64 0]), .box g4 3 ([.int .i64 0]), .box g5 4 ([.bool false]), .sn S9] a w := h
      refine m_rs rfl ?_
      refine s_stb h rfl rfl rfl sz_int rfl rfl rfl 3 rfl (by first | decide | simp) (fun a w h => ?_)
      refine s_stb h rfl rfl rfl sz_int rfl rfl rfl 4 rfl (by first | decide | simp) (fun a w h => ?_)
      refine s_stb h rfl rfl rfl sz_bool rfl rfl rfl 5 rfl (by first | decide | simp) (fun a w h => ?_)
      refine l_nil (e_thenN ?_)
      refine m_ret ?_
      obtain rfl := Option.some.inj hf
      refine r_retT h (fun w h => ?_)
      exact r_ret3 h rfl (rv_cell1 h rfl 2 rfl Try.underlying3 rfl) (rv_cell1 h rfl 3 rfl Try.underlying3 rfl) (rv_cell1 h rfl 4 rfl Try.underlying4 rfl) ⟨_, [], _, rfl, ⟨rfl, rfl, (show r64 0 from ⟨by decide, by decide⟩), (show r64 0 from ⟨by decide, by decide⟩), trivial⟩, rfl, up10, (h.m.pick [5] _ (by decide) rfl)⟩
    · obtain ⟨x17, x19, x21, rfl, hr18, hr20, rfl⟩ := hI
      try dsimp only at hf
      refine e_blkR ?_
      refine e_thenR ?_
      refine post_T ?_ h.k.defers
      have h : St 26 w0 (ownL ([] ++ [.sn S0])) _ [.obj D (.deferred (some [])), .box g3 3 ([.int .i64 x17]), .box g4 3 ([.int .i64 x19]), .box g5 4 ([.bool x21]), .sn S9] a w := h
      obtain rfl := Option.some.inj hf
      refine r_retT h (fun w h => ?_)
      exact r_ret3 h rfl (rv_cell1 h rfl 0 rfl Try.underlying3 rfl) (rv_cell1 h rfl 1 rfl Try.underlying3 rfl) (rv_cell1 h rfl 2 rfl Try.underlying4 rfl) ⟨_, [], _, rfl, ⟨rfl, rfl, hr18, hr20, trivial⟩, rfl, up10, (h.m.pick [3] _ (by decide) rfl)⟩
def path_Path_r0 (Fu : Nat) (a0 : Int) (a1 : Int) : List (Int × Int) → (List Int) → Option ((List Int))
  | [], x24 => some x24
  | z22 :: rest, x24 => (path_width Fu a0 z22.1).bind fun x33 => (quoI a1 x33).bind fun x37 => (app 8 x24 ([w64 (z22.2 + x37)])).bind fun x41 => path_Path_r0 Fu a0 a1 rest x41
def path_Path (Fu : Nat) (a0 : Int) (a1 : Int) : Option ((List Int)) :=
  (path_may Fu a0).bind fun x3 => if (((!x3) || (decide (a1 < 0))) || (decide (a0 ≤ a1))) = true then (some ([])) else ((path_levels Fu a0).bind fun x13 => (path_Path_r0 Fu a0 a1 x13 ([])).bind fun x24 => some x24)
set_option maxRecDepth 100000 in
set_option maxHeartbeats 2000000 in
theorem path_Path_ok (Fu : Nat) {S0 : Snap} (a0 : Int) (hra0 : r64 a0) (a1 : Int) (hra1 : r64 a1) (r : (List Int)) (hf : path_Path Fu a0 a1 = some r) (w0 : World) (hm : Mem w0 (ownL ([] ++ [.sn S0])) ([] ++ [.sn S0]) w0) :
    Calls Try.prog 31 #[.int .i64 a0, .int .i64 a1] w0 (Ret w0 S0 [] (fun v L1 S1 => ∃ (A51 : Option Addr), ∃ (c52 : Nat), ∃ (cs53 : List Value), v = .slice A51 r.length c52 ∧ L1 = [.row (.slice A51 r.length c52) 3 1 r.length cs53] ∧ reps tyI S1 cs53 r ∧ True)) := by
  unfold path_Path at hf
  refine c_enterR Try.func31 rfl 35 rfl (by simp) _ hm _ rfl (fun a h => ?_)
  refine c_rs ?_
  refine s_box h rfl rfl rfl (by decide) rfl (cs := [.int .i64 a0]) (by rfl) (fun a w g1 h => ?_)
  refine s_box h rfl rfl rfl (by decide) rfl (cs := [.int .i64 a1]) (by rfl) (fun a w g2 h => ?_)
  refine sAV h (fun a h => ?_)
  refine l_end ?_
  refine wp_seq ?_
  refine c_rs ?_
  refine sX h (x_ld h.k rfl Try.underlying3 rfl rfl ((h.m.cell (i := 1) rfl 0).trans rfl)) (fun a h => ?_)
  obtain ⟨x3, h4, hf⟩ := bsome hf
  have hX := path_may_ok Fu (S0 := snapAll _) a0 hra0 _ h4 _ h.startAll
  refine q_callX hX h rfl rfl rfl (by decide) Try.func42 rfl rfl rfl (fun a w v L1 S1 hR hb1 h => ?_)
  obtain ⟨rfl, rfl, _⟩ := hR
  refine sX h (x_not h.k rfl rfl) (fun a h => ?_)
  refine sMV h (fun a h => ?_)
  refine q_grp h 3 (t := 11) 14 ((!x3) || (decide (a1 < 0))) rfl (fun hB3 => ?_) (fun hB3 => ?_) (fun a w h => ?_)
  · refine g_no h rfl rfl rfl rfl hB3 rfl (by decide) (fun a h => ?_)
    refine g_no h rfl rfl rfl rfl hB3 rfl (by decide) (fun a h => ?_)
    refine sX h (x_pick (u' := undef) h.k rfl rfl (fun _ => rfl) (fun hh => absurd (hB3.symm.trans hh) (by decide))) (fun a h => ?_)
    exact (h.mid 2 rfl).val (by first | rfl | (rw [hB3]; first | rfl | simp))
  · refine g_yes h rfl rfl rfl rfl hB3 ?_
    refine sX h (x_ld h.k rfl Try.underlying3 rfl rfl ((h.m.cell (i := 0) rfl 0).trans rfl)) (fun a h => ?_)
    refine g_yes h rfl rfl rfl rfl hB3 ?_
    refine sX h (x_bin h.k rfl rfl rfl ib_lss) (fun a h => ?_)
    refine sX h (x_pick (u' := undef) h.k rfl rfl (fun hh => absurd (hB3.symm.trans hh) (by decide)) (fun _ => rfl)) (fun a h => ?_)
    exact (h.mid 2 rfl).val (by first | rfl | (rw [hB3]; first | rfl | simp))
  refine sMV h (fun a h => ?_)
  refine q_grp h 4 (t := 15) 19 (((!x3) || (decide (a1 < 0))) || (decide (a0 ≤ a1))) rfl (fun hB7 => ?_) (fun hB7 => ?_) (fun a w h => ?_)
  · refine g_no h rfl rfl rfl rfl hB7 rfl (by decide) (fun a h => ?_)
    refine g_no h rfl rfl rfl rfl hB7 rfl (by decide) (fun a h => ?_)
    refine g_no h rfl rfl rfl rfl hB7 rfl (by decide) (fun a h => ?_)
    refine sX h (x_pick (u' := undef) h.k rfl rfl (fun _ => rfl) (fun hh => absurd (hB7.symm.trans hh) (by decide))) (fun a h => ?_)
    exact (h.mid 3 rfl).val (by first | rfl | (rw [hB7]; first | rfl | simp))
  · refine g_yes h rfl rfl rfl rfl hB7 ?_
    refine sX h (x_ld h.k rfl Try.underlying3 rfl rfl ((h.m.cell (i := 0) rfl 0).trans rfl)) (fun a h => ?_)
    refine g_yes h rfl rfl rfl rfl hB7 ?_
    refine sX h (x_ld h.k rfl Try.underlying3 rfl rfl ((h.m.cell (i := 1) rfl 0).trans rfl)) (fun a h => ?_)
    refine g_yes h rfl rfl rfl rfl hB7 ?_
    refine sX h (x_bin h.k rfl rfl rfl ib_geq) (fun a h => ?_)
    refine sX h (x_pick (u' := undef) h.k rfl rfl (fun hh => absurd (hB7.symm.trans hh) (by decide)) (fun _ => rfl)) (fun a h => ?_)
    exact (h.mid 3 rfl).val (by first | rfl | (rw [hB7]; first | rfl | simp))
  refine l_end ?_
  refine c_cond h rfl (fun hb => ?_) (fun hb => ?_)
  · rw [if_pos hb] at hf
    refine c_rs ?_
    refine sAV h (fun a h => ?_)
    refine l_end ?_
    refine wp_ret ?_
    refine e_thenR ?_
    obtain rfl := Option.some.inj hf
    have h := h.mem (h.m.nilrow 3 1)
    refine post_M ?_
    exact r_ret1 h rfl (rv_tmp h rfl) ⟨_, [.row (.slice none ([]).length 0) 3 1 ([]).length []], _, rfl, ⟨none, 0, [], rfl, rfl, (show reps tyI S0 [] [] from rfl), trivial⟩, rfl, (Up.refl _ _ _), (h.m.pick [0, 3] _ (by decide) rfl)⟩
  · rw [if_neg (by rw [hb]; decide)] at hf
    refine wp_skip ?_
    refine e_thenN ?_
    refine c_rs ?_
    refine s_alloc h rfl rfl rfl (by decide) zi_Sint rfl (fun a w g11 h => ?_)
    have h := h.mem (h.m.nilrow 3 1)
    refine l_end ?_
    refine wp_seq ?_
    refine c_rs ?_
    refine sX h (x_ld h.k rfl Try.underlying3 rfl rfl ((h.m.cell (i := 3) rfl 0).trans rfl)) (fun a h => ?_)
    obtain ⟨x13, h14, hf⟩ := bsome hf
    have h := h.pick [4, 0, 1, 2, 3] (by decide) rfl
    have hX := path_levels_ok Fu (S0 := S0) a0 hra0 _ h14 _ (h.sub (Ls := []))
    refine q_callY (Ls := []) hX h (Up.refl _ _ _) rfl rfl rfl (by decide) Try.func47 rfl rfl rfl (fun a w v L1 S16 hR le18 up17 h => ?_)
    obtain ⟨hit20, rfl, hall21, _⟩ := hR
    obtain ⟨it19, rfl⟩ : ∃ x, x = v := ⟨_, rfl⟩
    refine l_end ?_
    obtain ⟨o29, hl30, hf⟩ := bsome hf
    refine wp_block ?_
    have h := h.pick [4, 3, 2, 1, 0] (by decide) rfl
    refine c_range (xs := x13) (encs := enc2) h rfl hit20 (fun _ => rfl) (by decide) (fun pre L => ∃ (rest31 : List (Int × Int)), ∃ (x24 : List Int), ∃ (A25 : Option Addr), ∃ (c26 : Nat), ∃ (cs27 : List Value), x13 = pre ++ rest31 ∧ path_Path_r0 Fu a0 a1 rest31 x24 = some o29 ∧ reps tyI S16 cs27 x24 ∧ L = [.box g1 3 ([.int .i64 a0]), .box g2 3 ([.int .i64 a1]), .box g11 51 ([.slice A25 x24.length c26]), .row (.slice A25 x24.length c26) 3 1 x24.length cs27, .sn S16]) (fun _ => False) (fun pre L hI => ?_) ⟨x13, [], none, 0, [], rfl, hl30, ((show reps tyI S0 [] [] from rfl).mono le18), rfl⟩ (fun z22 => [(2, .pointer (some ⟨g1, 0, none⟩)), (3, .pointer (some ⟨g2, 0, none⟩)), (4, .slice none 0 0), (5, .pointer (some ⟨g11, 0, none⟩)), (6, .int .i64 z22.1), (7, .int .i64 z22.2)]) (fun l D o1 o2 z22 L a w h => ?_) (fun l D o1 o2 pre z22 rest L a w hxz hI h => ?_) (fun D L w hI h => ?_) (fun D L w hI h => ?_)
    · obtain ⟨rest31, x24, A25, c26, cs27, hxs, hl32, hq28, rfl⟩ := hI
      simp
    · have h : St 35 w0 (ownL ([] ++ [.sn S0])) ([(23, .int .i64 z22.2), (22, .int .i64 z22.1)] ++ _) _ a w := h
      refine m_rs rfl ?_
      refine sAV h (fun a h => ?_)
      refine l_nil (e_thenN ?_)
      refine m_r rfl ?_
      refine sAV h (fun a h => ?_)
      refine l_nil ?_
      exact e_thenN (h.has (by exact ⟨rfl, rfl, rfl, rfl, rfl, rfl, trivial⟩))
    · obtain ⟨rest31, x24, A25, c26, cs27, hxs, hl32, hq28, rfl⟩ := hI
      obtain rfl := List.append_cancel_left (hxs.symm.trans hxz)
      have hz23 := hall21 z22 (by rw [hxz]; simp)
      rw [path_Path_r0] at hl32
      have h : St 35 w0 (ownL ([] ++ [.sn S0])) _ [.obj l o1, .obj D o2, .box g1 3 ([.int .i64 a0]), .box g2 3 ([.int .i64 a1]), .box g11 51 ([.slice A25 x24.length c26]), .row (.slice A25 x24.length c26) 3 1 x24.length cs27, .sn S16] a w := h
      refine m_block ?_
      -- region 7 draws
      obtain ⟨x33, h34, hl32⟩ := bsome hl32
      obtain ⟨x37, h38, hl32⟩ := bsome hl32
      obtain ⟨x41, h42, hl32⟩ := bsome hl32
      refine m_fin (fun a w => ∃ (A47 : Option Addr), ∃ (c48 : Nat), ∃ (cs49 : List Value), reps tyI S16 cs49 x41 ∧ St 35 w0 (ownL ([] ++ [.sn S0])) [(2, .pointer (some ⟨g1, 0, none⟩)), (3, .pointer (some ⟨g2, 0, none⟩)), (5, .pointer (some ⟨g11, 0, none⟩))] [.obj l o1, .obj D o2, .box g1 3 ([.int .i64 a0]), .box g2 3 ([.int .i64 a1]), .box g11 51 ([.slice A47 x41.length c48]), .row (.slice A47 x41.length c48) 3 1 x41.length cs49, .sn S16] a w) ?_ (fun a w h => ?_)
      · refine m_start h (Mem _ _ _) 11 11 rfl (by kernel_rfl) (fun _ _ _ _ _ h => h) rfl (fun _ h => h.pick [0, 1, 2, 3, 6] [.obj l o1, .obj D o2, .box g1 3 ([.int .i64 a0]), .box g2 3 ([.int .i64 a1]), .sn S16] (by decide) rfl) (fun Q a w HE HN h HS => ?_)
        refine d_takeP h (fun _ => HS) HN 1 rfl (by kernel_rfl) (by kernel_rfl) (by kernel_rfl) (by decide) rfl rfl (by decide) (fun w' => x_move h.k _ rfl rfl) (fun a h => ?_)
        refine d_take h HS HN 2 rfl (by kernel_rfl) (by kernel_rfl) (by kernel_rfl) (by kernel_rfl) (by kernel_rfl) rfl rfl (by decide) (fun w' hw => x_ld h.k rfl Try.underlying3 rfl rfl ((hw.cell (i := 3) rfl 0).trans rfl)) (fun a h => ?_)
        refine d_take h HS HN 3 rfl (by kernel_rfl) (by kernel_rfl) (by kernel_rfl) (by kernel_rfl) (by kernel_rfl) rfl rfl (by decide) (fun w' hw => x_ld h.k rfl Try.underlying3 rfl rfl ((hw.cell (i := 2) rfl 0).trans rfl)) (fun a h => ?_)
        refine d_takeP h (fun _ => HS) HN 4 rfl (by kernel_rfl) (by kernel_rfl) (by kernel_rfl) (by decide) rfl rfl (by decide) (fun w' => x_move h.k _ rfl rfl) (fun a h => ?_)
        refine d_two 0 5 (by kernel_rfl) (d_one 0 rfl _ (fun K hK => ?_)) (d_one 5 rfl _ (fun K hK => ?_))
        · refine sX h (x_ld h.k rfl Try.underlying51 rfl rfl ((h.m.cell (i := 4) rfl 0).trans rfl)) (fun a h => ?_)
          refine hK _ _ ⟨fun _ _ => HS, ?_⟩
          clear hK
          refine d_alone 5 rfl (by kernel_rfl) (fun K hK => ?_)
          have hX := path_width_ok Fu (S0 := snapAll _) a0 hra0 z22.1 hz23.1 _ h34 _ h.startAll
          refine q_callX hX h rfl rfl rfl (by decide) Try.func50 rfl rfl rfl (fun a w v L1 S1 hR hb1 h => ?_)
          obtain ⟨rfl, rfl, hr36, _⟩ := hR
          replace HS := h.m.pick [0, 1, 2, 3, 6] [.obj l o1, .obj D o2, .box g1 3 ([.int .i64 a0]), .box g2 3 ([.int .i64 a1]), .sn S16] (by decide) rfl
          refine hK _ _ (fun _ _ => HS) ?_
          clear hK
          refine d_takeP h (fun _ => HS) HN 6 rfl (by kernel_rfl) (by kernel_rfl) (by kernel_rfl) (by decide) rfl rfl (by decide) (fun w' => x_bin h.k rfl rfl rfl (ib_quo_ h38)) (fun a h => ?_)
          refine d_takeP h (fun _ => HS) HN 7 rfl (by kernel_rfl) (by kernel_rfl) (by kernel_rfl) (by decide) rfl rfl (by decide) (fun w' => x_bin h.k rfl rfl rfl (ib_add rfl)) (fun a h => ?_)
          refine d_alone 8 rfl (by kernel_rfl) (fun K hK => ?_)
          refine q_bslice (T := tyI) (S := S16) h rfl rfl rfl (by decide) Try.underlying51 zi_int (by decide) (by decide) (by decide) (by decide) [.int .i64 (w64 (z22.2 + x37))] rfl rfl (C := [[.int .i64 (w64 (z22.2 + x37))]]) rfl (xs := [w64 (z22.2 + x37)]) ⟨[.int .i64 (w64 (z22.2 + x37))], _, rfl, ⟨rfl, (w64_r _)⟩, rfl⟩ (by intro c hc; simp only [List.mem_cons, List.not_mem_nil, or_false] at hc; subst hc; rfl) (fun a w A39 h => ?_)
          have hb40 : reps tyI S16 ([[.int .i64 (w64 (z22.2 + x37))]] : List (List Value)).flatten [w64 (z22.2 + x37)] := ⟨[.int .i64 (w64 (z22.2 + x37))], _, rfl, ⟨rfl, (w64_r _)⟩, rfl⟩
          replace HS := h.m.pick [1, 2, 3, 4, 7] [.obj l o1, .obj D o2, .box g1 3 ([.int .i64 a0]), .box g2 3 ([.int .i64 a1]), .sn S16] (by decide) rfl
          refine hK _ _ (fun _ _ => HS) ?_
          clear hK
          refine d_alone 9 rfl (by kernel_rfl) (fun K hK => ?_)
          refine q_append (T := tyI) (S := S16) h rfl rfl rfl (by decide) Try.underlying51 zb_int rfl (by decide) rfl 6 rfl hq28 rfl hb40 (h.m.rdRowA (i := 0) rfl) h42 (fun a w A43 c44 cs45 hq46 h => ?_)
          replace HS := h.m.pick [1, 2, 3, 4, 7] [.obj l o1, .obj D o2, .box g1 3 ([.int .i64 a0]), .box g2 3 ([.int .i64 a1]), .sn S16] (by decide) rfl
          refine hK _ _ (fun _ _ => HS) ?_
          clear hK
          refine d_alone 10 rfl (by kernel_rfl) (fun K hK => ?_)
          refine s_stb h rfl rfl rfl sz_Sint rfl rfl rfl 5 rfl (by first | decide | simp) (fun a w h => ?_)
          replace HS := h.m.pick [1, 2, 3, 4, 7] [.obj l o1, .obj D o2, .box g1 3 ([.int .i64 a0]), .box g2 3 ([.int .i64 a1]), .sn S16] (by decide) rfl
          refine hK _ _ (fun _ _ => HS) ?_
          clear hK
          refine d_done (by kernel_rfl) (HE _ _ ?_) _
          refine e_thenN ?_
          have h := h.pick [1, 2, 3, 4, 5, 6, 7] (by decide) rfl
          exact ⟨A43, c44, cs45, hq46, h.has (by exact ⟨rfl, rfl, rfl, trivial⟩)⟩
        · have hX := path_width_ok Fu (S0 := snapAll _) a0 hra0 z22.1 hz23.1 _ h34 _ h.startAll
          refine q_callX hX h rfl rfl rfl (by decide) Try.func50 rfl rfl rfl (fun a w v L1 S1 hR hb1 h => ?_)
          obtain ⟨rfl, rfl, hr36, _⟩ := hR
          replace HS := h.m.pick [0, 1, 2, 3, 6] [.obj l o1, .obj D o2, .box g1 3 ([.int .i64 a0]), .box g2 3 ([.int .i64 a1]), .sn S16] (by decide) rfl
          refine hK _ _ ⟨fun _ _ => HS, ?_⟩
          clear hK
          refine d_takeP h (fun _ => HS) HN 6 rfl (by kernel_rfl) (by kernel_rfl) (by kernel_rfl) (by decide) rfl rfl (by decide) (fun w' => x_bin h.k rfl rfl rfl (ib_quo_ h38)) (fun a h => ?_)
          refine d_takeP h (fun _ => HS) HN 7 rfl (by kernel_rfl) (by kernel_rfl) (by kernel_rfl) (by decide) rfl rfl (by decide) (fun w' => x_bin h.k rfl rfl rfl (ib_add rfl)) (fun a h => ?_)
          refine d_two 0 8 (by kernel_rfl) (d_one 0 rfl _ (fun K hK => ?_)) (d_one 8 rfl _ (fun K hK => ?_))
          · refine sX h (x_ld h.k rfl Try.underlying51 rfl rfl ((h.m.cell (i := 4) rfl 0).trans rfl)) (fun a h => ?_)
            refine hK _ _ ⟨fun _ _ => HS, ?_⟩
            clear hK
            refine d_alone 8 rfl (by kernel_rfl) (fun K hK => ?_)
            refine q_bslice (T := tyI) (S := S16) h rfl rfl rfl (by decide) Try.underlying51 zi_int (by decide) (by decide) (by decide) (by decide) [.int .i64 (w64 (z22.2 + x37))] rfl rfl (C := [[.int .i64 (w64 (z22.2 + x37))]]) rfl (xs := [w64 (z22.2 + x37)]) ⟨[.int .i64 (w64 (z22.2 + x37))], _, rfl, ⟨rfl, (w64_r _)⟩, rfl⟩ (by intro c hc; simp only [List.mem_cons, List.not_mem_nil, or_false] at hc; subst hc; rfl) (fun a w A39 h => ?_)
            have hb40 : reps tyI S16 ([[.int .i64 (w64 (z22.2 + x37))]] : List (List Value)).flatten [w64 (z22.2 + x37)] := ⟨[.int .i64 (w64 (z22.2 + x37))], _, rfl, ⟨rfl, (w64_r _)⟩, rfl⟩
            replace HS := h.m.pick [1, 2, 3, 4, 7] [.obj l o1, .obj D o2, .box g1 3 ([.int .i64 a0]), .box g2 3 ([.int .i64 a1]), .sn S16] (by decide) rfl
            refine hK _ _ (fun _ _ => HS) ?_
            clear hK
            refine d_alone 9 rfl (by kernel_rfl) (fun K hK => ?_)
            refine q_append (T := tyI) (S := S16) h rfl rfl rfl (by decide) Try.underlying51 zb_int rfl (by decide) rfl 6 rfl hq28 rfl hb40 (h.m.rdRowA (i := 0) rfl) h42 (fun a w A43 c44 cs45 hq46 h => ?_)
            replace HS := h.m.pick [1, 2, 3, 4, 7] [.obj l o1, .obj D o2, .box g1 3 ([.int .i64 a0]), .box g2 3 ([.int .i64 a1]), .sn S16] (by decide) rfl
            refine hK _ _ (fun _ _ => HS) ?_
            clear hK
            refine d_alone 10 rfl (by kernel_rfl) (fun K hK => ?_)
            refine s_stb h rfl rfl rfl sz_Sint rfl rfl rfl 5 rfl (by first | decide | simp) (fun a w h => ?_)
            replace HS := h.m.pick [1, 2, 3, 4, 7] [.obj l o1, .obj D o2, .box g1 3 ([.int .i64 a0]), .box g2 3 ([.int .i64 a1]), .sn S16] (by decide) rfl
            refine hK _ _ (fun _ _ => HS) ?_
            clear hK
            refine d_done (by kernel_rfl) (HE _ _ ?_) _
            refine e_thenN ?_
            have h := h.pick [1, 2, 3, 4, 5, 6, 7] (by decide) rfl
            exact ⟨A43, c44, cs45, hq46, h.has (by exact ⟨rfl, rfl, rfl, trivial⟩)⟩
          · refine q_bslice (T := tyI) (S := S16) h rfl rfl rfl (by decide) Try.underlying51 zi_int (by decide) (by decide) (by decide) (by decide) [.int .i64 (w64 (z22.2 + x37))] rfl rfl (C := [[.int .i64 (w64 (z22.2 + x37))]]) rfl (xs := [w64 (z22.2 + x37)]) ⟨[.int .i64 (w64 (z22.2 + x37))], _, rfl, ⟨rfl, (w64_r _)⟩, rfl⟩ (by intro c hc; simp only [List.mem_cons, List.not_mem_nil, or_false] at hc; subst hc; rfl) (fun a w A39 h => ?_)
            have hb40 : reps tyI S16 ([[.int .i64 (w64 (z22.2 + x37))]] : List (List Value)).flatten [w64 (z22.2 + x37)] := ⟨[.int .i64 (w64 (z22.2 + x37))], _, rfl, ⟨rfl, (w64_r _)⟩, rfl⟩
            replace HS := h.m.pick [1, 2, 3, 4, 7] [.obj l o1, .obj D o2, .box g1 3 ([.int .i64 a0]), .box g2 3 ([.int .i64 a1]), .sn S16] (by decide) rfl
            refine hK _ _ ⟨fun _ _ => HS, ?_⟩
            clear hK
            refine d_alone 0 rfl (by kernel_rfl) (fun K hK => ?_)
            refine sX h (x_ld h.k rfl Try.underlying51 rfl rfl ((h.m.cell (i := 5) rfl 0).trans rfl)) (fun a h => ?_)
            refine hK _ _ (fun _ _ => HS) ?_
            clear hK
            refine d_alone 9 rfl (by kernel_rfl) (fun K hK => ?_)
            refine q_append (T := tyI) (S := S16) h rfl rfl rfl (by decide) Try.underlying51 zb_int rfl (by decide) rfl 6 rfl hq28 rfl hb40 (h.m.rdRowA (i := 0) rfl) h42 (fun a w A43 c44 cs45 hq46 h => ?_)
            replace HS := h.m.pick [1, 2, 3, 4, 7] [.obj l o1, .obj D o2, .box g1 3 ([.int .i64 a0]), .box g2 3 ([.int .i64 a1]), .sn S16] (by decide) rfl
            refine hK _ _ (fun _ _ => HS) ?_
            clear hK
            refine d_alone 10 rfl (by kernel_rfl) (fun K hK => ?_)
            refine s_stb h rfl rfl rfl sz_Sint rfl rfl rfl 5 rfl (by first | decide | simp) (fun a w h => ?_)
            replace HS := h.m.pick [1, 2, 3, 4, 7] [.obj l o1, .obj D o2, .box g1 3 ([.int .i64 a0]), .box g2 3 ([.int .i64 a1]), .sn S16] (by decide) rfl
            refine hK _ _ (fun _ _ => HS) ?_
            clear hK
            refine d_done (by kernel_rfl) (HE _ _ ?_) _
            refine e_thenN ?_
            have h := h.pick [1, 2, 3, 4, 5, 6, 7] (by decide) rfl
            exact ⟨A43, c44, cs45, hq46, h.has (by exact ⟨rfl, rfl, rfl, trivial⟩)⟩
      obtain ⟨A47, c48, cs49, hq50, h⟩ := h
      refine e_blkN ?_
      exact RPost.n _ ⟨rest, x41, A47, c48, cs49, (by rw [hxz]; simp), hl32, hq50, rfl⟩ h.m
    · obtain ⟨rest31, x24, A25, c26, cs27, hxs, hl32, hq28, rfl⟩ := hI
      obtain rfl : rest31 = [] := by simpa using hxs
      rw [path_Path_r0] at hl32
      obtain rfl := Option.some.inj hl32
      try dsimp only at hf
      refine e_blkN ?_
      refine e_thenN ?_
      refine tail_M ?_
      have h : St 35 w0 (ownL ([] ++ [.sn S0])) _ [.obj D (.deferred (some [])), .box g1 3 ([.int .i64 a0]), .box g2 3 ([.int .i64 a1]), .box g11 51 ([.slice A25 x24.length c26]), .row (.slice A25 x24.length c26) 3 1 x24.length cs27, .sn S16] a w := h
      refine m_rs rfl ?_
      refine sX h (x_ld h.k rfl Try.underlying51 rfl rfl ((h.m.cell (i := 3) rfl 0).trans rfl)) (fun a h => ?_)
      refine sAV h (fun a h => ?_)
      refine l_nil (e_thenN ?_)
      refine m_ret ?_
      rw [← Option.some.inj hf]
      refine r_retT h (fun w h => ?_)
      exact r_ret1 h rfl (rv_tmp h rfl) ⟨_, [.row (.slice A25 x24.length c26) 3 1 x24.length cs27], _, rfl, ⟨A25, c26, cs27, rfl, rfl, hq28, trivial⟩, rfl, up17, (h.m.pick [3, 4] _ (by decide) rfl)⟩
    · exact hI.elim
def path_Children_l0 (Fu : Nat) (a0 : Int) (a1 : Int) (a2 : Int) : Nat → (List Int) → Int → Option ((List Int))
  | 0, _, _ => none
  | k + 1, x11, x16 => if x16 < w64 ((w64 (4 * a2)) + 4) then (((path_Place Fu a0 (w64 (a1 + 1)) x16).bind fun x33 => if x33.2 = true then ((app 8 x11 ([x33.1])).bind fun x39 => some x39) else (some x11)).bind fun x28 => path_Children_l0 Fu a0 a1 a2 k x28 (w64 (x16 + 1))) else (some x11)
def path_Children (Fu : Nat) (a0 : Int) (a1 : Int) (a2 : Int) : Option ((List Int)) :=
  (if a2 < 0 then some true else (path_Count Fu a0 a1).bind fun x4 => some (decide (x4 ≤ a2))).bind fun z2 => if z2 = true then (some ([])) else ((path_Children_l0 Fu a0 a1 a2 Fu ([]) (w64 (4 * a2))).bind fun x18 => some x18)
set_option maxRecDepth 100000 in
set_option maxHeartbeats 2000000 in
theorem path_Children_ok (Fu : Nat) {S0 : Snap} (a0 : Int) (hra0 : r64 a0) (a1 : Int) (hra1 : r64 a1) (a2 : Int) (hra2 : r64 a2) (r : (List Int)) (hf : path_Children Fu a0 a1 a2 = some r) (w0 : World) (hm : Mem w0 (ownL ([] ++ [.sn S0])) ([] ++ [.sn S0]) w0) :
    Calls Try.prog 38 #[.int .i64 a0, .int .i64 a1, .int .i64 a2] w0 (Ret w0 S0 [] (fun v L1 S1 => ∃ (A47 : Option Addr), ∃ (c48 : Nat), ∃ (cs49 : List Value), v = .slice A47 r.length c48 ∧ L1 = [.row (.slice A47 r.length c48) 3 1 r.length cs49] ∧ reps tyI S1 cs49 r ∧ True)) := by
  unfold path_Children at hf
  refine c_enterM Try.func38 rfl 43 rfl (by simp) _ hm _ rfl (fun a h => ?_)
  refine c_rs ?_
  refine sAV h (fun a h => ?_)
  refine l_end ?_
  refine wp_seq ?_
  refine c_rs ?_
  refine sMV h (fun a h => ?_)
  refine sX h (x_bin h.k rfl rfl rfl ib_lss) (fun a h => ?_)
  refine sMV h (fun a h => ?_)
  obtain ⟨z2, hz1, hf⟩ := bsome hf
  refine q_grp h 6 (t := 13) 19 z2 rfl (fun hB2 => ?_) (fun hB2 => ?_) (fun a w h => ?_)
  · refine g_no h rfl rfl rfl rfl hB2 rfl (by decide) (fun a h => ?_)
    refine g_no h rfl rfl rfl rfl hB2 rfl (by decide) (fun a h => ?_)
    refine g_no h rfl rfl rfl rfl hB2 rfl (by decide) (fun a h => ?_)
    refine g_no h rfl rfl rfl rfl hB2 rfl (by decide) (fun a h => ?_)
    refine g_no h rfl rfl rfl rfl hB2 rfl (by decide) (fun a h => ?_)
    rw [if_pos (of_decide_eq_true hB2)] at hz1
    refine sX h (x_pick (u' := undef) h.k rfl rfl (fun _ => rfl) (fun hh => absurd (hB2.symm.trans hh) (by decide))) (fun a h => ?_)
    exact (h.mid 5 rfl).val (by rw [Option.some.inj hz1])
  · rw [if_neg (of_decide_eq_false hB2)] at hz1
    refine g_yes h rfl rfl rfl rfl hB2 ?_
    refine sMV h (fun a h => ?_)
    refine g_yes h rfl rfl rfl rfl hB2 ?_
    refine sMV h (fun a h => ?_)
    refine g_yes h rfl rfl rfl rfl hB2 ?_
    refine sMV h (fun a h => ?_)
    refine g_yes h rfl rfl rfl rfl hB2 ?_
    obtain ⟨x4, h5, hz1⟩ := bsome hz1
    have hX := path_Count_ok Fu (S0 := snapAll _) a0 hra0 a1 hra1 _ h5 _ h.startAll
    refine q_callX hX h rfl rfl rfl (by decide) Try.func48 rfl rfl rfl (fun a w v L1 S1 hR hb1 h => ?_)
    obtain ⟨rfl, rfl, hr7, _⟩ := hR
    refine g_yes h rfl rfl rfl rfl hB2 ?_
    refine sX h (x_bin h.k rfl rfl rfl ib_geq) (fun a h => ?_)
    refine sX h (x_pick (u' := undef) h.k rfl rfl (fun hh => absurd (hB2.symm.trans hh) (by decide)) (fun _ => rfl)) (fun a h => ?_)
    exact (h.mid 5 rfl).val (by rw [Option.some.inj hz1])
  refine l_end ?_
  refine c_cond h rfl (fun hb => ?_) (fun hb => ?_)
  · rw [if_pos hb] at hf
    refine c_rs ?_
    refine sAV h (fun a h => ?_)
    refine l_end ?_
    refine wp_ret ?_
    refine e_thenR ?_
    obtain rfl := Option.some.inj hf
    have h := h.mem (h.m.nilrow 3 1)
    exact r_ret1 h rfl (rv_tmp h rfl) ⟨_, [.row (.slice none ([]).length 0) 3 1 ([]).length []], _, rfl, ⟨none, 0, [], rfl, rfl, (show reps tyI S0 [] [] from rfl), trivial⟩, rfl, (Up.refl _ _ _), h.m⟩
  · rw [if_neg (by rw [hb]; decide)] at hf
    refine wp_skip ?_
    refine e_thenN ?_
    refine c_rs ?_
    refine sAV h (fun a h => ?_)
    refine l_end ?_
    refine wp_seq ?_
    refine c_rs ?_
    refine sMV h (fun a h => ?_)
    refine sX h (x_bin h.k rfl rfl rfl (ib_mul rfl)) (fun a h => ?_)
    refine sAV h (fun a h => ?_)
    refine l_end ?_
    obtain ⟨o9, hl10, hf⟩ := bsome hf
    refine c_fin (fun a w => ∃ (x18 : List Int), ∃ (A19 : Option Addr), ∃ (c20 : Nat), ∃ (cs21 : List Value), x18 = o9 ∧ reps tyI S0 cs21 x18 ∧ St 43 w0 (ownL ([] ++ [.sn S0])) [(7, .slice A19 x18.length c20)] [.row (.slice A19 x18.length c20) 3 1 x18.length cs21, .sn S0] a w) ?_ ?_
    · refine wp_block ?_
      have h := h.mem (h.m.nilrow 3 1)
      refine c_loop (fun m24 a w => ∃ (x11 : List Int), ∃ (A12 : Option Addr), ∃ (c13 : Nat), ∃ (cs14 : List Value), ∃ (x16 : Int), path_Children_l0 Fu a0 a1 a2 m24 x11 x16 = some o9 ∧ reps tyI S0 cs14 x11 ∧ r64 x16 ∧ St 43 w0 (ownL ([] ++ [.sn S0])) [(0, .int .i64 a0), (1, .int .i64 a1), (2, .int .i64 a2), (7, .slice A12 x11.length c13), (8, .int .i64 x16)] [.row (.slice A12 x11.length c13) 3 1 x11.length cs14, .sn S0] a w) Fu ⟨[], none, 0, [], w64 (4 * a2), hl10, (show reps tyI S0 [] [] from rfl), (w64_r _), h.has (by exact ⟨rfl, rfl, rfl, rfl, rfl, trivial⟩)⟩ (fun m24 a w hI => ?_)
      obtain ⟨x11, A12, c13, cs14, x16, hl23, hq15, hr17, h⟩ := hI
      obtain _ | m24 := m24
      · rw [path_Children_l0] at hl23; cases hl23
      rw [path_Children_l0] at hl23
      refine wp_seq ?_
      refine c_rs ?_
      refine sMV h (fun a h => ?_)
      refine sMV h (fun a h => ?_)
      refine sX h (x_bin h.k rfl rfl rfl (ib_mul rfl)) (fun a h => ?_)
      refine sX h (x_bin h.k rfl rfl rfl (ib_add rfl)) (fun a h => ?_)
      refine sX h (x_bin h.k rfl rfl rfl ib_lss) (fun a h => ?_)
      refine l_end ?_
      refine c_cond h rfl (fun hb => ?_) (fun hb => ?_)
      · rw [if_pos (of_decide_eq_true hb)] at hl23
        refine wp_skip ?_
        refine e_thenN ?_
        obtain ⟨o26, hc27, hl23⟩ := bsome hl23
        refine c_cut (fun a w => ∃ (x28 : List Int), ∃ (A29 : Option Addr), ∃ (c30 : Nat), ∃ (cs31 : List Value), x28 = o26 ∧ reps tyI S0 cs31 x28 ∧ St 43 w0 (ownL ([] ++ [.sn S0])) [(0, .int .i64 a0), (1, .int .i64 a1), (2, .int .i64 a2), (7, .slice A29 x28.length c30), (8, .int .i64 x16)] [.row (.slice A29 x28.length c30) 3 1 x28.length cs31, .sn S0] a w) ?_ ?_
        · refine wp_block ?_
          refine c_rs ?_
          refine sMV h (fun a h => ?_)
          refine sMV h (fun a h => ?_)
          refine sX h (x_bin h.k rfl rfl rfl (ib_add rfl)) (fun a h => ?_)
          refine sMV h (fun a h => ?_)
          obtain ⟨x33, h34, hc27⟩ := bsome hc27
          have hX := path_Place_ok Fu (S0 := snapAll _) a0 hra0 (w64 (a1 + 1)) (w64_r _) x16 hr17 _ h34 _ h.startAll
          refine q_callX hX h rfl rfl rfl (by decide) Try.func59 rfl rfl rfl (fun a w v L1 S1 hR hb1 h => ?_)
          obtain ⟨rfl, rfl, hr36, _⟩ := hR
          refine sMV h (fun a h => ?_)
          refine sX h (x_ext h.k rfl rfl rfl) (fun a h => ?_)
          refine sX h (x_ext h.k rfl rfl rfl) (fun a h => ?_)
          refine sAV h (fun a h => ?_)
          refine sAV h (fun a h => ?_)
          refine l_end ?_
          refine c_rs ?_
          refine sMV h (fun a h => ?_)
          refine l_end ?_
          refine c_cond h rfl (fun hb => ?_) (fun hb => ?_)
          · rw [if_pos hb] at hc27
            refine c_r ?_
            refine sMV h (fun a h => ?_)
            refine sMV h (fun a h => ?_)
            refine q_bslice (T := tyI) (S := S0) h rfl rfl rfl (by decide) Try.underlying51 zi_int (by decide) (by decide) (by decide) (by decide) [.int .i64 x33.1] rfl rfl (C := [[.int .i64 x33.1]]) rfl (xs := [x33.1]) ⟨[.int .i64 x33.1], _, rfl, ⟨rfl, hr36⟩, rfl⟩ (by intro c hc; simp only [List.mem_cons, List.not_mem_nil, or_false] at hc; subst hc; rfl) (fun a w A37 h => ?_)
            have hb38 : reps tyI S0 ([[.int .i64 x33.1]] : List (List Value)).flatten [x33.1] := ⟨[.int .i64 x33.1], _, rfl, ⟨rfl, hr36⟩, rfl⟩
            obtain ⟨x39, h40, hc27⟩ := bsome hc27
            refine q_append (T := tyI) (S := S0) h rfl rfl rfl (by decide) Try.underlying51 zb_int rfl (by decide) rfl 1 rfl hq15 rfl hb38 (h.m.rdRowA (i := 0) rfl) h40 (fun a w A41 c42 cs43 hq44 h => ?_)
            refine sAV h (fun a h => ?_)
            refine l_nil ?_
            refine e_blkN ?_
            refine e_thenN ?_
            have h := h.pick [1, 2] (by decide) rfl
            exact ⟨x39, A41, c42, cs43, (Option.some.inj hc27), hq44, h.has (by exact ⟨rfl, rfl, rfl, rfl, rfl, trivial⟩)⟩
          · rw [if_neg (by rw [hb]; decide)] at hc27
            refine wp_skip ?_
            refine e_blkN ?_
            refine e_thenN ?_
            exact ⟨x11, A12, c13, cs14, (Option.some.inj hc27), hq15, h.has (by exact ⟨rfl, rfl, rfl, rfl, rfl, trivial⟩)⟩
        · rintro a w ⟨x28, A29, c30, cs31, rfl, hq32, h⟩
          refine c_r ?_
          refine sMV h (fun a h => ?_)
          refine sX h (x_bin h.k rfl rfl rfl (ib_add rfl)) (fun a h => ?_)
          refine sAV h (fun a h => ?_)
          refine l_nil ?_
          exact e_thenN ⟨m24, Nat.lt_succ_self _, x28, A29, c30, cs31, w64 (x16 + 1), hl23, hq32, (w64_r _), h.has (by exact ⟨rfl, rfl, rfl, rfl, rfl, trivial⟩)⟩
      · rw [if_neg (of_decide_eq_false hb)] at hl23
        refine wp_exit ?_
        refine e_thenX ?_
        refine e_thenX ?_
        refine e_blkX ?_
        refine e_thenN ?_
        exact ⟨x11, A12, c13, cs14, (Option.some.inj hl23), hq15, h.has (by exact ⟨rfl, trivial⟩)⟩
    · rintro a w ⟨x18, A19, c20, cs21, rfl, hq22, h⟩
      refine e_thenN ?_
      refine c_rs ?_
      refine sMV h (fun a h => ?_)
      refine sAV h (fun a h => ?_)
      refine l_end ?_
      refine wp_ret ?_
      rw [← Option.some.inj hf]
      exact r_ret1 h rfl (rv_tmp h rfl) ⟨_, [.row (.slice A19 x18.length c20) 3 1 x18.length cs21], _, rfl, ⟨A19, c20, cs21, rfl, rfl, hq22, trivial⟩, rfl, (Up.refl _ _ _), h.m⟩
end Go.Proofs.Ytohgmggdfmjgnaa
