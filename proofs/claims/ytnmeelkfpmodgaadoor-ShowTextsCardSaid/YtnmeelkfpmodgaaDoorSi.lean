/- Si: Go functions as plain functions, and that they are so (written by xt.py). -/
import Derived.Test.YtnmeelkfpmodgaaDoorSg
import Derived.Test.YtnmeelkfpmodgaaDoorSh
set_option linter.unusedVariables false
set_option linter.unusedSimpArgs false
namespace Go.Proofs.YtnmeelkfpmodgaaDoor
open Go.RowKit
def chatelainelaw42_ShowTexts_l0 (Fu : Nat) (a0 : Int × (List UInt8) × (List (Int × Int × Int × (List UInt8))) × (List (Int × Int × Int × (List UInt8) × (List (Int × Int)) × (List (List UInt8)) × (List (List UInt8))))) : Nat → Int → Option (Sum Bool Unit)
  | 0, _ => none
  | k + 1, x24 => if x24 < (a0.2.2.2.length : Int) then ((idx a0.2.2.2 x24).bind fun x28 => (if ((decide (40 < (x28.2.2.2.2.1.length : Int))) || (decide (200 < (x28.2.2.2.2.2.2.length : Int)))) = true then some true else (show_Live Fu x28).bind fun x72 => (chatelaineref42_Live Fu x28).bind fun x76 => some (decide (x72 ≠ x76))).bind fun z70 => (if z70 = true then some true else (show_Extents Fu x28.2.2.2.2.1).bind fun x82 => (chatelaineref42_Extents Fu x28.2.2.2.2.1).bind fun x86 => some (!(decide (x82 = x86)))).bind fun z80 => if z80 = true then (some (.inl ((decide (40 < (x28.2.2.2.2.1.length : Int))) || (decide (200 < (x28.2.2.2.2.2.2.length : Int)))))) else (chatelainelaw42_ShowTexts_l0 Fu a0 k (w64 (x24 + 1)))) else (some (.inr ()))
def chatelainelaw42_ShowTexts (Fu : Nat) (a0 : Int × (List UInt8) × (List (Int × Int × Int × (List UInt8))) × (List (Int × Int × Int × (List UInt8) × (List (Int × Int)) × (List (List UInt8)) × (List (List UInt8))))) : Option Bool :=
  (chatelainelaw42_awake Fu).bind fun x17 => if (!x17) = true then (some false) else (if ((decide (20 < (a0.2.2.1.length : Int))) || (decide (20 < (a0.2.2.2.length : Int)))) = true then (some true) else ((chatelainelaw42_ShowTexts_l0 Fu a0 Fu 0).bind fun o => match o with | .inl r100 => some r100 | .inr _ => (show_Text Fu a0).bind fun x92 => (chatelaineref42_Text Fu a0).bind fun x96 => some (decide (x92 = x96))))
set_option maxRecDepth 100000 in
set_option maxHeartbeats 2000000 in
theorem chatelainelaw42_ShowTexts_ok (Fu : Nat) {S0 : Snap} (hGT : GT S0) (csa0 : List Value) (a0 : Int × (List UInt8) × (List (Int × Int × Int × (List UInt8))) × (List (Int × Int × Int × (List UInt8) × (List (Int × Int)) × (List (List UInt8)) × (List (List UInt8))))) (hsa0 : (tyP tyI (tyP (tyA 32 ty8) (tyP (tyL (tyP tyI (tyP tyI (tyP tyI (tyA 32 ty8))))) (tyL (tyP tyI (tyP tyI (tyP tyI (tyP (tyL ty8) (tyP (tyL (tyP tyI tyI)) (tyP (tyL (tyL ty8)) (tyL (tyA 32 ty8)))))))))))).rep S0 csa0 a0) (r : Bool) (hf : chatelainelaw42_ShowTexts Fu a0 = some r) (w0 : World) (hm : Mem w0 (ownL ([] ++ [.sn S0])) ([] ++ [.sn S0]) w0) :
    Calls Tryd.prog 3 #[.agg csa0.toArray] w0 (Ret w0 S0 [] (fun v L1 S1 => v = .bool r ∧ L1 = [] ∧ True)) := by
  unfold chatelainelaw42_ShowTexts at hf
  obtain ⟨k1, k2, rfl, ⟨rfl, hr3⟩, ⟨k4, k5, rfl, ⟨hs6, hl7⟩, ⟨k8, k9, rfl, ⟨A10, c11, rfl, hs12⟩, ⟨A13, c14, rfl, hs15⟩⟩⟩⟩ := hsa0
  refine c_enterM Tryd.func3 rfl 66 rfl (by simp) _ hm _ rfl (fun a h => ?_)
  refine c_rs ?_ -- region 0
  refine s_box h rfl rfl rfl (by decide) rfl (cs := ([.int .i64 a0.1] : List Value) ++ (k4 ++ ([.slice A10 a0.2.2.1.length c11, .slice A13 a0.2.2.2.length c14]))) (by rfl) (fun a w g16 h => ?_)
  refine s_assign h rfl _ rfl rfl (by decide) rfl (fun a h => ?_)
  refine l_end ?_
  refine wp_seq ?_
  refine c_rs ?_ -- region 1
  obtain ⟨x17, h18, hf⟩ := bsome hf
  have hX := chatelainelaw42_awake_ok Fu (S0 := snapAll _) (hGT.mono (h.m.leAll (i := 1) rfl)) _ h18 _ h.startAll
  refine q_callX hX h rfl rfl rfl (by decide) Tryd.func6 rfl rfl rfl (fun a w v L1 S1 hR hb1 h => ?_)
  obtain ⟨rfl, rfl, _⟩ := hR
  refine s_x h rfl rfl (by decide) (x_not h.k rfl rfl) (fun a h => ?_)
  refine l_end ?_
  refine c_cond h rfl (fun hb => ?_) (fun hb => ?_)
  · rw [if_pos hb] at hf
    refine c_rs ?_ -- region 2
    refine s_assign h rfl _ rfl rfl (by decide) rfl (fun a h => ?_)
    refine l_end ?_
    refine wp_ret ?_
    refine e_thenR ?_
    rw [← Option.some.inj hf]
    exact r_ret1 h rfl (rv_tmp h rfl) ⟨_, [], _, rfl, ⟨rfl, rfl, trivial⟩, rfl, (Up.refl _ _ _), (h.m.pick [1] _ (by decide) rfl)⟩
  · rw [if_neg (by rw [hb]; decide)] at hf
    refine wp_skip ?_
    refine e_thenN ?_
    refine wp_seq ?_
    refine c_rs ?_ -- region 3
    refine s_x h rfl rfl (by decide) (x_faddr h.k rfl Tryd.underlying26 rfl sz_Sapi_Tenant rfl) (fun a h => ?_)
    refine s_x h rfl rfl (by decide) (x_ld h.k rfl Tryd.underlying23 rfl rfl ((h.m.cell (i := 0) rfl 33).trans (cell_oneE (X := ([.int .i64 a0.1] : List Value) ++ (k4)) (Z := [.slice A13 a0.2.2.2.length c14]) (off := 33) (u := .slice A10 a0.2.2.1.length c11) (by simp only [List.append_assoc, List.cons_append, List.nil_append, List.append_nil]) (show (([.int .i64 a0.1] : List Value) ++ (k4) : List Value).length = 33 from by simp only [List.length_append, List.length_cons, List.length_nil, (show (k4 : List Value).length = 32 from ((hs6).len.trans (by rw [hl7]; rfl)))])))) (fun a h => ?_)
    refine s_x h rfl rfl (by decide) (x_len h.k rfl Tryd.underlying23 rfl) (fun a h => ?_)
    refine s_x h rfl rfl (by decide) (x_bin h.k rfl rfl rfl ib_gtr) (fun a h => ?_)
    refine s_move h rfl _ rfl rfl (by decide) rfl (fun a h => ?_)
    refine q_grp h 5 (t := 11) 16 ((decide (20 < (a0.2.2.1.length : Int))) || (decide (20 < (a0.2.2.2.length : Int)))) rfl (fun hB4 => ?_) (fun hB4 => ?_) (fun a w h => ?_)
    · refine g_no h rfl rfl rfl rfl hB4 rfl (by decide) (fun a h => ?_)
      refine g_no h rfl rfl rfl rfl hB4 rfl (by decide) (fun a h => ?_)
      refine g_no h rfl rfl rfl rfl hB4 rfl (by decide) (fun a h => ?_)
      refine g_no h rfl rfl rfl rfl hB4 rfl (by decide) (fun a h => ?_)
      refine s_x h rfl rfl (by decide) (x_pick (u' := undef) h.k rfl rfl (fun _ => rfl) (fun hh => absurd (hB4.symm.trans hh) (by decide))) (fun a h => ?_)
      exact (h.mid 4 rfl).val (by first | rfl | (rw [hB4]; first | rfl | simp))
    · refine g_yes h rfl rfl rfl rfl hB4 ?_
      refine s_x h rfl rfl (by decide) (x_faddr h.k rfl Tryd.underlying26 rfl sz_Sapi_Space rfl) (fun a h => ?_)
      refine g_yes h rfl rfl rfl rfl hB4 ?_
      refine s_x h rfl rfl (by decide) (x_ld h.k rfl Tryd.underlying24 rfl rfl ((h.m.cell (i := 0) rfl 34).trans (cell_oneE (X := ([.int .i64 a0.1] : List Value) ++ (k4 ++ ([.slice A10 a0.2.2.1.length c11]))) (Z := []) (off := 34) (u := .slice A13 a0.2.2.2.length c14) (by simp only [List.append_assoc, List.cons_append, List.nil_append, List.append_nil]) (show (([.int .i64 a0.1] : List Value) ++ (k4 ++ ([.slice A10 a0.2.2.1.length c11])) : List Value).length = 34 from by simp only [List.length_append, List.length_cons, List.length_nil, (show (k4 : List Value).length = 32 from ((hs6).len.trans (by rw [hl7]; rfl)))])))) (fun a h => ?_)
      refine g_yes h rfl rfl rfl rfl hB4 ?_
      refine s_x h rfl rfl (by decide) (x_len h.k rfl Tryd.underlying24 rfl) (fun a h => ?_)
      refine g_yes h rfl rfl rfl rfl hB4 ?_
      refine s_x h rfl rfl (by decide) (x_bin h.k rfl rfl rfl ib_gtr) (fun a h => ?_)
      refine s_x h rfl rfl (by decide) (x_pick (u' := undef) h.k rfl rfl (fun hh => absurd (hB4.symm.trans hh) (by decide)) (fun _ => rfl)) (fun a h => ?_)
      exact (h.mid 4 rfl).val (by first | rfl | (rw [hB4]; first | rfl | simp))
    refine l_end ?_
    refine c_cond h rfl (fun hb => ?_) (fun hb => ?_)
    · rw [if_pos hb] at hf
      refine c_rs ?_ -- region 4
      refine s_assign h rfl _ rfl rfl (by decide) rfl (fun a h => ?_)
      refine l_end ?_
      refine wp_ret ?_
      refine e_thenR ?_
      rw [← Option.some.inj hf]
      exact r_ret1 h rfl (rv_tmp h rfl) ⟨_, [], _, rfl, ⟨rfl, rfl, trivial⟩, rfl, (Up.refl _ _ _), (h.m.pick [1] _ (by decide) rfl)⟩
    · rw [if_neg (by rw [hb]; decide)] at hf
      refine wp_skip ?_
      refine e_thenN ?_
      refine wp_seq ?_
      refine c_rs ?_ -- region 5
      refine s_x h rfl rfl (by decide) (x_faddr h.k rfl Tryd.underlying26 rfl sz_Sapi_Space rfl) (fun a h => ?_)
      refine s_x h rfl rfl (by decide) (x_ld h.k rfl Tryd.underlying24 rfl rfl ((h.m.cell (i := 0) rfl 34).trans (cell_oneE (X := ([.int .i64 a0.1] : List Value) ++ (k4 ++ ([.slice A10 a0.2.2.1.length c11]))) (Z := []) (off := 34) (u := .slice A13 a0.2.2.2.length c14) (by simp only [List.append_assoc, List.cons_append, List.nil_append, List.append_nil]) (show (([.int .i64 a0.1] : List Value) ++ (k4 ++ ([.slice A10 a0.2.2.1.length c11])) : List Value).length = 34 from by simp only [List.length_append, List.length_cons, List.length_nil, (show (k4 : List Value).length = 32 from ((hs6).len.trans (by rw [hl7]; rfl)))])))) (fun a h => ?_)
      refine s_x h rfl rfl (by decide) (x_len h.k rfl Tryd.underlying24 rfl) (fun a h => ?_)
      refine s_move h rfl _ rfl rfl (by decide) rfl (fun a h => ?_)
      refine l_end ?_
      obtain ⟨o22, hl23, hf⟩ := bsome hf
      refine c_fin (fun a w => (.inr ()) = o22 ∧ St 66 w0 (ownL ([] ++ [.sn S0])) [(1, .pointer (some ⟨g16, 0, none⟩))] [.box g16 26 (([.int .i64 a0.1] : List Value) ++ (k4 ++ ([.slice A10 a0.2.2.1.length c11, .slice A13 a0.2.2.2.length c14]))), .sn S0] a w) ?_ ?_
      · refine wp_block ?_
        refine c_loop (fun m27 a w => ∃ (x24 : Int), chatelainelaw42_ShowTexts_l0 Fu a0 m27 x24 = some o22 ∧ r64 x24 ∧ St 66 w0 (ownL ([] ++ [.sn S0])) [(1, .pointer (some ⟨g16, 0, none⟩)), (18, .slice A13 a0.2.2.2.length c14), (19, .int .i64 (a0.2.2.2.length : Int)), (20, .int .i64 x24)] [.box g16 26 (([.int .i64 a0.1] : List Value) ++ (k4 ++ ([.slice A10 a0.2.2.1.length c11, .slice A13 a0.2.2.2.length c14]))), .sn S0] a w) Fu ⟨0, hl23, (show r64 0 from ⟨by decide, by decide⟩), h.has (by exact ⟨rfl, rfl, rfl, rfl, trivial⟩)⟩ (fun m27 a w hI => ?_)
        obtain ⟨x24, hl26, hr25, h⟩ := hI
        obtain _ | m27 := m27
        · rw [chatelainelaw42_ShowTexts_l0] at hl26; cases hl26
        rw [chatelainelaw42_ShowTexts_l0] at hl26
        refine c_rs ?_ -- region 6
        refine s_x h rfl rfl (by decide) (x_bin h.k rfl rfl rfl ib_lss) (fun a h => ?_)
        refine l_end ?_
        refine c_cs h rfl (fun hb => ?_) (fun hb => ?_)
        · rw [if_pos (of_decide_eq_true hb)] at hl26
          refine wp_skip ?_
          refine e_thenN ?_
          refine wp_seq ?_
          refine wp_block ?_
          refine c_rs ?_ -- region 7
          obtain ⟨x28, h32, hl26⟩ := bsome hl26
          obtain ⟨m29, hi33, hm34, hx35⟩ := idx_some h32
          obtain ⟨b30, off31, k36, hA37, hu38, hc39⟩ := (hs15).at (by decide) hx35 (h.m.snOK (i := 1) rfl)
          obtain ⟨k40, k41, rfl, ⟨rfl, hr42⟩, ⟨k43, k44, rfl, ⟨rfl, hr45⟩, ⟨k46, k47, rfl, ⟨rfl, hr48⟩, ⟨k49, k50, rfl, ⟨A51, c52, rfl, hs53⟩, ⟨k54, k55, rfl, ⟨A56, c57, rfl, hs58⟩, ⟨k59, k60, rfl, ⟨A61, c62, rfl, hs63⟩, ⟨A64, c65, rfl, hs66⟩⟩⟩⟩⟩⟩⟩ := hu38
          refine s_x h rfl rfl (by decide) (x_iaddrE h.k rfl Tryd.underlying24 sz_api_Space hA37 rfl rfl hi33 hm34) (fun a h => ?_)
          refine s_x h rfl rfl (by decide) (x_ldR h.k rfl ag_api_Space rfl ([.int .i64 x28.1, .int .i64 x28.2.1, .int .i64 x28.2.2.1, .slice A51 x28.2.2.2.1.length c52, .slice A56 x28.2.2.2.2.1.length c57, .slice A61 x28.2.2.2.2.2.1.length c62, .slice A64 x28.2.2.2.2.2.2.length c65]) rfl (hc39 _ (h.m.snOK (i := 1) rfl))) (fun a h => ?_)
          refine s_alloc h rfl rfl rfl (by decide) zi_api_Space rfl (fun a w g67 h => ?_)
          refine s_stW h rfl rfl rfl ag_api_Space rfl (es := [.int .i64 x28.1, .int .i64 x28.2.1, .int .i64 x28.2.2.1, .slice A51 x28.2.2.2.1.length c52, .slice A56 x28.2.2.2.2.1.length c57, .slice A61 x28.2.2.2.2.2.1.length c62, .slice A64 x28.2.2.2.2.2.2.length c65]) rfl rfl (by simp [Value.oneCell']) 0 rfl rfl (fun a w h => ?_)
          refine l_end ?_
          refine wp_seq ?_
          -- region 8 draws
          obtain ⟨z70, hz71, hl26⟩ := bsome hl26
          obtain ⟨z80, hz81, hl26⟩ := bsome hl26
          refine c_fin (fun a w => St 66 w0 (ownL ([] ++ [.sn S0])) [(1, .pointer (some ⟨g16, 0, none⟩)), (4, .pointer (some ⟨g67, 0, none⟩)), (18, .slice A13 a0.2.2.2.length c14), (19, .int .i64 (a0.2.2.2.length : Int)), (20, .int .i64 x24), (49, .bool z80)] [.box g16 26 (([.int .i64 a0.1] : List Value) ++ (k4 ++ ([.slice A10 a0.2.2.1.length c11, .slice A13 a0.2.2.2.length c14]))), .box g67 33 ([.int .i64 x28.1, .int .i64 x28.2.1, .int .i64 x28.2.2.1, .slice A51 x28.2.2.2.1.length c52, .slice A56 x28.2.2.2.2.1.length c57, .slice A61 x28.2.2.2.2.2.1.length c62, .slice A64 x28.2.2.2.2.2.2.length c65]), .sn S0] a w) ?_ (fun a w h => ?_)
          · refine d_start h (Mem _ _ _) 26 26 rfl (by kernel_rfl) (fun _ _ _ _ _ h => h) (fun _ h => h) (fun Q a w HE HN h HS => ?_)
            refine d_takeP h (fun _ => HS) HN 0 rfl (by kernel_rfl) (by kernel_rfl) (by kernel_rfl) (by decide) rfl rfl (by decide) (fun w' => x_faddr h.k rfl Tryd.underlying33 rfl sz_Sapi_Extent rfl) (fun a h => ?_)
            refine d_take h HS HN 1 rfl (by kernel_rfl) (by kernel_rfl) (by kernel_rfl) (by kernel_rfl) (by kernel_rfl) rfl rfl (by decide) (fun w' hw => x_ld h.k rfl Tryd.underlying29 rfl rfl ((hw.cell (i := 0) rfl 4).trans rfl)) (fun a h => ?_)
            refine d_takeP h (fun _ => HS) HN 2 rfl (by kernel_rfl) (by kernel_rfl) (by kernel_rfl) (by decide) rfl rfl (by decide) (fun w' => x_len h.k rfl Tryd.underlying29 rfl) (fun a h => ?_)
            refine d_takeP h (fun _ => HS) HN 3 rfl (by kernel_rfl) (by kernel_rfl) (by kernel_rfl) (by decide) rfl rfl (by decide) (fun w' => x_bin h.k rfl rfl rfl ib_gtr) (fun a h => ?_)
            refine d_takeP h (fun _ => HS) HN 4 rfl (by kernel_rfl) (by kernel_rfl) (by kernel_rfl) (by decide) rfl rfl (by decide) (fun w' => x_move h.k _ rfl rfl) (fun a h => ?_)
            refine d_split (t := 28) h rfl (fun hB4 => ?_) (fun hB4 => ?_)
            · refine d_takeNP h (fun _ => HS) HN 5 rfl (by kernel_rfl) (by kernel_rfl) (by kernel_rfl) (by decide) (by rw [g_want h rfl rfl rfl rfl hB4]; rfl) rfl (by decide) (fun a h => ?_)
              refine d_takeNP h (fun _ => HS) HN 6 rfl (by kernel_rfl) (by kernel_rfl) (by kernel_rfl) (by decide) (by rw [g_want h rfl rfl rfl rfl hB4]; rfl) rfl (by decide) (fun a h => ?_)
              refine d_takeNP h (fun _ => HS) HN 7 rfl (by kernel_rfl) (by kernel_rfl) (by kernel_rfl) (by decide) (by rw [g_want h rfl rfl rfl rfl hB4]; rfl) rfl (by decide) (fun a h => ?_)
              refine d_takeNP h (fun _ => HS) HN 8 rfl (by kernel_rfl) (by kernel_rfl) (by kernel_rfl) (by decide) (by rw [g_want h rfl rfl rfl rfl hB4]; rfl) rfl (by decide) (fun a h => ?_)
              refine d_takeP h (fun _ => HS) HN 9 rfl (by kernel_rfl) (by kernel_rfl) (by kernel_rfl) (by decide) rfl rfl (by decide) (fun w' => x_pick (v := .bool ((decide (40 < (x28.2.2.2.2.1.length : Int))) || (decide (200 < (x28.2.2.2.2.2.2.length : Int))))) (u' := undef) h.k rfl rfl (fun _ => by rw [hB4]; first | rfl | simp [ev, List.lookup]) (fun hh => absurd (hB4.symm.trans hh) (by decide))) (fun a h => ?_)
              refine d_takeP h (fun _ => HS) HN 10 rfl (by kernel_rfl) (by kernel_rfl) (by kernel_rfl) (by decide) rfl rfl (by decide) (fun w' => x_move h.k _ rfl rfl) (fun a h => ?_)
              have hB10 : ((decide (40 < (x28.2.2.2.2.1.length : Int))) || (decide (200 < (x28.2.2.2.2.2.2.length : Int)))) = true := (by rw [hB4]; first | rfl | simp)
              rw [if_pos hB10] at hz71
              refine d_takeNP h (fun _ => HS) HN 11 rfl (by kernel_rfl) (by kernel_rfl) (by kernel_rfl) (by decide) (by rw [g_want h rfl rfl rfl rfl hB10]; rfl) rfl (by decide) (fun a h => ?_)
              refine d_takeNP h (fun _ => HS) HN 12 rfl (by kernel_rfl) (by kernel_rfl) (by kernel_rfl) (by decide) (by rw [g_want h rfl rfl rfl rfl hB10]; rfl) rfl (by decide) (fun a h => ?_)
              refine d_takeNP h (fun _ => HS) HN 13 rfl (by kernel_rfl) (by kernel_rfl) (by kernel_rfl) (by decide) (by rw [g_want h rfl rfl rfl rfl hB10]; rfl) rfl (by decide) (fun a h => ?_)
              refine d_takeNP h (fun _ => HS) HN 14 rfl (by kernel_rfl) (by kernel_rfl) (by kernel_rfl) (by decide) (by rw [g_want h rfl rfl rfl rfl hB10]; rfl) rfl (by decide) (fun a h => ?_)
              refine d_takeNP h (fun _ => HS) HN 15 rfl (by kernel_rfl) (by kernel_rfl) (by kernel_rfl) (by decide) (by rw [g_want h rfl rfl rfl rfl hB10]; rfl) rfl (by decide) (fun a h => ?_)
              refine d_takeP h (fun _ => HS) HN 16 rfl (by kernel_rfl) (by kernel_rfl) (by kernel_rfl) (by decide) rfl rfl (by decide) (fun w' => x_pick (v := .bool z70) (u' := undef) h.k rfl rfl (fun _ => by rw [← Option.some.inj hz71]; rfl) (fun hh => absurd (hB10.symm.trans hh) (by decide))) (fun a h => ?_)
              refine d_takeP h (fun _ => HS) HN 17 rfl (by kernel_rfl) (by kernel_rfl) (by kernel_rfl) (by decide) rfl rfl (by decide) (fun w' => x_move h.k _ rfl rfl) (fun a h => ?_)
              have hB17 : z70 = true := (Option.some.inj hz71).symm
              rw [if_pos hB17] at hz81
              refine d_takeNP h (fun _ => HS) HN 18 rfl (by kernel_rfl) (by kernel_rfl) (by kernel_rfl) (by decide) (by rw [g_want h rfl rfl rfl rfl hB17]; rfl) rfl (by decide) (fun a h => ?_)
              refine d_takeNP h (fun _ => HS) HN 19 rfl (by kernel_rfl) (by kernel_rfl) (by kernel_rfl) (by decide) (by rw [g_want h rfl rfl rfl rfl hB17]; rfl) rfl (by decide) (fun a h => ?_)
              refine d_takeNP h (fun _ => HS) HN 20 rfl (by kernel_rfl) (by kernel_rfl) (by kernel_rfl) (by decide) (by rw [g_want h rfl rfl rfl rfl hB17]; rfl) rfl (by decide) (fun a h => ?_)
              refine d_takeNP h (fun _ => HS) HN 21 rfl (by kernel_rfl) (by kernel_rfl) (by kernel_rfl) (by decide) (by rw [g_want h rfl rfl rfl rfl hB17]; rfl) rfl (by decide) (fun a h => ?_)
              refine d_takeNP h (fun _ => HS) HN 22 rfl (by kernel_rfl) (by kernel_rfl) (by kernel_rfl) (by decide) (by rw [g_want h rfl rfl rfl rfl hB17]; rfl) rfl (by decide) (fun a h => ?_)
              refine d_takeNP h (fun _ => HS) HN 23 rfl (by kernel_rfl) (by kernel_rfl) (by kernel_rfl) (by decide) (by rw [g_want h rfl rfl rfl rfl hB17]; rfl) rfl (by decide) (fun a h => ?_)
              refine d_takeNP h (fun _ => HS) HN 24 rfl (by kernel_rfl) (by kernel_rfl) (by kernel_rfl) (by decide) (by rw [g_want h rfl rfl rfl rfl hB17]; rfl) rfl (by decide) (fun a h => ?_)
              refine d_takeP h (fun _ => HS) HN 25 rfl (by kernel_rfl) (by kernel_rfl) (by kernel_rfl) (by decide) rfl rfl (by decide) (fun w' => x_pick (v := .bool z80) (u' := undef) h.k rfl rfl (fun _ => by rw [← Option.some.inj hz81]; rfl) (fun hh => absurd (hB17.symm.trans hh) (by decide))) (fun a h => ?_)
              refine d_done (by kernel_rfl) (HE _ _ ?_) _
              refine e_thenN ?_
              have h := h.pick [1, 0, 2] (by decide) rfl
              exact h.has (by exact ⟨rfl, rfl, rfl, rfl, rfl, rfl, trivial⟩)
            · refine d_takeP h (fun _ => HS) HN 5 rfl (by kernel_rfl) (by kernel_rfl) (by kernel_rfl) (by decide) (by rw [g_want h rfl rfl rfl rfl hB4]; rfl) rfl (by decide) (fun w' => x_faddr h.k rfl Tryd.underlying33 rfl sz_SA32_uint8 rfl) (fun a h => ?_)
              refine d_takeY h HS HN 6 rfl (by kernel_rfl) (by kernel_rfl) (by kernel_rfl) (by kernel_rfl) (by kernel_rfl) (by rw [g_want h rfl rfl rfl rfl hB4]; rfl) rfl (by decide) (fun w' hw => x_ld h.k rfl Tryd.underlying31 rfl rfl ((hw.cell (i := 0) rfl 6).trans rfl)) (fun a h => ?_)
              refine d_takeP h (fun _ => HS) HN 7 rfl (by kernel_rfl) (by kernel_rfl) (by kernel_rfl) (by decide) (by rw [g_want h rfl rfl rfl rfl hB4]; rfl) rfl (by decide) (fun w' => x_len h.k rfl Tryd.underlying31 rfl) (fun a h => ?_)
              refine d_takeP h (fun _ => HS) HN 8 rfl (by kernel_rfl) (by kernel_rfl) (by kernel_rfl) (by decide) (by rw [g_want h rfl rfl rfl rfl hB4]; rfl) rfl (by decide) (fun w' => x_bin h.k rfl rfl rfl ib_gtr) (fun a h => ?_)
              refine d_takeP h (fun _ => HS) HN 9 rfl (by kernel_rfl) (by kernel_rfl) (by kernel_rfl) (by decide) rfl rfl (by decide) (fun w' => x_pick (v := .bool ((decide (40 < (x28.2.2.2.2.1.length : Int))) || (decide (200 < (x28.2.2.2.2.2.2.length : Int))))) (u' := undef) h.k rfl rfl (fun hh => absurd (hB4.symm.trans hh) (by decide)) (fun _ => by rw [hB4]; first | rfl | simp [ev, List.lookup])) (fun a h => ?_)
              refine d_takeP h (fun _ => HS) HN 10 rfl (by kernel_rfl) (by kernel_rfl) (by kernel_rfl) (by decide) rfl rfl (by decide) (fun w' => x_move h.k _ rfl rfl) (fun a h => ?_)
              refine d_split (t := 34) h rfl (fun hB10 => ?_) (fun hB10 => ?_)
              · rw [if_pos hB10] at hz71
                refine d_takeNP h (fun _ => HS) HN 11 rfl (by kernel_rfl) (by kernel_rfl) (by kernel_rfl) (by decide) (by rw [g_want h rfl rfl rfl rfl hB10]; rfl) rfl (by decide) (fun a h => ?_)
                refine d_takeNP h (fun _ => HS) HN 12 rfl (by kernel_rfl) (by kernel_rfl) (by kernel_rfl) (by decide) (by rw [g_want h rfl rfl rfl rfl hB10]; rfl) rfl (by decide) (fun a h => ?_)
                refine d_takeNP h (fun _ => HS) HN 13 rfl (by kernel_rfl) (by kernel_rfl) (by kernel_rfl) (by decide) (by rw [g_want h rfl rfl rfl rfl hB10]; rfl) rfl (by decide) (fun a h => ?_)
                refine d_takeNP h (fun _ => HS) HN 14 rfl (by kernel_rfl) (by kernel_rfl) (by kernel_rfl) (by decide) (by rw [g_want h rfl rfl rfl rfl hB10]; rfl) rfl (by decide) (fun a h => ?_)
                refine d_takeNP h (fun _ => HS) HN 15 rfl (by kernel_rfl) (by kernel_rfl) (by kernel_rfl) (by decide) (by rw [g_want h rfl rfl rfl rfl hB10]; rfl) rfl (by decide) (fun a h => ?_)
                refine d_takeP h (fun _ => HS) HN 16 rfl (by kernel_rfl) (by kernel_rfl) (by kernel_rfl) (by decide) rfl rfl (by decide) (fun w' => x_pick (v := .bool z70) (u' := undef) h.k rfl rfl (fun _ => by rw [← Option.some.inj hz71]; rfl) (fun hh => absurd (hB10.symm.trans hh) (by decide))) (fun a h => ?_)
                refine d_takeP h (fun _ => HS) HN 17 rfl (by kernel_rfl) (by kernel_rfl) (by kernel_rfl) (by decide) rfl rfl (by decide) (fun w' => x_move h.k _ rfl rfl) (fun a h => ?_)
                have hB17 : z70 = true := (Option.some.inj hz71).symm
                rw [if_pos hB17] at hz81
                refine d_takeNP h (fun _ => HS) HN 18 rfl (by kernel_rfl) (by kernel_rfl) (by kernel_rfl) (by decide) (by rw [g_want h rfl rfl rfl rfl hB17]; rfl) rfl (by decide) (fun a h => ?_)
                refine d_takeNP h (fun _ => HS) HN 19 rfl (by kernel_rfl) (by kernel_rfl) (by kernel_rfl) (by decide) (by rw [g_want h rfl rfl rfl rfl hB17]; rfl) rfl (by decide) (fun a h => ?_)
                refine d_takeNP h (fun _ => HS) HN 20 rfl (by kernel_rfl) (by kernel_rfl) (by kernel_rfl) (by decide) (by rw [g_want h rfl rfl rfl rfl hB17]; rfl) rfl (by decide) (fun a h => ?_)
                refine d_takeNP h (fun _ => HS) HN 21 rfl (by kernel_rfl) (by kernel_rfl) (by kernel_rfl) (by decide) (by rw [g_want h rfl rfl rfl rfl hB17]; rfl) rfl (by decide) (fun a h => ?_)
                refine d_takeNP h (fun _ => HS) HN 22 rfl (by kernel_rfl) (by kernel_rfl) (by kernel_rfl) (by decide) (by rw [g_want h rfl rfl rfl rfl hB17]; rfl) rfl (by decide) (fun a h => ?_)
                refine d_takeNP h (fun _ => HS) HN 23 rfl (by kernel_rfl) (by kernel_rfl) (by kernel_rfl) (by decide) (by rw [g_want h rfl rfl rfl rfl hB17]; rfl) rfl (by decide) (fun a h => ?_)
                refine d_takeNP h (fun _ => HS) HN 24 rfl (by kernel_rfl) (by kernel_rfl) (by kernel_rfl) (by decide) (by rw [g_want h rfl rfl rfl rfl hB17]; rfl) rfl (by decide) (fun a h => ?_)
                refine d_takeP h (fun _ => HS) HN 25 rfl (by kernel_rfl) (by kernel_rfl) (by kernel_rfl) (by decide) rfl rfl (by decide) (fun w' => x_pick (v := .bool z80) (u' := undef) h.k rfl rfl (fun _ => by rw [← Option.some.inj hz81]; rfl) (fun hh => absurd (hB17.symm.trans hh) (by decide))) (fun a h => ?_)
                refine d_done (by kernel_rfl) (HE _ _ ?_) _
                refine e_thenN ?_
                have h := h.pick [1, 0, 2] (by decide) rfl
                exact h.has (by exact ⟨rfl, rfl, rfl, rfl, rfl, rfl, trivial⟩)
              · rw [if_neg (by rw [hB10]; decide)] at hz71
                obtain ⟨x72, h73, hz71⟩ := bsome hz71
                obtain ⟨x76, h77, hz71⟩ := bsome hz71
                refine d_takeY h HS HN 11 rfl (by kernel_rfl) (by kernel_rfl) (by kernel_rfl) (by kernel_rfl) (by kernel_rfl) (by rw [g_want h rfl rfl rfl rfl hB10]; rfl) rfl (by decide) (fun w' hw => x_ldR h.k rfl ag_api_Space rfl ([.int .i64 x28.1, .int .i64 x28.2.1, .int .i64 x28.2.2.1, .slice A51 x28.2.2.2.1.length c52, .slice A56 x28.2.2.2.2.1.length c57, .slice A61 x28.2.2.2.2.2.1.length c62, .slice A64 x28.2.2.2.2.2.2.length c65]) rfl (hw.range0 (i := 0) rfl)) (fun a h => ?_)
                refine d_takeY h HS HN 13 rfl (by kernel_rfl) (by kernel_rfl) (by kernel_rfl) (by kernel_rfl) (by kernel_rfl) (by rw [g_want h rfl rfl rfl rfl hB10]; rfl) rfl (by decide) (fun w' hw => x_ldR h.k rfl ag_api_Space rfl ([.int .i64 x28.1, .int .i64 x28.2.1, .int .i64 x28.2.2.1, .slice A51 x28.2.2.2.1.length c52, .slice A56 x28.2.2.2.2.1.length c57, .slice A61 x28.2.2.2.2.2.1.length c62, .slice A64 x28.2.2.2.2.2.2.length c65]) rfl (hw.range0 (i := 0) rfl)) (fun a h => ?_)
                refine d_alone 12 rfl (by kernel_rfl) (fun K hK => ?_)
                refine g_yes (j := 10) (t := 34) h rfl rfl rfl rfl hB10 ?_
                have hX := show_Live_ok Fu (S0 := snapAll _) ([.int .i64 x28.1, .int .i64 x28.2.1, .int .i64 x28.2.2.1, .slice A51 x28.2.2.2.1.length c52, .slice A56 x28.2.2.2.2.1.length c57, .slice A61 x28.2.2.2.2.2.1.length c62, .slice A64 x28.2.2.2.2.2.2.length c65]) x28 ((tyP tyI (tyP tyI (tyP tyI (tyP (tyL ty8) (tyP (tyL (tyP tyI tyI)) (tyP (tyL (tyL ty8)) (tyL (tyA 32 ty8)))))))).mono (h.m.leAll (i := 2) rfl) (show (tyP tyI (tyP tyI (tyP tyI (tyP (tyL ty8) (tyP (tyL (tyP tyI tyI)) (tyP (tyL (tyL ty8)) (tyL (tyA 32 ty8)))))))).rep S0 ([.int .i64 x28.1, .int .i64 x28.2.1, .int .i64 x28.2.2.1, .slice A51 x28.2.2.2.1.length c52, .slice A56 x28.2.2.2.2.1.length c57, .slice A61 x28.2.2.2.2.2.1.length c62, .slice A64 x28.2.2.2.2.2.2.length c65]) x28 from ⟨[.int .i64 x28.1], [.int .i64 x28.2.1, .int .i64 x28.2.2.1, .slice A51 x28.2.2.2.1.length c52, .slice A56 x28.2.2.2.2.1.length c57, .slice A61 x28.2.2.2.2.2.1.length c62, .slice A64 x28.2.2.2.2.2.2.length c65], rfl, ⟨rfl, hr42⟩, ⟨[.int .i64 x28.2.1], [.int .i64 x28.2.2.1, .slice A51 x28.2.2.2.1.length c52, .slice A56 x28.2.2.2.2.1.length c57, .slice A61 x28.2.2.2.2.2.1.length c62, .slice A64 x28.2.2.2.2.2.2.length c65], rfl, ⟨rfl, hr45⟩, ⟨[.int .i64 x28.2.2.1], [.slice A51 x28.2.2.2.1.length c52, .slice A56 x28.2.2.2.2.1.length c57, .slice A61 x28.2.2.2.2.2.1.length c62, .slice A64 x28.2.2.2.2.2.2.length c65], rfl, ⟨rfl, hr48⟩, ⟨[.slice A51 x28.2.2.2.1.length c52], [.slice A56 x28.2.2.2.2.1.length c57, .slice A61 x28.2.2.2.2.2.1.length c62, .slice A64 x28.2.2.2.2.2.2.length c65], rfl, ⟨_, _, rfl, hs53⟩, ⟨[.slice A56 x28.2.2.2.2.1.length c57], [.slice A61 x28.2.2.2.2.2.1.length c62, .slice A64 x28.2.2.2.2.2.2.length c65], rfl, ⟨_, _, rfl, hs58⟩, ⟨[.slice A61 x28.2.2.2.2.2.1.length c62], [.slice A64 x28.2.2.2.2.2.2.length c65], rfl, ⟨_, _, rfl, hs63⟩, ⟨_, _, rfl, hs66⟩⟩⟩⟩⟩⟩⟩)) _ h73 _ h.startAll
                refine q_callX hX h rfl rfl rfl (by decide) Tryd.func7 rfl rfl rfl (fun a w v L1 S1 hR hb1 h => ?_)
                obtain ⟨rfl, rfl, hr75, _⟩ := hR
                refine hK _ _ (fun _ _ => HS.ext hb1) ?_
                replace HS := HS.ext hb1
                clear hK
                refine d_alone 14 rfl (by kernel_rfl) (fun K hK => ?_)
                refine g_yes (j := 10) (t := 34) h rfl rfl rfl rfl hB10 ?_
                have hX := chatelaineref42_Live_ok Fu (S0 := snapAll _) ([.int .i64 x28.1, .int .i64 x28.2.1, .int .i64 x28.2.2.1, .slice A51 x28.2.2.2.1.length c52, .slice A56 x28.2.2.2.2.1.length c57, .slice A61 x28.2.2.2.2.2.1.length c62, .slice A64 x28.2.2.2.2.2.2.length c65]) x28 ((tyP tyI (tyP tyI (tyP tyI (tyP (tyL ty8) (tyP (tyL (tyP tyI tyI)) (tyP (tyL (tyL ty8)) (tyL (tyA 32 ty8)))))))).mono (h.m.leAll (i := 2) rfl) (show (tyP tyI (tyP tyI (tyP tyI (tyP (tyL ty8) (tyP (tyL (tyP tyI tyI)) (tyP (tyL (tyL ty8)) (tyL (tyA 32 ty8)))))))).rep S0 ([.int .i64 x28.1, .int .i64 x28.2.1, .int .i64 x28.2.2.1, .slice A51 x28.2.2.2.1.length c52, .slice A56 x28.2.2.2.2.1.length c57, .slice A61 x28.2.2.2.2.2.1.length c62, .slice A64 x28.2.2.2.2.2.2.length c65]) x28 from ⟨[.int .i64 x28.1], [.int .i64 x28.2.1, .int .i64 x28.2.2.1, .slice A51 x28.2.2.2.1.length c52, .slice A56 x28.2.2.2.2.1.length c57, .slice A61 x28.2.2.2.2.2.1.length c62, .slice A64 x28.2.2.2.2.2.2.length c65], rfl, ⟨rfl, hr42⟩, ⟨[.int .i64 x28.2.1], [.int .i64 x28.2.2.1, .slice A51 x28.2.2.2.1.length c52, .slice A56 x28.2.2.2.2.1.length c57, .slice A61 x28.2.2.2.2.2.1.length c62, .slice A64 x28.2.2.2.2.2.2.length c65], rfl, ⟨rfl, hr45⟩, ⟨[.int .i64 x28.2.2.1], [.slice A51 x28.2.2.2.1.length c52, .slice A56 x28.2.2.2.2.1.length c57, .slice A61 x28.2.2.2.2.2.1.length c62, .slice A64 x28.2.2.2.2.2.2.length c65], rfl, ⟨rfl, hr48⟩, ⟨[.slice A51 x28.2.2.2.1.length c52], [.slice A56 x28.2.2.2.2.1.length c57, .slice A61 x28.2.2.2.2.2.1.length c62, .slice A64 x28.2.2.2.2.2.2.length c65], rfl, ⟨_, _, rfl, hs53⟩, ⟨[.slice A56 x28.2.2.2.2.1.length c57], [.slice A61 x28.2.2.2.2.2.1.length c62, .slice A64 x28.2.2.2.2.2.2.length c65], rfl, ⟨_, _, rfl, hs58⟩, ⟨[.slice A61 x28.2.2.2.2.2.1.length c62], [.slice A64 x28.2.2.2.2.2.2.length c65], rfl, ⟨_, _, rfl, hs63⟩, ⟨_, _, rfl, hs66⟩⟩⟩⟩⟩⟩⟩)) _ h77 _ h.startAll
                refine q_callX hX h rfl rfl rfl (by decide) Tryd.func8 rfl rfl rfl (fun a w v L1 S1 hR hb1 h => ?_)
                obtain ⟨rfl, rfl, hr79, _⟩ := hR
                refine hK _ _ (fun _ _ => HS.ext hb1) ?_
                replace HS := HS.ext hb1
                clear hK
                refine d_takeP h (fun _ => HS) HN 15 rfl (by kernel_rfl) (by kernel_rfl) (by kernel_rfl) (by decide) (by rw [g_want h rfl rfl rfl rfl hB10]; rfl) rfl (by decide) (fun w' => x_bin h.k rfl rfl rfl ib_neq) (fun a h => ?_)
                refine d_takeP h (fun _ => HS) HN 16 rfl (by kernel_rfl) (by kernel_rfl) (by kernel_rfl) (by decide) rfl rfl (by decide) (fun w' => x_pick (v := .bool z70) (u' := undef) h.k rfl rfl (fun hh => absurd (hB10.symm.trans hh) (by decide)) (fun _ => by rw [← Option.some.inj hz71]; rfl)) (fun a h => ?_)
                refine d_takeP h (fun _ => HS) HN 17 rfl (by kernel_rfl) (by kernel_rfl) (by kernel_rfl) (by decide) rfl rfl (by decide) (fun w' => x_move h.k _ rfl rfl) (fun a h => ?_)
                refine d_split (t := 41) h rfl (fun hB17 => ?_) (fun hB17 => ?_)
                · rw [if_pos hB17] at hz81
                  refine d_takeNP h (fun _ => HS) HN 18 rfl (by kernel_rfl) (by kernel_rfl) (by kernel_rfl) (by decide) (by rw [g_want h rfl rfl rfl rfl hB17]; rfl) rfl (by decide) (fun a h => ?_)
                  refine d_takeNP h (fun _ => HS) HN 19 rfl (by kernel_rfl) (by kernel_rfl) (by kernel_rfl) (by decide) (by rw [g_want h rfl rfl rfl rfl hB17]; rfl) rfl (by decide) (fun a h => ?_)
                  refine d_takeNP h (fun _ => HS) HN 20 rfl (by kernel_rfl) (by kernel_rfl) (by kernel_rfl) (by decide) (by rw [g_want h rfl rfl rfl rfl hB17]; rfl) rfl (by decide) (fun a h => ?_)
                  refine d_takeNP h (fun _ => HS) HN 21 rfl (by kernel_rfl) (by kernel_rfl) (by kernel_rfl) (by decide) (by rw [g_want h rfl rfl rfl rfl hB17]; rfl) rfl (by decide) (fun a h => ?_)
                  refine d_takeNP h (fun _ => HS) HN 22 rfl (by kernel_rfl) (by kernel_rfl) (by kernel_rfl) (by decide) (by rw [g_want h rfl rfl rfl rfl hB17]; rfl) rfl (by decide) (fun a h => ?_)
                  refine d_takeNP h (fun _ => HS) HN 23 rfl (by kernel_rfl) (by kernel_rfl) (by kernel_rfl) (by decide) (by rw [g_want h rfl rfl rfl rfl hB17]; rfl) rfl (by decide) (fun a h => ?_)
                  refine d_takeNP h (fun _ => HS) HN 24 rfl (by kernel_rfl) (by kernel_rfl) (by kernel_rfl) (by decide) (by rw [g_want h rfl rfl rfl rfl hB17]; rfl) rfl (by decide) (fun a h => ?_)
                  refine d_takeP h (fun _ => HS) HN 25 rfl (by kernel_rfl) (by kernel_rfl) (by kernel_rfl) (by decide) rfl rfl (by decide) (fun w' => x_pick (v := .bool z80) (u' := undef) h.k rfl rfl (fun _ => by rw [← Option.some.inj hz81]; rfl) (fun hh => absurd (hB17.symm.trans hh) (by decide))) (fun a h => ?_)
                  refine d_done (by kernel_rfl) (HE _ _ ?_) _
                  refine e_thenN ?_
                  have h := h.pick [1, 0, 2] (by decide) rfl
                  exact h.has (by exact ⟨rfl, rfl, rfl, rfl, rfl, rfl, trivial⟩)
                · rw [if_neg (by rw [hB17]; decide)] at hz81
                  obtain ⟨x82, h83, hz81⟩ := bsome hz81
                  obtain ⟨x86, h87, hz81⟩ := bsome hz81
                  refine d_takeP h (fun _ => HS) HN 18 rfl (by kernel_rfl) (by kernel_rfl) (by kernel_rfl) (by decide) (by rw [g_want h rfl rfl rfl rfl hB17]; rfl) rfl (by decide) (fun w' => x_faddr h.k rfl Tryd.underlying33 rfl sz_Sapi_Extent rfl) (fun a h => ?_)
                  refine d_takeY h HS HN 19 rfl (by kernel_rfl) (by kernel_rfl) (by kernel_rfl) (by kernel_rfl) (by kernel_rfl) (by rw [g_want h rfl rfl rfl rfl hB17]; rfl) rfl (by decide) (fun w' hw => x_ld h.k rfl Tryd.underlying29 rfl rfl ((hw.cell (i := 0) rfl 4).trans rfl)) (fun a h => ?_)
                  refine d_takeP h (fun _ => HS) HN 21 rfl (by kernel_rfl) (by kernel_rfl) (by kernel_rfl) (by decide) (by rw [g_want h rfl rfl rfl rfl hB17]; rfl) rfl (by decide) (fun w' => x_faddr h.k rfl Tryd.underlying33 rfl sz_Sapi_Extent rfl) (fun a h => ?_)
                  refine d_takeY h HS HN 22 rfl (by kernel_rfl) (by kernel_rfl) (by kernel_rfl) (by kernel_rfl) (by kernel_rfl) (by rw [g_want h rfl rfl rfl rfl hB17]; rfl) rfl (by decide) (fun w' hw => x_ld h.k rfl Tryd.underlying29 rfl rfl ((hw.cell (i := 0) rfl 4).trans rfl)) (fun a h => ?_)
                  refine d_alone 20 rfl (by kernel_rfl) (fun K hK => ?_)
                  refine g_yes (j := 17) (t := 41) h rfl rfl rfl rfl hB17 ?_
                  have hX := show_Extents_ok Fu (S0 := snapAll _) (hGT.mono (h.m.leAll (i := 2) rfl)) A56 c57 x28.2.2.2.2.1 (hs58.mono (h.m.leAll (i := 2) rfl)) _ h83 _ h.startAll
                  refine q_callX hX h rfl rfl rfl (by decide) Tryd.func9 rfl rfl rfl (fun a w v L1 S1 hR hb1 h => ?_)
                  obtain ⟨rfl, rfl, hr85, _⟩ := hR
                  refine hK _ _ (fun _ _ => HS.ext hb1) ?_
                  replace HS := HS.ext hb1
                  clear hK
                  refine d_alone 23 rfl (by kernel_rfl) (fun K hK => ?_)
                  refine g_yes (j := 17) (t := 41) h rfl rfl rfl rfl hB17 ?_
                  have hX := chatelaineref42_Extents_ok Fu (S0 := snapAll _) A56 c57 x28.2.2.2.2.1 (hs58.mono (h.m.leAll (i := 2) rfl)) _ h87 _ h.startAll
                  refine q_callX hX h rfl rfl rfl (by decide) Tryd.func10 rfl rfl rfl (fun a w v L1 S1 hR hb1 h => ?_)
                  obtain ⟨rfl, rfl, hr89, _⟩ := hR
                  refine hK _ _ (fun _ _ => HS.ext hb1) ?_
                  replace HS := HS.ext hb1
                  clear hK
                  refine d_takeP h (fun _ => HS) HN 24 rfl (by kernel_rfl) (by kernel_rfl) (by kernel_rfl) (by decide) (by rw [g_want h rfl rfl rfl rfl hB17]; rfl) rfl (by decide) (fun w' => x_neqStr h.k rfl rfl rfl) (fun a h => ?_)
                  refine d_takeP h (fun _ => HS) HN 25 rfl (by kernel_rfl) (by kernel_rfl) (by kernel_rfl) (by decide) rfl rfl (by decide) (fun w' => x_pick (v := .bool z80) (u' := undef) h.k rfl rfl (fun hh => absurd (hB17.symm.trans hh) (by decide)) (fun _ => by rw [← Option.some.inj hz81]; rfl)) (fun a h => ?_)
                  refine d_done (by kernel_rfl) (HE _ _ ?_) _
                  refine e_thenN ?_
                  have h := h.pick [1, 0, 2] (by decide) rfl
                  exact h.has (by exact ⟨rfl, rfl, rfl, rfl, rfl, rfl, trivial⟩)
          refine e_thenN ?_
          refine c_cond h rfl (fun hb => ?_) (fun hb => ?_)
          · rw [if_pos hb] at hl26
            refine c_rs ?_ -- region 9
            refine s_x h rfl rfl (by decide) (x_faddr h.k rfl Tryd.underlying33 rfl sz_Sapi_Extent rfl) (fun a h => ?_)
            refine s_x h rfl rfl (by decide) (x_ld h.k rfl Tryd.underlying29 rfl rfl ((h.m.cell (i := 1) rfl 4).trans rfl)) (fun a h => ?_)
            refine s_x h rfl rfl (by decide) (x_len h.k rfl Tryd.underlying29 rfl) (fun a h => ?_)
            refine s_x h rfl rfl (by decide) (x_bin h.k rfl rfl rfl ib_gtr) (fun a h => ?_)
            refine s_move h rfl _ rfl rfl (by decide) rfl (fun a h => ?_)
            refine q_grp h 5 (t := 54) 59 ((decide (40 < (x28.2.2.2.2.1.length : Int))) || (decide (200 < (x28.2.2.2.2.2.2.length : Int)))) rfl (fun hB4 => ?_) (fun hB4 => ?_) (fun a w h => ?_)
            · refine g_no h rfl rfl rfl rfl hB4 rfl (by decide) (fun a h => ?_)
              refine g_no h rfl rfl rfl rfl hB4 rfl (by decide) (fun a h => ?_)
              refine g_no h rfl rfl rfl rfl hB4 rfl (by decide) (fun a h => ?_)
              refine g_no h rfl rfl rfl rfl hB4 rfl (by decide) (fun a h => ?_)
              refine s_x h rfl rfl (by decide) (x_pick (u' := undef) h.k rfl rfl (fun _ => rfl) (fun hh => absurd (hB4.symm.trans hh) (by decide))) (fun a h => ?_)
              exact (h.mid 4 rfl).val (by first | rfl | (rw [hB4]; first | rfl | simp))
            · refine g_yes h rfl rfl rfl rfl hB4 ?_
              refine s_x h rfl rfl (by decide) (x_faddr h.k rfl Tryd.underlying33 rfl sz_SA32_uint8 rfl) (fun a h => ?_)
              refine g_yes h rfl rfl rfl rfl hB4 ?_
              refine s_x h rfl rfl (by decide) (x_ld h.k rfl Tryd.underlying31 rfl rfl ((h.m.cell (i := 1) rfl 6).trans rfl)) (fun a h => ?_)
              refine g_yes h rfl rfl rfl rfl hB4 ?_
              refine s_x h rfl rfl (by decide) (x_len h.k rfl Tryd.underlying31 rfl) (fun a h => ?_)
              refine g_yes h rfl rfl rfl rfl hB4 ?_
              refine s_x h rfl rfl (by decide) (x_bin h.k rfl rfl rfl ib_gtr) (fun a h => ?_)
              refine s_x h rfl rfl (by decide) (x_pick (u' := undef) h.k rfl rfl (fun hh => absurd (hB4.symm.trans hh) (by decide)) (fun _ => rfl)) (fun a h => ?_)
              exact (h.mid 4 rfl).val (by first | rfl | (rw [hB4]; first | rfl | simp))
            refine s_assign h rfl _ rfl rfl (by decide) rfl (fun a h => ?_)
            refine l_end ?_
            refine wp_ret ?_
            refine e_blkR ?_
            refine e_thenR ?_
            refine e_thenR ?_
            refine e_blkR ?_
            refine e_thenR ?_
            cases hl26
            try dsimp only at hf
            refine e_thenR ?_
            obtain rfl := Option.some.inj hf
            exact r_ret1 h rfl (rv_tmp h rfl) ⟨_, [], _, rfl, ⟨rfl, rfl, trivial⟩, rfl, (Up.refl _ _ _), (h.m.pick [2] _ (by decide) rfl)⟩
          · rw [if_neg (by rw [hb]; decide)] at hl26
            refine wp_skip ?_
            refine e_blkN ?_
            refine e_thenN ?_
            refine c_r ?_ -- region 10
            refine s_x h rfl rfl (by decide) (x_bin h.k rfl rfl rfl (ib_add rfl)) (fun a h => ?_)
            refine s_move h rfl _ rfl rfl (by decide) rfl (fun a h => ?_)
            refine l_nil ?_
            have h := h.pick [0, 2] (by decide) rfl
            exact e_thenN ⟨m27, Nat.lt_succ_self _, w64 (x24 + 1), hl26, (w64_r _), h.has (by exact ⟨rfl, rfl, rfl, rfl, trivial⟩)⟩
        · rw [if_neg (of_decide_eq_false hb)] at hl26
          refine wp_exit ?_
          refine e_thenX ?_
          refine e_thenX ?_
          refine e_blkX ?_
          refine e_thenN ?_
          exact ⟨(Option.some.inj hl26), h.has (by exact ⟨rfl, trivial⟩)⟩
      · rintro a w ⟨rfl, h⟩
        try dsimp only at hf
        refine e_thenN ?_
        refine wp_seq ?_
        -- region 11 draws
        obtain ⟨x92, h93, hf⟩ := bsome hf
        obtain ⟨x96, h97, hf⟩ := bsome hf
        refine d_start h (Mem _ _ _) 6 6 rfl (by kernel_rfl) (fun _ _ _ _ _ h => h) (fun _ h => h) (fun Q a w HE HN h HS => ?_)
        refine d_take h HS HN 0 rfl (by kernel_rfl) (by kernel_rfl) (by kernel_rfl) (by kernel_rfl) (by kernel_rfl) rfl rfl (by decide) (fun w' hw => x_ldR h.k rfl ag_api_State rfl (([.int .i64 a0.1] : List Value) ++ (k4 ++ ([.slice A10 a0.2.2.1.length c11, .slice A13 a0.2.2.2.length c14]))) (show (([.int .i64 a0.1] : List Value) ++ (k4 ++ ([.slice A10 a0.2.2.1.length c11, .slice A13 a0.2.2.2.length c14])) : List Value).length = 35 from by simp only [List.length_append, List.length_cons, List.length_nil, (show (k4 : List Value).length = 32 from ((hs6).len.trans (by rw [hl7]; rfl)))]) (hw.range0 (i := 0) rfl)) (fun a h => ?_)
        refine d_take h HS HN 2 rfl (by kernel_rfl) (by kernel_rfl) (by kernel_rfl) (by kernel_rfl) (by kernel_rfl) rfl rfl (by decide) (fun w' hw => x_ldR h.k rfl ag_api_State rfl (([.int .i64 a0.1] : List Value) ++ (k4 ++ ([.slice A10 a0.2.2.1.length c11, .slice A13 a0.2.2.2.length c14]))) (show (([.int .i64 a0.1] : List Value) ++ (k4 ++ ([.slice A10 a0.2.2.1.length c11, .slice A13 a0.2.2.2.length c14])) : List Value).length = 35 from by simp only [List.length_append, List.length_cons, List.length_nil, (show (k4 : List Value).length = 32 from ((hs6).len.trans (by rw [hl7]; rfl)))]) (hw.range0 (i := 0) rfl)) (fun a h => ?_)
        refine d_alone 1 rfl (by kernel_rfl) (fun K hK => ?_)
        have hX := show_Text_ok Fu (S0 := snapAll _) (hGT.mono (h.m.leAll (i := 1) rfl)) (([.int .i64 a0.1] : List Value) ++ (k4 ++ ([.slice A10 a0.2.2.1.length c11, .slice A13 a0.2.2.2.length c14]))) a0 ((tyP tyI (tyP (tyA 32 ty8) (tyP (tyL (tyP tyI (tyP tyI (tyP tyI (tyA 32 ty8))))) (tyL (tyP tyI (tyP tyI (tyP tyI (tyP (tyL ty8) (tyP (tyL (tyP tyI tyI)) (tyP (tyL (tyL ty8)) (tyL (tyA 32 ty8)))))))))))).mono (h.m.leAll (i := 1) rfl) (show (tyP tyI (tyP (tyA 32 ty8) (tyP (tyL (tyP tyI (tyP tyI (tyP tyI (tyA 32 ty8))))) (tyL (tyP tyI (tyP tyI (tyP tyI (tyP (tyL ty8) (tyP (tyL (tyP tyI tyI)) (tyP (tyL (tyL ty8)) (tyL (tyA 32 ty8)))))))))))).rep S0 (([.int .i64 a0.1] : List Value) ++ (k4 ++ ([.slice A10 a0.2.2.1.length c11, .slice A13 a0.2.2.2.length c14]))) a0 from ⟨[.int .i64 a0.1], k4 ++ ([.slice A10 a0.2.2.1.length c11, .slice A13 a0.2.2.2.length c14]), rfl, ⟨rfl, hr3⟩, ⟨k4, [.slice A10 a0.2.2.1.length c11, .slice A13 a0.2.2.2.length c14], rfl, ⟨hs6, hl7⟩, ⟨[.slice A10 a0.2.2.1.length c11], [.slice A13 a0.2.2.2.length c14], rfl, ⟨_, _, rfl, hs12⟩, ⟨_, _, rfl, hs15⟩⟩⟩⟩)) _ h93 _ h.startAll
        refine q_callX hX h rfl rfl rfl (by decide) Tryd.func11 rfl rfl rfl (fun a w v L1 S1 hR hb1 h => ?_)
        obtain ⟨rfl, rfl, hr95, _⟩ := hR
        refine hK _ _ (fun _ _ => HS.ext hb1) ?_
        replace HS := HS.ext hb1
        clear hK
        refine d_alone 3 rfl (by kernel_rfl) (fun K hK => ?_)
        have hX := chatelaineref42_Text_ok Fu (S0 := snapAll _) (([.int .i64 a0.1] : List Value) ++ (k4 ++ ([.slice A10 a0.2.2.1.length c11, .slice A13 a0.2.2.2.length c14]))) a0 ((tyP tyI (tyP (tyA 32 ty8) (tyP (tyL (tyP tyI (tyP tyI (tyP tyI (tyA 32 ty8))))) (tyL (tyP tyI (tyP tyI (tyP tyI (tyP (tyL ty8) (tyP (tyL (tyP tyI tyI)) (tyP (tyL (tyL ty8)) (tyL (tyA 32 ty8)))))))))))).mono (h.m.leAll (i := 1) rfl) (show (tyP tyI (tyP (tyA 32 ty8) (tyP (tyL (tyP tyI (tyP tyI (tyP tyI (tyA 32 ty8))))) (tyL (tyP tyI (tyP tyI (tyP tyI (tyP (tyL ty8) (tyP (tyL (tyP tyI tyI)) (tyP (tyL (tyL ty8)) (tyL (tyA 32 ty8)))))))))))).rep S0 (([.int .i64 a0.1] : List Value) ++ (k4 ++ ([.slice A10 a0.2.2.1.length c11, .slice A13 a0.2.2.2.length c14]))) a0 from ⟨[.int .i64 a0.1], k4 ++ ([.slice A10 a0.2.2.1.length c11, .slice A13 a0.2.2.2.length c14]), rfl, ⟨rfl, hr3⟩, ⟨k4, [.slice A10 a0.2.2.1.length c11, .slice A13 a0.2.2.2.length c14], rfl, ⟨hs6, hl7⟩, ⟨[.slice A10 a0.2.2.1.length c11], [.slice A13 a0.2.2.2.length c14], rfl, ⟨_, _, rfl, hs12⟩, ⟨_, _, rfl, hs15⟩⟩⟩⟩)) _ h97 _ h.startAll
        refine q_callX hX h rfl rfl rfl (by decide) Tryd.func12 rfl rfl rfl (fun a w v L1 S1 hR hb1 h => ?_)
        obtain ⟨rfl, rfl, hr99, _⟩ := hR
        refine hK _ _ (fun _ _ => HS.ext hb1) ?_
        replace HS := HS.ext hb1
        clear hK
        refine d_takeP h (fun _ => HS) HN 4 rfl (by kernel_rfl) (by kernel_rfl) (by kernel_rfl) (by decide) rfl rfl (by decide) (fun w' => x_eqlStr h.k rfl rfl rfl) (fun a h => ?_)
        refine d_takeP h (fun _ => HS) HN 5 rfl (by kernel_rfl) (by kernel_rfl) (by kernel_rfl) (by decide) rfl rfl (by decide) (fun w' => x_assign h.k _ rfl rfl) (fun a h => ?_)
        refine d_done (by kernel_rfl) (HE _ _ ?_) _
        refine e_thenN ?_
        refine wp_ret ?_
        obtain rfl := Option.some.inj hf
        exact r_ret1 h rfl (rv_tmp h rfl) ⟨_, [], _, rfl, ⟨rfl, rfl, trivial⟩, rfl, (Up.refl _ _ _), (h.m.pick [1] _ (by decide) rfl)⟩
end Go.Proofs.YtnmeelkfpmodgaaDoor
