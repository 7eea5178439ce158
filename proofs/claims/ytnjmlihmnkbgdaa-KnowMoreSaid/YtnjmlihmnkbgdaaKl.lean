/- Kl: Go functions as plain functions, and that they are so (written by xt.py). -/
import Derived.Test.YtnjmlihmnkbgdaaKf
import Derived.Test.YtnjmlihmnkbgdaaKr
set_option linter.unusedVariables false
set_option linter.unusedSimpArgs false
namespace Go.Proofs.Ytnjmlihmnkbgdaa
open Go.RowKit
def chatelainelaw37_awake (Fu : Nat) : Option Bool :=
  (term_New Fu).bind fun x1 => (term_Store_Fresh Fu x1 1).bind fun x20 => (term_Store_Fresh Fu x20.2.2 3).bind fun x40 => (term_Store_Put Fu x40.2.2 (3, x20.1, x40.1)).bind fun x60 => (know_From Fu x60.2.2 ([x60.1])).bind fun x86 => (match x86 with | .inl x92 => ((know_From Fu x92.2 ([x60.1, x20.1])).bind fun x112 => (match x112 with | .inl x118 => ((if ((decide (x92.1 = 0)) && (decide (x118.1 = 0))) = true then (know_Set_Has_nil0 Fu x40.1).bind fun x137 => some (!x137) else some false).bind fun z135 => (if z135 = true then (know_Set_Has_nil0 Fu x40.1).bind fun x143 => some x143 else some false).bind fun z141 => (if z141 = true then (know_Set_Len_nil0 Fu).bind fun x149 => some (decide (x149 = 3)) else some false).bind fun z147 => some z147) | .inr x153 => ((if ((decide (x92.1 = 0)) && (decide (x153.2.1 = 0))) = true then (know_Set_Has_nil0 Fu x40.1).bind fun x184 => some (!x184) else some false).bind fun z182 => (if z182 = true then (know_Set_Has Fu x153.1 x40.1).bind fun x190 => some x190 else some false).bind fun z188 => (if z188 = true then (know_Set_Len Fu x153.1).bind fun x196 => some (decide (x196 = 3)) else some false).bind fun z194 => some z194))) | .inr x200 => ((know_From Fu x200.2.2 ([x60.1, x20.1])).bind fun x232 => (match x232 with | .inl x238 => ((if ((decide (x200.2.1 = 0)) && (decide (x238.1 = 0))) = true then (know_Set_Has Fu x200.1 x40.1).bind fun x257 => some (!x257) else some false).bind fun z255 => (if z255 = true then (know_Set_Has_nil0 Fu x40.1).bind fun x263 => some x263 else some false).bind fun z261 => (if z261 = true then (know_Set_Len_nil0 Fu).bind fun x269 => some (decide (x269 = 3)) else some false).bind fun z267 => some z267) | .inr x273 => ((if ((decide (x200.2.1 = 0)) && (decide (x273.2.1 = 0))) = true then (know_Set_Has Fu x200.1 x40.1).bind fun x304 => some (!x304) else some false).bind fun z302 => (if z302 = true then (know_Set_Has Fu x273.1 x40.1).bind fun x310 => some x310 else some false).bind fun z308 => (if z308 = true then (know_Set_Len Fu x273.1).bind fun x316 => some (decide (x316 = 3)) else some false).bind fun z314 => some z314))))
set_option maxRecDepth 100000 in
set_option maxHeartbeats 2000000 in
theorem chatelainelaw37_awake_ok (Fu : Nat) {S0 : Snap}  (r : Bool) (hf : chatelainelaw37_awake Fu = some r) (w0 : World) (hm : Mem w0 (ownL ([] ++ [.sn S0])) ([] ++ [.sn S0]) w0) :
    Calls Try.prog 5 #[] w0 (Ret w0 S0 [] (fun v L1 S1 => v = .bool r ∧ L1 = [] ∧ True)) := by
  unfold chatelainelaw37_awake at hf
  refine c_enterM Try.func5 rfl 68 rfl (by simp) _ hm _ rfl (fun a h => ?_)
  refine c_rs ?_
  refine sAV h (fun a h => ?_)
  refine l_end ?_
  refine c_rs ?_
  obtain ⟨x1, h2, hf⟩ := bsome hf
  have hX := term_New_ok Fu (S0 := S0)  _ h2 _ (h.sub (Ls := []))
  refine q_callY (Ls := []) hX h (Up.refl _ _ _) rfl rfl rfl (by decide) Try.func15 rfl rfl rfl (fun a w v L1 S4 hR le6 up5 h => ?_)
  obtain ⟨g7, A8, c9, cs10, g12, es13, cl14, g16, es17, cl18, rfl, rfl, hq11, hm15, hm19, _⟩ := hR
  refine sAV h (fun a h => ?_)
  refine l_end ?_
  refine c_rs ?_
  refine sMV h (fun a h => ?_)
  obtain ⟨x20, h21, hf⟩ := bsome hf
  have hX := term_Store_Fresh_ok Fu (S0 := S4) x1 g7 A8 c9 cs10 g12 es13 cl14 g16 es17 cl18 hq11 hm15 hm19 1 (show r64 1 from ⟨by decide, by decide⟩) _ h21 _ (h.sub (Ls := [.box g7 52 ([.slice A8 x1.1.length c9, .map (some g12), .map (some g16)]), .row (.slice A8 x1.1.length c9) 46 3 x1.1.length cs10, .obj g12 (.map es13 cl14), .obj g16 (.map es17 cl18)]))
  refine q_callY (Ls := [.box g7 52 ([.slice A8 x1.1.length c9, .map (some g12), .map (some g16)]), .row (.slice A8 x1.1.length c9) 46 3 x1.1.length cs10, .obj g12 (.map es13 cl14), .obj g16 (.map es17 cl18)]) hX h up5 rfl rfl rfl (by decide) Try.func16 rfl rfl rfl (fun a w v L1 S23 hR le25 up24 h => ?_)
  obtain ⟨A28, c29, cs30, g32, es33, cl34, g36, es37, cl38, rfl, rfl, hr26, hr27, hq31, hm35, hm39, _⟩ := hR
  refine sMV h (fun a h => ?_)
  refine s_x h rfl rfl (by decide) (x_ext h.k rfl rfl rfl) (fun a h => ?_)
  refine s_x h rfl rfl (by decide) (x_ext h.k rfl rfl rfl) (fun a h => ?_)
  refine sAV h (fun a h => ?_)
  refine sAV h (fun a h => ?_)
  refine l_end ?_
  refine c_rs ?_
  refine sMV h (fun a h => ?_)
  obtain ⟨x40, h41, hf⟩ := bsome hf
  have hX := term_Store_Fresh_ok Fu (S0 := S23) x20.2.2 g7 A28 c29 cs30 g32 es33 cl34 g36 es37 cl38 hq31 hm35 hm39 3 (show r64 3 from ⟨by decide, by decide⟩) _ h41 _ (h.sub (Ls := [.box g7 52 ([.slice A28 x20.2.2.1.length c29, .map (some g32), .map (some g36)]), .row (.slice A28 x20.2.2.1.length c29) 46 3 x20.2.2.1.length cs30, .obj g32 (.map es33 cl34), .obj g36 (.map es37 cl38)]))
  refine q_callY (Ls := [.box g7 52 ([.slice A28 x20.2.2.1.length c29, .map (some g32), .map (some g36)]), .row (.slice A28 x20.2.2.1.length c29) 46 3 x20.2.2.1.length cs30, .obj g32 (.map es33 cl34), .obj g36 (.map es37 cl38)]) hX h up24 rfl rfl rfl (by decide) Try.func16 rfl rfl rfl (fun a w v L1 S43 hR le45 up44 h => ?_)
  obtain ⟨A48, c49, cs50, g52, es53, cl54, g56, es57, cl58, rfl, rfl, hr46, hr47, hq51, hm55, hm59, _⟩ := hR
  refine sMV h (fun a h => ?_)
  refine s_x h rfl rfl (by decide) (x_ext h.k rfl rfl rfl) (fun a h => ?_)
  refine s_x h rfl rfl (by decide) (x_ext h.k rfl rfl rfl) (fun a h => ?_)
  refine sAV h (fun a h => ?_)
  refine sAV h (fun a h => ?_)
  refine l_end ?_
  refine c_rs ?_
  refine sMV h (fun a h => ?_)
  refine sMV h (fun a h => ?_)
  refine sMV h (fun a h => ?_)
  refine s_x h rfl rfl (by decide) (x_build h.k rfl [(0, .int .i64 3), (1, .int .i64 x20.1), (2, .int .i64 x40.1)] rfl ([.int .i64 3, .int .i64 x20.1, .int .i64 x40.1]) (by kernel_rfl)) (fun a h => ?_)
  obtain ⟨x60, h61, hf⟩ := bsome hf
  have hX := term_Store_Put_ok Fu (S0 := S43) x40.2.2 g7 A48 c49 cs50 g52 es53 cl54 g56 es57 cl58 hq51 hm55 hm59 ([.int .i64 3, .int .i64 x20.1, .int .i64 x40.1]) (3, x20.1, x40.1) (⟨[.int .i64 3], [.int .i64 x20.1, .int .i64 x40.1], rfl, ⟨rfl, (show r64 3 from ⟨by decide, by decide⟩)⟩, ⟨[.int .i64 x20.1], [.int .i64 x40.1], rfl, ⟨rfl, hr26⟩, ⟨rfl, hr46⟩⟩⟩) _ h61 _ (h.sub (Ls := [.box g7 52 ([.slice A48 x40.2.2.1.length c49, .map (some g52), .map (some g56)]), .row (.slice A48 x40.2.2.1.length c49) 46 3 x40.2.2.1.length cs50, .obj g52 (.map es53 cl54), .obj g56 (.map es57 cl58)]))
  refine q_callY (Ls := [.box g7 52 ([.slice A48 x40.2.2.1.length c49, .map (some g52), .map (some g56)]), .row (.slice A48 x40.2.2.1.length c49) 46 3 x40.2.2.1.length cs50, .obj g52 (.map es53 cl54), .obj g56 (.map es57 cl58)]) hX h up44 rfl rfl rfl (by decide) Try.func17 rfl rfl rfl (fun a w v L1 S63 hR le65 up64 h => ?_)
  obtain ⟨A68, c69, cs70, g72, es73, cl74, g76, es77, cl78, rfl, rfl, hr66, hr67, hq71, hm75, hm79, _⟩ := hR
  refine sMV h (fun a h => ?_)
  refine s_x h rfl rfl (by decide) (x_ext h.k rfl rfl rfl) (fun a h => ?_)
  refine s_x h rfl rfl (by decide) (x_ext h.k rfl rfl rfl) (fun a h => ?_)
  refine sAV h (fun a h => ?_)
  refine sAV h (fun a h => ?_)
  refine l_end ?_
  refine c_rs ?_
  refine sMV h (fun a h => ?_)
  refine sMV h (fun a h => ?_)
  refine q_bslice (T := tyI) (S := S63) h rfl rfl rfl (by decide) Try.underlying23 zi_int (by decide) (by decide) (by decide) (by decide) [.int .i64 x60.1] rfl rfl (C := [[.int .i64 x60.1]]) rfl (xs := [x60.1]) ⟨[.int .i64 x60.1], _, rfl, ⟨rfl, hr66⟩, rfl⟩ (by intro c hc; simp only [List.mem_cons, List.not_mem_nil, or_false] at hc; subst hc; rfl) (fun a w A80 h => ?_)
  have hb81 : reps tyI S63 ([[.int .i64 x60.1]] : List (List Value)).flatten [x60.1] := ⟨[.int .i64 x60.1], _, rfl, ⟨rfl, hr66⟩, rfl⟩
  have h := h.pick [0, 5, 1, 2, 3, 4] (by decide) rfl
  obtain ⟨S82, le83, up84, hs85, h⟩ := q_freeze (T := tyI) h up64 hb81
  obtain ⟨x86, h87, hf⟩ := bsome hf
  have h := h.pick [1, 2, 3, 4, 0] (by decide) rfl
  have hX := know_From_ok Fu (S0 := S82) x60.2.2 g7 A68 c69 cs70 g72 es73 cl74 g76 es77 cl78 (hq71.mono le83) (hm75.mono le83) (hm79.mono le83) A80 1 ([x60.1]) hs85 _ h87 _ (h.sub (Ls := [.box g7 52 ([.slice A68 x60.2.2.1.length c69, .map (some g72), .map (some g76)]), .row (.slice A68 x60.2.2.1.length c69) 46 3 x60.2.2.1.length cs70, .obj g72 (.map es73 cl74), .obj g76 (.map es77 cl78)]))
  refine q_callY (Ls := [.box g7 52 ([.slice A68 x60.2.2.1.length c69, .map (some g72), .map (some g76)]), .row (.slice A68 x60.2.2.1.length c69) 46 3 x60.2.2.1.length cs70, .obj g72 (.map es73 cl74), .obj g76 (.map es77 cl78)]) hX h up84 rfl rfl rfl (by decide) Try.func6 rfl rfl rfl (fun a w v L1 S89 hR le91 up90 h => ?_)
  rcases hR with hR | hR
  · obtain ⟨x92, rfl, hR⟩ := hR
    dsimp only at hf
    obtain ⟨A94, c95, cs96, g98, es99, cl100, g102, es103, cl104, rfl, rfl, hr93, hq97, hm101, hm105, _⟩ := hR
    refine sMV h (fun a h => ?_)
    refine s_x h rfl rfl (by decide) (x_ext h.k rfl rfl rfl) (fun a h => ?_)
    refine s_x h rfl rfl (by decide) (x_ext h.k rfl rfl rfl) (fun a h => ?_)
    refine sAV h (fun a h => ?_)
    refine sAV h (fun a h => ?_)
    refine l_end ?_
    refine c_rs ?_
    refine sMV h (fun a h => ?_)
    refine sMV h (fun a h => ?_)
    refine sMV h (fun a h => ?_)
    refine q_bslice (T := tyI) (S := S89) h rfl rfl rfl (by decide) Try.underlying23 zi_int (by decide) (by decide) (by decide) (by decide) [.int .i64 x60.1, .int .i64 x20.1] rfl rfl (C := [[.int .i64 x60.1], [.int .i64 x20.1]]) rfl (xs := [x60.1, x20.1]) ⟨[.int .i64 x60.1], _, rfl, ⟨rfl, hr66⟩, ⟨[.int .i64 x20.1], _, rfl, ⟨rfl, hr26⟩, rfl⟩⟩ (by simp only [List.mem_cons, List.not_mem_nil, or_false]; rintro c (rfl | rfl) <;> rfl) (fun a w A106 h => ?_)
    have hb107 : reps tyI S89 ([[.int .i64 x60.1], [.int .i64 x20.1]] : List (List Value)).flatten [x60.1, x20.1] := ⟨[.int .i64 x60.1], _, rfl, ⟨rfl, hr66⟩, ⟨[.int .i64 x20.1], _, rfl, ⟨rfl, hr26⟩, rfl⟩⟩
    have h := h.pick [0, 5, 1, 2, 3, 4] (by decide) rfl
    obtain ⟨S108, le109, up110, hs111, h⟩ := q_freeze (T := tyI) h up90 hb107
    obtain ⟨x112, h113, hf⟩ := bsome hf
    have h := h.pick [1, 2, 3, 4, 0] (by decide) rfl
    have hX := know_From_ok Fu (S0 := S108) x92.2 g7 A94 c95 cs96 g98 es99 cl100 g102 es103 cl104 (hq97.mono le109) (hm101.mono le109) (hm105.mono le109) A106 2 ([x60.1, x20.1]) hs111 _ h113 _ (h.sub (Ls := [.box g7 52 ([.slice A94 x92.2.1.length c95, .map (some g98), .map (some g102)]), .row (.slice A94 x92.2.1.length c95) 46 3 x92.2.1.length cs96, .obj g98 (.map es99 cl100), .obj g102 (.map es103 cl104)]))
    refine q_callY (Ls := [.box g7 52 ([.slice A94 x92.2.1.length c95, .map (some g98), .map (some g102)]), .row (.slice A94 x92.2.1.length c95) 46 3 x92.2.1.length cs96, .obj g98 (.map es99 cl100), .obj g102 (.map es103 cl104)]) hX h up110 rfl rfl rfl (by decide) Try.func6 rfl rfl rfl (fun a w v L1 S115 hR le117 up116 h => ?_)
    rcases hR with hR | hR
    · obtain ⟨x118, rfl, hR⟩ := hR
      dsimp only at hf
      obtain ⟨A120, c121, cs122, g124, es125, cl126, g128, es129, cl130, rfl, rfl, hr119, hq123, hm127, hm131, _⟩ := hR
      refine sMV h (fun a h => ?_)
      refine s_x h rfl rfl (by decide) (x_ext h.k rfl rfl rfl) (fun a h => ?_)
      refine s_x h rfl rfl (by decide) (x_ext h.k rfl rfl rfl) (fun a h => ?_)
      refine sAV h (fun a h => ?_)
      refine sAV h (fun a h => ?_)
      refine l_end ?_
      refine c_rs ?_
      refine sMV h (fun a h => ?_)
      refine s_x h rfl rfl (by decide) (x_bin h.k rfl rfl rfl ib_eql) (fun a h => ?_)
      refine sMV h (fun a h => ?_)
      refine q_grp h 3 (t := 48) 51 ((decide (x92.1 = 0)) && (decide (x118.1 = 0))) rfl (fun hB2 => ?_) (fun hB2 => ?_) (fun a w h => ?_)
      · refine g_yes h rfl rfl rfl rfl hB2 ?_
        refine sMV h (fun a h => ?_)
        refine g_yes h rfl rfl rfl rfl hB2 ?_
        refine s_x h rfl rfl (by decide) (x_bin h.k rfl rfl rfl ib_eql) (fun a h => ?_)
        refine s_x h rfl rfl (by decide) (x_pick (u' := undef) h.k rfl rfl (fun _ => rfl) (fun hh => absurd (hB2.symm.trans hh) (by decide))) (fun a h => ?_)
        exact (h.mid 2 rfl).val (by first | rfl | (rw [hB2]; first | rfl | simp))
      · refine g_no h rfl rfl rfl rfl hB2 rfl (by decide) (fun a h => ?_)
        refine g_no h rfl rfl rfl rfl hB2 rfl (by decide) (fun a h => ?_)
        refine s_x h rfl rfl (by decide) (x_pick (u' := undef) h.k rfl rfl (fun hh => absurd (hB2.symm.trans hh) (by decide)) (fun _ => rfl)) (fun a h => ?_)
        exact (h.mid 2 rfl).val (by first | rfl | (rw [hB2]; first | rfl | simp))
      refine sMV h (fun a h => ?_)
      obtain ⟨z135, hz134, hf⟩ := bsome hf
      refine q_grp h 5 (t := 52) 57 z135 rfl (fun hB6 => ?_) (fun hB6 => ?_) (fun a w h => ?_)
      · rw [if_pos hB6] at hz134
        refine g_yes h rfl rfl rfl rfl hB6 ?_
        refine sMV h (fun a h => ?_)
        refine g_yes h rfl rfl rfl rfl hB6 ?_
        refine sMV h (fun a h => ?_)
        refine g_yes h rfl rfl rfl rfl hB6 ?_
        obtain ⟨x137, h138, hz134⟩ := bsome hz134
        have hX := know_Set_Has_nil0_ok Fu (S0 := snapAll _) x40.1 hr46 _ h138 _ h.startAll
        refine q_callX hX h rfl rfl rfl (by decide) Try.func10 rfl rfl rfl (fun a w v L1 S1 hR hb1 h => ?_)
        obtain ⟨rfl, rfl, _⟩ := hR
        refine g_yes h rfl rfl rfl rfl hB6 ?_
        refine s_x h rfl rfl (by decide) (x_not h.k rfl rfl) (fun a h => ?_)
        refine s_x h rfl rfl (by decide) (x_pick (u' := undef) h.k rfl rfl (fun _ => rfl) (fun hh => absurd (hB6.symm.trans hh) (by decide))) (fun a h => ?_)
        exact (h.mid 4 rfl).val (by rw [Option.some.inj hz134])
      · refine g_no h rfl rfl rfl rfl hB6 rfl (by decide) (fun a h => ?_)
        refine g_no h rfl rfl rfl rfl hB6 rfl (by decide) (fun a h => ?_)
        refine g_no h rfl rfl rfl rfl hB6 rfl (by decide) (fun a h => ?_)
        refine g_no h rfl rfl rfl rfl hB6 rfl (by decide) (fun a h => ?_)
        rw [if_neg (by rw [hB6]; decide)] at hz134
        refine s_x h rfl rfl (by decide) (x_pick (u' := undef) h.k rfl rfl (fun hh => absurd (hB6.symm.trans hh) (by decide)) (fun _ => rfl)) (fun a h => ?_)
        exact (h.mid 4 rfl).val (by rw [Option.some.inj hz134])
      refine sMV h (fun a h => ?_)
      obtain ⟨z141, hz140, hf⟩ := bsome hf
      refine q_grp h 4 (t := 58) 62 z141 rfl (fun hB12 => ?_) (fun hB12 => ?_) (fun a w h => ?_)
      · rw [if_pos hB12] at hz140
        refine g_yes h rfl rfl rfl rfl hB12 ?_
        refine sMV h (fun a h => ?_)
        refine g_yes h rfl rfl rfl rfl hB12 ?_
        refine sMV h (fun a h => ?_)
        refine g_yes h rfl rfl rfl rfl hB12 ?_
        obtain ⟨x143, h144, hz140⟩ := bsome hz140
        have hX := know_Set_Has_nil0_ok Fu (S0 := snapAll _) x40.1 hr46 _ h144 _ h.startAll
        refine q_callX hX h rfl rfl rfl (by decide) Try.func10 rfl rfl rfl (fun a w v L1 S1 hR hb1 h => ?_)
        obtain ⟨rfl, rfl, _⟩ := hR
        refine s_x h rfl rfl (by decide) (x_pick (u' := undef) h.k rfl rfl (fun _ => rfl) (fun hh => absurd (hB12.symm.trans hh) (by decide))) (fun a h => ?_)
        exact (h.mid 3 rfl).val (by rw [Option.some.inj hz140])
      · refine g_no h rfl rfl rfl rfl hB12 rfl (by decide) (fun a h => ?_)
        refine g_no h rfl rfl rfl rfl hB12 rfl (by decide) (fun a h => ?_)
        refine g_no h rfl rfl rfl rfl hB12 rfl (by decide) (fun a h => ?_)
        rw [if_neg (by rw [hB12]; decide)] at hz140
        refine s_x h rfl rfl (by decide) (x_pick (u' := undef) h.k rfl rfl (fun hh => absurd (hB12.symm.trans hh) (by decide)) (fun _ => rfl)) (fun a h => ?_)
        exact (h.mid 3 rfl).val (by rw [Option.some.inj hz140])
      refine sMV h (fun a h => ?_)
      obtain ⟨z147, hz146, hf⟩ := bsome hf
      refine q_grp h 4 (t := 63) 67 z147 rfl (fun hB17 => ?_) (fun hB17 => ?_) (fun a w h => ?_)
      · rw [if_pos hB17] at hz146
        refine g_yes h rfl rfl rfl rfl hB17 ?_
        refine sMV h (fun a h => ?_)
        refine g_yes h rfl rfl rfl rfl hB17 ?_
        obtain ⟨x149, h150, hz146⟩ := bsome hz146
        have hX := know_Set_Len_nil0_ok Fu (S0 := snapAll _)  _ h150 _ h.startAll
        refine q_callX hX h rfl rfl rfl (by decide) Try.func13 rfl rfl rfl (fun a w v L1 S1 hR hb1 h => ?_)
        obtain ⟨rfl, rfl, hr152, _⟩ := hR
        refine g_yes h rfl rfl rfl rfl hB17 ?_
        refine s_x h rfl rfl (by decide) (x_bin h.k rfl rfl rfl ib_eql) (fun a h => ?_)
        refine s_x h rfl rfl (by decide) (x_pick (u' := undef) h.k rfl rfl (fun _ => rfl) (fun hh => absurd (hB17.symm.trans hh) (by decide))) (fun a h => ?_)
        exact (h.mid 3 rfl).val (by rw [Option.some.inj hz146])
      · refine g_no h rfl rfl rfl rfl hB17 rfl (by decide) (fun a h => ?_)
        refine g_no h rfl rfl rfl rfl hB17 rfl (by decide) (fun a h => ?_)
        refine g_no h rfl rfl rfl rfl hB17 rfl (by decide) (fun a h => ?_)
        rw [if_neg (by rw [hB17]; decide)] at hz146
        refine s_x h rfl rfl (by decide) (x_pick (u' := undef) h.k rfl rfl (fun hh => absurd (hB17.symm.trans hh) (by decide)) (fun _ => rfl)) (fun a h => ?_)
        exact (h.mid 3 rfl).val (by rw [Option.some.inj hz146])
      refine sAV h (fun a h => ?_)
      refine l_end ?_
      refine wp_ret ?_
      rw [← Option.some.inj hf]
      exact r_ret1 h rfl (rv_tmp h rfl) ⟨_, [], _, rfl, ⟨rfl, rfl, trivial⟩, rfl, up116, (h.m.pick [4] _ (by decide) rfl)⟩
    · obtain ⟨x153, rfl, hR⟩ := hR
      dsimp only at hf
      obtain ⟨g154, A155, c156, A158, c159, cs160, A162, c163, cs164, A167, c168, cs169, g171, es172, cl173, g175, es176, cl177, rfl, rfl, hs157, hq161, hq165, hr166, hq170, hm174, hm178, _⟩ := hR
      refine sMV h (fun a h => ?_)
      refine s_x h rfl rfl (by decide) (x_ext h.k rfl rfl rfl) (fun a h => ?_)
      refine s_x h rfl rfl (by decide) (x_ext h.k rfl rfl rfl) (fun a h => ?_)
      refine sAV h (fun a h => ?_)
      refine sAV h (fun a h => ?_)
      refine l_end ?_
      refine c_rs ?_
      refine sMV h (fun a h => ?_)
      refine s_x h rfl rfl (by decide) (x_bin h.k rfl rfl rfl ib_eql) (fun a h => ?_)
      refine sMV h (fun a h => ?_)
      refine q_grp h 3 (t := 48) 51 ((decide (x92.1 = 0)) && (decide (x153.2.1 = 0))) rfl (fun hB2 => ?_) (fun hB2 => ?_) (fun a w h => ?_)
      · refine g_yes h rfl rfl rfl rfl hB2 ?_
        refine sMV h (fun a h => ?_)
        refine g_yes h rfl rfl rfl rfl hB2 ?_
        refine s_x h rfl rfl (by decide) (x_bin h.k rfl rfl rfl ib_eql) (fun a h => ?_)
        refine s_x h rfl rfl (by decide) (x_pick (u' := undef) h.k rfl rfl (fun _ => rfl) (fun hh => absurd (hB2.symm.trans hh) (by decide))) (fun a h => ?_)
        exact (h.mid 2 rfl).val (by first | rfl | (rw [hB2]; first | rfl | simp))
      · refine g_no h rfl rfl rfl rfl hB2 rfl (by decide) (fun a h => ?_)
        refine g_no h rfl rfl rfl rfl hB2 rfl (by decide) (fun a h => ?_)
        refine s_x h rfl rfl (by decide) (x_pick (u' := undef) h.k rfl rfl (fun hh => absurd (hB2.symm.trans hh) (by decide)) (fun _ => rfl)) (fun a h => ?_)
        exact (h.mid 2 rfl).val (by first | rfl | (rw [hB2]; first | rfl | simp))
      refine sMV h (fun a h => ?_)
      obtain ⟨z182, hz181, hf⟩ := bsome hf
      refine q_grp h 5 (t := 52) 57 z182 rfl (fun hB6 => ?_) (fun hB6 => ?_) (fun a w h => ?_)
      · rw [if_pos hB6] at hz181
        refine g_yes h rfl rfl rfl rfl hB6 ?_
        refine sMV h (fun a h => ?_)
        refine g_yes h rfl rfl rfl rfl hB6 ?_
        refine sMV h (fun a h => ?_)
        refine g_yes h rfl rfl rfl rfl hB6 ?_
        obtain ⟨x184, h185, hz181⟩ := bsome hz181
        have hX := know_Set_Has_nil0_ok Fu (S0 := snapAll _) x40.1 hr46 _ h185 _ h.startAll
        refine q_callX hX h rfl rfl rfl (by decide) Try.func10 rfl rfl rfl (fun a w v L1 S1 hR hb1 h => ?_)
        obtain ⟨rfl, rfl, _⟩ := hR
        refine g_yes h rfl rfl rfl rfl hB6 ?_
        refine s_x h rfl rfl (by decide) (x_not h.k rfl rfl) (fun a h => ?_)
        refine s_x h rfl rfl (by decide) (x_pick (u' := undef) h.k rfl rfl (fun _ => rfl) (fun hh => absurd (hB6.symm.trans hh) (by decide))) (fun a h => ?_)
        exact (h.mid 4 rfl).val (by rw [Option.some.inj hz181])
      · refine g_no h rfl rfl rfl rfl hB6 rfl (by decide) (fun a h => ?_)
        refine g_no h rfl rfl rfl rfl hB6 rfl (by decide) (fun a h => ?_)
        refine g_no h rfl rfl rfl rfl hB6 rfl (by decide) (fun a h => ?_)
        refine g_no h rfl rfl rfl rfl hB6 rfl (by decide) (fun a h => ?_)
        rw [if_neg (by rw [hB6]; decide)] at hz181
        refine s_x h rfl rfl (by decide) (x_pick (u' := undef) h.k rfl rfl (fun hh => absurd (hB6.symm.trans hh) (by decide)) (fun _ => rfl)) (fun a h => ?_)
        exact (h.mid 4 rfl).val (by rw [Option.some.inj hz181])
      refine sMV h (fun a h => ?_)
      obtain ⟨z188, hz187, hf⟩ := bsome hf
      refine q_grp h 4 (t := 58) 62 z188 rfl (fun hB12 => ?_) (fun hB12 => ?_) (fun a w h => ?_)
      · rw [if_pos hB12] at hz187
        refine g_yes h rfl rfl rfl rfl hB12 ?_
        refine sMV h (fun a h => ?_)
        refine g_yes h rfl rfl rfl rfl hB12 ?_
        refine sMV h (fun a h => ?_)
        refine g_yes h rfl rfl rfl rfl hB12 ?_
        obtain ⟨x190, h191, hz187⟩ := bsome hz187
        have hX := know_Set_Has_ok Fu (S0 := snapAll _) g154 x153.1 ⟨[.slice A155 x153.1.1.length c156, .slice A158 x153.1.2.1.length c159, .slice A162 x153.1.2.2.1.length c163, .bool x153.1.2.2.2], h.m.boxAll (i := 0) rfl, ⟨[.slice A155 x153.1.1.length c156], [.slice A158 x153.1.2.1.length c159, .slice A162 x153.1.2.2.1.length c163, .bool x153.1.2.2.2], rfl, ⟨_, _, rfl, (hs157).mono (h.m.leAll (i := 7) rfl)⟩, ⟨[.slice A158 x153.1.2.1.length c159], [.slice A162 x153.1.2.2.1.length c163, .bool x153.1.2.2.2], rfl, ⟨_, _, rfl, h.m.rowAll (i := 1) rfl (j := 7) rfl hq161⟩, ⟨[.slice A162 x153.1.2.2.1.length c163], [.bool x153.1.2.2.2], rfl, ⟨_, _, rfl, h.m.rowAll (i := 2) rfl (j := 7) rfl hq165⟩, rfl⟩⟩⟩⟩ x40.1 hr46 _ h191 _ h.startAll
        refine q_callX hX h rfl rfl rfl (by decide) Try.func10 rfl rfl rfl (fun a w v L1 S1 hR hb1 h => ?_)
        obtain ⟨rfl, rfl, _⟩ := hR
        refine s_x h rfl rfl (by decide) (x_pick (u' := undef) h.k rfl rfl (fun _ => rfl) (fun hh => absurd (hB12.symm.trans hh) (by decide))) (fun a h => ?_)
        exact (h.mid 3 rfl).val (by rw [Option.some.inj hz187])
      · refine g_no h rfl rfl rfl rfl hB12 rfl (by decide) (fun a h => ?_)
        refine g_no h rfl rfl rfl rfl hB12 rfl (by decide) (fun a h => ?_)
        refine g_no h rfl rfl rfl rfl hB12 rfl (by decide) (fun a h => ?_)
        rw [if_neg (by rw [hB12]; decide)] at hz187
        refine s_x h rfl rfl (by decide) (x_pick (u' := undef) h.k rfl rfl (fun hh => absurd (hB12.symm.trans hh) (by decide)) (fun _ => rfl)) (fun a h => ?_)
        exact (h.mid 3 rfl).val (by rw [Option.some.inj hz187])
      refine sMV h (fun a h => ?_)
      obtain ⟨z194, hz193, hf⟩ := bsome hf
      refine q_grp h 4 (t := 63) 67 z194 rfl (fun hB17 => ?_) (fun hB17 => ?_) (fun a w h => ?_)
      · rw [if_pos hB17] at hz193
        refine g_yes h rfl rfl rfl rfl hB17 ?_
        refine sMV h (fun a h => ?_)
        refine g_yes h rfl rfl rfl rfl hB17 ?_
        obtain ⟨x196, h197, hz193⟩ := bsome hz193
        have hX := know_Set_Len_ok Fu (S0 := snapAll _) g154 x153.1 ⟨[.slice A155 x153.1.1.length c156, .slice A158 x153.1.2.1.length c159, .slice A162 x153.1.2.2.1.length c163, .bool x153.1.2.2.2], h.m.boxAll (i := 0) rfl, ⟨[.slice A155 x153.1.1.length c156], [.slice A158 x153.1.2.1.length c159, .slice A162 x153.1.2.2.1.length c163, .bool x153.1.2.2.2], rfl, ⟨_, _, rfl, (hs157).mono (h.m.leAll (i := 7) rfl)⟩, ⟨[.slice A158 x153.1.2.1.length c159], [.slice A162 x153.1.2.2.1.length c163, .bool x153.1.2.2.2], rfl, ⟨_, _, rfl, h.m.rowAll (i := 1) rfl (j := 7) rfl hq161⟩, ⟨[.slice A162 x153.1.2.2.1.length c163], [.bool x153.1.2.2.2], rfl, ⟨_, _, rfl, h.m.rowAll (i := 2) rfl (j := 7) rfl hq165⟩, rfl⟩⟩⟩⟩ _ h197 _ h.startAll
        refine q_callX hX h rfl rfl rfl (by decide) Try.func13 rfl rfl rfl (fun a w v L1 S1 hR hb1 h => ?_)
        obtain ⟨rfl, rfl, hr199, _⟩ := hR
        refine g_yes h rfl rfl rfl rfl hB17 ?_
        refine s_x h rfl rfl (by decide) (x_bin h.k rfl rfl rfl ib_eql) (fun a h => ?_)
        refine s_x h rfl rfl (by decide) (x_pick (u' := undef) h.k rfl rfl (fun _ => rfl) (fun hh => absurd (hB17.symm.trans hh) (by decide))) (fun a h => ?_)
        exact (h.mid 3 rfl).val (by rw [Option.some.inj hz193])
      · refine g_no h rfl rfl rfl rfl hB17 rfl (by decide) (fun a h => ?_)
        refine g_no h rfl rfl rfl rfl hB17 rfl (by decide) (fun a h => ?_)
        refine g_no h rfl rfl rfl rfl hB17 rfl (by decide) (fun a h => ?_)
        rw [if_neg (by rw [hB17]; decide)] at hz193
        refine s_x h rfl rfl (by decide) (x_pick (u' := undef) h.k rfl rfl (fun hh => absurd (hB17.symm.trans hh) (by decide)) (fun _ => rfl)) (fun a h => ?_)
        exact (h.mid 3 rfl).val (by rw [Option.some.inj hz193])
      refine sAV h (fun a h => ?_)
      refine l_end ?_
      refine wp_ret ?_
      rw [← Option.some.inj hf]
      exact r_ret1 h rfl (rv_tmp h rfl) ⟨_, [], _, rfl, ⟨rfl, rfl, trivial⟩, rfl, up116, (h.m.pick [7] _ (by decide) rfl)⟩
  · obtain ⟨x200, rfl, hR⟩ := hR
    dsimp only at hf
    obtain ⟨g201, A202, c203, A205, c206, cs207, A209, c210, cs211, A214, c215, cs216, g218, es219, cl220, g222, es223, cl224, rfl, rfl, hs204, hq208, hq212, hr213, hq217, hm221, hm225, _⟩ := hR
    refine sMV h (fun a h => ?_)
    refine s_x h rfl rfl (by decide) (x_ext h.k rfl rfl rfl) (fun a h => ?_)
    refine s_x h rfl rfl (by decide) (x_ext h.k rfl rfl rfl) (fun a h => ?_)
    refine sAV h (fun a h => ?_)
    refine sAV h (fun a h => ?_)
    refine l_end ?_
    refine c_rs ?_
    refine sMV h (fun a h => ?_)
    refine sMV h (fun a h => ?_)
    refine sMV h (fun a h => ?_)
    refine q_bslice (T := tyI) (S := S89) h rfl rfl rfl (by decide) Try.underlying23 zi_int (by decide) (by decide) (by decide) (by decide) [.int .i64 x60.1, .int .i64 x20.1] rfl rfl (C := [[.int .i64 x60.1], [.int .i64 x20.1]]) rfl (xs := [x60.1, x20.1]) ⟨[.int .i64 x60.1], _, rfl, ⟨rfl, hr66⟩, ⟨[.int .i64 x20.1], _, rfl, ⟨rfl, hr26⟩, rfl⟩⟩ (by simp only [List.mem_cons, List.not_mem_nil, or_false]; rintro c (rfl | rfl) <;> rfl) (fun a w A226 h => ?_)
    have hb227 : reps tyI S89 ([[.int .i64 x60.1], [.int .i64 x20.1]] : List (List Value)).flatten [x60.1, x20.1] := ⟨[.int .i64 x60.1], _, rfl, ⟨rfl, hr66⟩, ⟨[.int .i64 x20.1], _, rfl, ⟨rfl, hr26⟩, rfl⟩⟩
    have h := h.pick [0, 8, 1, 2, 3, 4, 5, 6, 7] (by decide) rfl
    obtain ⟨S228, le229, up230, hs231, h⟩ := q_freeze (T := tyI) h up90 hb227
    obtain ⟨x232, h233, hf⟩ := bsome hf
    have h := h.pick [4, 5, 6, 7, 0, 1, 2, 3] (by decide) rfl
    have hX := know_From_ok Fu (S0 := S228) x200.2.2 g7 A214 c215 cs216 g218 es219 cl220 g222 es223 cl224 (hq217.mono le229) (hm221.mono le229) (hm225.mono le229) A226 2 ([x60.1, x20.1]) hs231 _ h233 _ (h.sub (Ls := [.box g7 52 ([.slice A214 x200.2.2.1.length c215, .map (some g218), .map (some g222)]), .row (.slice A214 x200.2.2.1.length c215) 46 3 x200.2.2.1.length cs216, .obj g218 (.map es219 cl220), .obj g222 (.map es223 cl224)]))
    refine q_callY (Ls := [.box g7 52 ([.slice A214 x200.2.2.1.length c215, .map (some g218), .map (some g222)]), .row (.slice A214 x200.2.2.1.length c215) 46 3 x200.2.2.1.length cs216, .obj g218 (.map es219 cl220), .obj g222 (.map es223 cl224)]) hX h up230 rfl rfl rfl (by decide) Try.func6 rfl rfl rfl (fun a w v L1 S235 hR le237 up236 h => ?_)
    rcases hR with hR | hR
    · obtain ⟨x238, rfl, hR⟩ := hR
      dsimp only at hf
      obtain ⟨A240, c241, cs242, g244, es245, cl246, g248, es249, cl250, rfl, rfl, hr239, hq243, hm247, hm251, _⟩ := hR
      refine sMV h (fun a h => ?_)
      refine s_x h rfl rfl (by decide) (x_ext h.k rfl rfl rfl) (fun a h => ?_)
      refine s_x h rfl rfl (by decide) (x_ext h.k rfl rfl rfl) (fun a h => ?_)
      refine sAV h (fun a h => ?_)
      refine sAV h (fun a h => ?_)
      refine l_end ?_
      refine c_rs ?_
      refine sMV h (fun a h => ?_)
      refine s_x h rfl rfl (by decide) (x_bin h.k rfl rfl rfl ib_eql) (fun a h => ?_)
      refine sMV h (fun a h => ?_)
      refine q_grp h 3 (t := 48) 51 ((decide (x200.2.1 = 0)) && (decide (x238.1 = 0))) rfl (fun hB2 => ?_) (fun hB2 => ?_) (fun a w h => ?_)
      · refine g_yes h rfl rfl rfl rfl hB2 ?_
        refine sMV h (fun a h => ?_)
        refine g_yes h rfl rfl rfl rfl hB2 ?_
        refine s_x h rfl rfl (by decide) (x_bin h.k rfl rfl rfl ib_eql) (fun a h => ?_)
        refine s_x h rfl rfl (by decide) (x_pick (u' := undef) h.k rfl rfl (fun _ => rfl) (fun hh => absurd (hB2.symm.trans hh) (by decide))) (fun a h => ?_)
        exact (h.mid 2 rfl).val (by first | rfl | (rw [hB2]; first | rfl | simp))
      · refine g_no h rfl rfl rfl rfl hB2 rfl (by decide) (fun a h => ?_)
        refine g_no h rfl rfl rfl rfl hB2 rfl (by decide) (fun a h => ?_)
        refine s_x h rfl rfl (by decide) (x_pick (u' := undef) h.k rfl rfl (fun hh => absurd (hB2.symm.trans hh) (by decide)) (fun _ => rfl)) (fun a h => ?_)
        exact (h.mid 2 rfl).val (by first | rfl | (rw [hB2]; first | rfl | simp))
      refine sMV h (fun a h => ?_)
      obtain ⟨z255, hz254, hf⟩ := bsome hf
      refine q_grp h 5 (t := 52) 57 z255 rfl (fun hB6 => ?_) (fun hB6 => ?_) (fun a w h => ?_)
      · rw [if_pos hB6] at hz254
        refine g_yes h rfl rfl rfl rfl hB6 ?_
        refine sMV h (fun a h => ?_)
        refine g_yes h rfl rfl rfl rfl hB6 ?_
        refine sMV h (fun a h => ?_)
        refine g_yes h rfl rfl rfl rfl hB6 ?_
        obtain ⟨x257, h258, hz254⟩ := bsome hz254
        have hX := know_Set_Has_ok Fu (S0 := snapAll _) g201 x200.1 ⟨[.slice A202 x200.1.1.length c203, .slice A205 x200.1.2.1.length c206, .slice A209 x200.1.2.2.1.length c210, .bool x200.1.2.2.2], h.m.boxAll (i := 5) rfl, ⟨[.slice A202 x200.1.1.length c203], [.slice A205 x200.1.2.1.length c206, .slice A209 x200.1.2.2.1.length c210, .bool x200.1.2.2.2], rfl, ⟨_, _, rfl, ((hs204.mono (le229.trans le237))).mono (h.m.leAll (i := 4) rfl)⟩, ⟨[.slice A205 x200.1.2.1.length c206], [.slice A209 x200.1.2.2.1.length c210, .bool x200.1.2.2.2], rfl, ⟨_, _, rfl, h.m.rowAll (i := 6) rfl (j := 4) rfl (hq208.mono (le229.trans le237))⟩, ⟨[.slice A209 x200.1.2.2.1.length c210], [.bool x200.1.2.2.2], rfl, ⟨_, _, rfl, h.m.rowAll (i := 7) rfl (j := 4) rfl (hq212.mono (le229.trans le237))⟩, rfl⟩⟩⟩⟩ x40.1 hr46 _ h258 _ h.startAll
        refine q_callX hX h rfl rfl rfl (by decide) Try.func10 rfl rfl rfl (fun a w v L1 S1 hR hb1 h => ?_)
        obtain ⟨rfl, rfl, _⟩ := hR
        refine g_yes h rfl rfl rfl rfl hB6 ?_
        refine s_x h rfl rfl (by decide) (x_not h.k rfl rfl) (fun a h => ?_)
        refine s_x h rfl rfl (by decide) (x_pick (u' := undef) h.k rfl rfl (fun _ => rfl) (fun hh => absurd (hB6.symm.trans hh) (by decide))) (fun a h => ?_)
        exact (h.mid 4 rfl).val (by rw [Option.some.inj hz254])
      · refine g_no h rfl rfl rfl rfl hB6 rfl (by decide) (fun a h => ?_)
        refine g_no h rfl rfl rfl rfl hB6 rfl (by decide) (fun a h => ?_)
        refine g_no h rfl rfl rfl rfl hB6 rfl (by decide) (fun a h => ?_)
        refine g_no h rfl rfl rfl rfl hB6 rfl (by decide) (fun a h => ?_)
        rw [if_neg (by rw [hB6]; decide)] at hz254
        refine s_x h rfl rfl (by decide) (x_pick (u' := undef) h.k rfl rfl (fun hh => absurd (hB6.symm.trans hh) (by decide)) (fun _ => rfl)) (fun a h => ?_)
        exact (h.mid 4 rfl).val (by rw [Option.some.inj hz254])
      refine sMV h (fun a h => ?_)
      obtain ⟨z261, hz260, hf⟩ := bsome hf
      refine q_grp h 4 (t := 58) 62 z261 rfl (fun hB12 => ?_) (fun hB12 => ?_) (fun a w h => ?_)
      · rw [if_pos hB12] at hz260
        refine g_yes h rfl rfl rfl rfl hB12 ?_
        refine sMV h (fun a h => ?_)
        refine g_yes h rfl rfl rfl rfl hB12 ?_
        refine sMV h (fun a h => ?_)
        refine g_yes h rfl rfl rfl rfl hB12 ?_
        obtain ⟨x263, h264, hz260⟩ := bsome hz260
        have hX := know_Set_Has_nil0_ok Fu (S0 := snapAll _) x40.1 hr46 _ h264 _ h.startAll
        refine q_callX hX h rfl rfl rfl (by decide) Try.func10 rfl rfl rfl (fun a w v L1 S1 hR hb1 h => ?_)
        obtain ⟨rfl, rfl, _⟩ := hR
        refine s_x h rfl rfl (by decide) (x_pick (u' := undef) h.k rfl rfl (fun _ => rfl) (fun hh => absurd (hB12.symm.trans hh) (by decide))) (fun a h => ?_)
        exact (h.mid 3 rfl).val (by rw [Option.some.inj hz260])
      · refine g_no h rfl rfl rfl rfl hB12 rfl (by decide) (fun a h => ?_)
        refine g_no h rfl rfl rfl rfl hB12 rfl (by decide) (fun a h => ?_)
        refine g_no h rfl rfl rfl rfl hB12 rfl (by decide) (fun a h => ?_)
        rw [if_neg (by rw [hB12]; decide)] at hz260
        refine s_x h rfl rfl (by decide) (x_pick (u' := undef) h.k rfl rfl (fun hh => absurd (hB12.symm.trans hh) (by decide)) (fun _ => rfl)) (fun a h => ?_)
        exact (h.mid 3 rfl).val (by rw [Option.some.inj hz260])
      refine sMV h (fun a h => ?_)
      obtain ⟨z267, hz266, hf⟩ := bsome hf
      refine q_grp h 4 (t := 63) 67 z267 rfl (fun hB17 => ?_) (fun hB17 => ?_) (fun a w h => ?_)
      · rw [if_pos hB17] at hz266
        refine g_yes h rfl rfl rfl rfl hB17 ?_
        refine sMV h (fun a h => ?_)
        refine g_yes h rfl rfl rfl rfl hB17 ?_
        obtain ⟨x269, h270, hz266⟩ := bsome hz266
        have hX := know_Set_Len_nil0_ok Fu (S0 := snapAll _)  _ h270 _ h.startAll
        refine q_callX hX h rfl rfl rfl (by decide) Try.func13 rfl rfl rfl (fun a w v L1 S1 hR hb1 h => ?_)
        obtain ⟨rfl, rfl, hr272, _⟩ := hR
        refine g_yes h rfl rfl rfl rfl hB17 ?_
        refine s_x h rfl rfl (by decide) (x_bin h.k rfl rfl rfl ib_eql) (fun a h => ?_)
        refine s_x h rfl rfl (by decide) (x_pick (u' := undef) h.k rfl rfl (fun _ => rfl) (fun hh => absurd (hB17.symm.trans hh) (by decide))) (fun a h => ?_)
        exact (h.mid 3 rfl).val (by rw [Option.some.inj hz266])
      · refine g_no h rfl rfl rfl rfl hB17 rfl (by decide) (fun a h => ?_)
        refine g_no h rfl rfl rfl rfl hB17 rfl (by decide) (fun a h => ?_)
        refine g_no h rfl rfl rfl rfl hB17 rfl (by decide) (fun a h => ?_)
        rw [if_neg (by rw [hB17]; decide)] at hz266
        refine s_x h rfl rfl (by decide) (x_pick (u' := undef) h.k rfl rfl (fun hh => absurd (hB17.symm.trans hh) (by decide)) (fun _ => rfl)) (fun a h => ?_)
        exact (h.mid 3 rfl).val (by rw [Option.some.inj hz266])
      refine sAV h (fun a h => ?_)
      refine l_end ?_
      refine wp_ret ?_
      rw [← Option.some.inj hf]
      exact r_ret1 h rfl (rv_tmp h rfl) ⟨_, [], _, rfl, ⟨rfl, rfl, trivial⟩, rfl, up236, (h.m.pick [4] _ (by decide) rfl)⟩
    · obtain ⟨x273, rfl, hR⟩ := hR
      dsimp only at hf
      obtain ⟨g274, A275, c276, A278, c279, cs280, A282, c283, cs284, A287, c288, cs289, g291, es292, cl293, g295, es296, cl297, rfl, rfl, hs277, hq281, hq285, hr286, hq290, hm294, hm298, _⟩ := hR
      refine sMV h (fun a h => ?_)
      refine s_x h rfl rfl (by decide) (x_ext h.k rfl rfl rfl) (fun a h => ?_)
      refine s_x h rfl rfl (by decide) (x_ext h.k rfl rfl rfl) (fun a h => ?_)
      refine sAV h (fun a h => ?_)
      refine sAV h (fun a h => ?_)
      refine l_end ?_
      refine c_rs ?_
      refine sMV h (fun a h => ?_)
      refine s_x h rfl rfl (by decide) (x_bin h.k rfl rfl rfl ib_eql) (fun a h => ?_)
      refine sMV h (fun a h => ?_)
      refine q_grp h 3 (t := 48) 51 ((decide (x200.2.1 = 0)) && (decide (x273.2.1 = 0))) rfl (fun hB2 => ?_) (fun hB2 => ?_) (fun a w h => ?_)
      · refine g_yes h rfl rfl rfl rfl hB2 ?_
        refine sMV h (fun a h => ?_)
        refine g_yes h rfl rfl rfl rfl hB2 ?_
        refine s_x h rfl rfl (by decide) (x_bin h.k rfl rfl rfl ib_eql) (fun a h => ?_)
        refine s_x h rfl rfl (by decide) (x_pick (u' := undef) h.k rfl rfl (fun _ => rfl) (fun hh => absurd (hB2.symm.trans hh) (by decide))) (fun a h => ?_)
        exact (h.mid 2 rfl).val (by first | rfl | (rw [hB2]; first | rfl | simp))
      · refine g_no h rfl rfl rfl rfl hB2 rfl (by decide) (fun a h => ?_)
        refine g_no h rfl rfl rfl rfl hB2 rfl (by decide) (fun a h => ?_)
        refine s_x h rfl rfl (by decide) (x_pick (u' := undef) h.k rfl rfl (fun hh => absurd (hB2.symm.trans hh) (by decide)) (fun _ => rfl)) (fun a h => ?_)
        exact (h.mid 2 rfl).val (by first | rfl | (rw [hB2]; first | rfl | simp))
      refine sMV h (fun a h => ?_)
      obtain ⟨z302, hz301, hf⟩ := bsome hf
      refine q_grp h 5 (t := 52) 57 z302 rfl (fun hB6 => ?_) (fun hB6 => ?_) (fun a w h => ?_)
      · rw [if_pos hB6] at hz301
        refine g_yes h rfl rfl rfl rfl hB6 ?_
        refine sMV h (fun a h => ?_)
        refine g_yes h rfl rfl rfl rfl hB6 ?_
        refine sMV h (fun a h => ?_)
        refine g_yes h rfl rfl rfl rfl hB6 ?_
        obtain ⟨x304, h305, hz301⟩ := bsome hz301
        have hX := know_Set_Has_ok Fu (S0 := snapAll _) g201 x200.1 ⟨[.slice A202 x200.1.1.length c203, .slice A205 x200.1.2.1.length c206, .slice A209 x200.1.2.2.1.length c210, .bool x200.1.2.2.2], h.m.boxAll (i := 8) rfl, ⟨[.slice A202 x200.1.1.length c203], [.slice A205 x200.1.2.1.length c206, .slice A209 x200.1.2.2.1.length c210, .bool x200.1.2.2.2], rfl, ⟨_, _, rfl, ((hs204.mono (le229.trans le237))).mono (h.m.leAll (i := 7) rfl)⟩, ⟨[.slice A205 x200.1.2.1.length c206], [.slice A209 x200.1.2.2.1.length c210, .bool x200.1.2.2.2], rfl, ⟨_, _, rfl, h.m.rowAll (i := 9) rfl (j := 7) rfl (hq208.mono (le229.trans le237))⟩, ⟨[.slice A209 x200.1.2.2.1.length c210], [.bool x200.1.2.2.2], rfl, ⟨_, _, rfl, h.m.rowAll (i := 10) rfl (j := 7) rfl (hq212.mono (le229.trans le237))⟩, rfl⟩⟩⟩⟩ x40.1 hr46 _ h305 _ h.startAll
        refine q_callX hX h rfl rfl rfl (by decide) Try.func10 rfl rfl rfl (fun a w v L1 S1 hR hb1 h => ?_)
        obtain ⟨rfl, rfl, _⟩ := hR
        refine g_yes h rfl rfl rfl rfl hB6 ?_
        refine s_x h rfl rfl (by decide) (x_not h.k rfl rfl) (fun a h => ?_)
        refine s_x h rfl rfl (by decide) (x_pick (u' := undef) h.k rfl rfl (fun _ => rfl) (fun hh => absurd (hB6.symm.trans hh) (by decide))) (fun a h => ?_)
        exact (h.mid 4 rfl).val (by rw [Option.some.inj hz301])
      · refine g_no h rfl rfl rfl rfl hB6 rfl (by decide) (fun a h => ?_)
        refine g_no h rfl rfl rfl rfl hB6 rfl (by decide) (fun a h => ?_)
        refine g_no h rfl rfl rfl rfl hB6 rfl (by decide) (fun a h => ?_)
        refine g_no h rfl rfl rfl rfl hB6 rfl (by decide) (fun a h => ?_)
        rw [if_neg (by rw [hB6]; decide)] at hz301
        refine s_x h rfl rfl (by decide) (x_pick (u' := undef) h.k rfl rfl (fun hh => absurd (hB6.symm.trans hh) (by decide)) (fun _ => rfl)) (fun a h => ?_)
        exact (h.mid 4 rfl).val (by rw [Option.some.inj hz301])
      refine sMV h (fun a h => ?_)
      obtain ⟨z308, hz307, hf⟩ := bsome hf
      refine q_grp h 4 (t := 58) 62 z308 rfl (fun hB12 => ?_) (fun hB12 => ?_) (fun a w h => ?_)
      · rw [if_pos hB12] at hz307
        refine g_yes h rfl rfl rfl rfl hB12 ?_
        refine sMV h (fun a h => ?_)
        refine g_yes h rfl rfl rfl rfl hB12 ?_
        refine sMV h (fun a h => ?_)
        refine g_yes h rfl rfl rfl rfl hB12 ?_
        obtain ⟨x310, h311, hz307⟩ := bsome hz307
        have hX := know_Set_Has_ok Fu (S0 := snapAll _) g274 x273.1 ⟨[.slice A275 x273.1.1.length c276, .slice A278 x273.1.2.1.length c279, .slice A282 x273.1.2.2.1.length c283, .bool x273.1.2.2.2], h.m.boxAll (i := 0) rfl, ⟨[.slice A275 x273.1.1.length c276], [.slice A278 x273.1.2.1.length c279, .slice A282 x273.1.2.2.1.length c283, .bool x273.1.2.2.2], rfl, ⟨_, _, rfl, (hs277).mono (h.m.leAll (i := 7) rfl)⟩, ⟨[.slice A278 x273.1.2.1.length c279], [.slice A282 x273.1.2.2.1.length c283, .bool x273.1.2.2.2], rfl, ⟨_, _, rfl, h.m.rowAll (i := 1) rfl (j := 7) rfl hq281⟩, ⟨[.slice A282 x273.1.2.2.1.length c283], [.bool x273.1.2.2.2], rfl, ⟨_, _, rfl, h.m.rowAll (i := 2) rfl (j := 7) rfl hq285⟩, rfl⟩⟩⟩⟩ x40.1 hr46 _ h311 _ h.startAll
        refine q_callX hX h rfl rfl rfl (by decide) Try.func10 rfl rfl rfl (fun a w v L1 S1 hR hb1 h => ?_)
        obtain ⟨rfl, rfl, _⟩ := hR
        refine s_x h rfl rfl (by decide) (x_pick (u' := undef) h.k rfl rfl (fun _ => rfl) (fun hh => absurd (hB12.symm.trans hh) (by decide))) (fun a h => ?_)
        exact (h.mid 3 rfl).val (by rw [Option.some.inj hz307])
      · refine g_no h rfl rfl rfl rfl hB12 rfl (by decide) (fun a h => ?_)
        refine g_no h rfl rfl rfl rfl hB12 rfl (by decide) (fun a h => ?_)
        refine g_no h rfl rfl rfl rfl hB12 rfl (by decide) (fun a h => ?_)
        rw [if_neg (by rw [hB12]; decide)] at hz307
        refine s_x h rfl rfl (by decide) (x_pick (u' := undef) h.k rfl rfl (fun hh => absurd (hB12.symm.trans hh) (by decide)) (fun _ => rfl)) (fun a h => ?_)
        exact (h.mid 3 rfl).val (by rw [Option.some.inj hz307])
      refine sMV h (fun a h => ?_)
      obtain ⟨z314, hz313, hf⟩ := bsome hf
      refine q_grp h 4 (t := 63) 67 z314 rfl (fun hB17 => ?_) (fun hB17 => ?_) (fun a w h => ?_)
      · rw [if_pos hB17] at hz313
        refine g_yes h rfl rfl rfl rfl hB17 ?_
        refine sMV h (fun a h => ?_)
        refine g_yes h rfl rfl rfl rfl hB17 ?_
        obtain ⟨x316, h317, hz313⟩ := bsome hz313
        have hX := know_Set_Len_ok Fu (S0 := snapAll _) g274 x273.1 ⟨[.slice A275 x273.1.1.length c276, .slice A278 x273.1.2.1.length c279, .slice A282 x273.1.2.2.1.length c283, .bool x273.1.2.2.2], h.m.boxAll (i := 0) rfl, ⟨[.slice A275 x273.1.1.length c276], [.slice A278 x273.1.2.1.length c279, .slice A282 x273.1.2.2.1.length c283, .bool x273.1.2.2.2], rfl, ⟨_, _, rfl, (hs277).mono (h.m.leAll (i := 7) rfl)⟩, ⟨[.slice A278 x273.1.2.1.length c279], [.slice A282 x273.1.2.2.1.length c283, .bool x273.1.2.2.2], rfl, ⟨_, _, rfl, h.m.rowAll (i := 1) rfl (j := 7) rfl hq281⟩, ⟨[.slice A282 x273.1.2.2.1.length c283], [.bool x273.1.2.2.2], rfl, ⟨_, _, rfl, h.m.rowAll (i := 2) rfl (j := 7) rfl hq285⟩, rfl⟩⟩⟩⟩ _ h317 _ h.startAll
        refine q_callX hX h rfl rfl rfl (by decide) Try.func13 rfl rfl rfl (fun a w v L1 S1 hR hb1 h => ?_)
        obtain ⟨rfl, rfl, hr319, _⟩ := hR
        refine g_yes h rfl rfl rfl rfl hB17 ?_
        refine s_x h rfl rfl (by decide) (x_bin h.k rfl rfl rfl ib_eql) (fun a h => ?_)
        refine s_x h rfl rfl (by decide) (x_pick (u' := undef) h.k rfl rfl (fun _ => rfl) (fun hh => absurd (hB17.symm.trans hh) (by decide))) (fun a h => ?_)
        exact (h.mid 3 rfl).val (by rw [Option.some.inj hz313])
      · refine g_no h rfl rfl rfl rfl hB17 rfl (by decide) (fun a h => ?_)
        refine g_no h rfl rfl rfl rfl hB17 rfl (by decide) (fun a h => ?_)
        refine g_no h rfl rfl rfl rfl hB17 rfl (by decide) (fun a h => ?_)
        rw [if_neg (by rw [hB17]; decide)] at hz313
        refine s_x h rfl rfl (by decide) (x_pick (u' := undef) h.k rfl rfl (fun hh => absurd (hB17.symm.trans hh) (by decide)) (fun _ => rfl)) (fun a h => ?_)
        exact (h.mid 3 rfl).val (by rw [Option.some.inj hz313])
      refine sAV h (fun a h => ?_)
      refine l_end ?_
      refine wp_ret ?_
      rw [← Option.some.inj hf]
      exact r_ret1 h rfl (rv_tmp h rfl) ⟨_, [], _, rfl, ⟨rfl, rfl, trivial⟩, rfl, up236, (h.m.pick [7] _ (by decide) rfl)⟩
end Go.Proofs.Ytnjmlihmnkbgdaa
