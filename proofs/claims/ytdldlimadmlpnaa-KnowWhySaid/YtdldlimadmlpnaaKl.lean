/- Kl: Go functions as plain functions, and that they are so (written by xt.py). -/
import Derived.Test.YtdldlimadmlpnaaKf
import Derived.Test.YtdldlimadmlpnaaKr
set_option linter.unusedVariables false
set_option linter.unusedSimpArgs false
namespace Go.Proofs.Ytdldlimadmlpnaa
open Go.RowKit
def chatelainelaw37_awake (Fu : Nat) : Option Bool :=
  (term_New Fu).bind fun x1 => (term_Store_Fresh Fu x1 1).bind fun x20 => (term_Store_Fresh Fu x20.2.2 3).bind fun x40 => (term_Store_Put Fu x40.2.2 (3, x20.1, x40.1)).bind fun x60 => (know_From Fu x60.2.2 ([x60.1])).bind fun x86 => (match x86 with | .inl x92 => ((know_From Fu x92.2 ([x60.1, x20.1])).bind fun x112 => (match x112 with | .inl x118 => ((if ((decide (x92.1 = 0)) && (decide (x118.1 = 0))) = true then (know_Set_Has_nil0 Fu x40.1).bind fun x137 => some (!x137) else some false).bind fun z135 => (if z135 = true then (know_Set_Has_nil0 Fu x40.1).bind fun x143 => some x143 else some false).bind fun z141 => (if z141 = true then (know_Set_Len_nil0 Fu).bind fun x149 => some (decide (x149 = 3)) else some false).bind fun z147 => some z147) | .inr x153 => ((if ((decide (x92.1 = 0)) && (decide (x153.2.1 = 0))) = true then (know_Set_Has_nil0 Fu x40.1).bind fun x184 => some (!x184) else some false).bind fun z182 => (if z182 = true then (know_Set_Has Fu x153.1 x40.1).bind fun x190 => some x190 else some false).bind fun z188 => (if z188 = true then (know_Set_Len Fu x153.1).bind fun x196 => some (decide (x196 = 3)) else some false).bind fun z194 => some z194))) | .inr x200 => ((know_From Fu x200.2.2 ([x60.1, x20.1])).bind fun x232 => (match x232 with | .inl x238 => ((if ((decide (x200.2.1 = 0)) && (decide (x238.1 = 0))) = true then (know_Set_Has Fu x200.1 x40.1).bind fun x257 => some (!x257) else some false).bind fun z255 => (if z255 = true then (know_Set_Has_nil0 Fu x40.1).bind fun x263 => some x263 else some false).bind fun z261 => (if z261 = true then (know_Set_Len_nil0 Fu).bind fun x269 => some (decide (x269 = 3)) else some false).bind fun z267 => some z267) | .inr x273 => ((if ((decide (x200.2.1 = 0)) && (decide (x273.2.1 = 0))) = true then (know_Set_Has Fu x200.1 x40.1).bind fun x304 => some (!x304) else some false).bind fun z302 => (if z302 = true then (know_Set_Has Fu x273.1 x40.1).bind fun x310 => some x310 else some false).bind fun z308 => (if z308 = true then (know_Set_Len Fu x273.1).bind fun x316 => some (decide (x316 = 3)) else some false).bind fun z314 => some z314))))
set_option maxRecDepth 100000 in
set_option maxHeartbeats 2000000 in
theorem chatelainelaw37_awake_ok (Fu : Nat) {S0 : Snap}  (r : Bool) (hf : chatelainelaw37_awake Fu = some r) (w0 : World) (hm : Mem w0 (ownL ([] ++ [.sn S0])) ([] ++ [.sn S0]) w0) :
    Calls Try.prog 6 #[] w0 (Ret w0 S0 [] (fun v L1 S1 => v = .bool r ∧ L1 = [] ∧ True)) := by
  unfold chatelainelaw37_awake at hf
  refine c_enterM Try.func6 rfl 68 rfl (by simp) _ hm _ rfl (fun a h => ?_)
  refine c_rs ?_ -- region 0
  refine s_assign h rfl _ rfl rfl (by decide) rfl (fun a h => ?_)
  refine l_end ?_
  refine c_rs ?_ -- region 1
  obtain ⟨x1, h2, hf⟩ := bsome hf
  have hX := term_New_ok Fu (S0 := S0)  _ h2 _ (h.sub (Ls := []))
  refine q_callY (Ls := []) hX h (Up.refl _ _ _) rfl rfl rfl (by decide) Try.func17 rfl rfl rfl (fun a w v L1 S4 hR le6 up5 h => ?_)
  obtain ⟨g7, A8, c9, cs10, g12, es13, cl14, g16, es17, cl18, rfl, rfl, hq11, hm15, hm19, _⟩ := hR
  refine s_assign h rfl _ rfl rfl (by decide) rfl (fun a h => ?_)
  refine l_end ?_
  refine c_rs ?_ -- region 2
  refine s_move h rfl _ rfl rfl (by decide) rfl (fun a h => ?_)
  obtain ⟨x20, h21, hf⟩ := bsome hf
  have hX := term_Store_Fresh_ok Fu (S0 := S4) x1 g7 A8 c9 cs10 g12 es13 cl14 g16 es17 cl18 hq11 hm15 hm19 1 (show r64 1 from ⟨by decide, by decide⟩) _ h21 _ (h.sub (Ls := [.box g7 59 ([.slice A8 x1.1.length c9, .map (some g12), .map (some g16)]), .row (.slice A8 x1.1.length c9) 33 3 x1.1.length cs10, .obj g12 (.map es13 cl14), .obj g16 (.map es17 cl18)]))
  refine q_callY (Ls := [.box g7 59 ([.slice A8 x1.1.length c9, .map (some g12), .map (some g16)]), .row (.slice A8 x1.1.length c9) 33 3 x1.1.length cs10, .obj g12 (.map es13 cl14), .obj g16 (.map es17 cl18)]) hX h up5 rfl rfl rfl (by decide) Try.func18 rfl rfl rfl (fun a w v L1 S23 hR le25 up24 h => ?_)
  obtain ⟨A28, c29, cs30, g32, es33, cl34, g36, es37, cl38, rfl, rfl, hr26, hr27, hq31, hm35, hm39, _⟩ := hR
  refine s_move h rfl _ rfl rfl (by decide) rfl (fun a h => ?_)
  refine s_x h rfl rfl (by decide) (x_ext h.k rfl rfl rfl) (fun a h => ?_)
  refine s_x h rfl rfl (by decide) (x_ext h.k rfl rfl rfl) (fun a h => ?_)
  refine s_assign h rfl _ rfl rfl (by decide) rfl (fun a h => ?_)
  refine s_assign h rfl _ rfl rfl (by decide) rfl (fun a h => ?_)
  refine l_end ?_
  refine c_rs ?_ -- region 3
  refine s_move h rfl _ rfl rfl (by decide) rfl (fun a h => ?_)
  obtain ⟨x40, h41, hf⟩ := bsome hf
  have hX := term_Store_Fresh_ok Fu (S0 := S23) x20.2.2 g7 A28 c29 cs30 g32 es33 cl34 g36 es37 cl38 hq31 hm35 hm39 3 (show r64 3 from ⟨by decide, by decide⟩) _ h41 _ (h.sub (Ls := [.box g7 59 ([.slice A28 x20.2.2.1.length c29, .map (some g32), .map (some g36)]), .row (.slice A28 x20.2.2.1.length c29) 33 3 x20.2.2.1.length cs30, .obj g32 (.map es33 cl34), .obj g36 (.map es37 cl38)]))
  refine q_callY (Ls := [.box g7 59 ([.slice A28 x20.2.2.1.length c29, .map (some g32), .map (some g36)]), .row (.slice A28 x20.2.2.1.length c29) 33 3 x20.2.2.1.length cs30, .obj g32 (.map es33 cl34), .obj g36 (.map es37 cl38)]) hX h up24 rfl rfl rfl (by decide) Try.func18 rfl rfl rfl (fun a w v L1 S43 hR le45 up44 h => ?_)
  obtain ⟨A48, c49, cs50, g52, es53, cl54, g56, es57, cl58, rfl, rfl, hr46, hr47, hq51, hm55, hm59, _⟩ := hR
  refine s_move h rfl _ rfl rfl (by decide) rfl (fun a h => ?_)
  refine s_x h rfl rfl (by decide) (x_ext h.k rfl rfl rfl) (fun a h => ?_)
  refine s_x h rfl rfl (by decide) (x_ext h.k rfl rfl rfl) (fun a h => ?_)
  refine s_assign h rfl _ rfl rfl (by decide) rfl (fun a h => ?_)
  refine s_assign h rfl _ rfl rfl (by decide) rfl (fun a h => ?_)
  refine l_end ?_
  refine c_rs ?_ -- region 4
  refine s_move h rfl _ rfl rfl (by decide) rfl (fun a h => ?_)
  refine s_move h rfl _ rfl rfl (by decide) rfl (fun a h => ?_)
  refine s_move h rfl _ rfl rfl (by decide) rfl (fun a h => ?_)
  refine s_x h rfl rfl (by decide) (x_build h.k rfl [(0, .int .i64 3), (1, .int .i64 x20.1), (2, .int .i64 x40.1)] rfl ([.int .i64 3, .int .i64 x20.1, .int .i64 x40.1]) (by kernel_rfl)) (fun a h => ?_)
  obtain ⟨x60, h61, hf⟩ := bsome hf
  have hX := term_Store_Put_ok Fu (S0 := S43) x40.2.2 g7 A48 c49 cs50 g52 es53 cl54 g56 es57 cl58 hq51 hm55 hm59 ([.int .i64 3, .int .i64 x20.1, .int .i64 x40.1]) (3, x20.1, x40.1) (⟨[.int .i64 3], [.int .i64 x20.1, .int .i64 x40.1], rfl, ⟨rfl, (show r64 3 from ⟨by decide, by decide⟩)⟩, ⟨[.int .i64 x20.1], [.int .i64 x40.1], rfl, ⟨rfl, hr26⟩, ⟨rfl, hr46⟩⟩⟩) _ h61 _ (h.sub (Ls := [.box g7 59 ([.slice A48 x40.2.2.1.length c49, .map (some g52), .map (some g56)]), .row (.slice A48 x40.2.2.1.length c49) 33 3 x40.2.2.1.length cs50, .obj g52 (.map es53 cl54), .obj g56 (.map es57 cl58)]))
  refine q_callY (Ls := [.box g7 59 ([.slice A48 x40.2.2.1.length c49, .map (some g52), .map (some g56)]), .row (.slice A48 x40.2.2.1.length c49) 33 3 x40.2.2.1.length cs50, .obj g52 (.map es53 cl54), .obj g56 (.map es57 cl58)]) hX h up44 rfl rfl rfl (by decide) Try.func19 rfl rfl rfl (fun a w v L1 S63 hR le65 up64 h => ?_)
  obtain ⟨A68, c69, cs70, g72, es73, cl74, g76, es77, cl78, rfl, rfl, hr66, hr67, hq71, hm75, hm79, _⟩ := hR
  refine s_move h rfl _ rfl rfl (by decide) rfl (fun a h => ?_)
  refine s_x h rfl rfl (by decide) (x_ext h.k rfl rfl rfl) (fun a h => ?_)
  refine s_x h rfl rfl (by decide) (x_ext h.k rfl rfl rfl) (fun a h => ?_)
  refine s_assign h rfl _ rfl rfl (by decide) rfl (fun a h => ?_)
  refine s_assign h rfl _ rfl rfl (by decide) rfl (fun a h => ?_)
  refine l_end ?_
  refine c_rs ?_ -- region 5
  refine s_move h rfl _ rfl rfl (by decide) rfl (fun a h => ?_)
  refine s_move h rfl _ rfl rfl (by decide) rfl (fun a h => ?_)
  refine q_bslice (T := tyI) (S := S63) h rfl rfl rfl (by decide) Try.underlying23 zi_int (by decide) (by decide) (by decide) (by decide) [.int .i64 x60.1] rfl rfl (C := [[.int .i64 x60.1]]) rfl (xs := [x60.1]) ⟨[.int .i64 x60.1], _, rfl, ⟨rfl, hr66⟩, rfl⟩ (by intro c hc; simp only [List.mem_cons, List.not_mem_nil, or_false] at hc; subst hc; rfl) (fun a w A80 h => ?_)
  have hb81 : reps tyI S63 ([[.int .i64 x60.1]]).flatten [x60.1] := ⟨[.int .i64 x60.1], _, rfl, ⟨rfl, hr66⟩, rfl⟩
  have h := h.pick [0, 5, 1, 2, 3, 4] (by decide) rfl
  obtain ⟨S82, le83, up84, hs85, h⟩ := q_freeze (T := tyI) h up64 hb81
  obtain ⟨x86, h87, hf⟩ := bsome hf
  have h := h.pick [1, 2, 3, 4, 0] (by decide) rfl
  have hX := know_From_ok Fu (S0 := S82) x60.2.2 g7 A68 c69 cs70 g72 es73 cl74 g76 es77 cl78 (hq71.mono le83) (hm75.mono le83) (hm79.mono le83) A80 1 ([x60.1]) hs85 _ h87 _ (h.sub (Ls := [.box g7 59 ([.slice A68 x60.2.2.1.length c69, .map (some g72), .map (some g76)]), .row (.slice A68 x60.2.2.1.length c69) 33 3 x60.2.2.1.length cs70, .obj g72 (.map es73 cl74), .obj g76 (.map es77 cl78)]))
  refine q_callY (Ls := [.box g7 59 ([.slice A68 x60.2.2.1.length c69, .map (some g72), .map (some g76)]), .row (.slice A68 x60.2.2.1.length c69) 33 3 x60.2.2.1.length cs70, .obj g72 (.map es73 cl74), .obj g76 (.map es77 cl78)]) hX h up84 rfl rfl rfl (by decide) Try.func10 rfl rfl rfl (fun a w v L1 S89 hR le91 up90 h => ?_)
  rcases hR with hR | hR
  · obtain ⟨x92, rfl, hR⟩ := hR
    dsimp only at hf
    obtain ⟨A94, c95, cs96, g98, es99, cl100, g102, es103, cl104, rfl, rfl, hr93, hq97, hm101, hm105, _⟩ := hR
    refine s_move h rfl _ rfl rfl (by decide) rfl (fun a h => ?_)
    refine s_x h rfl rfl (by decide) (x_ext h.k rfl rfl rfl) (fun a h => ?_)
    refine s_x h rfl rfl (by decide) (x_ext h.k rfl rfl rfl) (fun a h => ?_)
    refine s_assign h rfl _ rfl rfl (by decide) rfl (fun a h => ?_)
    refine s_assign h rfl _ rfl rfl (by decide) rfl (fun a h => ?_)
    refine l_end ?_
    refine c_rs ?_ -- region 6
    refine s_move h rfl _ rfl rfl (by decide) rfl (fun a h => ?_)
    refine s_move h rfl _ rfl rfl (by decide) rfl (fun a h => ?_)
    refine s_move h rfl _ rfl rfl (by decide) rfl (fun a h => ?_)
    refine q_bslice (T := tyI) (S := S89) h rfl rfl rfl (by decide) Try.underlying23 zi_int (by decide) (by decide) (by decide) (by decide) [.int .i64 x60.1, .int .i64 x20.1] rfl rfl (C := [[.int .i64 x60.1], [.int .i64 x20.1]]) rfl (xs := [x60.1, x20.1]) ⟨[.int .i64 x60.1], _, rfl, ⟨rfl, hr66⟩, ⟨[.int .i64 x20.1], _, rfl, ⟨rfl, hr26⟩, rfl⟩⟩ (by simp only [List.mem_cons, List.not_mem_nil, or_false]; rintro c (rfl | rfl) <;> rfl) (fun a w A106 h => ?_)
    have hb107 : reps tyI S89 ([[.int .i64 x60.1], [.int .i64 x20.1]]).flatten [x60.1, x20.1] := ⟨[.int .i64 x60.1], _, rfl, ⟨rfl, hr66⟩, ⟨[.int .i64 x20.1], _, rfl, ⟨rfl, hr26⟩, rfl⟩⟩
    have h := h.pick [0, 5, 1, 2, 3, 4] (by decide) rfl
    obtain ⟨S108, le109, up110, hs111, h⟩ := q_freeze (T := tyI) h up90 hb107
    obtain ⟨x112, h113, hf⟩ := bsome hf
    have h := h.pick [1, 2, 3, 4, 0] (by decide) rfl
    have hX := know_From_ok Fu (S0 := S108) x92.2 g7 A94 c95 cs96 g98 es99 cl100 g102 es103 cl104 (hq97.mono le109) (hm101.mono le109) (hm105.mono le109) A106 2 ([x60.1, x20.1]) hs111 _ h113 _ (h.sub (Ls := [.box g7 59 ([.slice A94 x92.2.1.length c95, .map (some g98), .map (some g102)]), .row (.slice A94 x92.2.1.length c95) 33 3 x92.2.1.length cs96, .obj g98 (.map es99 cl100), .obj g102 (.map es103 cl104)]))
    refine q_callY (Ls := [.box g7 59 ([.slice A94 x92.2.1.length c95, .map (some g98), .map (some g102)]), .row (.slice A94 x92.2.1.length c95) 33 3 x92.2.1.length cs96, .obj g98 (.map es99 cl100), .obj g102 (.map es103 cl104)]) hX h up110 rfl rfl rfl (by decide) Try.func10 rfl rfl rfl (fun a w v L1 S115 hR le117 up116 h => ?_)
    rcases hR with hR | hR
    · obtain ⟨x118, rfl, hR⟩ := hR
      dsimp only at hf
      obtain ⟨A120, c121, cs122, g124, es125, cl126, g128, es129, cl130, rfl, rfl, hr119, hq123, hm127, hm131, _⟩ := hR
      refine s_move h rfl _ rfl rfl (by decide) rfl (fun a h => ?_)
      refine s_x h rfl rfl (by decide) (x_ext h.k rfl rfl rfl) (fun a h => ?_)
      refine s_x h rfl rfl (by decide) (x_ext h.k rfl rfl rfl) (fun a h => ?_)
      refine s_assign h rfl _ rfl rfl (by decide) rfl (fun a h => ?_)
      refine s_assign h rfl _ rfl rfl (by decide) rfl (fun a h => ?_)
      refine l_end ?_
      refine c_rs ?_ -- region 7
      refine s_move h rfl _ rfl rfl (by decide) rfl (fun a h => ?_)
      refine s_x h rfl rfl (by decide) (x_bin h.k rfl rfl rfl ib_eql) (fun a h => ?_)
      refine s_move h rfl _ rfl rfl (by decide) rfl (fun a h => ?_)
      refine q_grp h 3 (t := 48) 51 ((decide (x92.1 = 0)) && (decide (x118.1 = 0))) rfl (fun hB2 => ?_) (fun hB2 => ?_) (fun a w h => ?_)
      · refine g_yes h rfl rfl rfl rfl hB2 ?_
        refine s_move h rfl _ rfl rfl (by decide) rfl (fun a h => ?_)
        refine g_yes h rfl rfl rfl rfl hB2 ?_
        refine s_x h rfl rfl (by decide) (x_bin h.k rfl rfl rfl ib_eql) (fun a h => ?_)
        refine s_x h rfl rfl (by decide) (x_pick (u' := undef) h.k rfl rfl (fun _ => rfl) (fun hh => absurd (hB2.symm.trans hh) (by decide))) (fun a h => ?_)
        exact (h.mid 2 rfl).val (by first | rfl | (rw [hB2]; first | rfl | simp))
      · refine g_no h rfl rfl rfl rfl hB2 rfl (by decide) (fun a h => ?_)
        refine g_no h rfl rfl rfl rfl hB2 rfl (by decide) (fun a h => ?_)
        refine s_x h rfl rfl (by decide) (x_pick (u' := undef) h.k rfl rfl (fun hh => absurd (hB2.symm.trans hh) (by decide)) (fun _ => rfl)) (fun a h => ?_)
        exact (h.mid 2 rfl).val (by first | rfl | (rw [hB2]; first | rfl | simp))
      refine s_move h rfl _ rfl rfl (by decide) rfl (fun a h => ?_)
      obtain ⟨z135, hz134, hf⟩ := bsome hf
      refine q_grp h 5 (t := 52) 57 z135 rfl (fun hB6 => ?_) (fun hB6 => ?_) (fun a w h => ?_)
      · rw [if_pos hB6] at hz134
        refine g_yes h rfl rfl rfl rfl hB6 ?_
        refine s_move h rfl _ rfl rfl (by decide) rfl (fun a h => ?_)
        refine g_yes h rfl rfl rfl rfl hB6 ?_
        refine s_move h rfl _ rfl rfl (by decide) rfl (fun a h => ?_)
        refine g_yes h rfl rfl rfl rfl hB6 ?_
        obtain ⟨x137, h138, hz134⟩ := bsome hz134
        have hX := know_Set_Has_nil0_ok Fu (S0 := snapAll _) x40.1 hr46 _ h138 _ h.startAll
        refine q_callX hX h rfl rfl rfl (by decide) Try.func12 rfl rfl rfl (fun a w v L1 S1 hR hb1 h => ?_)
        obtain ⟨rfl, rfl, _⟩ := hR
        refine g_yes h rfl rfl rfl rfl hB6 ?_
        refine s_x h rfl rfl (by decide) (x_not h.k rfl rfl) (fun a h => ?_)
        refine s_x h rfl rfl (by decide) (x_pick (u' := undef) h.k rfl rfl (fun _ => rfl) (fun hh => absurd (hB6.symm.trans hh) (by decide))) (fun a h => ?_)
        exact (h.mid 4 rfl).val (by rw [Option.some.inj hz134])
      · refine g_no h rfl rfl rfl rfl hB6 rfl (by decide) (fun a h => ?_)
        refine g_no h rfl rfl rfl rfl hB6 rfl (by decide) (fun a h => ?_)
        refine g_no h rfl rfl rfl rfl hB6 rfl (by decide) (fun a h => ?_)
        refine g_no h rfl rfl rfl rfl hB6 rfl (by decide) (fun a h => ?_)
        rw [if_neg (by rw [hB6]; decide)] at hz134
        refine s_x h rfl rfl (by decide) (x_pick (u' := undef) h.k rfl rfl (fun hh => absurd (hB6.symm.trans hh) (by decide)) (fun _ => rfl)) (fun a h => ?_)
        exact (h.mid 4 rfl).val (by rw [Option.some.inj hz134])
      refine s_move h rfl _ rfl rfl (by decide) rfl (fun a h => ?_)
      obtain ⟨z141, hz140, hf⟩ := bsome hf
      refine q_grp h 4 (t := 58) 62 z141 rfl (fun hB12 => ?_) (fun hB12 => ?_) (fun a w h => ?_)
      · rw [if_pos hB12] at hz140
        refine g_yes h rfl rfl rfl rfl hB12 ?_
        refine s_move h rfl _ rfl rfl (by decide) rfl (fun a h => ?_)
        refine g_yes h rfl rfl rfl rfl hB12 ?_
        refine s_move h rfl _ rfl rfl (by decide) rfl (fun a h => ?_)
        refine g_yes h rfl rfl rfl rfl hB12 ?_
        obtain ⟨x143, h144, hz140⟩ := bsome hz140
        have hX := know_Set_Has_nil0_ok Fu (S0 := snapAll _) x40.1 hr46 _ h144 _ h.startAll
        refine q_callX hX h rfl rfl rfl (by decide) Try.func12 rfl rfl rfl (fun a w v L1 S1 hR hb1 h => ?_)
        obtain ⟨rfl, rfl, _⟩ := hR
        refine s_x h rfl rfl (by decide) (x_pick (u' := undef) h.k rfl rfl (fun _ => rfl) (fun hh => absurd (hB12.symm.trans hh) (by decide))) (fun a h => ?_)
        exact (h.mid 3 rfl).val (by rw [Option.some.inj hz140])
      · refine g_no h rfl rfl rfl rfl hB12 rfl (by decide) (fun a h => ?_)
        refine g_no h rfl rfl rfl rfl hB12 rfl (by decide) (fun a h => ?_)
        refine g_no h rfl rfl rfl rfl hB12 rfl (by decide) (fun a h => ?_)
        rw [if_neg (by rw [hB12]; decide)] at hz140
        refine s_x h rfl rfl (by decide) (x_pick (u' := undef) h.k rfl rfl (fun hh => absurd (hB12.symm.trans hh) (by decide)) (fun _ => rfl)) (fun a h => ?_)
        exact (h.mid 3 rfl).val (by rw [Option.some.inj hz140])
      refine s_move h rfl _ rfl rfl (by decide) rfl (fun a h => ?_)
      obtain ⟨z147, hz146, hf⟩ := bsome hf
      refine q_grp h 4 (t := 63) 67 z147 rfl (fun hB17 => ?_) (fun hB17 => ?_) (fun a w h => ?_)
      · rw [if_pos hB17] at hz146
        refine g_yes h rfl rfl rfl rfl hB17 ?_
        refine s_move h rfl _ rfl rfl (by decide) rfl (fun a h => ?_)
        refine g_yes h rfl rfl rfl rfl hB17 ?_
        obtain ⟨x149, h150, hz146⟩ := bsome hz146
        have hX := know_Set_Len_nil0_ok Fu (S0 := snapAll _)  _ h150 _ h.startAll
        refine q_callX hX h rfl rfl rfl (by decide) Try.func15 rfl rfl rfl (fun a w v L1 S1 hR hb1 h => ?_)
        obtain ⟨rfl, rfl, hr152, _⟩ := hR
        refine g_yes h rfl rfl rfl rfl hB17 ?_
        refine s_x h rfl rfl (by decide) (x_bin h.k rfl rfl rfl ib_eql) (fun a h => ?_)
        refine s_x h rfl rfl (by decide) (x_pick (u' := undef) h.k rfl rfl (fun _ => rfl) (fun hh => absurd (hB17.symm.trans hh) (by decide))) (fun a h => ?_)
        exact (h.mid 3 rfl).val (by rw [Option.some.inj hz146])
      · refine g_no h rfl rfl rfl rfl hB17 rfl (by decide) (fun a h => ?_)
        refine g_no h rfl rfl rfl rfl hB17 rfl (by decide) (fun a h => ?_)
        refine g_no h rfl rfl rfl rfl hB17 rfl (by decide) (fun a h => ?_)
        rw [if_neg (by rw [hB17]; decide)] at hz146
        refine s_x h rfl rfl (by decide) (x_pick (u' := undef) h.k rfl rfl (fun hh => absurd (hB17.symm.trans hh) (by decide)) (fun _ => rfl)) (fun a h => ?_)
        exact (h.mid 3 rfl).val (by rw [Option.some.inj hz146])
      refine s_assign h rfl _ rfl rfl (by decide) rfl (fun a h => ?_)
      refine l_end ?_
      refine wp_ret ?_
      rw [← Option.some.inj hf]
      exact r_ret1 h rfl (rv_tmp h rfl) ⟨_, [], _, rfl, ⟨rfl, rfl, trivial⟩, rfl, up116, (h.m.pick [4] _ (by decide) rfl)⟩
    · obtain ⟨x153, rfl, hR⟩ := hR
      dsimp only at hf
      obtain ⟨g154, A155, c156, A158, c159, cs160, A162, c163, cs164, A167, c168, cs169, g171, es172, cl173, g175, es176, cl177, rfl, rfl, hs157, hq161, hq165, hr166, hq170, hm174, hm178, _⟩ := hR
      refine s_move h rfl _ rfl rfl (by decide) rfl (fun a h => ?_)
      refine s_x h rfl rfl (by decide) (x_ext h.k rfl rfl rfl) (fun a h => ?_)
      refine s_x h rfl rfl (by decide) (x_ext h.k rfl rfl rfl) (fun a h => ?_)
      refine s_assign h rfl _ rfl rfl (by decide) rfl (fun a h => ?_)
      refine s_assign h rfl _ rfl rfl (by decide) rfl (fun a h => ?_)
      refine l_end ?_
      refine c_rs ?_ -- region 7
      refine s_move h rfl _ rfl rfl (by decide) rfl (fun a h => ?_)
      refine s_x h rfl rfl (by decide) (x_bin h.k rfl rfl rfl ib_eql) (fun a h => ?_)
      refine s_move h rfl _ rfl rfl (by decide) rfl (fun a h => ?_)
      refine q_grp h 3 (t := 48) 51 ((decide (x92.1 = 0)) && (decide (x153.2.1 = 0))) rfl (fun hB2 => ?_) (fun hB2 => ?_) (fun a w h => ?_)
      · refine g_yes h rfl rfl rfl rfl hB2 ?_
        refine s_move h rfl _ rfl rfl (by decide) rfl (fun a h => ?_)
        refine g_yes h rfl rfl rfl rfl hB2 ?_
        refine s_x h rfl rfl (by decide) (x_bin h.k rfl rfl rfl ib_eql) (fun a h => ?_)
        refine s_x h rfl rfl (by decide) (x_pick (u' := undef) h.k rfl rfl (fun _ => rfl) (fun hh => absurd (hB2.symm.trans hh) (by decide))) (fun a h => ?_)
        exact (h.mid 2 rfl).val (by first | rfl | (rw [hB2]; first | rfl | simp))
      · refine g_no h rfl rfl rfl rfl hB2 rfl (by decide) (fun a h => ?_)
        refine g_no h rfl rfl rfl rfl hB2 rfl (by decide) (fun a h => ?_)
        refine s_x h rfl rfl (by decide) (x_pick (u' := undef) h.k rfl rfl (fun hh => absurd (hB2.symm.trans hh) (by decide)) (fun _ => rfl)) (fun a h => ?_)
        exact (h.mid 2 rfl).val (by first | rfl | (rw [hB2]; first | rfl | simp))
      refine s_move h rfl _ rfl rfl (by decide) rfl (fun a h => ?_)
      obtain ⟨z182, hz181, hf⟩ := bsome hf
      refine q_grp h 5 (t := 52) 57 z182 rfl (fun hB6 => ?_) (fun hB6 => ?_) (fun a w h => ?_)
      · rw [if_pos hB6] at hz181
        refine g_yes h rfl rfl rfl rfl hB6 ?_
        refine s_move h rfl _ rfl rfl (by decide) rfl (fun a h => ?_)
        refine g_yes h rfl rfl rfl rfl hB6 ?_
        refine s_move h rfl _ rfl rfl (by decide) rfl (fun a h => ?_)
        refine g_yes h rfl rfl rfl rfl hB6 ?_
        obtain ⟨x184, h185, hz181⟩ := bsome hz181
        have hX := know_Set_Has_nil0_ok Fu (S0 := snapAll _) x40.1 hr46 _ h185 _ h.startAll
        refine q_callX hX h rfl rfl rfl (by decide) Try.func12 rfl rfl rfl (fun a w v L1 S1 hR hb1 h => ?_)
        obtain ⟨rfl, rfl, _⟩ := hR
        refine g_yes h rfl rfl rfl rfl hB6 ?_
        refine s_x h rfl rfl (by decide) (x_not h.k rfl rfl) (fun a h => ?_)
        refine s_x h rfl rfl (by decide) (x_pick (u' := undef) h.k rfl rfl (fun _ => rfl) (fun hh => absurd (hB6.symm.trans hh) (by decide))) (fun a h => ?_)
        exact (h.mid 4 rfl).val (by rw [Option.some.inj hz181])
      · refine g_no h rfl rfl rfl rfl hB6 rfl (by decide) (fun a h => ?_)
        refine g_no h rfl rfl rfl rfl hB6 rfl (by decide) (fun a h => ?_)
        refine g_no h rfl rfl rfl rfl hB6 rfl (by decide) (fun a h => ?_)
        refine g_no h rfl rfl rfl rfl hB6 rfl (by decide) (fun a h => ?_)
        rw [if_neg (by rw [hB6]; decide)] at hz181
        refine s_x h rfl rfl (by decide) (x_pick (u' := undef) h.k rfl rfl (fun hh => absurd (hB6.symm.trans hh) (by decide)) (fun _ => rfl)) (fun a h => ?_)
        exact (h.mid 4 rfl).val (by rw [Option.some.inj hz181])
      refine s_move h rfl _ rfl rfl (by decide) rfl (fun a h => ?_)
      obtain ⟨z188, hz187, hf⟩ := bsome hf
      refine q_grp h 4 (t := 58) 62 z188 rfl (fun hB12 => ?_) (fun hB12 => ?_) (fun a w h => ?_)
      · rw [if_pos hB12] at hz187
        refine g_yes h rfl rfl rfl rfl hB12 ?_
        refine s_move h rfl _ rfl rfl (by decide) rfl (fun a h => ?_)
        refine g_yes h rfl rfl rfl rfl hB12 ?_
        refine s_move h rfl _ rfl rfl (by decide) rfl (fun a h => ?_)
        refine g_yes h rfl rfl rfl rfl hB12 ?_
        obtain ⟨x190, h191, hz187⟩ := bsome hz187
        have hX := know_Set_Has_ok Fu (S0 := snapAll _) g154 x153.1 ⟨[.slice A155 x153.1.1.length c156, .slice A158 x153.1.2.1.length c159, .slice A162 x153.1.2.2.1.length c163, .bool x153.1.2.2.2], h.m.boxAll (i := 0) rfl, ⟨[.slice A155 x153.1.1.length c156], [.slice A158 x153.1.2.1.length c159, .slice A162 x153.1.2.2.1.length c163, .bool x153.1.2.2.2], rfl, ⟨_, _, rfl, (hs157).mono (h.m.leAll (i := 7) rfl)⟩, ⟨[.slice A158 x153.1.2.1.length c159], [.slice A162 x153.1.2.2.1.length c163, .bool x153.1.2.2.2], rfl, ⟨_, _, rfl, h.m.rowAll (i := 1) rfl (j := 7) rfl hq161⟩, ⟨[.slice A162 x153.1.2.2.1.length c163], [.bool x153.1.2.2.2], rfl, ⟨_, _, rfl, h.m.rowAll (i := 2) rfl (j := 7) rfl hq165⟩, rfl⟩⟩⟩⟩ x40.1 hr46 _ h191 _ h.startAll
        refine q_callX hX h rfl rfl rfl (by decide) Try.func12 rfl rfl rfl (fun a w v L1 S1 hR hb1 h => ?_)
        obtain ⟨rfl, rfl, _⟩ := hR
        refine s_x h rfl rfl (by decide) (x_pick (u' := undef) h.k rfl rfl (fun _ => rfl) (fun hh => absurd (hB12.symm.trans hh) (by decide))) (fun a h => ?_)
        exact (h.mid 3 rfl).val (by rw [Option.some.inj hz187])
      · refine g_no h rfl rfl rfl rfl hB12 rfl (by decide) (fun a h => ?_)
        refine g_no h rfl rfl rfl rfl hB12 rfl (by decide) (fun a h => ?_)
        refine g_no h rfl rfl rfl rfl hB12 rfl (by decide) (fun a h => ?_)
        rw [if_neg (by rw [hB12]; decide)] at hz187
        refine s_x h rfl rfl (by decide) (x_pick (u' := undef) h.k rfl rfl (fun hh => absurd (hB12.symm.trans hh) (by decide)) (fun _ => rfl)) (fun a h => ?_)
        exact (h.mid 3 rfl).val (by rw [Option.some.inj hz187])
      refine s_move h rfl _ rfl rfl (by decide) rfl (fun a h => ?_)
      obtain ⟨z194, hz193, hf⟩ := bsome hf
      refine q_grp h 4 (t := 63) 67 z194 rfl (fun hB17 => ?_) (fun hB17 => ?_) (fun a w h => ?_)
      · rw [if_pos hB17] at hz193
        refine g_yes h rfl rfl rfl rfl hB17 ?_
        refine s_move h rfl _ rfl rfl (by decide) rfl (fun a h => ?_)
        refine g_yes h rfl rfl rfl rfl hB17 ?_
        obtain ⟨x196, h197, hz193⟩ := bsome hz193
        have hX := know_Set_Len_ok Fu (S0 := snapAll _) g154 x153.1 ⟨[.slice A155 x153.1.1.length c156, .slice A158 x153.1.2.1.length c159, .slice A162 x153.1.2.2.1.length c163, .bool x153.1.2.2.2], h.m.boxAll (i := 0) rfl, ⟨[.slice A155 x153.1.1.length c156], [.slice A158 x153.1.2.1.length c159, .slice A162 x153.1.2.2.1.length c163, .bool x153.1.2.2.2], rfl, ⟨_, _, rfl, (hs157).mono (h.m.leAll (i := 7) rfl)⟩, ⟨[.slice A158 x153.1.2.1.length c159], [.slice A162 x153.1.2.2.1.length c163, .bool x153.1.2.2.2], rfl, ⟨_, _, rfl, h.m.rowAll (i := 1) rfl (j := 7) rfl hq161⟩, ⟨[.slice A162 x153.1.2.2.1.length c163], [.bool x153.1.2.2.2], rfl, ⟨_, _, rfl, h.m.rowAll (i := 2) rfl (j := 7) rfl hq165⟩, rfl⟩⟩⟩⟩ _ h197 _ h.startAll
        refine q_callX hX h rfl rfl rfl (by decide) Try.func15 rfl rfl rfl (fun a w v L1 S1 hR hb1 h => ?_)
        obtain ⟨rfl, rfl, hr199, _⟩ := hR
        refine g_yes h rfl rfl rfl rfl hB17 ?_
        refine s_x h rfl rfl (by decide) (x_bin h.k rfl rfl rfl ib_eql) (fun a h => ?_)
        refine s_x h rfl rfl (by decide) (x_pick (u' := undef) h.k rfl rfl (fun _ => rfl) (fun hh => absurd (hB17.symm.trans hh) (by decide))) (fun a h => ?_)
        exact (h.mid 3 rfl).val (by rw [Option.some.inj hz193])
      · refine g_no h rfl rfl rfl rfl hB17 rfl (by decide) (fun a h => ?_)
        refine g_no h rfl rfl rfl rfl hB17 rfl (by decide) (fun a h => ?_)
        refine g_no h rfl rfl rfl rfl hB17 rfl (by decide) (fun a h => ?_)
        rw [if_neg (by rw [hB17]; decide)] at hz193
        refine s_x h rfl rfl (by decide) (x_pick (u' := undef) h.k rfl rfl (fun hh => absurd (hB17.symm.trans hh) (by decide)) (fun _ => rfl)) (fun a h => ?_)
        exact (h.mid 3 rfl).val (by rw [Option.some.inj hz193])
      refine s_assign h rfl _ rfl rfl (by decide) rfl (fun a h => ?_)
      refine l_end ?_
      refine wp_ret ?_
      rw [← Option.some.inj hf]
      exact r_ret1 h rfl (rv_tmp h rfl) ⟨_, [], _, rfl, ⟨rfl, rfl, trivial⟩, rfl, up116, (h.m.pick [7] _ (by decide) rfl)⟩
  · obtain ⟨x200, rfl, hR⟩ := hR
    dsimp only at hf
    obtain ⟨g201, A202, c203, A205, c206, cs207, A209, c210, cs211, A214, c215, cs216, g218, es219, cl220, g222, es223, cl224, rfl, rfl, hs204, hq208, hq212, hr213, hq217, hm221, hm225, _⟩ := hR
    refine s_move h rfl _ rfl rfl (by decide) rfl (fun a h => ?_)
    refine s_x h rfl rfl (by decide) (x_ext h.k rfl rfl rfl) (fun a h => ?_)
    refine s_x h rfl rfl (by decide) (x_ext h.k rfl rfl rfl) (fun a h => ?_)
    refine s_assign h rfl _ rfl rfl (by decide) rfl (fun a h => ?_)
    refine s_assign h rfl _ rfl rfl (by decide) rfl (fun a h => ?_)
    refine l_end ?_
    refine c_rs ?_ -- region 6
    refine s_move h rfl _ rfl rfl (by decide) rfl (fun a h => ?_)
    refine s_move h rfl _ rfl rfl (by decide) rfl (fun a h => ?_)
    refine s_move h rfl _ rfl rfl (by decide) rfl (fun a h => ?_)
    refine q_bslice (T := tyI) (S := S89) h rfl rfl rfl (by decide) Try.underlying23 zi_int (by decide) (by decide) (by decide) (by decide) [.int .i64 x60.1, .int .i64 x20.1] rfl rfl (C := [[.int .i64 x60.1], [.int .i64 x20.1]]) rfl (xs := [x60.1, x20.1]) ⟨[.int .i64 x60.1], _, rfl, ⟨rfl, hr66⟩, ⟨[.int .i64 x20.1], _, rfl, ⟨rfl, hr26⟩, rfl⟩⟩ (by simp only [List.mem_cons, List.not_mem_nil, or_false]; rintro c (rfl | rfl) <;> rfl) (fun a w A226 h => ?_)
    have hb227 : reps tyI S89 ([[.int .i64 x60.1], [.int .i64 x20.1]]).flatten [x60.1, x20.1] := ⟨[.int .i64 x60.1], _, rfl, ⟨rfl, hr66⟩, ⟨[.int .i64 x20.1], _, rfl, ⟨rfl, hr26⟩, rfl⟩⟩
    have h := h.pick [0, 8, 1, 2, 3, 4, 5, 6, 7] (by decide) rfl
    obtain ⟨S228, le229, up230, hs231, h⟩ := q_freeze (T := tyI) h up90 hb227
    obtain ⟨x232, h233, hf⟩ := bsome hf
    have h := h.pick [4, 5, 6, 7, 0, 1, 2, 3] (by decide) rfl
    have hX := know_From_ok Fu (S0 := S228) x200.2.2 g7 A214 c215 cs216 g218 es219 cl220 g222 es223 cl224 (hq217.mono le229) (hm221.mono le229) (hm225.mono le229) A226 2 ([x60.1, x20.1]) hs231 _ h233 _ (h.sub (Ls := [.box g7 59 ([.slice A214 x200.2.2.1.length c215, .map (some g218), .map (some g222)]), .row (.slice A214 x200.2.2.1.length c215) 33 3 x200.2.2.1.length cs216, .obj g218 (.map es219 cl220), .obj g222 (.map es223 cl224)]))
    refine q_callY (Ls := [.box g7 59 ([.slice A214 x200.2.2.1.length c215, .map (some g218), .map (some g222)]), .row (.slice A214 x200.2.2.1.length c215) 33 3 x200.2.2.1.length cs216, .obj g218 (.map es219 cl220), .obj g222 (.map es223 cl224)]) hX h up230 rfl rfl rfl (by decide) Try.func10 rfl rfl rfl (fun a w v L1 S235 hR le237 up236 h => ?_)
    rcases hR with hR | hR
    · obtain ⟨x238, rfl, hR⟩ := hR
      dsimp only at hf
      obtain ⟨A240, c241, cs242, g244, es245, cl246, g248, es249, cl250, rfl, rfl, hr239, hq243, hm247, hm251, _⟩ := hR
      refine s_move h rfl _ rfl rfl (by decide) rfl (fun a h => ?_)
      refine s_x h rfl rfl (by decide) (x_ext h.k rfl rfl rfl) (fun a h => ?_)
      refine s_x h rfl rfl (by decide) (x_ext h.k rfl rfl rfl) (fun a h => ?_)
      refine s_assign h rfl _ rfl rfl (by decide) rfl (fun a h => ?_)
      refine s_assign h rfl _ rfl rfl (by decide) rfl (fun a h => ?_)
      refine l_end ?_
      refine c_rs ?_ -- region 7
      refine s_move h rfl _ rfl rfl (by decide) rfl (fun a h => ?_)
      refine s_x h rfl rfl (by decide) (x_bin h.k rfl rfl rfl ib_eql) (fun a h => ?_)
      refine s_move h rfl _ rfl rfl (by decide) rfl (fun a h => ?_)
      refine q_grp h 3 (t := 48) 51 ((decide (x200.2.1 = 0)) && (decide (x238.1 = 0))) rfl (fun hB2 => ?_) (fun hB2 => ?_) (fun a w h => ?_)
      · refine g_yes h rfl rfl rfl rfl hB2 ?_
        refine s_move h rfl _ rfl rfl (by decide) rfl (fun a h => ?_)
        refine g_yes h rfl rfl rfl rfl hB2 ?_
        refine s_x h rfl rfl (by decide) (x_bin h.k rfl rfl rfl ib_eql) (fun a h => ?_)
        refine s_x h rfl rfl (by decide) (x_pick (u' := undef) h.k rfl rfl (fun _ => rfl) (fun hh => absurd (hB2.symm.trans hh) (by decide))) (fun a h => ?_)
        exact (h.mid 2 rfl).val (by first | rfl | (rw [hB2]; first | rfl | simp))
      · refine g_no h rfl rfl rfl rfl hB2 rfl (by decide) (fun a h => ?_)
        refine g_no h rfl rfl rfl rfl hB2 rfl (by decide) (fun a h => ?_)
        refine s_x h rfl rfl (by decide) (x_pick (u' := undef) h.k rfl rfl (fun hh => absurd (hB2.symm.trans hh) (by decide)) (fun _ => rfl)) (fun a h => ?_)
        exact (h.mid 2 rfl).val (by first | rfl | (rw [hB2]; first | rfl | simp))
      refine s_move h rfl _ rfl rfl (by decide) rfl (fun a h => ?_)
      obtain ⟨z255, hz254, hf⟩ := bsome hf
      refine q_grp h 5 (t := 52) 57 z255 rfl (fun hB6 => ?_) (fun hB6 => ?_) (fun a w h => ?_)
      · rw [if_pos hB6] at hz254
        refine g_yes h rfl rfl rfl rfl hB6 ?_
        refine s_move h rfl _ rfl rfl (by decide) rfl (fun a h => ?_)
        refine g_yes h rfl rfl rfl rfl hB6 ?_
        refine s_move h rfl _ rfl rfl (by decide) rfl (fun a h => ?_)
        refine g_yes h rfl rfl rfl rfl hB6 ?_
        obtain ⟨x257, h258, hz254⟩ := bsome hz254
        have hX := know_Set_Has_ok Fu (S0 := snapAll _) g201 x200.1 ⟨[.slice A202 x200.1.1.length c203, .slice A205 x200.1.2.1.length c206, .slice A209 x200.1.2.2.1.length c210, .bool x200.1.2.2.2], h.m.boxAll (i := 5) rfl, ⟨[.slice A202 x200.1.1.length c203], [.slice A205 x200.1.2.1.length c206, .slice A209 x200.1.2.2.1.length c210, .bool x200.1.2.2.2], rfl, ⟨_, _, rfl, ((hs204.mono (le229.trans le237))).mono (h.m.leAll (i := 4) rfl)⟩, ⟨[.slice A205 x200.1.2.1.length c206], [.slice A209 x200.1.2.2.1.length c210, .bool x200.1.2.2.2], rfl, ⟨_, _, rfl, h.m.rowAll (i := 6) rfl (j := 4) rfl (hq208.mono (le229.trans le237))⟩, ⟨[.slice A209 x200.1.2.2.1.length c210], [.bool x200.1.2.2.2], rfl, ⟨_, _, rfl, h.m.rowAll (i := 7) rfl (j := 4) rfl (hq212.mono (le229.trans le237))⟩, rfl⟩⟩⟩⟩ x40.1 hr46 _ h258 _ h.startAll
        refine q_callX hX h rfl rfl rfl (by decide) Try.func12 rfl rfl rfl (fun a w v L1 S1 hR hb1 h => ?_)
        obtain ⟨rfl, rfl, _⟩ := hR
        refine g_yes h rfl rfl rfl rfl hB6 ?_
        refine s_x h rfl rfl (by decide) (x_not h.k rfl rfl) (fun a h => ?_)
        refine s_x h rfl rfl (by decide) (x_pick (u' := undef) h.k rfl rfl (fun _ => rfl) (fun hh => absurd (hB6.symm.trans hh) (by decide))) (fun a h => ?_)
        exact (h.mid 4 rfl).val (by rw [Option.some.inj hz254])
      · refine g_no h rfl rfl rfl rfl hB6 rfl (by decide) (fun a h => ?_)
        refine g_no h rfl rfl rfl rfl hB6 rfl (by decide) (fun a h => ?_)
        refine g_no h rfl rfl rfl rfl hB6 rfl (by decide) (fun a h => ?_)
        refine g_no h rfl rfl rfl rfl hB6 rfl (by decide) (fun a h => ?_)
        rw [if_neg (by rw [hB6]; decide)] at hz254
        refine s_x h rfl rfl (by decide) (x_pick (u' := undef) h.k rfl rfl (fun hh => absurd (hB6.symm.trans hh) (by decide)) (fun _ => rfl)) (fun a h => ?_)
        exact (h.mid 4 rfl).val (by rw [Option.some.inj hz254])
      refine s_move h rfl _ rfl rfl (by decide) rfl (fun a h => ?_)
      obtain ⟨z261, hz260, hf⟩ := bsome hf
      refine q_grp h 4 (t := 58) 62 z261 rfl (fun hB12 => ?_) (fun hB12 => ?_) (fun a w h => ?_)
      · rw [if_pos hB12] at hz260
        refine g_yes h rfl rfl rfl rfl hB12 ?_
        refine s_move h rfl _ rfl rfl (by decide) rfl (fun a h => ?_)
        refine g_yes h rfl rfl rfl rfl hB12 ?_
        refine s_move h rfl _ rfl rfl (by decide) rfl (fun a h => ?_)
        refine g_yes h rfl rfl rfl rfl hB12 ?_
        obtain ⟨x263, h264, hz260⟩ := bsome hz260
        have hX := know_Set_Has_nil0_ok Fu (S0 := snapAll _) x40.1 hr46 _ h264 _ h.startAll
        refine q_callX hX h rfl rfl rfl (by decide) Try.func12 rfl rfl rfl (fun a w v L1 S1 hR hb1 h => ?_)
        obtain ⟨rfl, rfl, _⟩ := hR
        refine s_x h rfl rfl (by decide) (x_pick (u' := undef) h.k rfl rfl (fun _ => rfl) (fun hh => absurd (hB12.symm.trans hh) (by decide))) (fun a h => ?_)
        exact (h.mid 3 rfl).val (by rw [Option.some.inj hz260])
      · refine g_no h rfl rfl rfl rfl hB12 rfl (by decide) (fun a h => ?_)
        refine g_no h rfl rfl rfl rfl hB12 rfl (by decide) (fun a h => ?_)
        refine g_no h rfl rfl rfl rfl hB12 rfl (by decide) (fun a h => ?_)
        rw [if_neg (by rw [hB12]; decide)] at hz260
        refine s_x h rfl rfl (by decide) (x_pick (u' := undef) h.k rfl rfl (fun hh => absurd (hB12.symm.trans hh) (by decide)) (fun _ => rfl)) (fun a h => ?_)
        exact (h.mid 3 rfl).val (by rw [Option.some.inj hz260])
      refine s_move h rfl _ rfl rfl (by decide) rfl (fun a h => ?_)
      obtain ⟨z267, hz266, hf⟩ := bsome hf
      refine q_grp h 4 (t := 63) 67 z267 rfl (fun hB17 => ?_) (fun hB17 => ?_) (fun a w h => ?_)
      · rw [if_pos hB17] at hz266
        refine g_yes h rfl rfl rfl rfl hB17 ?_
        refine s_move h rfl _ rfl rfl (by decide) rfl (fun a h => ?_)
        refine g_yes h rfl rfl rfl rfl hB17 ?_
        obtain ⟨x269, h270, hz266⟩ := bsome hz266
        have hX := know_Set_Len_nil0_ok Fu (S0 := snapAll _)  _ h270 _ h.startAll
        refine q_callX hX h rfl rfl rfl (by decide) Try.func15 rfl rfl rfl (fun a w v L1 S1 hR hb1 h => ?_)
        obtain ⟨rfl, rfl, hr272, _⟩ := hR
        refine g_yes h rfl rfl rfl rfl hB17 ?_
        refine s_x h rfl rfl (by decide) (x_bin h.k rfl rfl rfl ib_eql) (fun a h => ?_)
        refine s_x h rfl rfl (by decide) (x_pick (u' := undef) h.k rfl rfl (fun _ => rfl) (fun hh => absurd (hB17.symm.trans hh) (by decide))) (fun a h => ?_)
        exact (h.mid 3 rfl).val (by rw [Option.some.inj hz266])
      · refine g_no h rfl rfl rfl rfl hB17 rfl (by decide) (fun a h => ?_)
        refine g_no h rfl rfl rfl rfl hB17 rfl (by decide) (fun a h => ?_)
        refine g_no h rfl rfl rfl rfl hB17 rfl (by decide) (fun a h => ?_)
        rw [if_neg (by rw [hB17]; decide)] at hz266
        refine s_x h rfl rfl (by decide) (x_pick (u' := undef) h.k rfl rfl (fun hh => absurd (hB17.symm.trans hh) (by decide)) (fun _ => rfl)) (fun a h => ?_)
        exact (h.mid 3 rfl).val (by rw [Option.some.inj hz266])
      refine s_assign h rfl _ rfl rfl (by decide) rfl (fun a h => ?_)
      refine l_end ?_
      refine wp_ret ?_
      rw [← Option.some.inj hf]
      exact r_ret1 h rfl (rv_tmp h rfl) ⟨_, [], _, rfl, ⟨rfl, rfl, trivial⟩, rfl, up236, (h.m.pick [4] _ (by decide) rfl)⟩
    · obtain ⟨x273, rfl, hR⟩ := hR
      dsimp only at hf
      obtain ⟨g274, A275, c276, A278, c279, cs280, A282, c283, cs284, A287, c288, cs289, g291, es292, cl293, g295, es296, cl297, rfl, rfl, hs277, hq281, hq285, hr286, hq290, hm294, hm298, _⟩ := hR
      refine s_move h rfl _ rfl rfl (by decide) rfl (fun a h => ?_)
      refine s_x h rfl rfl (by decide) (x_ext h.k rfl rfl rfl) (fun a h => ?_)
      refine s_x h rfl rfl (by decide) (x_ext h.k rfl rfl rfl) (fun a h => ?_)
      refine s_assign h rfl _ rfl rfl (by decide) rfl (fun a h => ?_)
      refine s_assign h rfl _ rfl rfl (by decide) rfl (fun a h => ?_)
      refine l_end ?_
      refine c_rs ?_ -- region 7
      refine s_move h rfl _ rfl rfl (by decide) rfl (fun a h => ?_)
      refine s_x h rfl rfl (by decide) (x_bin h.k rfl rfl rfl ib_eql) (fun a h => ?_)
      refine s_move h rfl _ rfl rfl (by decide) rfl (fun a h => ?_)
      refine q_grp h 3 (t := 48) 51 ((decide (x200.2.1 = 0)) && (decide (x273.2.1 = 0))) rfl (fun hB2 => ?_) (fun hB2 => ?_) (fun a w h => ?_)
      · refine g_yes h rfl rfl rfl rfl hB2 ?_
        refine s_move h rfl _ rfl rfl (by decide) rfl (fun a h => ?_)
        refine g_yes h rfl rfl rfl rfl hB2 ?_
        refine s_x h rfl rfl (by decide) (x_bin h.k rfl rfl rfl ib_eql) (fun a h => ?_)
        refine s_x h rfl rfl (by decide) (x_pick (u' := undef) h.k rfl rfl (fun _ => rfl) (fun hh => absurd (hB2.symm.trans hh) (by decide))) (fun a h => ?_)
        exact (h.mid 2 rfl).val (by first | rfl | (rw [hB2]; first | rfl | simp))
      · refine g_no h rfl rfl rfl rfl hB2 rfl (by decide) (fun a h => ?_)
        refine g_no h rfl rfl rfl rfl hB2 rfl (by decide) (fun a h => ?_)
        refine s_x h rfl rfl (by decide) (x_pick (u' := undef) h.k rfl rfl (fun hh => absurd (hB2.symm.trans hh) (by decide)) (fun _ => rfl)) (fun a h => ?_)
        exact (h.mid 2 rfl).val (by first | rfl | (rw [hB2]; first | rfl | simp))
      refine s_move h rfl _ rfl rfl (by decide) rfl (fun a h => ?_)
      obtain ⟨z302, hz301, hf⟩ := bsome hf
      refine q_grp h 5 (t := 52) 57 z302 rfl (fun hB6 => ?_) (fun hB6 => ?_) (fun a w h => ?_)
      · rw [if_pos hB6] at hz301
        refine g_yes h rfl rfl rfl rfl hB6 ?_
        refine s_move h rfl _ rfl rfl (by decide) rfl (fun a h => ?_)
        refine g_yes h rfl rfl rfl rfl hB6 ?_
        refine s_move h rfl _ rfl rfl (by decide) rfl (fun a h => ?_)
        refine g_yes h rfl rfl rfl rfl hB6 ?_
        obtain ⟨x304, h305, hz301⟩ := bsome hz301
        have hX := know_Set_Has_ok Fu (S0 := snapAll _) g201 x200.1 ⟨[.slice A202 x200.1.1.length c203, .slice A205 x200.1.2.1.length c206, .slice A209 x200.1.2.2.1.length c210, .bool x200.1.2.2.2], h.m.boxAll (i := 8) rfl, ⟨[.slice A202 x200.1.1.length c203], [.slice A205 x200.1.2.1.length c206, .slice A209 x200.1.2.2.1.length c210, .bool x200.1.2.2.2], rfl, ⟨_, _, rfl, ((hs204.mono (le229.trans le237))).mono (h.m.leAll (i := 7) rfl)⟩, ⟨[.slice A205 x200.1.2.1.length c206], [.slice A209 x200.1.2.2.1.length c210, .bool x200.1.2.2.2], rfl, ⟨_, _, rfl, h.m.rowAll (i := 9) rfl (j := 7) rfl (hq208.mono (le229.trans le237))⟩, ⟨[.slice A209 x200.1.2.2.1.length c210], [.bool x200.1.2.2.2], rfl, ⟨_, _, rfl, h.m.rowAll (i := 10) rfl (j := 7) rfl (hq212.mono (le229.trans le237))⟩, rfl⟩⟩⟩⟩ x40.1 hr46 _ h305 _ h.startAll
        refine q_callX hX h rfl rfl rfl (by decide) Try.func12 rfl rfl rfl (fun a w v L1 S1 hR hb1 h => ?_)
        obtain ⟨rfl, rfl, _⟩ := hR
        refine g_yes h rfl rfl rfl rfl hB6 ?_
        refine s_x h rfl rfl (by decide) (x_not h.k rfl rfl) (fun a h => ?_)
        refine s_x h rfl rfl (by decide) (x_pick (u' := undef) h.k rfl rfl (fun _ => rfl) (fun hh => absurd (hB6.symm.trans hh) (by decide))) (fun a h => ?_)
        exact (h.mid 4 rfl).val (by rw [Option.some.inj hz301])
      · refine g_no h rfl rfl rfl rfl hB6 rfl (by decide) (fun a h => ?_)
        refine g_no h rfl rfl rfl rfl hB6 rfl (by decide) (fun a h => ?_)
        refine g_no h rfl rfl rfl rfl hB6 rfl (by decide) (fun a h => ?_)
        refine g_no h rfl rfl rfl rfl hB6 rfl (by decide) (fun a h => ?_)
        rw [if_neg (by rw [hB6]; decide)] at hz301
        refine s_x h rfl rfl (by decide) (x_pick (u' := undef) h.k rfl rfl (fun hh => absurd (hB6.symm.trans hh) (by decide)) (fun _ => rfl)) (fun a h => ?_)
        exact (h.mid 4 rfl).val (by rw [Option.some.inj hz301])
      refine s_move h rfl _ rfl rfl (by decide) rfl (fun a h => ?_)
      obtain ⟨z308, hz307, hf⟩ := bsome hf
      refine q_grp h 4 (t := 58) 62 z308 rfl (fun hB12 => ?_) (fun hB12 => ?_) (fun a w h => ?_)
      · rw [if_pos hB12] at hz307
        refine g_yes h rfl rfl rfl rfl hB12 ?_
        refine s_move h rfl _ rfl rfl (by decide) rfl (fun a h => ?_)
        refine g_yes h rfl rfl rfl rfl hB12 ?_
        refine s_move h rfl _ rfl rfl (by decide) rfl (fun a h => ?_)
        refine g_yes h rfl rfl rfl rfl hB12 ?_
        obtain ⟨x310, h311, hz307⟩ := bsome hz307
        have hX := know_Set_Has_ok Fu (S0 := snapAll _) g274 x273.1 ⟨[.slice A275 x273.1.1.length c276, .slice A278 x273.1.2.1.length c279, .slice A282 x273.1.2.2.1.length c283, .bool x273.1.2.2.2], h.m.boxAll (i := 0) rfl, ⟨[.slice A275 x273.1.1.length c276], [.slice A278 x273.1.2.1.length c279, .slice A282 x273.1.2.2.1.length c283, .bool x273.1.2.2.2], rfl, ⟨_, _, rfl, (hs277).mono (h.m.leAll (i := 7) rfl)⟩, ⟨[.slice A278 x273.1.2.1.length c279], [.slice A282 x273.1.2.2.1.length c283, .bool x273.1.2.2.2], rfl, ⟨_, _, rfl, h.m.rowAll (i := 1) rfl (j := 7) rfl hq281⟩, ⟨[.slice A282 x273.1.2.2.1.length c283], [.bool x273.1.2.2.2], rfl, ⟨_, _, rfl, h.m.rowAll (i := 2) rfl (j := 7) rfl hq285⟩, rfl⟩⟩⟩⟩ x40.1 hr46 _ h311 _ h.startAll
        refine q_callX hX h rfl rfl rfl (by decide) Try.func12 rfl rfl rfl (fun a w v L1 S1 hR hb1 h => ?_)
        obtain ⟨rfl, rfl, _⟩ := hR
        refine s_x h rfl rfl (by decide) (x_pick (u' := undef) h.k rfl rfl (fun _ => rfl) (fun hh => absurd (hB12.symm.trans hh) (by decide))) (fun a h => ?_)
        exact (h.mid 3 rfl).val (by rw [Option.some.inj hz307])
      · refine g_no h rfl rfl rfl rfl hB12 rfl (by decide) (fun a h => ?_)
        refine g_no h rfl rfl rfl rfl hB12 rfl (by decide) (fun a h => ?_)
        refine g_no h rfl rfl rfl rfl hB12 rfl (by decide) (fun a h => ?_)
        rw [if_neg (by rw [hB12]; decide)] at hz307
        refine s_x h rfl rfl (by decide) (x_pick (u' := undef) h.k rfl rfl (fun hh => absurd (hB12.symm.trans hh) (by decide)) (fun _ => rfl)) (fun a h => ?_)
        exact (h.mid 3 rfl).val (by rw [Option.some.inj hz307])
      refine s_move h rfl _ rfl rfl (by decide) rfl (fun a h => ?_)
      obtain ⟨z314, hz313, hf⟩ := bsome hf
      refine q_grp h 4 (t := 63) 67 z314 rfl (fun hB17 => ?_) (fun hB17 => ?_) (fun a w h => ?_)
      · rw [if_pos hB17] at hz313
        refine g_yes h rfl rfl rfl rfl hB17 ?_
        refine s_move h rfl _ rfl rfl (by decide) rfl (fun a h => ?_)
        refine g_yes h rfl rfl rfl rfl hB17 ?_
        obtain ⟨x316, h317, hz313⟩ := bsome hz313
        have hX := know_Set_Len_ok Fu (S0 := snapAll _) g274 x273.1 ⟨[.slice A275 x273.1.1.length c276, .slice A278 x273.1.2.1.length c279, .slice A282 x273.1.2.2.1.length c283, .bool x273.1.2.2.2], h.m.boxAll (i := 0) rfl, ⟨[.slice A275 x273.1.1.length c276], [.slice A278 x273.1.2.1.length c279, .slice A282 x273.1.2.2.1.length c283, .bool x273.1.2.2.2], rfl, ⟨_, _, rfl, (hs277).mono (h.m.leAll (i := 7) rfl)⟩, ⟨[.slice A278 x273.1.2.1.length c279], [.slice A282 x273.1.2.2.1.length c283, .bool x273.1.2.2.2], rfl, ⟨_, _, rfl, h.m.rowAll (i := 1) rfl (j := 7) rfl hq281⟩, ⟨[.slice A282 x273.1.2.2.1.length c283], [.bool x273.1.2.2.2], rfl, ⟨_, _, rfl, h.m.rowAll (i := 2) rfl (j := 7) rfl hq285⟩, rfl⟩⟩⟩⟩ _ h317 _ h.startAll
        refine q_callX hX h rfl rfl rfl (by decide) Try.func15 rfl rfl rfl (fun a w v L1 S1 hR hb1 h => ?_)
        obtain ⟨rfl, rfl, hr319, _⟩ := hR
        refine g_yes h rfl rfl rfl rfl hB17 ?_
        refine s_x h rfl rfl (by decide) (x_bin h.k rfl rfl rfl ib_eql) (fun a h => ?_)
        refine s_x h rfl rfl (by decide) (x_pick (u' := undef) h.k rfl rfl (fun _ => rfl) (fun hh => absurd (hB17.symm.trans hh) (by decide))) (fun a h => ?_)
        exact (h.mid 3 rfl).val (by rw [Option.some.inj hz313])
      · refine g_no h rfl rfl rfl rfl hB17 rfl (by decide) (fun a h => ?_)
        refine g_no h rfl rfl rfl rfl hB17 rfl (by decide) (fun a h => ?_)
        refine g_no h rfl rfl rfl rfl hB17 rfl (by decide) (fun a h => ?_)
        rw [if_neg (by rw [hB17]; decide)] at hz313
        refine s_x h rfl rfl (by decide) (x_pick (u' := undef) h.k rfl rfl (fun hh => absurd (hB17.symm.trans hh) (by decide)) (fun _ => rfl)) (fun a h => ?_)
        exact (h.mid 3 rfl).val (by rw [Option.some.inj hz313])
      refine s_assign h rfl _ rfl rfl (by decide) rfl (fun a h => ?_)
      refine l_end ?_
      refine wp_ret ?_
      rw [← Option.some.inj hf]
      exact r_ret1 h rfl (rv_tmp h rfl) ⟨_, [], _, rfl, ⟨rfl, rfl, trivial⟩, rfl, up236, (h.m.pick [7] _ (by decide) rfl)⟩
def chatelainelaw37_KnowWhy_l0 (Fu : Nat) (a1 : List Int) (x6 : ((List (Int × Int × Int)) × (List ((Int × Int × Int) × Int)) × (List (Int × Int))) × (List (Int × Int × Int))) (x29 : (List Int) × Bool × ((List (Int × Int × Int)) × (List ((Int × Int × Int) × Int)) × (List (Int × Int)))) : Nat → Int → Option (Sum Bool Unit)
  | 0, _ => none
  | k + 1, x53 => if x53 < (a1.length : Int) then ((idx a1 x53).bind fun x57 => if ((decide (x57 < 0)) || (decide ((x6.2.length : Int) ≤ x57))) = true then (some (.inl ((!x29.2.1) && (decide ((x29.1.length : Int) = 0))))) else (chatelainelaw37_KnowWhy_l0 Fu a1 x6 x29 k (w64 (x53 + 1)))) else (some (.inr ()))
def chatelainelaw37_KnowWhy_l2 (Fu : Nat) (a1 : List Int) (x159 : Int) : Nat → Bool → Int → Option Bool
  | 0, _, _ => none
  | k + 1, x235, x236 => if x236 < (a1.length : Int) then ((idx a1 x236).bind fun x241 => chatelainelaw37_KnowWhy_l2 Fu a1 x159 k (x235 || (decide (x241 = x159))) (w64 (x236 + 1))) else (some x235)
def chatelainelaw37_KnowWhy_l3 (Fu : Nat) (x6 : ((List (Int × Int × Int)) × (List ((Int × Int × Int) × Int)) × (List (Int × Int))) × (List (Int × Int × Int))) (x146 : List Bool) (x159 : Int) : Nat → Bool → Int → Option Bool
  | 0, _, _ => none
  | k + 1, x260, x261 => if x261 < (x6.2.length : Int) then ((ix x6.2.length x261).bind fun m266 => (x6.2[m266]?).bind fun x272 => (if x260 = true then some true else (ix x146.length x261).bind fun m288 => (x146[m288]?).bind fun x294 => (if (x294 && (decide (x272.1 = 3))) = true then (ix x146.length x272.2.1).bind fun m304 => (x146[m304]?).bind fun x310 => some x310 else some false).bind fun z302 => some (z302 && (decide (x272.2.2 = x159)))).bind fun z286 => chatelainelaw37_KnowWhy_l3 Fu x6 x146 x159 k z286 (w64 (x261 + 1))) else (some x260)
def chatelainelaw37_KnowWhy_l1 (Fu : Nat) (a1 : List Int) (x6 : ((List (Int × Int × Int)) × (List ((Int × Int × Int) × Int)) × (List (Int × Int))) × (List (Int × Int × Int))) (x29 : (List Int) × Bool × ((List (Int × Int × Int)) × (List ((Int × Int × Int) × Int)) × (List (Int × Int)))) : Nat → Int → (List Bool) → Option (Sum Bool Unit)
  | 0, _, _ => none
  | k + 1, x144, x146 => if x144 < (x29.1.length : Int) then ((ix x29.1.length x144).bind fun m153 => (x29.1[m153]?).bind fun x159 => (if ((decide (x159 < 0)) || (decide ((x6.2.length : Int) ≤ x159))) = true then some true else (ix x146.length x159).bind fun m172 => (x146[m172]?).bind fun x178 => some x178).bind fun z170 => if z170 = true then (some (.inl false)) else ((ix x6.2.length x159).bind fun m183 => (x6.2[m183]?).bind fun x189 => (if x189.1 = 2 then (ix x6.2.length x159).bind fun m204 => (x6.2[m204]?).bind fun x210 => (ix x146.length x210.2.1).bind fun m222 => (x146[m222]?).bind fun x228 => some x228 else some false).bind fun z202 => (chatelainelaw37_KnowWhy_l2 Fu a1 x159 Fu z202 0).bind fun x238 => (chatelainelaw37_KnowWhy_l3 Fu x6 x146 x159 Fu x238 0).bind fun x263 => if (!x263) = true then (some (.inl false)) else ((ix x146.length x159).bind fun m317 => chatelainelaw37_KnowWhy_l1 Fu a1 x6 x29 k (w64 (x144 + 1)) (x146.set m317 true)))) else (some (.inr ()))
def chatelainelaw37_KnowWhy (Fu : Nat) (a0 : List (Int × Int × Int)) (a1 : List Int) (a2 : Int) : Option Bool :=
  (chatelainelaw37_awake Fu).bind fun x1 => if (!x1) = true then (some false) else (if ((decide (40 < (a0.length : Int))) || (decide (40 < (a1.length : Int)))) = true then (some true) else ((chatelainelaw37_made Fu a0).bind fun x6 => (know_Why Fu x6.1 a1 a2).bind fun x29 => (chatelainelaw37_KnowWhy_l0 Fu a1 x6 x29 Fu 0).bind fun o => match o with | .inl r347 => some r347 | .inr _ => (if ((decide (0 ≤ a2)) && (decide (a2 < (x6.2.length : Int)))) = true then (chatelaineref37_Known Fu x6.2 a1).bind fun x83 => (ix x83.length a2).bind fun m91 => (x83[m91]?).bind fun x97 => some x97 else some false).bind fun z81 => if ((!(x29.2.1 == z81)) || (!x29.2.1)) = true then ((if ((!x29.2.1) && (decide ((x29.1.length : Int) = 0))) = true then (if ((decide (0 ≤ a2)) && (decide (a2 < (x6.2.length : Int)))) = true then (chatelaineref37_Known Fu x6.2 a1).bind fun x116 => (ix x116.length a2).bind fun m124 => (x116[m124]?).bind fun x130 => some x130 else some false).bind fun z114 => some (!z114) else some false).bind fun z108 => some z108) else ((mkN 1 (x6.2.length : Int)).bind fun n136 => (chatelainelaw37_KnowWhy_l1 Fu a1 x6 x29 Fu 0 (List.replicate n136 (false : Bool))).bind fun o => match o with | .inl r346 => some r346 | .inr _ => (if 0 < (x29.1.length : Int) then (ix x29.1.length (w64 ((x29.1.length : Int) - 1))).bind fun m333 => (x29.1[m333]?).bind fun x339 => some (decide (x339 = a2)) else some false).bind fun z330 => some z330)))
set_option maxRecDepth 100000 in
set_option maxHeartbeats 2000000 in
theorem chatelainelaw37_KnowWhy_ok (Fu : Nat) {S0 : Snap} (Aa0 : Option Addr) (ca0 : Nat) (a0 : List (Int × Int × Int)) (hsa0 : slS (tyP tyI (tyP tyI tyI)) S0 Aa0 ca0 a0) (Aa1 : Option Addr) (ca1 : Nat) (a1 : List Int) (hsa1 : slS tyI S0 Aa1 ca1 a1) (a2 : Int) (hra2 : r64 a2) (r : Bool) (hf : chatelainelaw37_KnowWhy Fu a0 a1 a2 = some r) (w0 : World) (hm : Mem w0 (ownL ([] ++ [.sn S0])) ([] ++ [.sn S0]) w0) :
    Calls Try.prog 3 #[.slice Aa0 a0.length ca0, .slice Aa1 a1.length ca1, .int .i64 a2] w0 (Ret w0 S0 [] (fun v L1 S1 => v = .bool r ∧ L1 = [] ∧ True)) := by
  unfold chatelainelaw37_KnowWhy at hf
  refine c_enterM Try.func3 rfl 217 rfl (by simp) _ hm _ rfl (fun a h => ?_)
  refine c_rs ?_ -- region 0
  refine s_assign h rfl _ rfl rfl (by decide) rfl (fun a h => ?_)
  refine l_end ?_
  refine wp_seq ?_
  refine c_rs ?_ -- region 1
  obtain ⟨x1, h2, hf⟩ := bsome hf
  have hX := chatelainelaw37_awake_ok Fu (S0 := snapAll _)  _ h2 _ h.startAll
  refine q_callX hX h rfl rfl rfl (by decide) Try.func6 rfl rfl rfl (fun a w v L1 S1 hR hb1 h => ?_)
  obtain ⟨rfl, rfl, _⟩ := hR
  refine s_x h rfl rfl (by decide) (x_not h.k rfl rfl) (fun a h => ?_)
  refine l_end ?_
  refine c_cond h rfl (fun hb => ?_) (fun hb => ?_)
  · rw [if_pos hb] at hf
    refine c_rs ?_ -- region 2
    refine s_assign h rfl _ rfl rfl (by decide) rfl (fun a h => ?_)
    refine l_end ?_
    refine wp_ret ?_
    refine e_thenR ?_
    rw [← Option.some.inj hf]
    exact r_ret1 h rfl (rv_tmp h rfl) ⟨_, [], _, rfl, ⟨rfl, rfl, trivial⟩, rfl, (Up.refl _ _ _), h.m⟩
  · rw [if_neg (by rw [hb]; decide)] at hf
    refine wp_skip ?_
    refine e_thenN ?_
    refine wp_seq ?_
    refine c_rs ?_ -- region 3
    refine s_move h rfl _ rfl rfl (by decide) rfl (fun a h => ?_)
    refine s_x h rfl rfl (by decide) (x_len h.k rfl Try.underlying22 rfl) (fun a h => ?_)
    refine s_x h rfl rfl (by decide) (x_bin h.k rfl rfl rfl ib_gtr) (fun a h => ?_)
    refine s_move h rfl _ rfl rfl (by decide) rfl (fun a h => ?_)
    refine q_grp h 4 (t := 26) 30 ((decide (40 < (a0.length : Int))) || (decide (40 < (a1.length : Int)))) rfl (fun hB3 => ?_) (fun hB3 => ?_) (fun a w h => ?_)
    · refine g_no h rfl rfl rfl rfl hB3 rfl (by decide) (fun a h => ?_)
      refine g_no h rfl rfl rfl rfl hB3 rfl (by decide) (fun a h => ?_)
      refine g_no h rfl rfl rfl rfl hB3 rfl (by decide) (fun a h => ?_)
      refine s_x h rfl rfl (by decide) (x_pick (u' := undef) h.k rfl rfl (fun _ => rfl) (fun hh => absurd (hB3.symm.trans hh) (by decide))) (fun a h => ?_)
      exact (h.mid 3 rfl).val (by first | rfl | (rw [hB3]; first | rfl | simp))
    · refine g_yes h rfl rfl rfl rfl hB3 ?_
      refine s_move h rfl _ rfl rfl (by decide) rfl (fun a h => ?_)
      refine g_yes h rfl rfl rfl rfl hB3 ?_
      refine s_x h rfl rfl (by decide) (x_len h.k rfl Try.underlying23 rfl) (fun a h => ?_)
      refine g_yes h rfl rfl rfl rfl hB3 ?_
      refine s_x h rfl rfl (by decide) (x_bin h.k rfl rfl rfl ib_gtr) (fun a h => ?_)
      refine s_x h rfl rfl (by decide) (x_pick (u' := undef) h.k rfl rfl (fun hh => absurd (hB3.symm.trans hh) (by decide)) (fun _ => rfl)) (fun a h => ?_)
      exact (h.mid 3 rfl).val (by first | rfl | (rw [hB3]; first | rfl | simp))
    refine l_end ?_
    refine c_cond h rfl (fun hb => ?_) (fun hb => ?_)
    · rw [if_pos hb] at hf
      refine c_rs ?_ -- region 4
      refine s_assign h rfl _ rfl rfl (by decide) rfl (fun a h => ?_)
      refine l_end ?_
      refine wp_ret ?_
      refine e_thenR ?_
      rw [← Option.some.inj hf]
      exact r_ret1 h rfl (rv_tmp h rfl) ⟨_, [], _, rfl, ⟨rfl, rfl, trivial⟩, rfl, (Up.refl _ _ _), h.m⟩
    · rw [if_neg (by rw [hb]; decide)] at hf
      refine wp_skip ?_
      refine e_thenN ?_
      refine c_rs ?_ -- region 5
      refine s_move h rfl _ rfl rfl (by decide) rfl (fun a h => ?_)
      obtain ⟨x6, h7, hf⟩ := bsome hf
      have hX := chatelainelaw37_made_ok Fu (S0 := S0) Aa0 ca0 a0 hsa0 _ h7 _ (h.sub (Ls := []))
      refine q_callY (Ls := []) hX h (Up.refl _ _ _) rfl rfl rfl (by decide) Try.func7 rfl rfl rfl (fun a w v L1 S9 hR le11 up10 h => ?_)
      obtain ⟨g12, A13, c14, cs15, g17, es18, cl19, g21, es22, cl23, A25, c26, cs27, rfl, rfl, hq16, hm20, hm24, hq28, _⟩ := hR
      refine s_move h rfl _ rfl rfl (by decide) rfl (fun a h => ?_)
      refine s_x h rfl rfl (by decide) (x_ext h.k rfl rfl rfl) (fun a h => ?_)
      refine s_x h rfl rfl (by decide) (x_ext h.k rfl rfl rfl) (fun a h => ?_)
      refine s_assign h rfl _ rfl rfl (by decide) rfl (fun a h => ?_)
      refine s_assign h rfl _ rfl rfl (by decide) rfl (fun a h => ?_)
      refine l_end ?_
      refine c_rs ?_ -- region 6
      refine s_move h rfl _ rfl rfl (by decide) rfl (fun a h => ?_)
      refine s_move h rfl _ rfl rfl (by decide) rfl (fun a h => ?_)
      refine s_move h rfl _ rfl rfl (by decide) rfl (fun a h => ?_)
      obtain ⟨x29, h30, hf⟩ := bsome hf
      have h := h.pick [0, 1, 2, 3, 5, 4] (by decide) rfl
      have hX := know_Why_ok Fu (S0 := S9) x6.1 g12 A13 c14 cs15 g17 es18 cl19 g21 es22 cl23 hq16 hm20 hm24 Aa1 ca1 a1 (hsa1.mono le11) a2 hra2 _ h30 _ (h.sub (Ls := [.box g12 59 ([.slice A13 x6.1.1.length c14, .map (some g17), .map (some g21)]), .row (.slice A13 x6.1.1.length c14) 33 3 x6.1.1.length cs15, .obj g17 (.map es18 cl19), .obj g21 (.map es22 cl23)]))
      refine q_callY (Ls := [.box g12 59 ([.slice A13 x6.1.1.length c14, .map (some g17), .map (some g21)]), .row (.slice A13 x6.1.1.length c14) 33 3 x6.1.1.length cs15, .obj g17 (.map es18 cl19), .obj g21 (.map es22 cl23)]) hX h up10 rfl rfl rfl (by decide) Try.func8 rfl rfl rfl (fun a w v L1 S32 hR le34 up33 h => ?_)
      obtain ⟨A35, c36, cs37, A39, c40, cs41, g43, es44, cl45, g47, es48, cl49, rfl, rfl, hq38, hq42, hm46, hm50, _⟩ := hR
      refine s_move h rfl _ rfl rfl (by decide) rfl (fun a h => ?_)
      refine s_x h rfl rfl (by decide) (x_ext h.k rfl rfl rfl) (fun a h => ?_)
      refine s_x h rfl rfl (by decide) (x_ext h.k rfl rfl rfl) (fun a h => ?_)
      refine s_assign h rfl _ rfl rfl (by decide) rfl (fun a h => ?_)
      refine s_assign h rfl _ rfl rfl (by decide) rfl (fun a h => ?_)
      refine l_end ?_
      refine wp_seq ?_
      refine c_rs ?_ -- region 7
      refine s_move h rfl _ rfl rfl (by decide) rfl (fun a h => ?_)
      refine s_x h rfl rfl (by decide) (x_len h.k rfl Try.underlying23 rfl) (fun a h => ?_)
      refine s_move h rfl _ rfl rfl (by decide) rfl (fun a h => ?_)
      refine l_end ?_
      obtain ⟨o51, hl52, hf⟩ := bsome hf
      refine c_fin (fun a w => (.inr ()) = o51 ∧ St 217 w0 (ownL ([] ++ [.sn S0])) [(1, .slice Aa1 a1.length ca1), (2, .int .i64 a2), (8, .slice A25 x6.2.length c26), (9, .slice A35 x29.1.length c36), (10, .bool x29.2.1)] [.row (.slice A25 x6.2.length c26) 33 3 x6.2.length cs27, .row (.slice A35 x29.1.length c36) 3 1 x29.1.length cs37, .sn S32] a w) ?_ ?_
      · refine wp_block ?_
        have h := h.pick [6, 0, 5] (by decide) rfl
        refine c_loop (fun m56 a w => ∃ (x53 : Int), chatelainelaw37_KnowWhy_l0 Fu a1 x6 x29 m56 x53 = some o51 ∧ r64 x53 ∧ St 217 w0 (ownL ([] ++ [.sn S0])) [(1, .slice Aa1 a1.length ca1), (2, .int .i64 a2), (8, .slice A25 x6.2.length c26), (9, .slice A35 x29.1.length c36), (10, .bool x29.2.1), (43, .slice Aa1 a1.length ca1), (44, .int .i64 (a1.length : Int)), (45, .int .i64 x53)] [.row (.slice A25 x6.2.length c26) 33 3 x6.2.length cs27, .row (.slice A35 x29.1.length c36) 3 1 x29.1.length cs37, .sn S32] a w) Fu ⟨0, hl52, (show r64 0 from ⟨by decide, by decide⟩), h.has (by exact ⟨rfl, rfl, rfl, rfl, rfl, rfl, rfl, rfl, trivial⟩)⟩ (fun m56 a w hI => ?_)
        obtain ⟨x53, hl55, hr54, h⟩ := hI
        obtain _ | m56 := m56
        · rw [chatelainelaw37_KnowWhy_l0] at hl55; cases hl55
        rw [chatelainelaw37_KnowWhy_l0] at hl55
        refine c_rs ?_ -- region 8
        refine s_x h rfl rfl (by decide) (x_bin h.k rfl rfl rfl ib_lss) (fun a h => ?_)
        refine l_end ?_
        refine c_cs h rfl (fun hb => ?_) (fun hb => ?_)
        · rw [if_pos (of_decide_eq_true hb)] at hl55
          refine wp_skip ?_
          refine e_thenN ?_
          refine wp_seq ?_
          refine wp_block ?_
          refine c_rs ?_ -- region 9
          obtain ⟨x57, h61, hl55⟩ := bsome hl55
          obtain ⟨m58, hi62, hm63, hx64⟩ := idx_some h61
          obtain ⟨b59, off60, k65, hA66, hu67, hc68⟩ := ((hsa1.mono (le11.trans le34))).at1 rfl hx64 (h.m.snOK (i := 2) rfl)
          obtain ⟨e70, hr69⟩ := hu67
          cases e70
          refine s_x h rfl rfl (by decide) (x_iaddrE h.k rfl Try.underlying23 sz_int hA66 rfl rfl hi62 hm63) (fun a h => ?_)
          refine s_x h rfl rfl (by decide) (x_ld h.k rfl Try.underlying3 rfl rfl (hc68 _ (h.m.snOK (i := 2) rfl))) (fun a h => ?_)
          refine s_assign h rfl _ rfl rfl (by decide) rfl (fun a h => ?_)
          refine l_end ?_
          refine c_rs ?_ -- region 10
          refine s_move h rfl _ rfl rfl (by decide) rfl (fun a h => ?_)
          refine s_x h rfl rfl (by decide) (x_bin h.k rfl rfl rfl ib_lss) (fun a h => ?_)
          refine s_move h rfl _ rfl rfl (by decide) rfl (fun a h => ?_)
          refine q_grp h 5 (t := 51) 56 ((decide (x57 < 0)) || (decide ((x6.2.length : Int) ≤ x57))) rfl (fun hB2 => ?_) (fun hB2 => ?_) (fun a w h => ?_)
          · refine g_no h rfl rfl rfl rfl hB2 rfl (by decide) (fun a h => ?_)
            refine g_no h rfl rfl rfl rfl hB2 rfl (by decide) (fun a h => ?_)
            refine g_no h rfl rfl rfl rfl hB2 rfl (by decide) (fun a h => ?_)
            refine g_no h rfl rfl rfl rfl hB2 rfl (by decide) (fun a h => ?_)
            refine s_x h rfl rfl (by decide) (x_pick (u' := undef) h.k rfl rfl (fun _ => rfl) (fun hh => absurd (hB2.symm.trans hh) (by decide))) (fun a h => ?_)
            exact (h.mid 4 rfl).val (by first | rfl | (rw [hB2]; first | rfl | simp))
          · refine g_yes h rfl rfl rfl rfl hB2 ?_
            refine s_move h rfl _ rfl rfl (by decide) rfl (fun a h => ?_)
            refine g_yes h rfl rfl rfl rfl hB2 ?_
            refine s_move h rfl _ rfl rfl (by decide) rfl (fun a h => ?_)
            refine g_yes h rfl rfl rfl rfl hB2 ?_
            have hr73 : r64 (x6.2.length : Int) := len_r (h.m.rowLen (i := 0) rfl)
            refine s_x h rfl rfl (by decide) (x_len h.k rfl Try.underlying22 rfl) (fun a h => ?_)
            refine g_yes h rfl rfl rfl rfl hB2 ?_
            refine s_x h rfl rfl (by decide) (x_bin h.k rfl rfl rfl ib_geq) (fun a h => ?_)
            refine s_x h rfl rfl (by decide) (x_pick (u' := undef) h.k rfl rfl (fun hh => absurd (hB2.symm.trans hh) (by decide)) (fun _ => rfl)) (fun a h => ?_)
            exact (h.mid 4 rfl).val (by first | rfl | (rw [hB2]; first | rfl | simp))
          refine l_end ?_
          refine c_cond h rfl (fun hb => ?_) (fun hb => ?_)
          · rw [if_pos hb] at hl55
            refine c_rs ?_ -- region 11
            refine s_move h rfl _ rfl rfl (by decide) rfl (fun a h => ?_)
            refine s_x h rfl rfl (by decide) (x_not h.k rfl rfl) (fun a h => ?_)
            refine s_move h rfl _ rfl rfl (by decide) rfl (fun a h => ?_)
            refine q_grp h 4 (t := 59) 63 ((!x29.2.1) && (decide ((x29.1.length : Int) = 0))) rfl (fun hB2 => ?_) (fun hB2 => ?_) (fun a w h => ?_)
            · refine g_yes h rfl rfl rfl rfl hB2 ?_
              refine s_move h rfl _ rfl rfl (by decide) rfl (fun a h => ?_)
              refine g_yes h rfl rfl rfl rfl hB2 ?_
              have hr76 : r64 (x29.1.length : Int) := len_r (h.m.rowLen (i := 1) rfl)
              refine s_x h rfl rfl (by decide) (x_len h.k rfl Try.underlying23 rfl) (fun a h => ?_)
              refine g_yes h rfl rfl rfl rfl hB2 ?_
              refine s_x h rfl rfl (by decide) (x_bin h.k rfl rfl rfl ib_eql) (fun a h => ?_)
              refine s_x h rfl rfl (by decide) (x_pick (u' := undef) h.k rfl rfl (fun _ => rfl) (fun hh => absurd (hB2.symm.trans hh) (by decide))) (fun a h => ?_)
              exact (h.mid 3 rfl).val (by first | rfl | (rw [hB2]; first | rfl | simp))
            · refine g_no h rfl rfl rfl rfl hB2 rfl (by decide) (fun a h => ?_)
              refine g_no h rfl rfl rfl rfl hB2 rfl (by decide) (fun a h => ?_)
              refine g_no h rfl rfl rfl rfl hB2 rfl (by decide) (fun a h => ?_)
              refine s_x h rfl rfl (by decide) (x_pick (u' := undef) h.k rfl rfl (fun hh => absurd (hB2.symm.trans hh) (by decide)) (fun _ => rfl)) (fun a h => ?_)
              exact (h.mid 3 rfl).val (by first | rfl | (rw [hB2]; first | rfl | simp))
            refine s_assign h rfl _ rfl rfl (by decide) rfl (fun a h => ?_)
            refine l_end ?_
            refine wp_ret ?_
            refine e_blkR ?_
            refine e_thenR ?_
            refine e_thenR ?_
            refine e_blkR ?_
            refine e_thenR ?_
            cases hl55
            try dsimp only at hf
            refine e_thenR ?_
            obtain rfl := Option.some.inj hf
            exact r_ret1 h rfl (rv_tmp h rfl) ⟨_, [], _, rfl, ⟨rfl, rfl, trivial⟩, rfl, up33, (h.m.pick [2] _ (by decide) rfl)⟩
          · rw [if_neg (by rw [hb]; decide)] at hl55
            refine wp_skip ?_
            refine e_blkN ?_
            refine e_thenN ?_
            refine c_r ?_ -- region 12
            refine s_x h rfl rfl (by decide) (x_bin h.k rfl rfl rfl (ib_add rfl)) (fun a h => ?_)
            refine s_move h rfl _ rfl rfl (by decide) rfl (fun a h => ?_)
            refine l_nil ?_
            exact e_thenN ⟨m56, Nat.lt_succ_self _, w64 (x53 + 1), hl55, (w64_r _), h.has (by exact ⟨rfl, rfl, rfl, rfl, rfl, rfl, rfl, rfl, trivial⟩)⟩
        · rw [if_neg (of_decide_eq_false hb)] at hl55
          refine wp_exit ?_
          refine e_thenX ?_
          refine e_thenX ?_
          refine e_blkX ?_
          refine e_thenN ?_
          exact ⟨(Option.some.inj hl55), h.has (by exact ⟨rfl, rfl, rfl, rfl, rfl, trivial⟩)⟩
      · rintro a w ⟨rfl, h⟩
        try dsimp only at hf
        refine e_thenN ?_
        refine wp_seq ?_
        refine c_rs ?_ -- region 13
        refine s_move h rfl _ rfl rfl (by decide) rfl (fun a h => ?_)
        refine s_move h rfl _ rfl rfl (by decide) rfl (fun a h => ?_)
        refine s_x h rfl rfl (by decide) (x_bin h.k rfl rfl rfl ib_geq) (fun a h => ?_)
        refine s_move h rfl _ rfl rfl (by decide) rfl (fun a h => ?_)
        refine q_grp h 5 (t := 68) 73 ((decide (0 ≤ a2)) && (decide (a2 < (x6.2.length : Int)))) rfl (fun hB3 => ?_) (fun hB3 => ?_) (fun a w h => ?_)
        · refine g_yes h rfl rfl rfl rfl hB3 ?_
          refine s_move h rfl _ rfl rfl (by decide) rfl (fun a h => ?_)
          refine g_yes h rfl rfl rfl rfl hB3 ?_
          refine s_move h rfl _ rfl rfl (by decide) rfl (fun a h => ?_)
          refine g_yes h rfl rfl rfl rfl hB3 ?_
          have hr79 : r64 (x6.2.length : Int) := len_r (h.m.rowLen (i := 0) rfl)
          refine s_x h rfl rfl (by decide) (x_len h.k rfl Try.underlying22 rfl) (fun a h => ?_)
          refine g_yes h rfl rfl rfl rfl hB3 ?_
          refine s_x h rfl rfl (by decide) (x_bin h.k rfl rfl rfl ib_lss) (fun a h => ?_)
          refine s_x h rfl rfl (by decide) (x_pick (u' := undef) h.k rfl rfl (fun _ => rfl) (fun hh => absurd (hB3.symm.trans hh) (by decide))) (fun a h => ?_)
          exact (h.mid 4 rfl).val (by first | rfl | (rw [hB3]; first | rfl | simp))
        · refine g_no h rfl rfl rfl rfl hB3 rfl (by decide) (fun a h => ?_)
          refine g_no h rfl rfl rfl rfl hB3 rfl (by decide) (fun a h => ?_)
          refine g_no h rfl rfl rfl rfl hB3 rfl (by decide) (fun a h => ?_)
          refine g_no h rfl rfl rfl rfl hB3 rfl (by decide) (fun a h => ?_)
          refine s_x h rfl rfl (by decide) (x_pick (u' := undef) h.k rfl rfl (fun hh => absurd (hB3.symm.trans hh) (by decide)) (fun _ => rfl)) (fun a h => ?_)
          exact (h.mid 4 rfl).val (by first | rfl | (rw [hB3]; first | rfl | simp))
        refine s_move h rfl _ rfl rfl (by decide) rfl (fun a h => ?_)
        obtain ⟨z81, hz80, hf⟩ := bsome hf
        refine q_grp h 7 (t := 74) 81 z81 rfl (fun hB9 => ?_) (fun hB9 => ?_) (fun a w h => ?_)
        · rw [if_pos hB9] at hz80
          refine g_yes h rfl rfl rfl rfl hB9 ?_
          refine s_move h rfl _ rfl rfl (by decide) rfl (fun a h => ?_)
          refine g_yes h rfl rfl rfl rfl hB9 ?_
          refine s_move h rfl _ rfl rfl (by decide) rfl (fun a h => ?_)
          refine g_yes h rfl rfl rfl rfl hB9 ?_
          obtain ⟨x83, h84, hz80⟩ := bsome hz80
          have hX := chatelaineref37_Known_ok Fu (S0 := snapAll _) A25 c26 x6.2 (h.m.rowAll (i := 0) rfl (j := 2) rfl (hq28.mono le34)) Aa1 ca1 a1 ((hsa1.mono (le11.trans le34)).mono (h.m.leAll (i := 2) rfl)) _ h84 _ h.startAll
          refine q_callX hX h rfl rfl rfl (by decide) Try.func9 rfl rfl rfl (fun a w v L1 S1 hR hb1 h => ?_)
          obtain ⟨A86, c87, cs88, rfl, rfl, hq89, _⟩ := hR
          have hq90 := hq89.fl (S' := S32) fl_B
          refine g_yes h rfl rfl rfl rfl hB9 ?_
          refine s_move h rfl _ rfl rfl (by decide) rfl (fun a h => ?_)
          refine g_yes h rfl rfl rfl rfl hB9 ?_
          obtain ⟨m91, h92, hz80⟩ := bsome hz80
          obtain ⟨hi93, hm94⟩ := ix_some h92
          obtain ⟨g96, hA95⟩ := h.m.rowHead (i := 0) rfl (Nat.lt_of_le_of_lt (Nat.zero_le _) hm94)
          refine s_x h rfl rfl (by decide) (x_iaddrE h.k rfl Try.underlying30 sz_bool hA95 rfl rfl hi93 hm94) (fun a h => ?_)
          refine g_yes h rfl rfl rfl rfl hB9 ?_
          obtain ⟨x97, h98, hz80⟩ := bsome hz80
          obtain ⟨u99, hv100, hu101⟩ := (hq90).cell rfl h98
          cases hu101
          refine s_x h rfl rfl (by decide) (x_ld h.k rfl Try.underlying4 rfl rfl (h.m.cellRowE (i := 0) rfl hA95 _ (by rw [Nat.mul_one]; exact hv100))) (fun a h => ?_)
          refine s_x h rfl rfl (by decide) (x_pick (u' := undef) h.k rfl rfl (fun _ => rfl) (fun hh => absurd (hB9.symm.trans hh) (by decide))) (fun a h => ?_)
          have h := h.pick [1, 2, 3] (by decide) rfl
          exact (h.mid 6 rfl).val (by rw [Option.some.inj hz80])
        · refine g_no h rfl rfl rfl rfl hB9 rfl (by decide) (fun a h => ?_)
          refine g_no h rfl rfl rfl rfl hB9 rfl (by decide) (fun a h => ?_)
          refine g_no h rfl rfl rfl rfl hB9 rfl (by decide) (fun a h => ?_)
          refine g_no h rfl rfl rfl rfl hB9 rfl (by decide) (fun a h => ?_)
          refine g_no h rfl rfl rfl rfl hB9 rfl (by decide) (fun a h => ?_)
          refine g_no h rfl rfl rfl rfl hB9 rfl (by decide) (fun a h => ?_)
          rw [if_neg (by rw [hB9]; decide)] at hz80
          refine s_x h rfl rfl (by decide) (x_pick (u' := undef) h.k rfl rfl (fun hh => absurd (hB9.symm.trans hh) (by decide)) (fun _ => rfl)) (fun a h => ?_)
          exact (h.mid 6 rfl).val (by rw [Option.some.inj hz80])
        refine s_x h rfl rfl (by decide) (x_neqB h.k rfl Try.underlying4 rfl rfl) (fun a h => ?_)
        refine s_move h rfl _ rfl rfl (by decide) rfl (fun a h => ?_)
        refine q_grp h 3 (t := 83) 86 ((!(x29.2.1 == z81)) || (!x29.2.1)) rfl (fun hB18 => ?_) (fun hB18 => ?_) (fun a w h => ?_)
        · refine g_no h rfl rfl rfl rfl hB18 rfl (by decide) (fun a h => ?_)
          refine g_no h rfl rfl rfl rfl hB18 rfl (by decide) (fun a h => ?_)
          refine s_x h rfl rfl (by decide) (x_pick (u' := undef) h.k rfl rfl (fun _ => rfl) (fun hh => absurd (hB18.symm.trans hh) (by decide))) (fun a h => ?_)
          exact (h.mid 2 rfl).val (by first | rfl | (rw [hB18]; first | rfl | simp))
        · refine g_yes h rfl rfl rfl rfl hB18 ?_
          refine s_move h rfl _ rfl rfl (by decide) rfl (fun a h => ?_)
          refine g_yes h rfl rfl rfl rfl hB18 ?_
          refine s_x h rfl rfl (by decide) (x_not h.k rfl rfl) (fun a h => ?_)
          refine s_x h rfl rfl (by decide) (x_pick (u' := undef) h.k rfl rfl (fun hh => absurd (hB18.symm.trans hh) (by decide)) (fun _ => rfl)) (fun a h => ?_)
          exact (h.mid 2 rfl).val (by first | rfl | (rw [hB18]; first | rfl | simp))
        refine l_end ?_
        refine c_cond h rfl (fun hb => ?_) (fun hb => ?_)
        · rw [if_pos hb] at hf
          refine c_rs ?_ -- region 14
          refine s_move h rfl _ rfl rfl (by decide) rfl (fun a h => ?_)
          refine s_x h rfl rfl (by decide) (x_not h.k rfl rfl) (fun a h => ?_)
          refine s_move h rfl _ rfl rfl (by decide) rfl (fun a h => ?_)
          refine q_grp h 4 (t := 89) 93 ((!x29.2.1) && (decide ((x29.1.length : Int) = 0))) rfl (fun hB2 => ?_) (fun hB2 => ?_) (fun a w h => ?_)
          · refine g_yes h rfl rfl rfl rfl hB2 ?_
            refine s_move h rfl _ rfl rfl (by decide) rfl (fun a h => ?_)
            refine g_yes h rfl rfl rfl rfl hB2 ?_
            have hr106 : r64 (x29.1.length : Int) := len_r (h.m.rowLen (i := 1) rfl)
            refine s_x h rfl rfl (by decide) (x_len h.k rfl Try.underlying23 rfl) (fun a h => ?_)
            refine g_yes h rfl rfl rfl rfl hB2 ?_
            refine s_x h rfl rfl (by decide) (x_bin h.k rfl rfl rfl ib_eql) (fun a h => ?_)
            refine s_x h rfl rfl (by decide) (x_pick (u' := undef) h.k rfl rfl (fun _ => rfl) (fun hh => absurd (hB2.symm.trans hh) (by decide))) (fun a h => ?_)
            exact (h.mid 3 rfl).val (by first | rfl | (rw [hB2]; first | rfl | simp))
          · refine g_no h rfl rfl rfl rfl hB2 rfl (by decide) (fun a h => ?_)
            refine g_no h rfl rfl rfl rfl hB2 rfl (by decide) (fun a h => ?_)
            refine g_no h rfl rfl rfl rfl hB2 rfl (by decide) (fun a h => ?_)
            refine s_x h rfl rfl (by decide) (x_pick (u' := undef) h.k rfl rfl (fun hh => absurd (hB2.symm.trans hh) (by decide)) (fun _ => rfl)) (fun a h => ?_)
            exact (h.mid 3 rfl).val (by first | rfl | (rw [hB2]; first | rfl | simp))
          refine s_move h rfl _ rfl rfl (by decide) rfl (fun a h => ?_)
          obtain ⟨z108, hz107, hf⟩ := bsome hf
          refine q_grp h 18 (t := 94) 112 z108 rfl (fun hB7 => ?_) (fun hB7 => ?_) (fun a w h => ?_)
          · rw [if_pos hB7] at hz107
            refine g_yes h rfl rfl rfl rfl hB7 ?_
            refine s_move h rfl _ rfl rfl (by decide) rfl (fun a h => ?_)
            refine g_yes h rfl rfl rfl rfl hB7 ?_
            refine s_x h rfl rfl (by decide) (x_bin h.k rfl rfl rfl ib_geq) (fun a h => ?_)
            refine g_yes h rfl rfl rfl rfl hB7 ?_
            refine s_move h rfl _ rfl rfl (by decide) rfl (fun a h => ?_)
            refine q_grp h 5 (t := 97) 102 ((decide (0 ≤ a2)) && (decide (a2 < (x6.2.length : Int)))) rfl (fun hB10 => ?_) (fun hB10 => ?_) (fun a w h => ?_)
            · refine g_yes h rfl rfl rfl rfl hB10 ?_
              refine s_move h rfl _ rfl rfl (by decide) rfl (fun a h => ?_)
              refine g_yes h rfl rfl rfl rfl hB10 ?_
              refine s_move h rfl _ rfl rfl (by decide) rfl (fun a h => ?_)
              refine g_yes h rfl rfl rfl rfl hB10 ?_
              have hr112 : r64 (x6.2.length : Int) := len_r (h.m.rowLen (i := 0) rfl)
              refine s_x h rfl rfl (by decide) (x_len h.k rfl Try.underlying22 rfl) (fun a h => ?_)
              refine g_yes h rfl rfl rfl rfl hB10 ?_
              refine s_x h rfl rfl (by decide) (x_bin h.k rfl rfl rfl ib_lss) (fun a h => ?_)
              refine g_yes h rfl rfl rfl rfl hB7 ?_
              refine s_x h rfl rfl (by decide) (x_pick (u' := undef) h.k rfl rfl (fun _ => rfl) (fun hh => absurd (hB10.symm.trans hh) (by decide))) (fun a h => ?_)
              exact (h.mid 4 rfl).val (by first | rfl | (rw [hB10]; first | rfl | simp))
            · refine g_no h rfl rfl rfl rfl hB10 rfl (by decide) (fun a h => ?_)
              refine g_no h rfl rfl rfl rfl hB10 rfl (by decide) (fun a h => ?_)
              refine g_no h rfl rfl rfl rfl hB10 rfl (by decide) (fun a h => ?_)
              refine g_no h rfl rfl rfl rfl hB10 rfl (by decide) (fun a h => ?_)
              refine g_yes h rfl rfl rfl rfl hB7 ?_
              refine s_x h rfl rfl (by decide) (x_pick (u' := undef) h.k rfl rfl (fun hh => absurd (hB10.symm.trans hh) (by decide)) (fun _ => rfl)) (fun a h => ?_)
              exact (h.mid 4 rfl).val (by first | rfl | (rw [hB10]; first | rfl | simp))
            refine g_yes h rfl rfl rfl rfl hB7 ?_
            refine s_move h rfl _ rfl rfl (by decide) rfl (fun a h => ?_)
            obtain ⟨z114, hz113, hz107⟩ := bsome hz107
            refine q_grp h 7 (t := 103) 110 z114 rfl (fun hB16 => ?_) (fun hB16 => ?_) (fun a w h => ?_)
            · rw [if_pos hB16] at hz113
              refine g_yes h rfl rfl rfl rfl hB16 ?_
              refine s_move h rfl _ rfl rfl (by decide) rfl (fun a h => ?_)
              refine g_yes h rfl rfl rfl rfl hB16 ?_
              refine s_move h rfl _ rfl rfl (by decide) rfl (fun a h => ?_)
              refine g_yes h rfl rfl rfl rfl hB16 ?_
              obtain ⟨x116, h117, hz113⟩ := bsome hz113
              have hX := chatelaineref37_Known_ok Fu (S0 := snapAll _) A25 c26 x6.2 (h.m.rowAll (i := 0) rfl (j := 2) rfl (hq28.mono le34)) Aa1 ca1 a1 ((hsa1.mono (le11.trans le34)).mono (h.m.leAll (i := 2) rfl)) _ h117 _ h.startAll
              refine q_callX hX h rfl rfl rfl (by decide) Try.func9 rfl rfl rfl (fun a w v L1 S1 hR hb1 h => ?_)
              obtain ⟨A119, c120, cs121, rfl, rfl, hq122, _⟩ := hR
              have hq123 := hq122.fl (S' := S32) fl_B
              refine g_yes h rfl rfl rfl rfl hB16 ?_
              refine s_move h rfl _ rfl rfl (by decide) rfl (fun a h => ?_)
              refine g_yes h rfl rfl rfl rfl hB16 ?_
              obtain ⟨m124, h125, hz113⟩ := bsome hz113
              obtain ⟨hi126, hm127⟩ := ix_some h125
              obtain ⟨g129, hA128⟩ := h.m.rowHead (i := 0) rfl (Nat.lt_of_le_of_lt (Nat.zero_le _) hm127)
              refine s_x h rfl rfl (by decide) (x_iaddrE h.k rfl Try.underlying30 sz_bool hA128 rfl rfl hi126 hm127) (fun a h => ?_)
              refine g_yes h rfl rfl rfl rfl hB16 ?_
              obtain ⟨x130, h131, hz113⟩ := bsome hz113
              obtain ⟨u132, hv133, hu134⟩ := (hq123).cell rfl h131
              cases hu134
              refine s_x h rfl rfl (by decide) (x_ld h.k rfl Try.underlying4 rfl rfl (h.m.cellRowE (i := 0) rfl hA128 _ (by rw [Nat.mul_one]; exact hv133))) (fun a h => ?_)
              refine g_yes h rfl rfl rfl rfl hB7 ?_
              refine s_x h rfl rfl (by decide) (x_pick (u' := undef) h.k rfl rfl (fun _ => rfl) (fun hh => absurd (hB16.symm.trans hh) (by decide))) (fun a h => ?_)
              have h := h.pick [1, 2, 3] (by decide) rfl
              exact (h.mid 6 rfl).val (by rw [Option.some.inj hz113])
            · refine g_no h rfl rfl rfl rfl hB16 rfl (by decide) (fun a h => ?_)
              refine g_no h rfl rfl rfl rfl hB16 rfl (by decide) (fun a h => ?_)
              refine g_no h rfl rfl rfl rfl hB16 rfl (by decide) (fun a h => ?_)
              refine g_no h rfl rfl rfl rfl hB16 rfl (by decide) (fun a h => ?_)
              refine g_no h rfl rfl rfl rfl hB16 rfl (by decide) (fun a h => ?_)
              refine g_no h rfl rfl rfl rfl hB16 rfl (by decide) (fun a h => ?_)
              rw [if_neg (by rw [hB16]; decide)] at hz113
              refine g_yes h rfl rfl rfl rfl hB7 ?_
              refine s_x h rfl rfl (by decide) (x_pick (u' := undef) h.k rfl rfl (fun hh => absurd (hB16.symm.trans hh) (by decide)) (fun _ => rfl)) (fun a h => ?_)
              exact (h.mid 6 rfl).val (by rw [Option.some.inj hz113])
            refine g_yes h rfl rfl rfl rfl hB7 ?_
            refine s_x h rfl rfl (by decide) (x_not h.k rfl rfl) (fun a h => ?_)
            refine s_x h rfl rfl (by decide) (x_pick (u' := undef) h.k rfl rfl (fun _ => rfl) (fun hh => absurd (hB7.symm.trans hh) (by decide))) (fun a h => ?_)
            exact (h.mid 7 rfl).val (by rw [Option.some.inj hz107])
          · refine g_no h rfl rfl rfl rfl hB7 rfl (by decide) (fun a h => ?_)
            refine g_no h rfl rfl rfl rfl hB7 rfl (by decide) (fun a h => ?_)
            refine g_no h rfl rfl rfl rfl hB7 rfl (by decide) (fun a h => ?_)
            refine g_off h rfl rfl rfl rfl rfl (by decide) (fun a h => ?_)
            refine g_off h rfl rfl rfl rfl rfl (by decide) (fun a h => ?_)
            refine g_off h rfl rfl rfl rfl rfl (by decide) (fun a h => ?_)
            refine g_off h rfl rfl rfl rfl rfl (by decide) (fun a h => ?_)
            refine g_no h rfl rfl rfl rfl hB7 rfl (by decide) (fun a h => ?_)
            refine g_no h rfl rfl rfl rfl hB7 rfl (by decide) (fun a h => ?_)
            refine g_off h rfl rfl rfl rfl rfl (by decide) (fun a h => ?_)
            refine g_off h rfl rfl rfl rfl rfl (by decide) (fun a h => ?_)
            refine g_off h rfl rfl rfl rfl rfl (by decide) (fun a h => ?_)
            refine g_off h rfl rfl rfl rfl rfl (by decide) (fun a h => ?_)
            refine g_off h rfl rfl rfl rfl rfl (by decide) (fun a h => ?_)
            refine g_off h rfl rfl rfl rfl rfl (by decide) (fun a h => ?_)
            refine g_no h rfl rfl rfl rfl hB7 rfl (by decide) (fun a h => ?_)
            refine g_no h rfl rfl rfl rfl hB7 rfl (by decide) (fun a h => ?_)
            rw [if_neg (by rw [hB7]; decide)] at hz107
            refine s_x h rfl rfl (by decide) (x_pick (u' := undef) h.k rfl rfl (fun hh => absurd (hB7.symm.trans hh) (by decide)) (fun _ => rfl)) (fun a h => ?_)
            exact (h.mid 17 rfl).val (by rw [Option.some.inj hz107])
          refine s_assign h rfl _ rfl rfl (by decide) rfl (fun a h => ?_)
          refine l_end ?_
          refine wp_ret ?_
          refine e_thenR ?_
          rw [← Option.some.inj hf]
          exact r_ret1 h rfl (rv_tmp h rfl) ⟨_, [], _, rfl, ⟨rfl, rfl, trivial⟩, rfl, up33, (h.m.pick [2] _ (by decide) rfl)⟩
        · rw [if_neg (by rw [hb]; decide)] at hf
          refine wp_skip ?_
          refine e_thenN ?_
          refine c_rs ?_ -- region 15
          refine s_move h rfl _ rfl rfl (by decide) rfl (fun a h => ?_)
          have hr135 : r64 (x6.2.length : Int) := len_r (h.m.rowLen (i := 0) rfl)
          refine s_x h rfl rfl (by decide) (x_len h.k rfl Try.underlying22 rfl) (fun a h => ?_)
          obtain ⟨n136, h137, hf⟩ := bsome hf
          refine q_make (T := tyB) (S := S32) h rfl rfl rfl (by decide) Try.underlying30 zb_bool rfl rfl (q := false) rfl rfl rfl h137 (fun a w A138 cs139 hq140 h => ?_)
          refine s_assign h rfl _ rfl rfl (by decide) rfl (fun a h => ?_)
          refine l_end ?_
          refine wp_seq ?_
          refine c_rs ?_ -- region 16
          refine s_move h rfl _ rfl rfl (by decide) rfl (fun a h => ?_)
          have hr141 : r64 (x29.1.length : Int) := len_r (h.m.rowLen (i := 2) rfl)
          refine s_x h rfl rfl (by decide) (x_len h.k rfl Try.underlying23 rfl) (fun a h => ?_)
          refine s_move h rfl _ rfl rfl (by decide) rfl (fun a h => ?_)
          refine l_end ?_
          obtain ⟨o142, hl143, hf⟩ := bsome hf
          refine c_fin (fun a w => (.inr ()) = o142 ∧ St 217 w0 (ownL ([] ++ [.sn S0])) [(2, .int .i64 a2), (9, .slice A35 x29.1.length c36)] [.row (.slice A35 x29.1.length c36) 3 1 x29.1.length cs37, .sn S32] a w) ?_ ?_
          · refine wp_block ?_
            have h := h.pick [1, 2, 0, 3] (by decide) rfl
            refine c_loop (fun m152 a w => ∃ (x144 : Int), ∃ (x146 : List Bool), ∃ (A147 : Option Addr), ∃ (c148 : Nat), ∃ (cs149 : List Value), chatelainelaw37_KnowWhy_l1 Fu a1 x6 x29 m152 x144 x146 = some o142 ∧ r64 x144 ∧ reps tyB S32 cs149 x146 ∧ St 217 w0 (ownL ([] ++ [.sn S0])) [(1, .slice Aa1 a1.length ca1), (2, .int .i64 a2), (8, .slice A25 x6.2.length c26), (9, .slice A35 x29.1.length c36), (13, .slice A147 x146.length c148), (116, .slice A35 x29.1.length c36), (117, .int .i64 (x29.1.length : Int)), (118, .int .i64 x144)] [.row (.slice A25 x6.2.length c26) 33 3 x6.2.length cs27, .row (.slice A35 x29.1.length c36) 3 1 x29.1.length cs37, .row (.slice A147 x146.length c148) 4 1 x146.length cs149, .sn S32] a w) Fu ⟨0, (List.replicate n136 (false : Bool)), A138, n136, cs139, hl143, (show r64 0 from ⟨by decide, by decide⟩), hq140, h.has (by exact ⟨rfl, rfl, rfl, rfl, rfl, rfl, rfl, rfl, trivial⟩)⟩ (fun m152 a w hI => ?_)
            obtain ⟨x144, x146, A147, c148, cs149, hl151, hr145, hq150, h⟩ := hI
            obtain _ | m152 := m152
            · rw [chatelainelaw37_KnowWhy_l1] at hl151; cases hl151
            rw [chatelainelaw37_KnowWhy_l1] at hl151
            refine c_rs ?_ -- region 17
            refine s_x h rfl rfl (by decide) (x_bin h.k rfl rfl rfl ib_lss) (fun a h => ?_)
            refine l_end ?_
            refine c_cs h rfl (fun hb => ?_) (fun hb => ?_)
            · rw [if_pos (of_decide_eq_true hb)] at hl151
              refine wp_skip ?_
              refine e_thenN ?_
              refine wp_seq ?_
              refine wp_block ?_
              refine c_rs ?_ -- region 18
              obtain ⟨m153, h154, hl151⟩ := bsome hl151
              obtain ⟨hi155, hm156⟩ := ix_some h154
              obtain ⟨g158, hA157⟩ := h.m.rowHead (i := 1) rfl (Nat.lt_of_le_of_lt (Nat.zero_le _) hm156)
              refine s_x h rfl rfl (by decide) (x_iaddrE h.k rfl Try.underlying23 sz_int hA157 rfl rfl hi155 hm156) (fun a h => ?_)
              obtain ⟨x159, h160, hl151⟩ := bsome hl151
              obtain ⟨u161, hv162, hu163⟩ := (hq38).cell rfl h160
              obtain ⟨e165, hr164⟩ := hu163
              cases e165
              refine s_x h rfl rfl (by decide) (x_ld h.k rfl Try.underlying3 rfl rfl (h.m.cellRowE (i := 1) rfl hA157 _ (by rw [Nat.mul_one]; exact hv162))) (fun a h => ?_)
              refine s_assign h rfl _ rfl rfl (by decide) rfl (fun a h => ?_)
              refine l_end ?_
              refine wp_seq ?_
              refine c_rs ?_ -- region 19
              refine s_move h rfl _ rfl rfl (by decide) rfl (fun a h => ?_)
              refine s_x h rfl rfl (by decide) (x_bin h.k rfl rfl rfl ib_lss) (fun a h => ?_)
              refine s_move h rfl _ rfl rfl (by decide) rfl (fun a h => ?_)
              refine q_grp h 5 (t := 124) 129 ((decide (x159 < 0)) || (decide ((x6.2.length : Int) ≤ x159))) rfl (fun hB2 => ?_) (fun hB2 => ?_) (fun a w h => ?_)
              · refine g_no h rfl rfl rfl rfl hB2 rfl (by decide) (fun a h => ?_)
                refine g_no h rfl rfl rfl rfl hB2 rfl (by decide) (fun a h => ?_)
                refine g_no h rfl rfl rfl rfl hB2 rfl (by decide) (fun a h => ?_)
                refine g_no h rfl rfl rfl rfl hB2 rfl (by decide) (fun a h => ?_)
                refine s_x h rfl rfl (by decide) (x_pick (u' := undef) h.k rfl rfl (fun _ => rfl) (fun hh => absurd (hB2.symm.trans hh) (by decide))) (fun a h => ?_)
                exact (h.mid 4 rfl).val (by first | rfl | (rw [hB2]; first | rfl | simp))
              · refine g_yes h rfl rfl rfl rfl hB2 ?_
                refine s_move h rfl _ rfl rfl (by decide) rfl (fun a h => ?_)
                refine g_yes h rfl rfl rfl rfl hB2 ?_
                refine s_move h rfl _ rfl rfl (by decide) rfl (fun a h => ?_)
                refine g_yes h rfl rfl rfl rfl hB2 ?_
                have hr168 : r64 (x6.2.length : Int) := len_r (h.m.rowLen (i := 0) rfl)
                refine s_x h rfl rfl (by decide) (x_len h.k rfl Try.underlying22 rfl) (fun a h => ?_)
                refine g_yes h rfl rfl rfl rfl hB2 ?_
                refine s_x h rfl rfl (by decide) (x_bin h.k rfl rfl rfl ib_geq) (fun a h => ?_)
                refine s_x h rfl rfl (by decide) (x_pick (u' := undef) h.k rfl rfl (fun hh => absurd (hB2.symm.trans hh) (by decide)) (fun _ => rfl)) (fun a h => ?_)
                exact (h.mid 4 rfl).val (by first | rfl | (rw [hB2]; first | rfl | simp))
              refine s_move h rfl _ rfl rfl (by decide) rfl (fun a h => ?_)
              obtain ⟨z170, hz169, hl151⟩ := bsome hl151
              refine q_grp h 5 (t := 130) 135 z170 rfl (fun hB8 => ?_) (fun hB8 => ?_) (fun a w h => ?_)
              · refine g_no h rfl rfl rfl rfl hB8 rfl (by decide) (fun a h => ?_)
                refine g_no h rfl rfl rfl rfl hB8 rfl (by decide) (fun a h => ?_)
                refine g_no h rfl rfl rfl rfl hB8 rfl (by decide) (fun a h => ?_)
                refine g_no h rfl rfl rfl rfl hB8 rfl (by decide) (fun a h => ?_)
                rw [if_pos hB8] at hz169
                refine s_x h rfl rfl (by decide) (x_pick (u' := undef) h.k rfl rfl (fun _ => rfl) (fun hh => absurd (hB8.symm.trans hh) (by decide))) (fun a h => ?_)
                exact (h.mid 4 rfl).val (by rw [Option.some.inj hz169])
              · rw [if_neg (by rw [hB8]; decide)] at hz169
                refine g_yes h rfl rfl rfl rfl hB8 ?_
                refine s_move h rfl _ rfl rfl (by decide) rfl (fun a h => ?_)
                refine g_yes h rfl rfl rfl rfl hB8 ?_
                refine s_move h rfl _ rfl rfl (by decide) rfl (fun a h => ?_)
                refine g_yes h rfl rfl rfl rfl hB8 ?_
                obtain ⟨m172, h173, hz169⟩ := bsome hz169
                obtain ⟨hi174, hm175⟩ := ix_some h173
                obtain ⟨g177, hA176⟩ := h.m.rowHead (i := 2) rfl (Nat.lt_of_le_of_lt (Nat.zero_le _) hm175)
                refine s_x h rfl rfl (by decide) (x_iaddrE h.k rfl Try.underlying30 sz_bool hA176 rfl rfl hi174 hm175) (fun a h => ?_)
                refine g_yes h rfl rfl rfl rfl hB8 ?_
                obtain ⟨x178, h179, hz169⟩ := bsome hz169
                obtain ⟨u180, hv181, hu182⟩ := (hq150).cell rfl h179
                cases hu182
                refine s_x h rfl rfl (by decide) (x_ld h.k rfl Try.underlying4 rfl rfl (h.m.cellRowE (i := 2) rfl hA176 _ (by rw [Nat.mul_one]; exact hv181))) (fun a h => ?_)
                refine s_x h rfl rfl (by decide) (x_pick (u' := undef) h.k rfl rfl (fun hh => absurd (hB8.symm.trans hh) (by decide)) (fun _ => rfl)) (fun a h => ?_)
                exact (h.mid 4 rfl).val (by rw [Option.some.inj hz169])
              refine l_end ?_
              refine c_cond h rfl (fun hb => ?_) (fun hb => ?_)
              · rw [if_pos hb] at hl151
                refine c_rs ?_ -- region 20
                refine s_assign h rfl _ rfl rfl (by decide) rfl (fun a h => ?_)
                refine l_end ?_
                refine wp_ret ?_
                refine e_thenR ?_
                refine e_blkR ?_
                refine e_thenR ?_
                refine e_thenR ?_
                refine e_blkR ?_
                refine e_thenR ?_
                cases hl151
                try dsimp only at hf
                refine e_thenR ?_
                rw [← Option.some.inj hf]
                exact r_ret1 h rfl (rv_tmp h rfl) ⟨_, [], _, rfl, ⟨rfl, rfl, trivial⟩, rfl, up33, (h.m.pick [3] _ (by decide) rfl)⟩
              · rw [if_neg (by rw [hb]; decide)] at hl151
                refine wp_skip ?_
                refine e_thenN ?_
                refine c_rs ?_ -- region 21
                refine s_move h rfl _ rfl rfl (by decide) rfl (fun a h => ?_)
                refine s_move h rfl _ rfl rfl (by decide) rfl (fun a h => ?_)
                obtain ⟨m183, h184, hl151⟩ := bsome hl151
                obtain ⟨hi185, hm186⟩ := ix_some h184
                obtain ⟨g188, hA187⟩ := h.m.rowHead (i := 0) rfl (Nat.lt_of_le_of_lt (Nat.zero_le _) hm186)
                refine s_x h rfl rfl (by decide) (x_iaddrE h.k rfl Try.underlying22 sz_api_Term hA187 rfl rfl hi185 hm186) (fun a h => ?_)
                refine s_x h rfl rfl (by decide) (x_faddr h.k rfl Try.underlying33 rfl sz_int rfl) (fun a h => ?_)
                obtain ⟨x189, h190, hl151⟩ := bsome hl151
                obtain ⟨k191, hk192, hu193⟩ : ∃ k, k = (cs27.drop (m183 * 3)).take 3 ∧ (tyP tyI (tyP tyI tyI)).rep S32 k x189 := ⟨_, rfl, reps.at (hq28.mono le34) h190⟩
                obtain ⟨k194, k195, rfl, ⟨rfl, hr196⟩, ⟨k197, k198, rfl, ⟨rfl, hr199⟩, ⟨rfl, hr200⟩⟩⟩ := hu193
                refine s_x h rfl rfl (by decide) (x_ld h.k rfl Try.underlying3 rfl rfl ((show World.rangeAt _ _ (0 + m183 * 3) ([.int .i64 x189.1, .int .i64 x189.2.1, .int .i64 x189.2.2]) from (by have hz := h.m.rangeRowE (i := 0) rfl hA187 (m183 * 3) 3; rw [← hk192] at hz; exact hz)) 0 _ rfl)) (fun a h => ?_)
                refine s_x h rfl rfl (by decide) (x_bin h.k rfl rfl rfl ib_eql) (fun a h => ?_)
                refine s_move h rfl _ rfl rfl (by decide) rfl (fun a h => ?_)
                obtain ⟨z202, hz201, hl151⟩ := bsome hl151
                refine q_grp h 9 (t := 142) 151 z202 rfl (fun hB6 => ?_) (fun hB6 => ?_) (fun a w h => ?_)
                · rw [if_pos (of_decide_eq_true hB6)] at hz201
                  refine g_yes h rfl rfl rfl rfl hB6 ?_
                  refine s_move h rfl _ rfl rfl (by decide) rfl (fun a h => ?_)
                  refine g_yes h rfl rfl rfl rfl hB6 ?_
                  refine s_move h rfl _ rfl rfl (by decide) rfl (fun a h => ?_)
                  refine g_yes h rfl rfl rfl rfl hB6 ?_
                  refine s_move h rfl _ rfl rfl (by decide) rfl (fun a h => ?_)
                  refine g_yes h rfl rfl rfl rfl hB6 ?_
                  obtain ⟨m204, h205, hz201⟩ := bsome hz201
                  obtain ⟨hi206, hm207⟩ := ix_some h205
                  obtain ⟨g209, hA208⟩ := h.m.rowHead (i := 0) rfl (Nat.lt_of_le_of_lt (Nat.zero_le _) hm207)
                  refine s_x h rfl rfl (by decide) (x_iaddrE h.k rfl Try.underlying22 sz_api_Term hA208 rfl rfl hi206 hm207) (fun a h => ?_)
                  refine g_yes h rfl rfl rfl rfl hB6 ?_
                  refine s_x h rfl rfl (by decide) (x_faddr h.k rfl Try.underlying33 rfl sz_int rfl) (fun a h => ?_)
                  refine g_yes h rfl rfl rfl rfl hB6 ?_
                  obtain ⟨x210, h211, hz201⟩ := bsome hz201
                  obtain ⟨k212, hk213, hu214⟩ : ∃ k, k = (cs27.drop (m204 * 3)).take 3 ∧ (tyP tyI (tyP tyI tyI)).rep S32 k x210 := ⟨_, rfl, reps.at (hq28.mono le34) h211⟩
                  obtain ⟨k215, k216, rfl, ⟨rfl, hr217⟩, ⟨k218, k219, rfl, ⟨rfl, hr220⟩, ⟨rfl, hr221⟩⟩⟩ := hu214
                  refine s_x h rfl rfl (by decide) (x_ld h.k rfl Try.underlying3 rfl rfl ((show World.rangeAt _ _ (0 + m204 * 3) ([.int .i64 x210.1, .int .i64 x210.2.1, .int .i64 x210.2.2]) from (by have hz := h.m.rangeRowE (i := 0) rfl hA208 (m204 * 3) 3; rw [← hk213] at hz; exact hz)) 1 _ rfl)) (fun a h => ?_)
                  refine g_yes h rfl rfl rfl rfl hB6 ?_
                  obtain ⟨m222, h223, hz201⟩ := bsome hz201
                  obtain ⟨hi224, hm225⟩ := ix_some h223
                  obtain ⟨g227, hA226⟩ := h.m.rowHead (i := 2) rfl (Nat.lt_of_le_of_lt (Nat.zero_le _) hm225)
                  refine s_x h rfl rfl (by decide) (x_iaddrE h.k rfl Try.underlying30 sz_bool hA226 rfl rfl hi224 hm225) (fun a h => ?_)
                  refine g_yes h rfl rfl rfl rfl hB6 ?_
                  obtain ⟨x228, h229, hz201⟩ := bsome hz201
                  obtain ⟨u230, hv231, hu232⟩ := (hq150).cell rfl h229
                  cases hu232
                  refine s_x h rfl rfl (by decide) (x_ld h.k rfl Try.underlying4 rfl rfl (h.m.cellRowE (i := 2) rfl hA226 _ (by rw [Nat.mul_one]; exact hv231))) (fun a h => ?_)
                  refine s_x h rfl rfl (by decide) (x_pick (u' := undef) h.k rfl rfl (fun _ => rfl) (fun hh => absurd (hB6.symm.trans hh) (by decide))) (fun a h => ?_)
                  exact (h.mid 8 rfl).val (by rw [Option.some.inj hz201])
                · refine g_no h rfl rfl rfl rfl hB6 rfl (by decide) (fun a h => ?_)
                  refine g_no h rfl rfl rfl rfl hB6 rfl (by decide) (fun a h => ?_)
                  refine g_no h rfl rfl rfl rfl hB6 rfl (by decide) (fun a h => ?_)
                  refine g_no h rfl rfl rfl rfl hB6 rfl (by decide) (fun a h => ?_)
                  refine g_no h rfl rfl rfl rfl hB6 rfl (by decide) (fun a h => ?_)
                  refine g_no h rfl rfl rfl rfl hB6 rfl (by decide) (fun a h => ?_)
                  refine g_no h rfl rfl rfl rfl hB6 rfl (by decide) (fun a h => ?_)
                  refine g_no h rfl rfl rfl rfl hB6 rfl (by decide) (fun a h => ?_)
                  rw [if_neg (of_decide_eq_false hB6)] at hz201
                  refine s_x h rfl rfl (by decide) (x_pick (u' := undef) h.k rfl rfl (fun hh => absurd (hB6.symm.trans hh) (by decide)) (fun _ => rfl)) (fun a h => ?_)
                  exact (h.mid 8 rfl).val (by rw [Option.some.inj hz201])
                refine s_assign h rfl _ rfl rfl (by decide) rfl (fun a h => ?_)
                refine l_end ?_
                refine wp_seq ?_
                refine c_rs ?_ -- region 22
                refine s_move h rfl _ rfl rfl (by decide) rfl (fun a h => ?_)
                refine s_x h rfl rfl (by decide) (x_len h.k rfl Try.underlying23 rfl) (fun a h => ?_)
                refine s_move h rfl _ rfl rfl (by decide) rfl (fun a h => ?_)
                refine l_end ?_
                obtain ⟨o233, hl234, hl151⟩ := bsome hl151
                refine c_fin (fun a w => ∃ (x238 : Bool), x238 = o233 ∧ St 217 w0 (ownL ([] ++ [.sn S0])) [(1, .slice Aa1 a1.length ca1), (2, .int .i64 a2), (8, .slice A25 x6.2.length c26), (9, .slice A35 x29.1.length c36), (13, .slice A147 x146.length c148), (15, .int .i64 x159), (16, .bool x238), (116, .slice A35 x29.1.length c36), (117, .int .i64 (x29.1.length : Int)), (118, .int .i64 x144)] [.row (.slice A25 x6.2.length c26) 33 3 x6.2.length cs27, .row (.slice A35 x29.1.length c36) 3 1 x29.1.length cs37, .row (.slice A147 x146.length c148) 4 1 x146.length cs149, .sn S32] a w) ?_ ?_
                · refine wp_block ?_
                  refine c_loop (fun m240 a w => ∃ (x235 : Bool), ∃ (x236 : Int), chatelainelaw37_KnowWhy_l2 Fu a1 x159 m240 x235 x236 = some o233 ∧ r64 x236 ∧ St 217 w0 (ownL ([] ++ [.sn S0])) [(1, .slice Aa1 a1.length ca1), (2, .int .i64 a2), (8, .slice A25 x6.2.length c26), (9, .slice A35 x29.1.length c36), (13, .slice A147 x146.length c148), (15, .int .i64 x159), (16, .bool x235), (116, .slice A35 x29.1.length c36), (117, .int .i64 (x29.1.length : Int)), (118, .int .i64 x144), (152, .slice Aa1 a1.length ca1), (153, .int .i64 (a1.length : Int)), (154, .int .i64 x236)] [.row (.slice A25 x6.2.length c26) 33 3 x6.2.length cs27, .row (.slice A35 x29.1.length c36) 3 1 x29.1.length cs37, .row (.slice A147 x146.length c148) 4 1 x146.length cs149, .sn S32] a w) Fu ⟨z202, 0, hl234, (show r64 0 from ⟨by decide, by decide⟩), h.has (by exact ⟨rfl, rfl, rfl, rfl, rfl, rfl, rfl, rfl, rfl, rfl, rfl, rfl, rfl, trivial⟩)⟩ (fun m240 a w hI => ?_)
                  obtain ⟨x235, x236, hl239, hr237, h⟩ := hI
                  obtain _ | m240 := m240
                  · rw [chatelainelaw37_KnowWhy_l2] at hl239; cases hl239
                  rw [chatelainelaw37_KnowWhy_l2] at hl239
                  refine c_rs ?_ -- region 23
                  refine s_x h rfl rfl (by decide) (x_bin h.k rfl rfl rfl ib_lss) (fun a h => ?_)
                  refine l_end ?_
                  refine c_cs h rfl (fun hb => ?_) (fun hb => ?_)
                  · rw [if_pos (of_decide_eq_true hb)] at hl239
                    refine wp_skip ?_
                    refine e_thenN ?_
                    refine wp_seq ?_
                    refine wp_block ?_
                    refine c_rs ?_ -- region 24
                    obtain ⟨x241, h245, hl239⟩ := bsome hl239
                    obtain ⟨m242, hi246, hm247, hx248⟩ := idx_some h245
                    obtain ⟨b243, off244, k249, hA250, hu251, hc252⟩ := ((hsa1.mono (le11.trans le34))).at1 rfl hx248 (h.m.snOK (i := 3) rfl)
                    obtain ⟨e254, hr253⟩ := hu251
                    cases e254
                    refine s_x h rfl rfl (by decide) (x_iaddrE h.k rfl Try.underlying23 sz_int hA250 rfl rfl hi246 hm247) (fun a h => ?_)
                    refine s_x h rfl rfl (by decide) (x_ld h.k rfl Try.underlying3 rfl rfl (hc252 _ (h.m.snOK (i := 3) rfl))) (fun a h => ?_)
                    refine s_assign h rfl _ rfl rfl (by decide) rfl (fun a h => ?_)
                    refine l_end ?_
                    refine c_r ?_ -- region 25
                    refine s_move h rfl _ rfl rfl (by decide) rfl (fun a h => ?_)
                    refine s_move h rfl _ rfl rfl (by decide) rfl (fun a h => ?_)
                    refine q_grp h 4 (t := 159) 163 (x235 || (decide (x241 = x159))) rfl (fun hB1 => ?_) (fun hB1 => ?_) (fun a w h => ?_)
                    · refine g_no h rfl rfl rfl rfl hB1 rfl (by decide) (fun a h => ?_)
                      refine g_no h rfl rfl rfl rfl hB1 rfl (by decide) (fun a h => ?_)
                      refine g_no h rfl rfl rfl rfl hB1 rfl (by decide) (fun a h => ?_)
                      refine s_x h rfl rfl (by decide) (x_pick (u' := undef) h.k rfl rfl (fun _ => rfl) (fun hh => absurd (hB1.symm.trans hh) (by decide))) (fun a h => ?_)
                      exact (h.mid 3 rfl).val (by first | rfl | (rw [hB1]; first | rfl | simp))
                    · refine g_yes h rfl rfl rfl rfl hB1 ?_
                      refine s_move h rfl _ rfl rfl (by decide) rfl (fun a h => ?_)
                      refine g_yes h rfl rfl rfl rfl hB1 ?_
                      refine s_move h rfl _ rfl rfl (by decide) rfl (fun a h => ?_)
                      refine g_yes h rfl rfl rfl rfl hB1 ?_
                      refine s_x h rfl rfl (by decide) (x_bin h.k rfl rfl rfl ib_eql) (fun a h => ?_)
                      refine s_x h rfl rfl (by decide) (x_pick (u' := undef) h.k rfl rfl (fun hh => absurd (hB1.symm.trans hh) (by decide)) (fun _ => rfl)) (fun a h => ?_)
                      exact (h.mid 3 rfl).val (by first | rfl | (rw [hB1]; first | rfl | simp))
                    refine s_assign h rfl _ rfl rfl (by decide) rfl (fun a h => ?_)
                    refine l_nil ?_
                    refine e_blkN ?_
                    refine e_thenN ?_
                    refine c_r ?_ -- region 26
                    refine s_x h rfl rfl (by decide) (x_bin h.k rfl rfl rfl (ib_add rfl)) (fun a h => ?_)
                    refine s_move h rfl _ rfl rfl (by decide) rfl (fun a h => ?_)
                    refine l_nil ?_
                    exact e_thenN ⟨m240, Nat.lt_succ_self _, (x235 || (decide (x241 = x159))), w64 (x236 + 1), hl239, (w64_r _), h.has (by exact ⟨rfl, rfl, rfl, rfl, rfl, rfl, rfl, rfl, rfl, rfl, rfl, rfl, rfl, trivial⟩)⟩
                  · rw [if_neg (of_decide_eq_false hb)] at hl239
                    refine wp_exit ?_
                    refine e_thenX ?_
                    refine e_thenX ?_
                    refine e_blkX ?_
                    refine e_thenN ?_
                    exact ⟨x235, (Option.some.inj hl239), h.has (by exact ⟨rfl, rfl, rfl, rfl, rfl, rfl, rfl, rfl, rfl, rfl, trivial⟩)⟩
                · rintro a w ⟨x238, rfl, h⟩
                  refine e_thenN ?_
                  refine wp_seq ?_
                  refine c_rs ?_ -- region 27
                  refine s_move h rfl _ rfl rfl (by decide) rfl (fun a h => ?_)
                  have hr257 : r64 (x6.2.length : Int) := len_r (h.m.rowLen (i := 0) rfl)
                  refine s_x h rfl rfl (by decide) (x_len h.k rfl Try.underlying22 rfl) (fun a h => ?_)
                  refine s_move h rfl _ rfl rfl (by decide) rfl (fun a h => ?_)
                  refine l_end ?_
                  obtain ⟨o258, hl259, hl151⟩ := bsome hl151
                  refine c_fin (fun a w => ∃ (x263 : Bool), x263 = o258 ∧ St 217 w0 (ownL ([] ++ [.sn S0])) [(1, .slice Aa1 a1.length ca1), (2, .int .i64 a2), (8, .slice A25 x6.2.length c26), (9, .slice A35 x29.1.length c36), (13, .slice A147 x146.length c148), (15, .int .i64 x159), (16, .bool x263), (116, .slice A35 x29.1.length c36), (117, .int .i64 (x29.1.length : Int)), (118, .int .i64 x144)] [.row (.slice A25 x6.2.length c26) 33 3 x6.2.length cs27, .row (.slice A35 x29.1.length c36) 3 1 x29.1.length cs37, .row (.slice A147 x146.length c148) 4 1 x146.length cs149, .sn S32] a w) ?_ ?_
                  · refine wp_block ?_
                    refine c_loop (fun m265 a w => ∃ (x260 : Bool), ∃ (x261 : Int), chatelainelaw37_KnowWhy_l3 Fu x6 x146 x159 m265 x260 x261 = some o258 ∧ r64 x261 ∧ St 217 w0 (ownL ([] ++ [.sn S0])) [(1, .slice Aa1 a1.length ca1), (2, .int .i64 a2), (8, .slice A25 x6.2.length c26), (9, .slice A35 x29.1.length c36), (13, .slice A147 x146.length c148), (15, .int .i64 x159), (16, .bool x260), (116, .slice A35 x29.1.length c36), (117, .int .i64 (x29.1.length : Int)), (118, .int .i64 x144), (165, .slice A25 x6.2.length c26), (166, .int .i64 (x6.2.length : Int)), (167, .int .i64 x261)] [.row (.slice A25 x6.2.length c26) 33 3 x6.2.length cs27, .row (.slice A35 x29.1.length c36) 3 1 x29.1.length cs37, .row (.slice A147 x146.length c148) 4 1 x146.length cs149, .sn S32] a w) Fu ⟨x238, 0, hl259, (show r64 0 from ⟨by decide, by decide⟩), h.has (by exact ⟨rfl, rfl, rfl, rfl, rfl, rfl, rfl, rfl, rfl, rfl, rfl, rfl, rfl, trivial⟩)⟩ (fun m265 a w hI => ?_)
                    obtain ⟨x260, x261, hl264, hr262, h⟩ := hI
                    obtain _ | m265 := m265
                    · rw [chatelainelaw37_KnowWhy_l3] at hl264; cases hl264
                    rw [chatelainelaw37_KnowWhy_l3] at hl264
                    refine c_rs ?_ -- region 28
                    refine s_x h rfl rfl (by decide) (x_bin h.k rfl rfl rfl ib_lss) (fun a h => ?_)
                    refine l_end ?_
                    refine c_cs h rfl (fun hb => ?_) (fun hb => ?_)
                    · rw [if_pos (of_decide_eq_true hb)] at hl264
                      refine wp_skip ?_
                      refine e_thenN ?_
                      refine wp_seq ?_
                      refine wp_block ?_
                      refine c_rs ?_ -- region 29
                      refine s_move h rfl _ rfl rfl (by decide) rfl (fun a h => ?_)
                      obtain ⟨m266, h267, hl264⟩ := bsome hl264
                      obtain ⟨hi268, hm269⟩ := ix_some h267
                      obtain ⟨g271, hA270⟩ := h.m.rowHead (i := 0) rfl (Nat.lt_of_le_of_lt (Nat.zero_le _) hm269)
                      refine s_x h rfl rfl (by decide) (x_iaddrE h.k rfl Try.underlying22 sz_api_Term hA270 rfl rfl hi268 hm269) (fun a h => ?_)
                      obtain ⟨x272, h273, hl264⟩ := bsome hl264
                      obtain ⟨k274, hk275, hu276⟩ : ∃ k, k = (cs27.drop (m266 * 3)).take 3 ∧ (tyP tyI (tyP tyI tyI)).rep S32 k x272 := ⟨_, rfl, reps.at (hq28.mono le34) h273⟩
                      obtain ⟨k277, k278, rfl, ⟨rfl, hr279⟩, ⟨k280, k281, rfl, ⟨rfl, hr282⟩, ⟨rfl, hr283⟩⟩⟩ := hu276
                      refine s_x h rfl rfl (by decide) (x_ldR h.k rfl ag_api_Term rfl ([.int .i64 x272.1, .int .i64 x272.2.1, .int .i64 x272.2.2]) rfl (by have hz := h.m.rangeRowE (i := 0) rfl hA270 (m266 * 3) 3; rw [← hk275] at hz; exact hz)) (fun a h => ?_)
                      refine s_alloc h rfl rfl rfl (by decide) zi_api_Term rfl (fun a w g284 h => ?_)
                      refine s_assign h rfl _ rfl rfl (by decide) rfl (fun a h => ?_)
                      refine s_stW h rfl rfl rfl ag_api_Term rfl (es := [.int .i64 x272.1, .int .i64 x272.2.1, .int .i64 x272.2.2]) rfl rfl (by simp [Value.oneCell']) 0 rfl rfl (fun a w h => ?_)
                      refine l_end ?_
                      refine c_r ?_ -- region 30
                      refine s_move h rfl _ rfl rfl (by decide) rfl (fun a h => ?_)
                      refine s_move h rfl _ rfl rfl (by decide) rfl (fun a h => ?_)
                      obtain ⟨z286, hz285, hl264⟩ := bsome hl264
                      refine q_grp h 23 (t := 173) 196 z286 rfl (fun hB1 => ?_) (fun hB1 => ?_) (fun a w h => ?_)
                      · refine g_no h rfl rfl rfl rfl hB1 rfl (by decide) (fun a h => ?_)
                        refine g_no h rfl rfl rfl rfl hB1 rfl (by decide) (fun a h => ?_)
                        refine g_no h rfl rfl rfl rfl hB1 rfl (by decide) (fun a h => ?_)
                        refine g_no h rfl rfl rfl rfl hB1 rfl (by decide) (fun a h => ?_)
                        refine g_no h rfl rfl rfl rfl hB1 rfl (by decide) (fun a h => ?_)
                        refine g_off h rfl rfl rfl rfl rfl (by decide) (fun a h => ?_)
                        refine g_off h rfl rfl rfl rfl rfl (by decide) (fun a h => ?_)
                        refine g_off h rfl rfl rfl rfl rfl (by decide) (fun a h => ?_)
                        refine g_no h rfl rfl rfl rfl hB1 rfl (by decide) (fun a h => ?_)
                        refine g_no h rfl rfl rfl rfl hB1 rfl (by decide) (fun a h => ?_)
                        refine g_off h rfl rfl rfl rfl rfl (by decide) (fun a h => ?_)
                        refine g_off h rfl rfl rfl rfl rfl (by decide) (fun a h => ?_)
                        refine g_off h rfl rfl rfl rfl rfl (by decide) (fun a h => ?_)
                        refine g_off h rfl rfl rfl rfl rfl (by decide) (fun a h => ?_)
                        refine g_off h rfl rfl rfl rfl rfl (by decide) (fun a h => ?_)
                        refine g_no h rfl rfl rfl rfl hB1 rfl (by decide) (fun a h => ?_)
                        refine g_no h rfl rfl rfl rfl hB1 rfl (by decide) (fun a h => ?_)
                        refine g_off h rfl rfl rfl rfl rfl (by decide) (fun a h => ?_)
                        refine g_off h rfl rfl rfl rfl rfl (by decide) (fun a h => ?_)
                        refine g_off h rfl rfl rfl rfl rfl (by decide) (fun a h => ?_)
                        refine g_off h rfl rfl rfl rfl rfl (by decide) (fun a h => ?_)
                        refine g_no h rfl rfl rfl rfl hB1 rfl (by decide) (fun a h => ?_)
                        rw [if_pos hB1] at hz285
                        refine s_x h rfl rfl (by decide) (x_pick (u' := undef) h.k rfl rfl (fun _ => rfl) (fun hh => absurd (hB1.symm.trans hh) (by decide))) (fun a h => ?_)
                        exact (h.mid 22 rfl).val (by rw [Option.some.inj hz285])
                      · rw [if_neg (by rw [hB1]; decide)] at hz285
                        refine g_yes h rfl rfl rfl rfl hB1 ?_
                        refine s_move h rfl _ rfl rfl (by decide) rfl (fun a h => ?_)
                        refine g_yes h rfl rfl rfl rfl hB1 ?_
                        refine s_move h rfl _ rfl rfl (by decide) rfl (fun a h => ?_)
                        refine g_yes h rfl rfl rfl rfl hB1 ?_
                        obtain ⟨m288, h289, hz285⟩ := bsome hz285
                        obtain ⟨hi290, hm291⟩ := ix_some h289
                        obtain ⟨g293, hA292⟩ := h.m.rowHead (i := 3) rfl (Nat.lt_of_le_of_lt (Nat.zero_le _) hm291)
                        refine s_x h rfl rfl (by decide) (x_iaddrE h.k rfl Try.underlying30 sz_bool hA292 rfl rfl hi290 hm291) (fun a h => ?_)
                        refine g_yes h rfl rfl rfl rfl hB1 ?_
                        obtain ⟨x294, h295, hz285⟩ := bsome hz285
                        obtain ⟨u296, hv297, hu298⟩ := (hq150).cell rfl h295
                        cases hu298
                        refine s_x h rfl rfl (by decide) (x_ld h.k rfl Try.underlying4 rfl rfl (h.m.cellRowE (i := 3) rfl hA292 _ (by rw [Nat.mul_one]; exact hv297))) (fun a h => ?_)
                        refine g_yes h rfl rfl rfl rfl hB1 ?_
                        refine s_move h rfl _ rfl rfl (by decide) rfl (fun a h => ?_)
                        refine q_grp h 4 (t := 178) 182 (x294 && (decide (x272.1 = 3))) rfl (fun hB6 => ?_) (fun hB6 => ?_) (fun a w h => ?_)
                        · refine g_yes h rfl rfl rfl rfl hB6 ?_
                          refine s_x h rfl rfl (by decide) (x_faddr h.k rfl Try.underlying33 rfl sz_int rfl) (fun a h => ?_)
                          refine g_yes h rfl rfl rfl rfl hB6 ?_
                          refine s_x h rfl rfl (by decide) (x_ld h.k rfl Try.underlying3 rfl rfl ((h.m.cell (i := 0) rfl 0).trans rfl)) (fun a h => ?_)
                          refine g_yes h rfl rfl rfl rfl hB6 ?_
                          refine s_x h rfl rfl (by decide) (x_bin h.k rfl rfl rfl ib_eql) (fun a h => ?_)
                          refine g_yes h rfl rfl rfl rfl hB1 ?_
                          refine s_x h rfl rfl (by decide) (x_pick (u' := undef) h.k rfl rfl (fun _ => rfl) (fun hh => absurd (hB6.symm.trans hh) (by decide))) (fun a h => ?_)
                          exact (h.mid 3 rfl).val (by first | rfl | (rw [hB6]; first | rfl | simp))
                        · refine g_no h rfl rfl rfl rfl hB6 rfl (by decide) (fun a h => ?_)
                          refine g_no h rfl rfl rfl rfl hB6 rfl (by decide) (fun a h => ?_)
                          refine g_no h rfl rfl rfl rfl hB6 rfl (by decide) (fun a h => ?_)
                          refine g_yes h rfl rfl rfl rfl hB1 ?_
                          refine s_x h rfl rfl (by decide) (x_pick (u' := undef) h.k rfl rfl (fun hh => absurd (hB6.symm.trans hh) (by decide)) (fun _ => rfl)) (fun a h => ?_)
                          exact (h.mid 3 rfl).val (by first | rfl | (rw [hB6]; first | rfl | simp))
                        refine g_yes h rfl rfl rfl rfl hB1 ?_
                        refine s_move h rfl _ rfl rfl (by decide) rfl (fun a h => ?_)
                        obtain ⟨z302, hz301, hz285⟩ := bsome hz285
                        refine q_grp h 6 (t := 183) 189 z302 rfl (fun hB11 => ?_) (fun hB11 => ?_) (fun a w h => ?_)
                        · rw [if_pos hB11] at hz301
                          refine g_yes h rfl rfl rfl rfl hB11 ?_
                          refine s_move h rfl _ rfl rfl (by decide) rfl (fun a h => ?_)
                          refine g_yes h rfl rfl rfl rfl hB11 ?_
                          refine s_x h rfl rfl (by decide) (x_faddr h.k rfl Try.underlying33 rfl sz_int rfl) (fun a h => ?_)
                          refine g_yes h rfl rfl rfl rfl hB11 ?_
                          refine s_x h rfl rfl (by decide) (x_ld h.k rfl Try.underlying3 rfl rfl ((h.m.cell (i := 0) rfl 1).trans rfl)) (fun a h => ?_)
                          refine g_yes h rfl rfl rfl rfl hB11 ?_
                          obtain ⟨m304, h305, hz301⟩ := bsome hz301
                          obtain ⟨hi306, hm307⟩ := ix_some h305
                          obtain ⟨g309, hA308⟩ := h.m.rowHead (i := 3) rfl (Nat.lt_of_le_of_lt (Nat.zero_le _) hm307)
                          refine s_x h rfl rfl (by decide) (x_iaddrE h.k rfl Try.underlying30 sz_bool hA308 rfl rfl hi306 hm307) (fun a h => ?_)
                          refine g_yes h rfl rfl rfl rfl hB11 ?_
                          obtain ⟨x310, h311, hz301⟩ := bsome hz301
                          obtain ⟨u312, hv313, hu314⟩ := (hq150).cell rfl h311
                          cases hu314
                          refine s_x h rfl rfl (by decide) (x_ld h.k rfl Try.underlying4 rfl rfl (h.m.cellRowE (i := 3) rfl hA308 _ (by rw [Nat.mul_one]; exact hv313))) (fun a h => ?_)
                          refine g_yes h rfl rfl rfl rfl hB1 ?_
                          refine s_x h rfl rfl (by decide) (x_pick (u' := undef) h.k rfl rfl (fun _ => rfl) (fun hh => absurd (hB11.symm.trans hh) (by decide))) (fun a h => ?_)
                          exact (h.mid 5 rfl).val (by rw [Option.some.inj hz301])
                        · refine g_no h rfl rfl rfl rfl hB11 rfl (by decide) (fun a h => ?_)
                          refine g_no h rfl rfl rfl rfl hB11 rfl (by decide) (fun a h => ?_)
                          refine g_no h rfl rfl rfl rfl hB11 rfl (by decide) (fun a h => ?_)
                          refine g_no h rfl rfl rfl rfl hB11 rfl (by decide) (fun a h => ?_)
                          refine g_no h rfl rfl rfl rfl hB11 rfl (by decide) (fun a h => ?_)
                          rw [if_neg (by rw [hB11]; decide)] at hz301
                          refine g_yes h rfl rfl rfl rfl hB1 ?_
                          refine s_x h rfl rfl (by decide) (x_pick (u' := undef) h.k rfl rfl (fun hh => absurd (hB11.symm.trans hh) (by decide)) (fun _ => rfl)) (fun a h => ?_)
                          exact (h.mid 5 rfl).val (by rw [Option.some.inj hz301])
                        refine g_yes h rfl rfl rfl rfl hB1 ?_
                        refine s_move h rfl _ rfl rfl (by decide) rfl (fun a h => ?_)
                        refine q_grp h 5 (t := 190) 195 (z302 && (decide (x272.2.2 = x159))) rfl (fun hB18 => ?_) (fun hB18 => ?_) (fun a w h => ?_)
                        · refine g_yes h rfl rfl rfl rfl hB18 ?_
                          refine s_x h rfl rfl (by decide) (x_faddr h.k rfl Try.underlying33 rfl sz_int rfl) (fun a h => ?_)
                          refine g_yes h rfl rfl rfl rfl hB18 ?_
                          refine s_x h rfl rfl (by decide) (x_ld h.k rfl Try.underlying3 rfl rfl ((h.m.cell (i := 0) rfl 2).trans rfl)) (fun a h => ?_)
                          refine g_yes h rfl rfl rfl rfl hB18 ?_
                          refine s_move h rfl _ rfl rfl (by decide) rfl (fun a h => ?_)
                          refine g_yes h rfl rfl rfl rfl hB18 ?_
                          refine s_x h rfl rfl (by decide) (x_bin h.k rfl rfl rfl ib_eql) (fun a h => ?_)
                          refine g_yes h rfl rfl rfl rfl hB1 ?_
                          refine s_x h rfl rfl (by decide) (x_pick (u' := undef) h.k rfl rfl (fun _ => rfl) (fun hh => absurd (hB18.symm.trans hh) (by decide))) (fun a h => ?_)
                          exact (h.mid 4 rfl).val (by first | rfl | (rw [hB18]; first | rfl | simp))
                        · refine g_no h rfl rfl rfl rfl hB18 rfl (by decide) (fun a h => ?_)
                          refine g_no h rfl rfl rfl rfl hB18 rfl (by decide) (fun a h => ?_)
                          refine g_no h rfl rfl rfl rfl hB18 rfl (by decide) (fun a h => ?_)
                          refine g_no h rfl rfl rfl rfl hB18 rfl (by decide) (fun a h => ?_)
                          refine g_yes h rfl rfl rfl rfl hB1 ?_
                          refine s_x h rfl rfl (by decide) (x_pick (u' := undef) h.k rfl rfl (fun hh => absurd (hB18.symm.trans hh) (by decide)) (fun _ => rfl)) (fun a h => ?_)
                          exact (h.mid 4 rfl).val (by first | rfl | (rw [hB18]; first | rfl | simp))
                        refine s_x h rfl rfl (by decide) (x_pick (u' := undef) h.k rfl rfl (fun hh => absurd (hB1.symm.trans hh) (by decide)) (fun _ => rfl)) (fun a h => ?_)
                        exact (h.mid 10 rfl).val (by rw [Option.some.inj hz285])
                      refine s_assign h rfl _ rfl rfl (by decide) rfl (fun a h => ?_)
                      refine l_nil ?_
                      refine e_blkN ?_
                      refine e_thenN ?_
                      refine c_r ?_ -- region 31
                      refine s_x h rfl rfl (by decide) (x_bin h.k rfl rfl rfl (ib_add rfl)) (fun a h => ?_)
                      refine s_move h rfl _ rfl rfl (by decide) rfl (fun a h => ?_)
                      refine l_nil ?_
                      have h := h.pick [1, 2, 3, 4] (by decide) rfl
                      exact e_thenN ⟨m265, Nat.lt_succ_self _, z286, w64 (x261 + 1), hl264, (w64_r _), h.has (by exact ⟨rfl, rfl, rfl, rfl, rfl, rfl, rfl, rfl, rfl, rfl, rfl, rfl, rfl, trivial⟩)⟩
                    · rw [if_neg (of_decide_eq_false hb)] at hl264
                      refine wp_exit ?_
                      refine e_thenX ?_
                      refine e_thenX ?_
                      refine e_blkX ?_
                      refine e_thenN ?_
                      exact ⟨x260, (Option.some.inj hl264), h.has (by exact ⟨rfl, rfl, rfl, rfl, rfl, rfl, rfl, rfl, rfl, rfl, trivial⟩)⟩
                  · rintro a w ⟨x263, rfl, h⟩
                    refine e_thenN ?_
                    refine wp_seq ?_
                    refine c_rs ?_ -- region 32
                    refine s_move h rfl _ rfl rfl (by decide) rfl (fun a h => ?_)
                    refine s_x h rfl rfl (by decide) (x_not h.k rfl rfl) (fun a h => ?_)
                    refine l_end ?_
                    refine c_cond h rfl (fun hb => ?_) (fun hb => ?_)
                    · rw [if_pos hb] at hl151
                      refine c_rs ?_ -- region 33
                      refine s_assign h rfl _ rfl rfl (by decide) rfl (fun a h => ?_)
                      refine l_end ?_
                      refine wp_ret ?_
                      refine e_thenR ?_
                      refine e_blkR ?_
                      refine e_thenR ?_
                      refine e_thenR ?_
                      refine e_blkR ?_
                      refine e_thenR ?_
                      cases hl151
                      try dsimp only at hf
                      refine e_thenR ?_
                      rw [← Option.some.inj hf]
                      exact r_ret1 h rfl (rv_tmp h rfl) ⟨_, [], _, rfl, ⟨rfl, rfl, trivial⟩, rfl, up33, (h.m.pick [3] _ (by decide) rfl)⟩
                    · rw [if_neg (by rw [hb]; decide)] at hl151
                      refine wp_skip ?_
                      refine e_thenN ?_
                      refine c_r ?_ -- region 34
                      refine s_move h rfl _ rfl rfl (by decide) rfl (fun a h => ?_)
                      refine s_move h rfl _ rfl rfl (by decide) rfl (fun a h => ?_)
                      obtain ⟨m317, h318, hl151⟩ := bsome hl151
                      obtain ⟨hi319, hm320⟩ := ix_some h318
                      obtain ⟨g322, hA321⟩ := h.m.rowHead (i := 2) rfl (Nat.lt_of_le_of_lt (Nat.zero_le _) hm320)
                      refine s_x h rfl rfl (by decide) (x_iaddrE h.k rfl Try.underlying30 sz_bool hA321 rfl rfl hi319 hm320) (fun a h => ?_)
                      refine q_setRow (T := tyB) (q := true) h rfl rfl rfl sz_bool hA321 rfl rfl 2 rfl rfl hq150 rfl (by first | exact hm320 | simpa using hm320) (fun a w cs323 hq324 h => ?_)
                      have hl325 : x146.length = (x146.set m317 true).length := by rw [List.length_set]
                      rw [hl325] at h
                      refine l_nil ?_
                      refine e_blkN ?_
                      refine e_thenN ?_
                      refine c_r ?_ -- region 35
                      refine s_x h rfl rfl (by decide) (x_bin h.k rfl rfl rfl (ib_add rfl)) (fun a h => ?_)
                      refine s_move h rfl _ rfl rfl (by decide) rfl (fun a h => ?_)
                      refine l_nil ?_
                      exact e_thenN ⟨m152, Nat.lt_succ_self _, w64 (x144 + 1), (x146.set m317 true), A147, c148, cs323, hl151, (w64_r _), hq324, h.has (by exact ⟨rfl, rfl, rfl, rfl, rfl, rfl, rfl, rfl, trivial⟩)⟩
            · rw [if_neg (of_decide_eq_false hb)] at hl151
              refine wp_exit ?_
              refine e_thenX ?_
              refine e_thenX ?_
              refine e_blkX ?_
              refine e_thenN ?_
              have h := h.pick [1, 3] (by decide) rfl
              exact ⟨(Option.some.inj hl151), h.has (by exact ⟨rfl, rfl, trivial⟩)⟩
          · rintro a w ⟨rfl, h⟩
            try dsimp only at hf
            refine e_thenN ?_
            refine c_rs ?_ -- region 36
            refine s_move h rfl _ rfl rfl (by decide) rfl (fun a h => ?_)
            have hr328 : r64 (x29.1.length : Int) := len_r (h.m.rowLen (i := 0) rfl)
            refine s_x h rfl rfl (by decide) (x_len h.k rfl Try.underlying23 rfl) (fun a h => ?_)
            refine s_x h rfl rfl (by decide) (x_bin h.k rfl rfl rfl ib_gtr) (fun a h => ?_)
            refine s_move h rfl _ rfl rfl (by decide) rfl (fun a h => ?_)
            obtain ⟨z330, hz329, hf⟩ := bsome hf
            refine q_grp h 9 (t := 207) 216 z330 rfl (fun hB3 => ?_) (fun hB3 => ?_) (fun a w h => ?_)
            · rw [if_pos (of_decide_eq_true hB3)] at hz329
              refine g_yes h rfl rfl rfl rfl hB3 ?_
              refine s_move h rfl _ rfl rfl (by decide) rfl (fun a h => ?_)
              refine g_yes h rfl rfl rfl rfl hB3 ?_
              refine s_move h rfl _ rfl rfl (by decide) rfl (fun a h => ?_)
              refine g_yes h rfl rfl rfl rfl hB3 ?_
              have hr332 : r64 (x29.1.length : Int) := len_r (h.m.rowLen (i := 0) rfl)
              refine s_x h rfl rfl (by decide) (x_len h.k rfl Try.underlying23 rfl) (fun a h => ?_)
              refine g_yes h rfl rfl rfl rfl hB3 ?_
              refine s_x h rfl rfl (by decide) (x_bin h.k rfl rfl rfl (ib_sub rfl)) (fun a h => ?_)
              refine g_yes h rfl rfl rfl rfl hB3 ?_
              obtain ⟨m333, h334, hz329⟩ := bsome hz329
              obtain ⟨hi335, hm336⟩ := ix_some h334
              obtain ⟨g338, hA337⟩ := h.m.rowHead (i := 0) rfl (Nat.lt_of_le_of_lt (Nat.zero_le _) hm336)
              refine s_x h rfl rfl (by decide) (x_iaddrE h.k rfl Try.underlying23 sz_int hA337 rfl rfl hi335 hm336) (fun a h => ?_)
              refine g_yes h rfl rfl rfl rfl hB3 ?_
              obtain ⟨x339, h340, hz329⟩ := bsome hz329
              obtain ⟨u341, hv342, hu343⟩ := (hq38).cell rfl h340
              obtain ⟨e345, hr344⟩ := hu343
              cases e345
              refine s_x h rfl rfl (by decide) (x_ld h.k rfl Try.underlying3 rfl rfl (h.m.cellRowE (i := 0) rfl hA337 _ (by rw [Nat.mul_one]; exact hv342))) (fun a h => ?_)
              refine g_yes h rfl rfl rfl rfl hB3 ?_
              refine s_move h rfl _ rfl rfl (by decide) rfl (fun a h => ?_)
              refine g_yes h rfl rfl rfl rfl hB3 ?_
              refine s_x h rfl rfl (by decide) (x_bin h.k rfl rfl rfl ib_eql) (fun a h => ?_)
              refine s_x h rfl rfl (by decide) (x_pick (u' := undef) h.k rfl rfl (fun _ => rfl) (fun hh => absurd (hB3.symm.trans hh) (by decide))) (fun a h => ?_)
              exact (h.mid 8 rfl).val (by rw [Option.some.inj hz329])
            · refine g_no h rfl rfl rfl rfl hB3 rfl (by decide) (fun a h => ?_)
              refine g_no h rfl rfl rfl rfl hB3 rfl (by decide) (fun a h => ?_)
              refine g_no h rfl rfl rfl rfl hB3 rfl (by decide) (fun a h => ?_)
              refine g_no h rfl rfl rfl rfl hB3 rfl (by decide) (fun a h => ?_)
              refine g_no h rfl rfl rfl rfl hB3 rfl (by decide) (fun a h => ?_)
              refine g_no h rfl rfl rfl rfl hB3 rfl (by decide) (fun a h => ?_)
              refine g_no h rfl rfl rfl rfl hB3 rfl (by decide) (fun a h => ?_)
              refine g_no h rfl rfl rfl rfl hB3 rfl (by decide) (fun a h => ?_)
              rw [if_neg (of_decide_eq_false hB3)] at hz329
              refine s_x h rfl rfl (by decide) (x_pick (u' := undef) h.k rfl rfl (fun hh => absurd (hB3.symm.trans hh) (by decide)) (fun _ => rfl)) (fun a h => ?_)
              exact (h.mid 8 rfl).val (by rw [Option.some.inj hz329])
            refine s_assign h rfl _ rfl rfl (by decide) rfl (fun a h => ?_)
            refine l_end ?_
            refine wp_ret ?_
            rw [← Option.some.inj hf]
            exact r_ret1 h rfl (rv_tmp h rfl) ⟨_, [], _, rfl, ⟨rfl, rfl, trivial⟩, rfl, up33, (h.m.pick [1] _ (by decide) rfl)⟩
end Go.Proofs.Ytdldlimadmlpnaa
