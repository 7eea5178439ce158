/- Kr: Go functions as plain functions, and that they are so (written by xt.py). -/
import Derived.Test.YtnjmlihmnkbgdaaEt
import Derived.Test.YtnjmlihmnkbgdaaPj
set_option linter.unusedVariables false
set_option linter.unusedSimpArgs false
namespace Go.Proofs.Ytnjmlihmnkbgdaa
open Go.RowKit
def chatelainelaw37_made_l0 (Fu : Nat) (a0 : List (Int × Int × Int)) : Nat → (List (Int × Int × Int)) → Int → ((List (Int × Int × Int)) × (List ((Int × Int × Int) × Int)) × (List (Int × Int))) → Option ((List (Int × Int × Int)) × ((List (Int × Int × Int)) × (List ((Int × Int × Int) × Int)) × (List (Int × Int))))
  | 0, _, _, _ => none
  | k + 1, x25, x30, x32 => if x30 < (a0.length : Int) then (((idx a0 x30).bind fun x92 => (term_Store_Len Fu x32).bind fun x112 => (term_Store_Put Fu x32 x92).bind fun x116 => if ((decide (x116.2.1 = 0)) && (decide (x116.1 = x112))) = true then ((app 24 x25 ([x92])).bind fun x140 => some (x116.2.2, x140)) else (some (x116.2.2, x25))).bind fun (x74, x87) => chatelainelaw37_made_l0 Fu a0 k x87 (w64 (x30 + 1)) x74) else (some (x25, x32))
def chatelainelaw37_made (Fu : Nat) (a0 : List (Int × Int × Int)) : Option (((List (Int × Int × Int)) × (List ((Int × Int × Int) × Int)) × (List (Int × Int))) × (List (Int × Int × Int))) :=
  (term_New Fu).bind fun x1 => (chatelainelaw37_made_l0 Fu a0 Fu ([]) 0 x1).bind fun (x48, x53) => some (x53, x48)
set_option maxRecDepth 100000 in
set_option maxHeartbeats 2000000 in
theorem chatelainelaw37_made_ok (Fu : Nat) {S0 : Snap} (Aa0 : Option Addr) (ca0 : Nat) (a0 : List (Int × Int × Int)) (hsa0 : slS (tyP tyI (tyP tyI tyI)) S0 Aa0 ca0 a0) (r : ((List (Int × Int × Int)) × (List ((Int × Int × Int) × Int)) × (List (Int × Int))) × (List (Int × Int × Int))) (hf : chatelainelaw37_made Fu a0 = some r) (w0 : World) (hm : Mem w0 (ownL ([] ++ [.sn S0])) ([] ++ [.sn S0]) w0) :
    Calls Try.prog 7 #[.slice Aa0 a0.length ca0] w0 (Ret w0 S0 [] (fun v L1 S1 => ∃ (g148 : Nat), ∃ (A149 : Option Addr), ∃ (c150 : Nat), ∃ (cs151 : List Value), ∃ (g153 : Nat), ∃ (es154 : Array MapEntry), ∃ (cl155 : Nat), ∃ (g157 : Nat), ∃ (es158 : Array MapEntry), ∃ (cl159 : Nat), ∃ (A161 : Option Addr), ∃ (c162 : Nat), ∃ (cs163 : List Value), v = .tuple #[.pointer (some ⟨g148, 0, none⟩), .slice A161 r.2.length c162] ∧ L1 = [.box g148 52 ([.slice A149 r.1.1.length c150, .map (some g153), .map (some g157)]), .row (.slice A149 r.1.1.length c150) 46 3 r.1.1.length cs151, .obj g153 (.map es154 cl155), .obj g157 (.map es158 cl159), .row (.slice A161 r.2.length c162) 46 3 r.2.length cs163] ∧ reps (tyP tyI (tyP tyI tyI)) S1 cs151 r.1.1 ∧ mpS keyT tyI false S1 es154 cl155 r.1.2.1 ∧ mpS keyI tyI false S1 es158 cl159 r.1.2.2 ∧ reps (tyP tyI (tyP tyI tyI)) S1 cs163 r.2 ∧ True)) := by
  unfold chatelainelaw37_made at hf
  refine c_enterM Try.func7 rfl 40 rfl (by simp) _ hm _ rfl (fun a h => ?_)
  refine c_rs ?_
  refine sAV h (fun a h => ?_)
  refine sAV h (fun a h => ?_)
  refine l_end ?_
  refine c_rs ?_
  obtain ⟨x1, h2, hf⟩ := bsome hf
  have hX := term_New_ok Fu (S0 := S0)  _ h2 _ (h.sub (Ls := []))
  refine q_callY (Ls := []) hX h (Up.refl _ _ _) rfl rfl rfl (by decide) Try.func15 rfl rfl rfl (fun a w v L1 S4 hR le6 up5 h => ?_)
  obtain ⟨g7, A8, c9, cs10, g12, es13, cl14, g16, es17, cl18, rfl, rfl, hq11, hm15, hm19, _⟩ := hR
  refine sAV h (fun a h => ?_)
  refine l_end ?_
  refine c_rs ?_
  refine sAV h (fun a h => ?_)
  refine l_end ?_
  refine wp_seq ?_
  refine c_rs ?_
  refine sMV h (fun a h => ?_)
  refine s_x h rfl rfl (by decide) (x_len h.k rfl Try.underlying22 rfl) (fun a h => ?_)
  refine sMV h (fun a h => ?_)
  refine l_end ?_
  obtain ⟨o20, hl21, hf⟩ := bsome hf
  refine c_fin (fun a w => ∃ (S45 : Snap), ∃ (x48 : List (Int × Int × Int)), ∃ (A49 : Option Addr), ∃ (c50 : Nat), ∃ (cs51 : List Value), ∃ (x53 : (List (Int × Int × Int)) × (List ((Int × Int × Int) × Int)) × (List (Int × Int))), ∃ (A54 : Option Addr), ∃ (c55 : Nat), ∃ (cs56 : List Value), ∃ (g58 : Nat), ∃ (es59 : Array MapEntry), ∃ (cl60 : Nat), ∃ (g62 : Nat), ∃ (es63 : Array MapEntry), ∃ (cl64 : Nat), (x48, x53) = o20 ∧ Snap.le S4 S45 ∧ Up (ownL ([] ++ [.sn S0])) w0 S0 S45 ∧ reps (tyP tyI (tyP tyI tyI)) S45 cs51 x48 ∧ reps (tyP tyI (tyP tyI tyI)) S45 cs56 x53.1 ∧ mpS keyT tyI false S45 es59 cl60 x53.2.1 ∧ mpS keyI tyI false S45 es63 cl64 x53.2.2 ∧ St 40 w0 (ownL ([] ++ [.sn S0])) [(4, .pointer (some ⟨g7, 0, none⟩)), (5, .slice A49 x48.length c50)] [.box g7 52 ([.slice A54 x53.1.length c55, .map (some g58), .map (some g62)]), .row (.slice A54 x53.1.length c55) 46 3 x53.1.length cs56, .obj g58 (.map es59 cl60), .obj g62 (.map es63 cl64), .row (.slice A49 x48.length c50) 46 3 x48.length cs51, .sn S45] a w) ?_ ?_
  · refine wp_block ?_
    have h := h.mem (h.m.nilrow 46 3)
    have h := h.pick [1, 2, 3, 4, 0, 5] (by decide) rfl
    refine c_loop (fun m67 a w => ∃ (S22 : Snap), ∃ (x25 : List (Int × Int × Int)), ∃ (A26 : Option Addr), ∃ (c27 : Nat), ∃ (cs28 : List Value), ∃ (x30 : Int), ∃ (x32 : (List (Int × Int × Int)) × (List ((Int × Int × Int) × Int)) × (List (Int × Int))), ∃ (A33 : Option Addr), ∃ (c34 : Nat), ∃ (cs35 : List Value), ∃ (g37 : Nat), ∃ (es38 : Array MapEntry), ∃ (cl39 : Nat), ∃ (g41 : Nat), ∃ (es42 : Array MapEntry), ∃ (cl43 : Nat), chatelainelaw37_made_l0 Fu a0 m67 x25 x30 x32 = some o20 ∧ Snap.le S4 S22 ∧ Up (ownL ([] ++ [.sn S0])) w0 S0 S22 ∧ reps (tyP tyI (tyP tyI tyI)) S22 cs28 x25 ∧ r64 x30 ∧ reps (tyP tyI (tyP tyI tyI)) S22 cs35 x32.1 ∧ mpS keyT tyI false S22 es38 cl39 x32.2.1 ∧ mpS keyI tyI false S22 es42 cl43 x32.2.2 ∧ St 40 w0 (ownL ([] ++ [.sn S0])) [(4, .pointer (some ⟨g7, 0, none⟩)), (5, .slice A26 x25.length c27), (12, .slice Aa0 a0.length ca0), (13, .int .i64 (a0.length : Int)), (14, .int .i64 x30)] [.box g7 52 ([.slice A33 x32.1.length c34, .map (some g37), .map (some g41)]), .row (.slice A33 x32.1.length c34) 46 3 x32.1.length cs35, .obj g37 (.map es38 cl39), .obj g41 (.map es42 cl43), .row (.slice A26 x25.length c27) 46 3 x25.length cs28, .sn S22] a w) Fu ⟨S4, [], none, 0, [], 0, x1, A8, c9, cs10, g12, es13, cl14, g16, es17, cl18, hl21, (Snap.le.refl _), up5, (show reps (tyP tyI (tyP tyI tyI)) S4 [] [] from rfl), (show r64 0 from ⟨by decide, by decide⟩), hq11, hm15, hm19, h.has (by exact ⟨rfl, rfl, rfl, rfl, rfl, trivial⟩)⟩ (fun m67 a w hI => ?_)
    obtain ⟨S22, x25, A26, c27, cs28, x30, x32, A33, c34, cs35, g37, es38, cl39, g41, es42, cl43, hl66, le23, up24, hq29, hr31, hq36, hm40, hm44, h⟩ := hI
    obtain _ | m67 := m67
    · rw [chatelainelaw37_made_l0] at hl66; cases hl66
    rw [chatelainelaw37_made_l0] at hl66
    refine c_rs ?_
    refine s_x h rfl rfl (by decide) (x_bin h.k rfl rfl rfl ib_lss) (fun a h => ?_)
    refine l_end ?_
    refine c_cs h rfl (fun hb => ?_) (fun hb => ?_)
    · rw [if_pos (of_decide_eq_true hb)] at hl66
      refine wp_skip ?_
      refine e_thenN ?_
      obtain ⟨o69, hc70, hl66⟩ := bsome hl66
      refine c_cut (fun a w => ∃ (S71 : Snap), ∃ (x74 : (List (Int × Int × Int)) × (List ((Int × Int × Int) × Int)) × (List (Int × Int))), ∃ (A75 : Option Addr), ∃ (c76 : Nat), ∃ (cs77 : List Value), ∃ (g79 : Nat), ∃ (es80 : Array MapEntry), ∃ (cl81 : Nat), ∃ (g83 : Nat), ∃ (es84 : Array MapEntry), ∃ (cl85 : Nat), ∃ (x87 : List (Int × Int × Int)), ∃ (A88 : Option Addr), ∃ (c89 : Nat), ∃ (cs90 : List Value), (x74, x87) = o69 ∧ Snap.le S22 S71 ∧ Up (ownL ([] ++ [.sn S0])) w0 S0 S71 ∧ reps (tyP tyI (tyP tyI tyI)) S71 cs77 x74.1 ∧ mpS keyT tyI false S71 es80 cl81 x74.2.1 ∧ mpS keyI tyI false S71 es84 cl85 x74.2.2 ∧ reps (tyP tyI (tyP tyI tyI)) S71 cs90 x87 ∧ St 40 w0 (ownL ([] ++ [.sn S0])) [(4, .pointer (some ⟨g7, 0, none⟩)), (5, .slice A88 x87.length c89), (12, .slice Aa0 a0.length ca0), (13, .int .i64 (a0.length : Int)), (14, .int .i64 x30)] [.box g7 52 ([.slice A75 x74.1.length c76, .map (some g79), .map (some g83)]), .row (.slice A75 x74.1.length c76) 46 3 x74.1.length cs77, .obj g79 (.map es80 cl81), .obj g83 (.map es84 cl85), .row (.slice A88 x87.length c89) 46 3 x87.length cs90, .sn S71] a w) ?_ ?_
      · refine wp_block ?_
        refine c_rs ?_
        obtain ⟨x92, h96, hc70⟩ := bsome hc70
        obtain ⟨m93, hi97, hm98, hx99⟩ := idx_some h96
        obtain ⟨b94, off95, k100, hA101, hu102, hc103⟩ := ((hsa0.mono (le6.trans le23))).at (by decide) hx99 (h.m.snOK (i := 5) rfl)
        obtain ⟨k104, k105, rfl, ⟨rfl, hr106⟩, ⟨k107, k108, rfl, ⟨rfl, hr109⟩, ⟨rfl, hr110⟩⟩⟩ := hu102
        refine s_x h rfl rfl (by decide) (x_iaddrE h.k rfl Try.underlying22 sz_api_Term hA101 rfl rfl hi97 hm98) (fun a h => ?_)
        refine s_x h rfl rfl (by decide) (x_ldR h.k rfl ag_api_Term rfl ([.int .i64 x92.1, .int .i64 x92.2.1, .int .i64 x92.2.2]) rfl (hc103 _ (h.m.snOK (i := 5) rfl))) (fun a h => ?_)
        refine s_alloc h rfl rfl rfl (by decide) zi_api_Term rfl (fun a w g111 h => ?_)
        refine s_stW h rfl rfl rfl ag_api_Term rfl (es := [.int .i64 x92.1, .int .i64 x92.2.1, .int .i64 x92.2.2]) rfl rfl (by simp [Value.oneCell']) 0 rfl rfl (fun a w h => ?_)
        refine l_end ?_
        refine c_rs ?_
        refine sMV h (fun a h => ?_)
        obtain ⟨x112, h113, hc70⟩ := bsome hc70
        have hX := term_Store_Len_ok Fu (S0 := snapAll _) g7 x32 ⟨[.slice A33 x32.1.length c34, .map (some g37), .map (some g41)], h.m.boxAll (i := 1) rfl, ⟨[.slice A33 x32.1.length c34], [.map (some g37), .map (some g41)], rfl, ⟨_, _, rfl, h.m.rowAll (i := 2) rfl (j := 6) rfl hq36⟩, ⟨[.map (some g37)], [.map (some g41)], rfl, ⟨_, rfl, h.m.mapAll (i := 3) rfl (j := 6) rfl hm40⟩, ⟨_, rfl, h.m.mapAll (i := 4) rfl (j := 6) rfl hm44⟩⟩⟩⟩ _ h113 _ h.startAll
        refine q_callX hX h rfl rfl rfl (by decide) Try.func8 rfl rfl rfl (fun a w v L1 S1 hR hb1 h => ?_)
        obtain ⟨rfl, rfl, hr115, _⟩ := hR
        refine sAV h (fun a h => ?_)
        refine l_end ?_
        refine c_rs ?_
        refine sMV h (fun a h => ?_)
        refine s_x h rfl rfl (by decide) (x_ldR h.k rfl ag_api_Term rfl ([.int .i64 x92.1, .int .i64 x92.2.1, .int .i64 x92.2.2]) rfl (h.m.range0 (i := 0) rfl)) (fun a h => ?_)
        obtain ⟨x116, h117, hc70⟩ := bsome hc70
        have h := h.pick [1, 2, 3, 4, 6, 0, 5] (by decide) rfl
        have hX := term_Store_Put_ok Fu (S0 := S22) x32 g7 A33 c34 cs35 g37 es38 cl39 g41 es42 cl43 hq36 hm40 hm44 ([.int .i64 x92.1, .int .i64 x92.2.1, .int .i64 x92.2.2]) x92 (⟨[.int .i64 x92.1], [.int .i64 x92.2.1, .int .i64 x92.2.2], rfl, ⟨rfl, hr106⟩, ⟨[.int .i64 x92.2.1], [.int .i64 x92.2.2], rfl, ⟨rfl, hr109⟩, ⟨rfl, hr110⟩⟩⟩) _ h117 _ (h.sub (Ls := [.box g7 52 ([.slice A33 x32.1.length c34, .map (some g37), .map (some g41)]), .row (.slice A33 x32.1.length c34) 46 3 x32.1.length cs35, .obj g37 (.map es38 cl39), .obj g41 (.map es42 cl43)]))
        refine q_callY (Ls := [.box g7 52 ([.slice A33 x32.1.length c34, .map (some g37), .map (some g41)]), .row (.slice A33 x32.1.length c34) 46 3 x32.1.length cs35, .obj g37 (.map es38 cl39), .obj g41 (.map es42 cl43)]) hX h up24 rfl rfl rfl (by decide) Try.func17 rfl rfl rfl (fun a w v L1 S119 hR le121 up120 h => ?_)
        obtain ⟨A124, c125, cs126, g128, es129, cl130, g132, es133, cl134, rfl, rfl, hr122, hr123, hq127, hm131, hm135, _⟩ := hR
        refine sMV h (fun a h => ?_)
        refine s_x h rfl rfl (by decide) (x_ext h.k rfl rfl rfl) (fun a h => ?_)
        refine s_x h rfl rfl (by decide) (x_ext h.k rfl rfl rfl) (fun a h => ?_)
        refine sAV h (fun a h => ?_)
        refine sAV h (fun a h => ?_)
        refine l_end ?_
        refine c_rs ?_
        refine sMV h (fun a h => ?_)
        refine s_x h rfl rfl (by decide) (x_bin h.k rfl rfl rfl ib_eql) (fun a h => ?_)
        refine sMV h (fun a h => ?_)
        refine q_grp h 4 (t := 28) 32 ((decide (x116.2.1 = 0)) && (decide (x116.1 = x112))) rfl (fun hB2 => ?_) (fun hB2 => ?_) (fun a w h => ?_)
        · refine g_yes h rfl rfl rfl rfl hB2 ?_
          refine sMV h (fun a h => ?_)
          refine g_yes h rfl rfl rfl rfl hB2 ?_
          refine sMV h (fun a h => ?_)
          refine g_yes h rfl rfl rfl rfl hB2 ?_
          refine s_x h rfl rfl (by decide) (x_bin h.k rfl rfl rfl ib_eql) (fun a h => ?_)
          refine s_x h rfl rfl (by decide) (x_pick (u' := undef) h.k rfl rfl (fun _ => rfl) (fun hh => absurd (hB2.symm.trans hh) (by decide))) (fun a h => ?_)
          exact (h.mid 3 rfl).val (by first | rfl | (rw [hB2]; first | rfl | simp))
        · refine g_no h rfl rfl rfl rfl hB2 rfl (by decide) (fun a h => ?_)
          refine g_no h rfl rfl rfl rfl hB2 rfl (by decide) (fun a h => ?_)
          refine g_no h rfl rfl rfl rfl hB2 rfl (by decide) (fun a h => ?_)
          refine s_x h rfl rfl (by decide) (x_pick (u' := undef) h.k rfl rfl (fun hh => absurd (hB2.symm.trans hh) (by decide)) (fun _ => rfl)) (fun a h => ?_)
          exact (h.mid 3 rfl).val (by first | rfl | (rw [hB2]; first | rfl | simp))
        refine l_end ?_
        refine c_cond h rfl (fun hb => ?_) (fun hb => ?_)
        · rw [if_pos hb] at hc70
          refine c_r ?_
          refine sMV h (fun a h => ?_)
          refine s_x h rfl rfl (by decide) (x_ldR h.k rfl ag_api_Term rfl ([.int .i64 x92.1, .int .i64 x92.2.1, .int .i64 x92.2.2]) rfl (h.m.range0 (i := 5) rfl)) (fun a h => ?_)
          refine q_bslice (T := tyP tyI (tyP tyI tyI)) (S := S119) h rfl rfl rfl (by decide) Try.underlying22 zi_api_Term (by decide) (by decide) (by decide) (by decide) [.agg ([.int .i64 x92.1, .int .i64 x92.2.1, .int .i64 x92.2.2]).toArray] rfl rfl (C := [[.int .i64 x92.1, .int .i64 x92.2.1, .int .i64 x92.2.2]]) rfl (xs := [x92]) ⟨[.int .i64 x92.1, .int .i64 x92.2.1, .int .i64 x92.2.2], _, rfl, ⟨[.int .i64 x92.1], [.int .i64 x92.2.1, .int .i64 x92.2.2], rfl, ⟨rfl, hr106⟩, ⟨[.int .i64 x92.2.1], [.int .i64 x92.2.2], rfl, ⟨rfl, hr109⟩, ⟨rfl, hr110⟩⟩⟩, rfl⟩ (by intro c hc; simp only [List.mem_cons, List.not_mem_nil, or_false] at hc; subst hc; rfl) (fun a w A138 h => ?_)
          have hb139 : reps (tyP tyI (tyP tyI tyI)) S119 ([[.int .i64 x92.1, .int .i64 x92.2.1, .int .i64 x92.2.2]] : List (List Value)).flatten [x92] := ⟨[.int .i64 x92.1, .int .i64 x92.2.1, .int .i64 x92.2.2], _, rfl, ⟨[.int .i64 x92.1], [.int .i64 x92.2.1, .int .i64 x92.2.2], rfl, ⟨rfl, hr106⟩, ⟨[.int .i64 x92.2.1], [.int .i64 x92.2.2], rfl, ⟨rfl, hr109⟩, ⟨rfl, hr110⟩⟩⟩, rfl⟩
          obtain ⟨x140, h141, hc70⟩ := bsome hc70
          refine q_append (T := tyP tyI (tyP tyI tyI)) (S := S119) h rfl rfl rfl (by decide) Try.underlying22 zb_api_Term rfl (by decide) rfl 7 rfl (hq29.mono le121) rfl hb139 (h.m.rdRowA (i := 0) rfl) h141 (fun a w A142 c143 cs144 hq145 h => ?_)
          refine sAV h (fun a h => ?_)
          refine l_nil ?_
          refine e_blkN ?_
          refine e_thenN ?_
          have h := h.pick [1, 2, 3, 4, 7, 5] (by decide) rfl
          exact ⟨S119, x116.2.2, A124, c125, cs126, g128, es129, cl130, g132, es133, cl134, x140, A142, c143, cs144, (Option.some.inj hc70), le121, up120, hq127, hm131, hm135, hq145, h.has (by exact ⟨rfl, rfl, rfl, rfl, rfl, trivial⟩)⟩
        · rw [if_neg (by rw [hb]; decide)] at hc70
          refine wp_skip ?_
          refine e_blkN ?_
          refine e_thenN ?_
          have h := h.pick [0, 1, 2, 3, 6, 4] (by decide) rfl
          exact ⟨S119, x116.2.2, A124, c125, cs126, g128, es129, cl130, g132, es133, cl134, x25, A26, c27, cs28, (Option.some.inj hc70), le121, up120, hq127, hm131, hm135, (hq29.mono le121), h.has (by exact ⟨rfl, rfl, rfl, rfl, rfl, trivial⟩)⟩
      · rintro a w ⟨S71, x74, A75, c76, cs77, g79, es80, cl81, g83, es84, cl85, x87, A88, c89, cs90, rfl, le72, up73, hq78, hm82, hm86, hq91, h⟩
        try dsimp only at hl66
        refine c_r ?_
        refine s_x h rfl rfl (by decide) (x_bin h.k rfl rfl rfl (ib_add rfl)) (fun a h => ?_)
        refine sMV h (fun a h => ?_)
        refine l_nil ?_
        exact e_thenN ⟨m67, Nat.lt_succ_self _, S71, x87, A88, c89, cs90, w64 (x30 + 1), x74, A75, c76, cs77, g79, es80, cl81, g83, es84, cl85, hl66, (le23.trans le72), up73, hq91, (w64_r _), hq78, hm82, hm86, h.has (by exact ⟨rfl, rfl, rfl, rfl, rfl, trivial⟩)⟩
    · rw [if_neg (of_decide_eq_false hb)] at hl66
      refine wp_exit ?_
      refine e_thenX ?_
      refine e_thenX ?_
      refine e_blkX ?_
      refine e_thenN ?_
      exact ⟨S22, x25, A26, c27, cs28, x32, A33, c34, cs35, g37, es38, cl39, g41, es42, cl43, (Option.some.inj hl66), le23, up24, hq29, hq36, hm40, hm44, h.has (by exact ⟨rfl, rfl, trivial⟩)⟩
  · rintro a w ⟨S45, x48, A49, c50, cs51, x53, A54, c55, cs56, g58, es59, cl60, g62, es63, cl64, rfl, le46, up47, hq52, hq57, hm61, hm65, h⟩
    try dsimp only at hf
    refine e_thenN ?_
    refine c_rs ?_
    refine sMV h (fun a h => ?_)
    refine sMV h (fun a h => ?_)
    refine sAV h (fun a h => ?_)
    refine sAV h (fun a h => ?_)
    refine l_end ?_
    refine wp_ret ?_
    obtain rfl := Option.some.inj hf
    exact r_ret2 h rfl (rv_tmp h rfl) (rv_tmp h rfl) ⟨_, [.box g7 52 ([.slice A54 x53.1.length c55, .map (some g58), .map (some g62)]), .row (.slice A54 x53.1.length c55) 46 3 x53.1.length cs56, .obj g58 (.map es59 cl60), .obj g62 (.map es63 cl64), .row (.slice A49 x48.length c50) 46 3 x48.length cs51], _, rfl, ⟨g7, A54, c55, cs56, g58, es59, cl60, g62, es63, cl64, A49, c50, cs51, rfl, rfl, hq57, hm61, hm65, hq52, trivial⟩, rfl, up47, h.m⟩
end Go.Proofs.Ytnjmlihmnkbgdaa
