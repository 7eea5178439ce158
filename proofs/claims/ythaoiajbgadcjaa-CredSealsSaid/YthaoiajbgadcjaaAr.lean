/- Ar: Go functions as plain functions, and that they are so (written by xt.py). -/
import Derived.Test.YthaoiajbgadcjaaGf
set_option linter.unusedVariables false
set_option linter.unusedSimpArgs false
namespace Go.Proofs.Ythaoiajbgadcjaa
open Go.RowKit
def chatelaineref04_xor (Fu : Nat) (a0 : Int) (a1 : Int) : Option Int :=
  some (i64_xor a0 a1)
set_option maxRecDepth 100000 in
set_option maxHeartbeats 2000000 in
theorem chatelaineref04_xor_ok (Fu : Nat) {S0 : Snap} (a0 : Int) (hra0 : r64 a0) (a1 : Int) (hra1 : r64 a1) (r : Int) (hf : chatelaineref04_xor Fu a0 a1 = some r) (w0 : World) (hm : Mem w0 (ownL ([] ++ [.sn S0])) ([] ++ [.sn S0]) w0) :
    Calls Try.prog 58 #[.int .i64 a0, .int .i64 a1] w0 (Ret w0 S0 [] (fun v L1 S1 => v = .int .i64 r ∧ L1 = [] ∧ r64 r ∧ True)) := by
  unfold chatelaineref04_xor at hf
  refine c_enterM Try.func58 rfl 8 rfl (by simp) _ hm _ rfl (fun a h => ?_)
  refine c_rs ?_
  refine sAV h (fun a h => ?_)
  refine l_end ?_
  refine c_rs ?_
  refine sMV h (fun a h => ?_)
  refine sMV h (fun a h => ?_)
  refine s_x h rfl rfl (by decide) (x_bin h.k rfl rfl rfl (ib_xor rfl)) (fun a h => ?_)
  refine sAV h (fun a h => ?_)
  refine l_end ?_
  refine wp_ret ?_
  obtain rfl := Option.some.inj hf
  exact r_ret1 h rfl (rv_tmp h rfl) ⟨_, [], _, rfl, ⟨rfl, rfl, (i64_xor_r _ _), trivial⟩, rfl, (Up.refl _ _ _), h.m⟩
def chatelaineref04_sum (Fu : Nat) (a0 : Int) (a1 : Int) (a2 : Int) (a3 : Int) : Option Int :=
  (chatelaineref04_xor Fu a0 a1).bind fun x1 => (chatelaineref04_xor Fu a2 a3).bind fun x5 => (chatelaineref04_xor Fu x1 x5).bind fun x9 => some x9
set_option maxRecDepth 100000 in
set_option maxHeartbeats 2000000 in
theorem chatelaineref04_sum_ok (Fu : Nat) {S0 : Snap} (a0 : Int) (hra0 : r64 a0) (a1 : Int) (hra1 : r64 a1) (a2 : Int) (hra2 : r64 a2) (a3 : Int) (hra3 : r64 a3) (r : Int) (hf : chatelaineref04_sum Fu a0 a1 a2 a3 = some r) (w0 : World) (hm : Mem w0 (ownL ([] ++ [.sn S0])) ([] ++ [.sn S0]) w0) :
    Calls Try.prog 61 #[.int .i64 a0, .int .i64 a1, .int .i64 a2, .int .i64 a3] w0 (Ret w0 S0 [] (fun v L1 S1 => v = .int .i64 r ∧ L1 = [] ∧ r64 r ∧ True)) := by
  unfold chatelaineref04_sum at hf
  refine c_enterM Try.func61 rfl 16 rfl (by simp) _ hm _ rfl (fun a h => ?_)
  refine c_rs ?_
  refine sAV h (fun a h => ?_)
  refine l_end ?_
  refine c_rs ?_
  refine sMV h (fun a h => ?_)
  refine sMV h (fun a h => ?_)
  obtain ⟨x1, h2, hf⟩ := bsome hf
  have hX := chatelaineref04_xor_ok Fu (S0 := snapAll _) a0 hra0 a1 hra1 _ h2 _ h.startAll
  refine q_callX hX h rfl rfl rfl (by decide) Try.func58 rfl rfl rfl (fun a w v L1 S1 hR hb1 h => ?_)
  obtain ⟨rfl, rfl, hr4, _⟩ := hR
  refine sMV h (fun a h => ?_)
  refine sMV h (fun a h => ?_)
  obtain ⟨x5, h6, hf⟩ := bsome hf
  have hX := chatelaineref04_xor_ok Fu (S0 := snapAll _) a2 hra2 a3 hra3 _ h6 _ h.startAll
  refine q_callX hX h rfl rfl rfl (by decide) Try.func58 rfl rfl rfl (fun a w v L1 S1 hR hb1 h => ?_)
  obtain ⟨rfl, rfl, hr8, _⟩ := hR
  obtain ⟨x9, h10, hf⟩ := bsome hf
  have hX := chatelaineref04_xor_ok Fu (S0 := snapAll _) x1 hr4 x5 hr8 _ h10 _ h.startAll
  refine q_callX hX h rfl rfl rfl (by decide) Try.func58 rfl rfl rfl (fun a w v L1 S1 hR hb1 h => ?_)
  obtain ⟨rfl, rfl, hr12, _⟩ := hR
  refine sAV h (fun a h => ?_)
  refine l_end ?_
  refine wp_ret ?_
  rw [← Option.some.inj hf]
  exact r_ret1 h rfl (rv_tmp h rfl) ⟨_, [], _, rfl, ⟨rfl, rfl, hr12, trivial⟩, rfl, (Up.refl _ _ _), h.m⟩
def chatelaineref04_Make_l0 (Fu : Nat) (a0 : List UInt8) : Nat → Int → (Int × (List Int) × (List Int)) → Option ((Int × (List Int) × (List Int)))
  | 0, _, _ => none
  | k + 1, x16, x18 => if x16 < (a0.length : Int) then ((idx a0 x16).bind fun x39 => (app 8 x18.2.1 ([(x39.toNat : Int)])).bind fun x53 => chatelaineref04_Make_l0 Fu a0 k (w64 (x16 + 1)) (x18.1, x53, x18.2.2)) else (some x18)
def chatelaineref04_Make_l2 (Fu : Nat) (a0 : List UInt8) (x71 : Int) (x151 : List Int) : Nat → Int → (Int × (List Int) × (List Int)) → Option ((Int × (List Int) × (List Int)))
  | 0, _, _ => none
  | k + 1, x390, x392 => if x390 < 4 then ((ix x392.2.1.length (w64 ((w64 (4 * (w64 (x71 - (w64 (Int.tdiv (a0.length : Int) 4)))))) + x390))).bind fun m412 => (x392.2.1[m412]?).bind fun x418 => (ix x151.length x390).bind fun m425 => (x151[m425]?).bind fun x431 => (chatelaineref04_xor Fu x418 x431).bind fun x438 => (app 8 x392.2.1 ([x438])).bind fun x444 => chatelaineref04_Make_l2 Fu a0 x71 x151 k (w64 (x390 + 1)) (x392.1, x444, x392.2.2)) else (some x392)
def chatelaineref04_Make_l1 (Fu : Nat) (a0 : List UInt8) : Nat → Int → Int → (Int × (List Int) × (List Int)) → Option ((Int × (List Int) × (List Int)))
  | 0, _, _, _ => none
  | k + 1, x69, x71, x73 => if x71 < w64 (4 * (w64 (x73.1 + 1))) then ((ix x73.2.1.length (w64 ((w64 (4 * x71)) - 4))).bind fun m93 => (x73.2.1[m93]?).bind fun x99 => (ix x73.2.1.length (w64 ((w64 (4 * x71)) - 3))).bind fun m106 => (x73.2.1[m106]?).bind fun x112 => (ix x73.2.1.length (w64 ((w64 (4 * x71)) - 2))).bind fun m119 => (x73.2.1[m119]?).bind fun x125 => (ix x73.2.1.length (w64 ((w64 (4 * x71)) - 1))).bind fun m132 => (x73.2.1[m132]?).bind fun x138 => ((remI x71 (w64 (Int.tdiv (a0.length : Int) 4))).bind fun x156 => if x156 = 0 then ((ix ([x99, x112, x125, x138]).length 1).bind fun m158 => (([x99, x112, x125, x138])[m158]?).bind fun x164 => (idx x73.2.2 x164).bind fun x171 => (chatelaineref04_xor Fu x171 x69).bind fun x185 => (ix ([x99, x112, x125, x138]).length 2).bind fun m189 => (([x99, x112, x125, x138])[m189]?).bind fun x195 => (idx x73.2.2 x195).bind fun x202 => (ix ([x99, x112, x125, x138]).length 3).bind fun m216 => (([x99, x112, x125, x138])[m216]?).bind fun x222 => (idx x73.2.2 x222).bind fun x229 => (ix ([x99, x112, x125, x138]).length 0).bind fun m243 => (([x99, x112, x125, x138])[m243]?).bind fun x249 => (idx x73.2.2 x249).bind fun x256 => (chatelaineref02_Times Fu x69 2).bind fun x272 => some (x272, [x185, x202, x229, x256])) else (if ((decide (w64 (Int.tdiv (a0.length : Int) 4) = 8)) && (decide (Int.tmod x71 8 = 4))) = true then ((ix ([x99, x112, x125, x138]).length 0).bind fun m278 => (([x99, x112, x125, x138])[m278]?).bind fun x284 => (idx x73.2.2 x284).bind fun x291 => (ix ([x99, x112, x125, x138]).length 1).bind fun m305 => (([x99, x112, x125, x138])[m305]?).bind fun x311 => (idx x73.2.2 x311).bind fun x318 => (ix ([x99, x112, x125, x138]).length 2).bind fun m332 => (([x99, x112, x125, x138])[m332]?).bind fun x338 => (idx x73.2.2 x338).bind fun x345 => (ix ([x99, x112, x125, x138]).length 3).bind fun m359 => (([x99, x112, x125, x138])[m359]?).bind fun x365 => (idx x73.2.2 x365).bind fun x372 => some (x69, [x291, x318, x345, x372])) else (some (x69, [x99, x112, x125, x138])))).bind fun (x149, x151) => (chatelaineref04_Make_l2 Fu a0 x71 x151 Fu 0 x73).bind fun x401 => chatelaineref04_Make_l1 Fu a0 k x149 (w64 (x71 + 1)) x401) else (some x73)
def chatelaineref04_Make (Fu : Nat) (a0 : List UInt8) : Option ((Int × (List Int) × (List Int))) :=
  (chatelaineref03_Box Fu).bind fun x1 => (chatelaineref04_Make_l0 Fu a0 Fu 0 (w64 ((w64 (Int.tdiv (a0.length : Int) 4)) + 6), [], x1)).bind fun x27 => (chatelaineref04_Make_l1 Fu a0 Fu 1 (w64 (Int.tdiv (a0.length : Int) 4)) x27).bind fun x82 => some x82
set_option maxRecDepth 100000 in
set_option maxHeartbeats 2000000 in
theorem chatelaineref04_Make_ok (Fu : Nat) {S0 : Snap} (Aa0 : Option Addr) (ca0 : Nat) (a0 : List UInt8) (hsa0 : slS ty8 S0 Aa0 ca0 a0) (r : (Int × (List Int) × (List Int))) (hf : chatelaineref04_Make Fu a0 = some r) (w0 : World) (hm : Mem w0 (ownL ([] ++ [.sn S0])) ([] ++ [.sn S0]) w0) :
    Calls Try.prog 39 #[.slice Aa0 a0.length ca0] w0 (Ret w0 S0 [] (fun v L1 S1 => ∃ (g471 : Nat), v = .pointer (some ⟨g471, 0, none⟩) ∧ L1 = [] ∧ ptS (tyP tyI (tyP (tyL tyI) (tyL tyI))) S1 g471 r ∧ True)) := by
  unfold chatelaineref04_Make at hf
  refine c_enterM Try.func39 rfl 206 rfl (by simp) _ hm _ rfl (fun a h => ?_)
  refine c_rs ?_
  refine sAV h (fun a h => ?_)
  refine l_end ?_
  refine c_rs ?_
  refine sMV h (fun a h => ?_)
  refine s_x h rfl rfl (by decide) (x_len h.k rfl Try.underlying22 rfl) (fun a h => ?_)
  refine s_x h rfl rfl (by decide) (x_bin h.k rfl rfl rfl (ib_quow (by decide))) (fun a h => ?_)
  refine sAV h (fun a h => ?_)
  refine l_end ?_
  refine c_rs ?_
  refine sMV h (fun a h => ?_)
  refine s_x h rfl rfl (by decide) (x_bin h.k rfl rfl rfl (ib_add rfl)) (fun a h => ?_)
  obtain ⟨x1, h2, hf⟩ := bsome hf
  have hX := chatelaineref03_Box_ok Fu (S0 := snapAll _)  _ h2 _ h.startAll
  refine q_callX hX h rfl rfl rfl (by decide) Try.func57 rfl rfl rfl (fun a w v L1 S1 hR hb1 h => ?_)
  obtain ⟨A4, c5, cs6, rfl, rfl, hq7, _⟩ := hR
  have hq8 := hq7.fl (S' := S0) fl_I
  obtain ⟨S9, le10, up11, hs12, h⟩ := q_freeze (T := tyI) h (Up.refl _ _ _) hq8
  refine s_x h rfl rfl (by decide) (x_build h.k rfl [(0, .int .i64 (w64 ((w64 (Int.tdiv (a0.length : Int) 4)) + 6))), (2, .slice A4 x1.length c5)] rfl ([.int .i64 (w64 ((w64 (Int.tdiv (a0.length : Int) 4)) + 6)), .slice none 0 0, .slice A4 x1.length c5]) (by kernel_rfl)) (fun a h => ?_)
  refine s_box h rfl rfl rfl (by decide) rfl (cs := [.int .i64 (w64 ((w64 (Int.tdiv (a0.length : Int) 4)) + 6)), .slice none 0 0, .slice A4 x1.length c5]) (by rfl) (fun a w g13 h => ?_)
  refine sAV h (fun a h => ?_)
  refine l_end ?_
  refine wp_seq ?_
  refine c_rs ?_
  refine sAV h (fun a h => ?_)
  refine l_end ?_
  obtain ⟨o14, hl15, hf⟩ := bsome hf
  refine c_fin (fun a w => ∃ (x27 : Int × (List Int) × (List Int)), ∃ (A29 : Option Addr), ∃ (c30 : Nat), ∃ (cs31 : List Value), ∃ (A33 : Option Addr), ∃ (c34 : Nat), x27 = o14 ∧ r64 x27.1 ∧ reps tyI S9 cs31 x27.2.1 ∧ slS tyI S9 A33 c34 x27.2.2 ∧ St 206 w0 (ownL ([] ++ [.sn S0])) [(3, .int .i64 (w64 (Int.tdiv (a0.length : Int) 4))), (4, .pointer (some ⟨g13, 0, none⟩))] [.box g13 92 ([.int .i64 x27.1, .slice A29 x27.2.1.length c30, .slice A33 x27.2.2.length c34]), .row (.slice A29 x27.2.1.length c30) 3 1 x27.2.1.length cs31, .sn S9] a w) ?_ ?_
  · refine wp_block ?_
    have h := h.mem (h.m.nilrow 3 1)
    have h := h.pick [1, 0, 2] (by decide) rfl
    refine c_loop (fun m37 a w => ∃ (x16 : Int), ∃ (x18 : Int × (List Int) × (List Int)), ∃ (A20 : Option Addr), ∃ (c21 : Nat), ∃ (cs22 : List Value), ∃ (A24 : Option Addr), ∃ (c25 : Nat), chatelaineref04_Make_l0 Fu a0 m37 x16 x18 = some o14 ∧ r64 x16 ∧ r64 x18.1 ∧ reps tyI S9 cs22 x18.2.1 ∧ slS tyI S9 A24 c25 x18.2.2 ∧ St 206 w0 (ownL ([] ++ [.sn S0])) [(0, .slice Aa0 a0.length ca0), (3, .int .i64 (w64 (Int.tdiv (a0.length : Int) 4))), (4, .pointer (some ⟨g13, 0, none⟩)), (5, .int .i64 x16)] [.box g13 92 ([.int .i64 x18.1, .slice A20 x18.2.1.length c21, .slice A24 x18.2.2.length c25]), .row (.slice A20 x18.2.1.length c21) 3 1 x18.2.1.length cs22, .sn S9] a w) Fu ⟨0, (w64 ((w64 (Int.tdiv (a0.length : Int) 4)) + 6), [], x1), none, 0, [], A4, c5, hl15, (show r64 0 from ⟨by decide, by decide⟩), (w64_r _), (show reps tyI S9 [] [] from rfl), hs12, h.has (by exact ⟨rfl, rfl, rfl, rfl, trivial⟩)⟩ (fun m37 a w hI => ?_)
    obtain ⟨x16, x18, A20, c21, cs22, A24, c25, hl36, hr17, hr19, hq23, hs26, h⟩ := hI
    obtain _ | m37 := m37
    · rw [chatelaineref04_Make_l0] at hl36; cases hl36
    rw [chatelaineref04_Make_l0] at hl36
    refine wp_seq ?_
    refine c_rs ?_
    refine sMV h (fun a h => ?_)
    refine sMV h (fun a h => ?_)
    refine s_x h rfl rfl (by decide) (x_len h.k rfl Try.underlying22 rfl) (fun a h => ?_)
    refine s_x h rfl rfl (by decide) (x_bin h.k rfl rfl rfl ib_lss) (fun a h => ?_)
    refine l_end ?_
    refine c_cond h rfl (fun hb => ?_) (fun hb => ?_)
    · rw [if_pos (of_decide_eq_true hb)] at hl36
      refine wp_skip ?_
      refine e_thenN ?_
      refine wp_seq ?_
      refine wp_block ?_
      -- region 6 draws
      obtain ⟨x39, h43, hl36⟩ := bsome hl36
      obtain ⟨x53, h54, hl36⟩ := bsome hl36
      refine c_fin (fun a w => ∃ (A60 : Option Addr), ∃ (c61 : Nat), ∃ (cs62 : List Value), ∃ (A64 : Option Addr), ∃ (c65 : Nat), r64 ((x18.1, x53, x18.2.2).1) ∧ reps tyI S9 cs62 ((x18.1, x53, x18.2.2).2.1) ∧ slS tyI S9 A64 c65 ((x18.1, x53, x18.2.2).2.2) ∧ St 206 w0 (ownL ([] ++ [.sn S0])) [(0, .slice Aa0 a0.length ca0), (3, .int .i64 (w64 (Int.tdiv (a0.length : Int) 4))), (4, .pointer (some ⟨g13, 0, none⟩)), (5, .int .i64 x16)] [.box g13 92 ([.int .i64 ((x18.1, x53, x18.2.2).1), .slice A60 ((x18.1, x53, x18.2.2).2.1).length c61, .slice A64 ((x18.1, x53, x18.2.2).2.2).length c65]), .row (.slice A60 ((x18.1, x53, x18.2.2).2.1).length c61) 3 1 ((x18.1, x53, x18.2.2).2.1).length cs62, .sn S9] a w) ?_ (fun a w h => ?_)
      · refine d_start h (Mem _ _ _) 15 15 rfl (by kernel_rfl) (fun _ _ _ _ _ h => h) (fun _ h => h.pick [2] [.sn S9] (by decide) rfl) (fun Q a w HE HN h HS => ?_)
        refine d_takeP h (fun _ => HS) HN 0 rfl (by kernel_rfl) (by kernel_rfl) (by kernel_rfl) (by decide) rfl rfl (by decide) (fun w' => x_move h.k _ rfl rfl) (fun a h => ?_)
        refine d_takeP h (fun _ => HS) HN 1 rfl (by kernel_rfl) (by kernel_rfl) (by kernel_rfl) (by decide) rfl rfl (by decide) (fun w' => x_move h.k _ rfl rfl) (fun a h => ?_)
        refine d_takeP h (fun _ => HS) HN 2 rfl (by kernel_rfl) (by kernel_rfl) (by kernel_rfl) (by decide) rfl rfl (by decide) (fun w' => x_nil h.k rfl rfl) (fun a h => ?_)
        refine d_takeP h (fun _ => HS) HN 3 rfl (by kernel_rfl) (by kernel_rfl) (by kernel_rfl) (by decide) rfl rfl (by decide) (fun w' => x_faddr h.k rfl Try.underlying92 rfl sz_Sint rfl) (fun a h => ?_)
        refine d_takeP h (fun _ => HS) HN 5 rfl (by kernel_rfl) (by kernel_rfl) (by kernel_rfl) (by decide) rfl rfl (by decide) (fun w' => x_move h.k _ rfl rfl) (fun a h => ?_)
        refine d_takeP h (fun _ => HS) HN 6 rfl (by kernel_rfl) (by kernel_rfl) (by kernel_rfl) (by decide) rfl rfl (by decide) (fun w' => x_move h.k _ rfl rfl) (fun a h => ?_)
        obtain ⟨m40, hi44, hm45, hx46⟩ := idx_some h43
        obtain ⟨b41, off42, k47, hA48, hu49, hc50⟩ := ((hsa0.mono le10)).at1 rfl hx46 (h.m.snOK (i := 2) rfl)
        cases hu49
        refine d_takeP h (fun _ => HS) HN 7 rfl (by kernel_rfl) (by kernel_rfl) (by kernel_rfl) (by decide) rfl rfl (by decide) (fun w' => x_iaddrE h.k rfl Try.underlying22 sz_uint8 hA48 rfl rfl hi44 hm45) (fun a h => ?_)
        refine d_take h HS HN 8 rfl (by kernel_rfl) (by kernel_rfl) (by kernel_rfl) (by kernel_rfl) (by kernel_rfl) rfl rfl (by decide) (fun w' hw => x_ld h.k rfl Try.underlying5 rfl rfl (hc50 _ (hw.snOK (i := 0) rfl))) (fun a h => ?_)
        refine d_takeP h (fun _ => HS) HN 9 rfl (by kernel_rfl) (by kernel_rfl) (by kernel_rfl) (by decide) rfl rfl (by decide) (fun w' => x_convE h.k rfl Try.underlying5 Try.underlying3 rfl (nw64 (u8_r _))) (fun a h => ?_)
        refine d_two 4 10 (by kernel_rfl) (d_one 4 rfl _ (fun K hK => ?_)) (d_one 10 rfl _ (fun K hK => ?_))
        · refine s_x h rfl rfl (by decide) (x_ld h.k rfl Try.underlying89 rfl rfl ((h.m.cell (i := 0) rfl 1).trans rfl)) (fun a h => ?_)
          refine hK _ _ ⟨fun _ _ => HS, ?_⟩
          clear hK
          refine d_alone 10 rfl (by kernel_rfl) (fun K hK => ?_)
          refine q_bslice (T := tyI) (S := S9) h rfl rfl rfl (by decide) Try.underlying89 zi_int (by decide) (by decide) (by decide) (by decide) [.int .i64 (x39.toNat : Int)] rfl rfl (C := [[.int .i64 (x39.toNat : Int)]]) rfl (xs := [(x39.toNat : Int)]) ⟨[.int .i64 (x39.toNat : Int)], _, rfl, ⟨rfl, (u8_r _)⟩, rfl⟩ (by intro c hc; simp only [List.mem_cons, List.not_mem_nil, or_false] at hc; subst hc; rfl) (fun a w A51 h => ?_)
          have hb52 : reps tyI S9 ([[.int .i64 (x39.toNat : Int)]] : List (List Value)).flatten [(x39.toNat : Int)] := ⟨[.int .i64 (x39.toNat : Int)], _, rfl, ⟨rfl, (u8_r _)⟩, rfl⟩
          replace HS := h.m.pick [3] [.sn S9] (by decide) rfl
          refine hK _ _ (fun _ _ => HS) ?_
          clear hK
          refine d_alone 11 rfl (by kernel_rfl) (fun K hK => ?_)
          refine q_append (T := tyI) (S := S9) h rfl rfl rfl (by decide) Try.underlying89 zb_int rfl (by decide) rfl 2 rfl hq23 rfl hb52 (h.m.rdRowA (i := 0) rfl) h54 (fun a w A55 c56 cs57 hq58 h => ?_)
          replace HS := h.m.pick [3] [.sn S9] (by decide) rfl
          refine hK _ _ (fun _ _ => HS) ?_
          clear hK
          refine d_takeP h (fun _ => HS) HN 12 rfl (by kernel_rfl) (by kernel_rfl) (by kernel_rfl) (by decide) rfl rfl (by decide) (fun w' => x_nil h.k rfl rfl) (fun a h => ?_)
          refine d_takeP h (fun _ => HS) HN 13 rfl (by kernel_rfl) (by kernel_rfl) (by kernel_rfl) (by decide) rfl rfl (by decide) (fun w' => x_faddr h.k rfl Try.underlying92 rfl sz_Sint rfl) (fun a h => ?_)
          refine d_alone 14 rfl (by kernel_rfl) (fun K hK => ?_)
          refine s_stb h rfl rfl rfl sz_Sint rfl rfl rfl 1 rfl (by first | decide | simp) (fun a w h => ?_)
          replace HS := h.m.pick [3] [.sn S9] (by decide) rfl
          refine hK _ _ (fun _ _ => HS) ?_
          clear hK
          refine d_done (by kernel_rfl) (HE _ _ ?_) _
          refine e_thenN ?_
          have h := h.pick [1, 2, 3] (by decide) rfl
          exact ⟨A55, c56, cs57, A24, c25, hr19, hq58, hs26, h.has (by exact ⟨rfl, rfl, rfl, rfl, trivial⟩)⟩
        · refine q_bslice (T := tyI) (S := S9) h rfl rfl rfl (by decide) Try.underlying89 zi_int (by decide) (by decide) (by decide) (by decide) [.int .i64 (x39.toNat : Int)] rfl rfl (C := [[.int .i64 (x39.toNat : Int)]]) rfl (xs := [(x39.toNat : Int)]) ⟨[.int .i64 (x39.toNat : Int)], _, rfl, ⟨rfl, (u8_r _)⟩, rfl⟩ (by intro c hc; simp only [List.mem_cons, List.not_mem_nil, or_false] at hc; subst hc; rfl) (fun a w A51 h => ?_)
          have hb52 : reps tyI S9 ([[.int .i64 (x39.toNat : Int)]] : List (List Value)).flatten [(x39.toNat : Int)] := ⟨[.int .i64 (x39.toNat : Int)], _, rfl, ⟨rfl, (u8_r _)⟩, rfl⟩
          replace HS := h.m.pick [3] [.sn S9] (by decide) rfl
          refine hK _ _ ⟨fun _ _ => HS, ?_⟩
          clear hK
          refine d_alone 4 rfl (by kernel_rfl) (fun K hK => ?_)
          refine s_x h rfl rfl (by decide) (x_ld h.k rfl Try.underlying89 rfl rfl ((h.m.cell (i := 1) rfl 1).trans rfl)) (fun a h => ?_)
          refine hK _ _ (fun _ _ => HS) ?_
          clear hK
          refine d_alone 11 rfl (by kernel_rfl) (fun K hK => ?_)
          refine q_append (T := tyI) (S := S9) h rfl rfl rfl (by decide) Try.underlying89 zb_int rfl (by decide) rfl 2 rfl hq23 rfl hb52 (h.m.rdRowA (i := 0) rfl) h54 (fun a w A55 c56 cs57 hq58 h => ?_)
          replace HS := h.m.pick [3] [.sn S9] (by decide) rfl
          refine hK _ _ (fun _ _ => HS) ?_
          clear hK
          refine d_takeP h (fun _ => HS) HN 12 rfl (by kernel_rfl) (by kernel_rfl) (by kernel_rfl) (by decide) rfl rfl (by decide) (fun w' => x_nil h.k rfl rfl) (fun a h => ?_)
          refine d_takeP h (fun _ => HS) HN 13 rfl (by kernel_rfl) (by kernel_rfl) (by kernel_rfl) (by decide) rfl rfl (by decide) (fun w' => x_faddr h.k rfl Try.underlying92 rfl sz_Sint rfl) (fun a h => ?_)
          refine d_alone 14 rfl (by kernel_rfl) (fun K hK => ?_)
          refine s_stb h rfl rfl rfl sz_Sint rfl rfl rfl 1 rfl (by first | decide | simp) (fun a w h => ?_)
          replace HS := h.m.pick [3] [.sn S9] (by decide) rfl
          refine hK _ _ (fun _ _ => HS) ?_
          clear hK
          refine d_done (by kernel_rfl) (HE _ _ ?_) _
          refine e_thenN ?_
          have h := h.pick [1, 2, 3] (by decide) rfl
          exact ⟨A55, c56, cs57, A24, c25, hr19, hq58, hs26, h.has (by exact ⟨rfl, rfl, rfl, rfl, trivial⟩)⟩
      obtain ⟨A60, c61, cs62, A64, c65, hr59, hq63, hs66, h⟩ := h
      refine e_blkN ?_
      refine e_thenN ?_
      refine c_r ?_
      refine sMV h (fun a h => ?_)
      refine s_x h rfl rfl (by decide) (x_bin h.k rfl rfl rfl (ib_add rfl)) (fun a h => ?_)
      refine sAV h (fun a h => ?_)
      refine l_nil ?_
      exact e_thenN ⟨m37, Nat.lt_succ_self _, w64 (x16 + 1), (x18.1, x53, x18.2.2), A60, c61, cs62, A64, c65, hl36, (w64_r _), hr59, hq63, hs66, h.has (by exact ⟨rfl, rfl, rfl, rfl, trivial⟩)⟩
    · rw [if_neg (of_decide_eq_false hb)] at hl36
      refine wp_exit ?_
      refine e_thenX ?_
      refine e_thenX ?_
      refine e_blkX ?_
      refine e_thenN ?_
      exact ⟨x18, A20, c21, cs22, A24, c25, (Option.some.inj hl36), hr19, hq23, hs26, h.has (by exact ⟨rfl, rfl, trivial⟩)⟩
  · rintro a w ⟨x27, A29, c30, cs31, A33, c34, rfl, hr28, hq32, hs35, h⟩
    refine e_thenN ?_
    refine c_rs ?_
    refine sAV h (fun a h => ?_)
    refine l_end ?_
    refine wp_seq ?_
    refine c_rs ?_
    refine sMV h (fun a h => ?_)
    refine sAV h (fun a h => ?_)
    refine l_end ?_
    obtain ⟨o67, hl68, hf⟩ := bsome hf
    refine c_fin (fun a w => ∃ (x82 : Int × (List Int) × (List Int)), ∃ (A84 : Option Addr), ∃ (c85 : Nat), ∃ (cs86 : List Value), ∃ (A88 : Option Addr), ∃ (c89 : Nat), x82 = o67 ∧ r64 x82.1 ∧ reps tyI S9 cs86 x82.2.1 ∧ slS tyI S9 A88 c89 x82.2.2 ∧ St 206 w0 (ownL ([] ++ [.sn S0])) [(4, .pointer (some ⟨g13, 0, none⟩))] [.box g13 92 ([.int .i64 x82.1, .slice A84 x82.2.1.length c85, .slice A88 x82.2.2.length c89]), .row (.slice A84 x82.2.1.length c85) 3 1 x82.2.1.length cs86, .sn S9] a w) ?_ ?_
    · refine wp_block ?_
      refine c_loop (fun m92 a w => ∃ (x69 : Int), ∃ (x71 : Int), ∃ (x73 : Int × (List Int) × (List Int)), ∃ (A75 : Option Addr), ∃ (c76 : Nat), ∃ (cs77 : List Value), ∃ (A79 : Option Addr), ∃ (c80 : Nat), chatelaineref04_Make_l1 Fu a0 m92 x69 x71 x73 = some o67 ∧ r64 x69 ∧ r64 x71 ∧ r64 x73.1 ∧ reps tyI S9 cs77 x73.2.1 ∧ slS tyI S9 A79 c80 x73.2.2 ∧ St 206 w0 (ownL ([] ++ [.sn S0])) [(3, .int .i64 (w64 (Int.tdiv (a0.length : Int) 4))), (4, .pointer (some ⟨g13, 0, none⟩)), (6, .int .i64 x69), (7, .int .i64 x71)] [.box g13 92 ([.int .i64 x73.1, .slice A75 x73.2.1.length c76, .slice A79 x73.2.2.length c80]), .row (.slice A75 x73.2.1.length c76) 3 1 x73.2.1.length cs77, .sn S9] a w) Fu ⟨1, w64 (Int.tdiv (a0.length : Int) 4), x27, A29, c30, cs31, A33, c34, hl68, (show r64 1 from ⟨by decide, by decide⟩), (w64_r _), hr28, hq32, hs35, h.has (by exact ⟨rfl, rfl, rfl, rfl, trivial⟩)⟩ (fun m92 a w hI => ?_)
      obtain ⟨x69, x71, x73, A75, c76, cs77, A79, c80, hl91, hr70, hr72, hr74, hq78, hs81, h⟩ := hI
      obtain _ | m92 := m92
      · rw [chatelaineref04_Make_l1] at hl91; cases hl91
      rw [chatelaineref04_Make_l1] at hl91
      refine wp_seq ?_
      refine c_rs ?_
      refine sMV h (fun a h => ?_)
      refine sMV h (fun a h => ?_)
      refine s_x h rfl rfl (by decide) (x_nil h.k rfl rfl) (fun a h => ?_)
      refine s_x h rfl rfl (by decide) (x_faddr h.k rfl Try.underlying92 rfl sz_int rfl) (fun a h => ?_)
      refine s_x h rfl rfl (by decide) (x_ld h.k rfl Try.underlying3 rfl rfl ((h.m.cell (i := 0) rfl 0).trans rfl)) (fun a h => ?_)
      refine s_x h rfl rfl (by decide) (x_bin h.k rfl rfl rfl (ib_add rfl)) (fun a h => ?_)
      refine s_x h rfl rfl (by decide) (x_bin h.k rfl rfl rfl (ib_mul rfl)) (fun a h => ?_)
      refine s_x h rfl rfl (by decide) (x_bin h.k rfl rfl rfl ib_lss) (fun a h => ?_)
      refine l_end ?_
      refine c_cond h rfl (fun hb => ?_) (fun hb => ?_)
      · rw [if_pos (of_decide_eq_true hb)] at hl91
        refine wp_skip ?_
        refine e_thenN ?_
        refine wp_seq ?_
        refine wp_block ?_
        refine wp_seq ?_
        -- region 11 draws
        obtain ⟨m93, h94, hl91⟩ := bsome hl91
        obtain ⟨x99, h100, hl91⟩ := bsome hl91
        obtain ⟨m106, h107, hl91⟩ := bsome hl91
        obtain ⟨x112, h113, hl91⟩ := bsome hl91
        obtain ⟨m119, h120, hl91⟩ := bsome hl91
        obtain ⟨x125, h126, hl91⟩ := bsome hl91
        obtain ⟨m132, h133, hl91⟩ := bsome hl91
        obtain ⟨x138, h139, hl91⟩ := bsome hl91
        refine d_start h (Mem _ _ _) 38 38 rfl (by kernel_rfl) (fun _ _ _ _ _ h => h) (fun _ h => h) (fun Q a w HE HN h HS => ?_)
        refine d_takeP h (fun _ => HS) HN 0 rfl (by kernel_rfl) (by kernel_rfl) (by kernel_rfl) (by decide) rfl rfl (by decide) (fun w' => x_move h.k _ rfl rfl) (fun a h => ?_)
        refine d_takeP h (fun _ => HS) HN 1 rfl (by kernel_rfl) (by kernel_rfl) (by kernel_rfl) (by decide) rfl rfl (by decide) (fun w' => x_nil h.k rfl rfl) (fun a h => ?_)
        refine d_takeP h (fun _ => HS) HN 2 rfl (by kernel_rfl) (by kernel_rfl) (by kernel_rfl) (by decide) rfl rfl (by decide) (fun w' => x_faddr h.k rfl Try.underlying92 rfl sz_Sint rfl) (fun a h => ?_)
        refine d_take h HS HN 3 rfl (by kernel_rfl) (by kernel_rfl) (by kernel_rfl) (by kernel_rfl) (by kernel_rfl) rfl rfl (by decide) (fun w' hw => x_ld h.k rfl Try.underlying89 rfl rfl ((hw.cell (i := 0) rfl 1).trans rfl)) (fun a h => ?_)
        refine d_takeP h (fun _ => HS) HN 4 rfl (by kernel_rfl) (by kernel_rfl) (by kernel_rfl) (by decide) rfl rfl (by decide) (fun w' => x_move h.k _ rfl rfl) (fun a h => ?_)
        refine d_takeP h (fun _ => HS) HN 5 rfl (by kernel_rfl) (by kernel_rfl) (by kernel_rfl) (by decide) rfl rfl (by decide) (fun w' => x_bin h.k rfl rfl rfl (ib_mul rfl)) (fun a h => ?_)
        refine d_takeP h (fun _ => HS) HN 6 rfl (by kernel_rfl) (by kernel_rfl) (by kernel_rfl) (by decide) rfl rfl (by decide) (fun w' => x_bin h.k rfl rfl rfl (ib_sub rfl)) (fun a h => ?_)
        obtain ⟨hi95, hm96⟩ := ix_some h94
        obtain ⟨g98, hA97⟩ := h.m.rowHead (i := 1) rfl (Nat.lt_of_le_of_lt (Nat.zero_le _) hm96)
        refine d_takeP h (fun _ => HS) HN 7 rfl (by kernel_rfl) (by kernel_rfl) (by kernel_rfl) (by decide) rfl rfl (by decide) (fun w' => x_iaddrE h.k rfl Try.underlying89 sz_int hA97 rfl rfl hi95 hm96) (fun a h => ?_)
        obtain ⟨u101, hv102, hu103⟩ := (hq78).cell rfl h100
        obtain ⟨e105, hr104⟩ := hu103
        cases e105
        refine d_take h HS HN 8 rfl (by kernel_rfl) (by kernel_rfl) (by kernel_rfl) (by kernel_rfl) (by kernel_rfl) rfl rfl (by decide) (fun w' hw => x_ld h.k rfl Try.underlying3 rfl rfl (hw.cellRowE (i := 1) rfl hA97 _ (by rw [Nat.mul_one]; exact hv102))) (fun a h => ?_)
        refine d_takeP h (fun _ => HS) HN 9 rfl (by kernel_rfl) (by kernel_rfl) (by kernel_rfl) (by decide) rfl rfl (by decide) (fun w' => x_move h.k _ rfl rfl) (fun a h => ?_)
        refine d_takeP h (fun _ => HS) HN 10 rfl (by kernel_rfl) (by kernel_rfl) (by kernel_rfl) (by decide) rfl rfl (by decide) (fun w' => x_nil h.k rfl rfl) (fun a h => ?_)
        refine d_takeP h (fun _ => HS) HN 11 rfl (by kernel_rfl) (by kernel_rfl) (by kernel_rfl) (by decide) rfl rfl (by decide) (fun w' => x_faddr h.k rfl Try.underlying92 rfl sz_Sint rfl) (fun a h => ?_)
        refine d_take h HS HN 12 rfl (by kernel_rfl) (by kernel_rfl) (by kernel_rfl) (by kernel_rfl) (by kernel_rfl) rfl rfl (by decide) (fun w' hw => x_ld h.k rfl Try.underlying89 rfl rfl ((hw.cell (i := 0) rfl 1).trans rfl)) (fun a h => ?_)
        refine d_takeP h (fun _ => HS) HN 13 rfl (by kernel_rfl) (by kernel_rfl) (by kernel_rfl) (by decide) rfl rfl (by decide) (fun w' => x_move h.k _ rfl rfl) (fun a h => ?_)
        refine d_takeP h (fun _ => HS) HN 14 rfl (by kernel_rfl) (by kernel_rfl) (by kernel_rfl) (by decide) rfl rfl (by decide) (fun w' => x_bin h.k rfl rfl rfl (ib_mul rfl)) (fun a h => ?_)
        refine d_takeP h (fun _ => HS) HN 15 rfl (by kernel_rfl) (by kernel_rfl) (by kernel_rfl) (by decide) rfl rfl (by decide) (fun w' => x_bin h.k rfl rfl rfl (ib_sub rfl)) (fun a h => ?_)
        obtain ⟨hi108, hm109⟩ := ix_some h107
        obtain ⟨g111, hA110⟩ := h.m.rowHead (i := 1) rfl (Nat.lt_of_le_of_lt (Nat.zero_le _) hm109)
        refine d_takeP h (fun _ => HS) HN 16 rfl (by kernel_rfl) (by kernel_rfl) (by kernel_rfl) (by decide) rfl rfl (by decide) (fun w' => x_iaddrE h.k rfl Try.underlying89 sz_int hA110 rfl rfl hi108 hm109) (fun a h => ?_)
        obtain ⟨u114, hv115, hu116⟩ := (hq78).cell rfl h113
        obtain ⟨e118, hr117⟩ := hu116
        cases e118
        refine d_take h HS HN 17 rfl (by kernel_rfl) (by kernel_rfl) (by kernel_rfl) (by kernel_rfl) (by kernel_rfl) rfl rfl (by decide) (fun w' hw => x_ld h.k rfl Try.underlying3 rfl rfl (hw.cellRowE (i := 1) rfl hA110 _ (by rw [Nat.mul_one]; exact hv115))) (fun a h => ?_)
        refine d_takeP h (fun _ => HS) HN 18 rfl (by kernel_rfl) (by kernel_rfl) (by kernel_rfl) (by decide) rfl rfl (by decide) (fun w' => x_move h.k _ rfl rfl) (fun a h => ?_)
        refine d_takeP h (fun _ => HS) HN 19 rfl (by kernel_rfl) (by kernel_rfl) (by kernel_rfl) (by decide) rfl rfl (by decide) (fun w' => x_nil h.k rfl rfl) (fun a h => ?_)
        refine d_takeP h (fun _ => HS) HN 20 rfl (by kernel_rfl) (by kernel_rfl) (by kernel_rfl) (by decide) rfl rfl (by decide) (fun w' => x_faddr h.k rfl Try.underlying92 rfl sz_Sint rfl) (fun a h => ?_)
        refine d_take h HS HN 21 rfl (by kernel_rfl) (by kernel_rfl) (by kernel_rfl) (by kernel_rfl) (by kernel_rfl) rfl rfl (by decide) (fun w' hw => x_ld h.k rfl Try.underlying89 rfl rfl ((hw.cell (i := 0) rfl 1).trans rfl)) (fun a h => ?_)
        refine d_takeP h (fun _ => HS) HN 22 rfl (by kernel_rfl) (by kernel_rfl) (by kernel_rfl) (by decide) rfl rfl (by decide) (fun w' => x_move h.k _ rfl rfl) (fun a h => ?_)
        refine d_takeP h (fun _ => HS) HN 23 rfl (by kernel_rfl) (by kernel_rfl) (by kernel_rfl) (by decide) rfl rfl (by decide) (fun w' => x_bin h.k rfl rfl rfl (ib_mul rfl)) (fun a h => ?_)
        refine d_takeP h (fun _ => HS) HN 24 rfl (by kernel_rfl) (by kernel_rfl) (by kernel_rfl) (by decide) rfl rfl (by decide) (fun w' => x_bin h.k rfl rfl rfl (ib_sub rfl)) (fun a h => ?_)
        obtain ⟨hi121, hm122⟩ := ix_some h120
        obtain ⟨g124, hA123⟩ := h.m.rowHead (i := 1) rfl (Nat.lt_of_le_of_lt (Nat.zero_le _) hm122)
        refine d_takeP h (fun _ => HS) HN 25 rfl (by kernel_rfl) (by kernel_rfl) (by kernel_rfl) (by decide) rfl rfl (by decide) (fun w' => x_iaddrE h.k rfl Try.underlying89 sz_int hA123 rfl rfl hi121 hm122) (fun a h => ?_)
        obtain ⟨u127, hv128, hu129⟩ := (hq78).cell rfl h126
        obtain ⟨e131, hr130⟩ := hu129
        cases e131
        refine d_take h HS HN 26 rfl (by kernel_rfl) (by kernel_rfl) (by kernel_rfl) (by kernel_rfl) (by kernel_rfl) rfl rfl (by decide) (fun w' hw => x_ld h.k rfl Try.underlying3 rfl rfl (hw.cellRowE (i := 1) rfl hA123 _ (by rw [Nat.mul_one]; exact hv128))) (fun a h => ?_)
        refine d_takeP h (fun _ => HS) HN 27 rfl (by kernel_rfl) (by kernel_rfl) (by kernel_rfl) (by decide) rfl rfl (by decide) (fun w' => x_move h.k _ rfl rfl) (fun a h => ?_)
        refine d_takeP h (fun _ => HS) HN 28 rfl (by kernel_rfl) (by kernel_rfl) (by kernel_rfl) (by decide) rfl rfl (by decide) (fun w' => x_nil h.k rfl rfl) (fun a h => ?_)
        refine d_takeP h (fun _ => HS) HN 29 rfl (by kernel_rfl) (by kernel_rfl) (by kernel_rfl) (by decide) rfl rfl (by decide) (fun w' => x_faddr h.k rfl Try.underlying92 rfl sz_Sint rfl) (fun a h => ?_)
        refine d_take h HS HN 30 rfl (by kernel_rfl) (by kernel_rfl) (by kernel_rfl) (by kernel_rfl) (by kernel_rfl) rfl rfl (by decide) (fun w' hw => x_ld h.k rfl Try.underlying89 rfl rfl ((hw.cell (i := 0) rfl 1).trans rfl)) (fun a h => ?_)
        refine d_takeP h (fun _ => HS) HN 31 rfl (by kernel_rfl) (by kernel_rfl) (by kernel_rfl) (by decide) rfl rfl (by decide) (fun w' => x_move h.k _ rfl rfl) (fun a h => ?_)
        refine d_takeP h (fun _ => HS) HN 32 rfl (by kernel_rfl) (by kernel_rfl) (by kernel_rfl) (by decide) rfl rfl (by decide) (fun w' => x_bin h.k rfl rfl rfl (ib_mul rfl)) (fun a h => ?_)
        refine d_takeP h (fun _ => HS) HN 33 rfl (by kernel_rfl) (by kernel_rfl) (by kernel_rfl) (by decide) rfl rfl (by decide) (fun w' => x_bin h.k rfl rfl rfl (ib_sub rfl)) (fun a h => ?_)
        obtain ⟨hi134, hm135⟩ := ix_some h133
        obtain ⟨g137, hA136⟩ := h.m.rowHead (i := 1) rfl (Nat.lt_of_le_of_lt (Nat.zero_le _) hm135)
        refine d_takeP h (fun _ => HS) HN 34 rfl (by kernel_rfl) (by kernel_rfl) (by kernel_rfl) (by decide) rfl rfl (by decide) (fun w' => x_iaddrE h.k rfl Try.underlying89 sz_int hA136 rfl rfl hi134 hm135) (fun a h => ?_)
        obtain ⟨u140, hv141, hu142⟩ := (hq78).cell rfl h139
        obtain ⟨e144, hr143⟩ := hu142
        cases e144
        refine d_take h HS HN 35 rfl (by kernel_rfl) (by kernel_rfl) (by kernel_rfl) (by kernel_rfl) (by kernel_rfl) rfl rfl (by decide) (fun w' hw => x_ld h.k rfl Try.underlying3 rfl rfl (hw.cellRowE (i := 1) rfl hA136 _ (by rw [Nat.mul_one]; exact hv141))) (fun a h => ?_)
        refine d_alone 36 rfl (by kernel_rfl) (fun K hK => ?_)
        refine q_bslice (T := tyI) (S := S9) h rfl rfl rfl (by decide) Try.underlying89 zi_int (by decide) (by decide) (by decide) (by decide) [.int .i64 x99, .int .i64 x112, .int .i64 x125, .int .i64 x138] rfl rfl (C := [[.int .i64 x99], [.int .i64 x112], [.int .i64 x125], [.int .i64 x138]]) rfl (xs := [x99, x112, x125, x138]) ⟨[.int .i64 x99], _, rfl, ⟨rfl, hr104⟩, ⟨[.int .i64 x112], _, rfl, ⟨rfl, hr117⟩, ⟨[.int .i64 x125], _, rfl, ⟨rfl, hr130⟩, ⟨[.int .i64 x138], _, rfl, ⟨rfl, hr143⟩, rfl⟩⟩⟩⟩ (by simp only [List.mem_cons, List.not_mem_nil, or_false]; rintro c (rfl | rfl | rfl | rfl) <;> rfl) (fun a w A145 h => ?_)
        have hb146 : reps tyI S9 ([[.int .i64 x99], [.int .i64 x112], [.int .i64 x125], [.int .i64 x138]] : List (List Value)).flatten [x99, x112, x125, x138] := ⟨[.int .i64 x99], _, rfl, ⟨rfl, hr104⟩, ⟨[.int .i64 x112], _, rfl, ⟨rfl, hr117⟩, ⟨[.int .i64 x125], _, rfl, ⟨rfl, hr130⟩, ⟨[.int .i64 x138], _, rfl, ⟨rfl, hr143⟩, rfl⟩⟩⟩⟩
        replace HS := h.m.pick [1, 2, 3] [.box g13 92 ([.int .i64 x73.1, .slice A75 x73.2.1.length c76, .slice A79 x73.2.2.length c80]), .row (.slice A75 x73.2.1.length c76) 3 1 x73.2.1.length cs77, .sn S9] (by decide) rfl
        refine hK _ _ (fun _ _ => HS) ?_
        clear hK
        refine d_takeP h (fun _ => HS) HN 37 rfl (by kernel_rfl) (by kernel_rfl) (by kernel_rfl) (by decide) rfl rfl (by decide) (fun w' => x_assign h.k _ rfl rfl) (fun a h => ?_)
        refine d_done (by kernel_rfl) (HE _ _ ?_) _
        refine e_thenN ?_
        obtain ⟨o147, hc148, hl91⟩ := bsome hl91
        refine c_cut (fun a w => ∃ (x149 : Int), ∃ (x151 : List Int), ∃ (A152 : Option Addr), ∃ (c153 : Nat), ∃ (cs154 : List Value), (x149, x151) = o147 ∧ r64 x149 ∧ reps tyI S9 cs154 x151 ∧ St 206 w0 (ownL ([] ++ [.sn S0])) [(3, .int .i64 (w64 (Int.tdiv (a0.length : Int) 4))), (4, .pointer (some ⟨g13, 0, none⟩)), (6, .int .i64 x149), (7, .int .i64 x71), (8, .slice A152 x151.length c153)] [.box g13 92 ([.int .i64 x73.1, .slice A75 x73.2.1.length c76, .slice A79 x73.2.2.length c80]), .row (.slice A75 x73.2.1.length c76) 3 1 x73.2.1.length cs77, .row (.slice A152 x151.length c153) 3 1 x151.length cs154, .sn S9] a w) ?_ ?_
        · refine c_rs ?_
          refine sMV h (fun a h => ?_)
          refine sMV h (fun a h => ?_)
          obtain ⟨x156, h157, hc148⟩ := bsome hc148
          refine s_x h rfl rfl (by decide) (x_bin h.k rfl rfl rfl (ib_rem_ h157)) (fun a h => ?_)
          refine s_x h rfl rfl (by decide) (x_bin h.k rfl rfl rfl ib_eql) (fun a h => ?_)
          refine l_end ?_
          refine c_cond h rfl (fun hb => ?_) (fun hb => ?_)
          · rw [if_pos (of_decide_eq_true hb)] at hc148
            refine wp_seq ?_
            -- region 13 draws
            obtain ⟨m158, h159, hc148⟩ := bsome hc148
            obtain ⟨x164, h165, hc148⟩ := bsome hc148
            obtain ⟨x171, h175, hc148⟩ := bsome hc148
            obtain ⟨x185, h186, hc148⟩ := bsome hc148
            obtain ⟨m189, h190, hc148⟩ := bsome hc148
            obtain ⟨x195, h196, hc148⟩ := bsome hc148
            obtain ⟨x202, h206, hc148⟩ := bsome hc148
            obtain ⟨m216, h217, hc148⟩ := bsome hc148
            obtain ⟨x222, h223, hc148⟩ := bsome hc148
            obtain ⟨x229, h233, hc148⟩ := bsome hc148
            obtain ⟨m243, h244, hc148⟩ := bsome hc148
            obtain ⟨x249, h250, hc148⟩ := bsome hc148
            obtain ⟨x256, h260, hc148⟩ := bsome hc148
            refine d_start h (Mem _ _ _) 40 40 rfl (by kernel_rfl) (fun _ _ _ _ _ h => h) (fun _ h => h) (fun Q a w HE HN h HS => ?_)
            refine d_takeP h (fun _ => HS) HN 0 rfl (by kernel_rfl) (by kernel_rfl) (by kernel_rfl) (by decide) rfl rfl (by decide) (fun w' => x_move h.k _ rfl rfl) (fun a h => ?_)
            refine d_takeP h (fun _ => HS) HN 1 rfl (by kernel_rfl) (by kernel_rfl) (by kernel_rfl) (by decide) rfl rfl (by decide) (fun w' => x_nil h.k rfl rfl) (fun a h => ?_)
            refine d_takeP h (fun _ => HS) HN 2 rfl (by kernel_rfl) (by kernel_rfl) (by kernel_rfl) (by decide) rfl rfl (by decide) (fun w' => x_faddr h.k rfl Try.underlying92 rfl sz_Sint rfl) (fun a h => ?_)
            refine d_take h HS HN 3 rfl (by kernel_rfl) (by kernel_rfl) (by kernel_rfl) (by kernel_rfl) (by kernel_rfl) rfl rfl (by decide) (fun w' hw => x_ld h.k rfl Try.underlying89 rfl rfl ((hw.cell (i := 1) rfl 2).trans rfl)) (fun a h => ?_)
            refine d_takeP h (fun _ => HS) HN 4 rfl (by kernel_rfl) (by kernel_rfl) (by kernel_rfl) (by decide) rfl rfl (by decide) (fun w' => x_move h.k _ rfl rfl) (fun a h => ?_)
            obtain ⟨hi160, hm161⟩ := ix_some h159
            obtain ⟨g163, hA162⟩ := h.m.rowHead (i := 0) rfl (Nat.lt_of_le_of_lt (Nat.zero_le _) hm161)
            refine d_takeP h (fun _ => HS) HN 5 rfl (by kernel_rfl) (by kernel_rfl) (by kernel_rfl) (by decide) rfl rfl (by decide) (fun w' => x_iaddrE h.k rfl Try.underlying89 sz_int hA162 rfl rfl hi160 hm161) (fun a h => ?_)
            obtain ⟨u166, hv167, hu168⟩ := (hb146).cell rfl h165
            obtain ⟨e170, hr169⟩ := hu168
            cases e170
            refine d_take h HS HN 6 rfl (by kernel_rfl) (by kernel_rfl) (by kernel_rfl) (by kernel_rfl) (by kernel_rfl) rfl rfl (by decide) (fun w' hw => x_ld h.k rfl Try.underlying3 rfl rfl (hw.cellRowE (i := 0) rfl hA162 _ (by rw [Nat.mul_one]; exact hv167))) (fun a h => ?_)
            obtain ⟨m172, hi176, hm177, hx178⟩ := idx_some h175
            obtain ⟨b173, off174, k179, hA180, hu181, hc182⟩ := (hs81).at1 rfl hx178 (h.m.snOK (i := 3) rfl)
            obtain ⟨e184, hr183⟩ := hu181
            cases e184
            refine d_takeP h (fun _ => HS) HN 7 rfl (by kernel_rfl) (by kernel_rfl) (by kernel_rfl) (by decide) rfl rfl (by decide) (fun w' => x_iaddrE h.k rfl Try.underlying89 sz_int hA180 rfl rfl hi176 hm177) (fun a h => ?_)
            refine d_take h HS HN 8 rfl (by kernel_rfl) (by kernel_rfl) (by kernel_rfl) (by kernel_rfl) (by kernel_rfl) rfl rfl (by decide) (fun w' hw => x_ld h.k rfl Try.underlying3 rfl rfl (hc182 _ (hw.snOK (i := 3) rfl))) (fun a h => ?_)
            refine d_takeP h (fun _ => HS) HN 9 rfl (by kernel_rfl) (by kernel_rfl) (by kernel_rfl) (by decide) rfl rfl (by decide) (fun w' => x_move h.k _ rfl rfl) (fun a h => ?_)
            refine d_takeP h (fun _ => HS) HN 11 rfl (by kernel_rfl) (by kernel_rfl) (by kernel_rfl) (by decide) rfl rfl (by decide) (fun w' => x_move h.k _ rfl rfl) (fun a h => ?_)
            refine d_takeP h (fun _ => HS) HN 12 rfl (by kernel_rfl) (by kernel_rfl) (by kernel_rfl) (by decide) rfl rfl (by decide) (fun w' => x_nil h.k rfl rfl) (fun a h => ?_)
            refine d_takeP h (fun _ => HS) HN 13 rfl (by kernel_rfl) (by kernel_rfl) (by kernel_rfl) (by decide) rfl rfl (by decide) (fun w' => x_faddr h.k rfl Try.underlying92 rfl sz_Sint rfl) (fun a h => ?_)
            refine d_take h HS HN 14 rfl (by kernel_rfl) (by kernel_rfl) (by kernel_rfl) (by kernel_rfl) (by kernel_rfl) rfl rfl (by decide) (fun w' hw => x_ld h.k rfl Try.underlying89 rfl rfl ((hw.cell (i := 1) rfl 2).trans rfl)) (fun a h => ?_)
            refine d_takeP h (fun _ => HS) HN 15 rfl (by kernel_rfl) (by kernel_rfl) (by kernel_rfl) (by decide) rfl rfl (by decide) (fun w' => x_move h.k _ rfl rfl) (fun a h => ?_)
            obtain ⟨hi191, hm192⟩ := ix_some h190
            obtain ⟨g194, hA193⟩ := h.m.rowHead (i := 0) rfl (Nat.lt_of_le_of_lt (Nat.zero_le _) hm192)
            refine d_takeP h (fun _ => HS) HN 16 rfl (by kernel_rfl) (by kernel_rfl) (by kernel_rfl) (by decide) rfl rfl (by decide) (fun w' => x_iaddrE h.k rfl Try.underlying89 sz_int hA193 rfl rfl hi191 hm192) (fun a h => ?_)
            obtain ⟨u197, hv198, hu199⟩ := (hb146).cell rfl h196
            obtain ⟨e201, hr200⟩ := hu199
            cases e201
            refine d_take h HS HN 17 rfl (by kernel_rfl) (by kernel_rfl) (by kernel_rfl) (by kernel_rfl) (by kernel_rfl) rfl rfl (by decide) (fun w' hw => x_ld h.k rfl Try.underlying3 rfl rfl (hw.cellRowE (i := 0) rfl hA193 _ (by rw [Nat.mul_one]; exact hv198))) (fun a h => ?_)
            obtain ⟨m203, hi207, hm208, hx209⟩ := idx_some h206
            obtain ⟨b204, off205, k210, hA211, hu212, hc213⟩ := (hs81).at1 rfl hx209 (h.m.snOK (i := 3) rfl)
            obtain ⟨e215, hr214⟩ := hu212
            cases e215
            refine d_takeP h (fun _ => HS) HN 18 rfl (by kernel_rfl) (by kernel_rfl) (by kernel_rfl) (by decide) rfl rfl (by decide) (fun w' => x_iaddrE h.k rfl Try.underlying89 sz_int hA211 rfl rfl hi207 hm208) (fun a h => ?_)
            refine d_take h HS HN 19 rfl (by kernel_rfl) (by kernel_rfl) (by kernel_rfl) (by kernel_rfl) (by kernel_rfl) rfl rfl (by decide) (fun w' hw => x_ld h.k rfl Try.underlying3 rfl rfl (hc213 _ (hw.snOK (i := 3) rfl))) (fun a h => ?_)
            refine d_takeP h (fun _ => HS) HN 20 rfl (by kernel_rfl) (by kernel_rfl) (by kernel_rfl) (by decide) rfl rfl (by decide) (fun w' => x_move h.k _ rfl rfl) (fun a h => ?_)
            refine d_takeP h (fun _ => HS) HN 21 rfl (by kernel_rfl) (by kernel_rfl) (by kernel_rfl) (by decide) rfl rfl (by decide) (fun w' => x_nil h.k rfl rfl) (fun a h => ?_)
            refine d_takeP h (fun _ => HS) HN 22 rfl (by kernel_rfl) (by kernel_rfl) (by kernel_rfl) (by decide) rfl rfl (by decide) (fun w' => x_faddr h.k rfl Try.underlying92 rfl sz_Sint rfl) (fun a h => ?_)
            refine d_take h HS HN 23 rfl (by kernel_rfl) (by kernel_rfl) (by kernel_rfl) (by kernel_rfl) (by kernel_rfl) rfl rfl (by decide) (fun w' hw => x_ld h.k rfl Try.underlying89 rfl rfl ((hw.cell (i := 1) rfl 2).trans rfl)) (fun a h => ?_)
            refine d_takeP h (fun _ => HS) HN 24 rfl (by kernel_rfl) (by kernel_rfl) (by kernel_rfl) (by decide) rfl rfl (by decide) (fun w' => x_move h.k _ rfl rfl) (fun a h => ?_)
            obtain ⟨hi218, hm219⟩ := ix_some h217
            obtain ⟨g221, hA220⟩ := h.m.rowHead (i := 0) rfl (Nat.lt_of_le_of_lt (Nat.zero_le _) hm219)
            refine d_takeP h (fun _ => HS) HN 25 rfl (by kernel_rfl) (by kernel_rfl) (by kernel_rfl) (by decide) rfl rfl (by decide) (fun w' => x_iaddrE h.k rfl Try.underlying89 sz_int hA220 rfl rfl hi218 hm219) (fun a h => ?_)
            obtain ⟨u224, hv225, hu226⟩ := (hb146).cell rfl h223
            obtain ⟨e228, hr227⟩ := hu226
            cases e228
            refine d_take h HS HN 26 rfl (by kernel_rfl) (by kernel_rfl) (by kernel_rfl) (by kernel_rfl) (by kernel_rfl) rfl rfl (by decide) (fun w' hw => x_ld h.k rfl Try.underlying3 rfl rfl (hw.cellRowE (i := 0) rfl hA220 _ (by rw [Nat.mul_one]; exact hv225))) (fun a h => ?_)
            obtain ⟨m230, hi234, hm235, hx236⟩ := idx_some h233
            obtain ⟨b231, off232, k237, hA238, hu239, hc240⟩ := (hs81).at1 rfl hx236 (h.m.snOK (i := 3) rfl)
            obtain ⟨e242, hr241⟩ := hu239
            cases e242
            refine d_takeP h (fun _ => HS) HN 27 rfl (by kernel_rfl) (by kernel_rfl) (by kernel_rfl) (by decide) rfl rfl (by decide) (fun w' => x_iaddrE h.k rfl Try.underlying89 sz_int hA238 rfl rfl hi234 hm235) (fun a h => ?_)
            refine d_take h HS HN 28 rfl (by kernel_rfl) (by kernel_rfl) (by kernel_rfl) (by kernel_rfl) (by kernel_rfl) rfl rfl (by decide) (fun w' hw => x_ld h.k rfl Try.underlying3 rfl rfl (hc240 _ (hw.snOK (i := 3) rfl))) (fun a h => ?_)
            refine d_takeP h (fun _ => HS) HN 29 rfl (by kernel_rfl) (by kernel_rfl) (by kernel_rfl) (by decide) rfl rfl (by decide) (fun w' => x_move h.k _ rfl rfl) (fun a h => ?_)
            refine d_takeP h (fun _ => HS) HN 30 rfl (by kernel_rfl) (by kernel_rfl) (by kernel_rfl) (by decide) rfl rfl (by decide) (fun w' => x_nil h.k rfl rfl) (fun a h => ?_)
            refine d_takeP h (fun _ => HS) HN 31 rfl (by kernel_rfl) (by kernel_rfl) (by kernel_rfl) (by decide) rfl rfl (by decide) (fun w' => x_faddr h.k rfl Try.underlying92 rfl sz_Sint rfl) (fun a h => ?_)
            refine d_take h HS HN 32 rfl (by kernel_rfl) (by kernel_rfl) (by kernel_rfl) (by kernel_rfl) (by kernel_rfl) rfl rfl (by decide) (fun w' hw => x_ld h.k rfl Try.underlying89 rfl rfl ((hw.cell (i := 1) rfl 2).trans rfl)) (fun a h => ?_)
            refine d_takeP h (fun _ => HS) HN 33 rfl (by kernel_rfl) (by kernel_rfl) (by kernel_rfl) (by decide) rfl rfl (by decide) (fun w' => x_move h.k _ rfl rfl) (fun a h => ?_)
            obtain ⟨hi245, hm246⟩ := ix_some h244
            obtain ⟨g248, hA247⟩ := h.m.rowHead (i := 0) rfl (Nat.lt_of_le_of_lt (Nat.zero_le _) hm246)
            refine d_takeP h (fun _ => HS) HN 34 rfl (by kernel_rfl) (by kernel_rfl) (by kernel_rfl) (by decide) rfl rfl (by decide) (fun w' => x_iaddrE h.k rfl Try.underlying89 sz_int hA247 rfl rfl hi245 hm246) (fun a h => ?_)
            obtain ⟨u251, hv252, hu253⟩ := (hb146).cell rfl h250
            obtain ⟨e255, hr254⟩ := hu253
            cases e255
            refine d_take h HS HN 35 rfl (by kernel_rfl) (by kernel_rfl) (by kernel_rfl) (by kernel_rfl) (by kernel_rfl) rfl rfl (by decide) (fun w' hw => x_ld h.k rfl Try.underlying3 rfl rfl (hw.cellRowE (i := 0) rfl hA247 _ (by rw [Nat.mul_one]; exact hv252))) (fun a h => ?_)
            obtain ⟨m257, hi261, hm262, hx263⟩ := idx_some h260
            obtain ⟨b258, off259, k264, hA265, hu266, hc267⟩ := (hs81).at1 rfl hx263 (h.m.snOK (i := 3) rfl)
            obtain ⟨e269, hr268⟩ := hu266
            cases e269
            refine d_takeP h (fun _ => HS) HN 36 rfl (by kernel_rfl) (by kernel_rfl) (by kernel_rfl) (by decide) rfl rfl (by decide) (fun w' => x_iaddrE h.k rfl Try.underlying89 sz_int hA265 rfl rfl hi261 hm262) (fun a h => ?_)
            refine d_take h HS HN 37 rfl (by kernel_rfl) (by kernel_rfl) (by kernel_rfl) (by kernel_rfl) (by kernel_rfl) rfl rfl (by decide) (fun w' hw => x_ld h.k rfl Try.underlying3 rfl rfl (hc267 _ (hw.snOK (i := 3) rfl))) (fun a h => ?_)
            refine d_alone 10 rfl (by kernel_rfl) (fun K hK => ?_)
            have hX := chatelaineref04_xor_ok Fu (S0 := snapAll _) x171 hr183 x69 hr70 _ h186 _ h.startAll
            refine q_callX hX h rfl rfl rfl (by decide) Try.func58 rfl rfl rfl (fun a w v L1 S1 hR hb1 h => ?_)
            obtain ⟨rfl, rfl, hr188, _⟩ := hR
            refine hK _ _ (fun _ _ => HS.ext hb1) ?_
            replace HS := HS.ext hb1
            clear hK
            refine d_alone 38 rfl (by kernel_rfl) (fun K hK => ?_)
            refine q_bslice (T := tyI) (S := S9) h rfl rfl rfl (by decide) Try.underlying89 zi_int (by decide) (by decide) (by decide) (by decide) [.int .i64 x185, .int .i64 x202, .int .i64 x229, .int .i64 x256] rfl rfl (C := [[.int .i64 x185], [.int .i64 x202], [.int .i64 x229], [.int .i64 x256]]) rfl (xs := [x185, x202, x229, x256]) ⟨[.int .i64 x185], _, rfl, ⟨rfl, hr188⟩, ⟨[.int .i64 x202], _, rfl, ⟨rfl, hr214⟩, ⟨[.int .i64 x229], _, rfl, ⟨rfl, hr241⟩, ⟨[.int .i64 x256], _, rfl, ⟨rfl, hr268⟩, rfl⟩⟩⟩⟩ (by simp only [List.mem_cons, List.not_mem_nil, or_false]; rintro c (rfl | rfl | rfl | rfl) <;> rfl) (fun a w A270 h => ?_)
            have hb271 : reps tyI S9 ([[.int .i64 x185], [.int .i64 x202], [.int .i64 x229], [.int .i64 x256]] : List (List Value)).flatten [x185, x202, x229, x256] := ⟨[.int .i64 x185], _, rfl, ⟨rfl, hr188⟩, ⟨[.int .i64 x202], _, rfl, ⟨rfl, hr214⟩, ⟨[.int .i64 x229], _, rfl, ⟨rfl, hr241⟩, ⟨[.int .i64 x256], _, rfl, ⟨rfl, hr268⟩, rfl⟩⟩⟩⟩
            replace HS := h.m.pick [1, 2, 3, 4] [.row (.slice A145 ([x99, x112, x125, x138]).length 4) 3 1 ([x99, x112, x125, x138]).length ([[.int .i64 x99], [.int .i64 x112], [.int .i64 x125], [.int .i64 x138]] : List (List Value)).flatten, .box g13 92 ([.int .i64 x73.1, .slice A75 x73.2.1.length c76, .slice A79 x73.2.2.length c80]), .row (.slice A75 x73.2.1.length c76) 3 1 x73.2.1.length cs77, .sn S9] (by decide) rfl
            refine hK _ _ (fun _ _ => HS) ?_
            clear hK
            refine d_takeP h (fun _ => HS) HN 39 rfl (by kernel_rfl) (by kernel_rfl) (by kernel_rfl) (by decide) rfl rfl (by decide) (fun w' => x_assign h.k _ rfl rfl) (fun a h => ?_)
            refine d_done (by kernel_rfl) (HE _ _ ?_) _
            refine e_thenN ?_
            refine c_r ?_
            refine sMV h (fun a h => ?_)
            obtain ⟨x272, h273, hc148⟩ := bsome hc148
            have hX := chatelaineref02_Times_ok Fu (S0 := snapAll _) x69 hr70 2 (show r64 2 from ⟨by decide, by decide⟩) _ h273 _ h.startAll
            refine q_callX hX h rfl rfl rfl (by decide) Try.func59 rfl rfl rfl (fun a w v L1 S1 hR hb1 h => ?_)
            obtain ⟨rfl, rfl, hr275, _⟩ := hR
            refine sAV h (fun a h => ?_)
            refine l_nil ?_
            refine e_thenN ?_
            have h := h.pick [2, 3, 0, 4] (by decide) rfl
            exact ⟨x272, [x185, x202, x229, x256], A270, 4, ([[.int .i64 x185], [.int .i64 x202], [.int .i64 x229], [.int .i64 x256]] : List (List Value)).flatten, (Option.some.inj hc148), hr275, hb271, h.has (by exact ⟨rfl, rfl, rfl, rfl, rfl, trivial⟩)⟩
          · rw [if_neg (of_decide_eq_false hb)] at hc148
            refine c_rs ?_
            refine sMV h (fun a h => ?_)
            refine s_x h rfl rfl (by decide) (x_bin h.k rfl rfl rfl ib_eql) (fun a h => ?_)
            refine sMV h (fun a h => ?_)
            refine q_grp h 4 (t := 133) 137 ((decide (w64 (Int.tdiv (a0.length : Int) 4) = 8)) && (decide (Int.tmod x71 8 = 4))) rfl (fun hB2 => ?_) (fun hB2 => ?_) (fun a w h => ?_)
            · refine g_yes h rfl rfl rfl rfl hB2 ?_
              refine sMV h (fun a h => ?_)
              refine g_yes h rfl rfl rfl rfl hB2 ?_
              refine s_x h rfl rfl (by decide) (x_bin h.k rfl rfl rfl (ib_remw (by decide))) (fun a h => ?_)
              refine g_yes h rfl rfl rfl rfl hB2 ?_
              refine s_x h rfl rfl (by decide) (x_bin h.k rfl rfl rfl ib_eql) (fun a h => ?_)
              refine s_x h rfl rfl (by decide) (x_pick (u' := undef) h.k rfl rfl (fun _ => rfl) (fun hh => absurd (hB2.symm.trans hh) (by decide))) (fun a h => ?_)
              exact (h.mid 3 rfl).val (by first | rfl | (rw [hB2]; first | rfl | simp))
            · refine g_no h rfl rfl rfl rfl hB2 rfl (by decide) (fun a h => ?_)
              refine g_no h rfl rfl rfl rfl hB2 rfl (by decide) (fun a h => ?_)
              refine g_no h rfl rfl rfl rfl hB2 rfl (by decide) (fun a h => ?_)
              refine s_x h rfl rfl (by decide) (x_pick (u' := undef) h.k rfl rfl (fun hh => absurd (hB2.symm.trans hh) (by decide)) (fun _ => rfl)) (fun a h => ?_)
              exact (h.mid 3 rfl).val (by first | rfl | (rw [hB2]; first | rfl | simp))
            refine l_end ?_
            refine c_cond h rfl (fun hb => ?_) (fun hb => ?_)
            · rw [if_pos hb] at hc148
              -- region 16 draws
              obtain ⟨m278, h279, hc148⟩ := bsome hc148
              obtain ⟨x284, h285, hc148⟩ := bsome hc148
              obtain ⟨x291, h295, hc148⟩ := bsome hc148
              obtain ⟨m305, h306, hc148⟩ := bsome hc148
              obtain ⟨x311, h312, hc148⟩ := bsome hc148
              obtain ⟨x318, h322, hc148⟩ := bsome hc148
              obtain ⟨m332, h333, hc148⟩ := bsome hc148
              obtain ⟨x338, h339, hc148⟩ := bsome hc148
              obtain ⟨x345, h349, hc148⟩ := bsome hc148
              obtain ⟨m359, h360, hc148⟩ := bsome hc148
              obtain ⟨x365, h366, hc148⟩ := bsome hc148
              obtain ⟨x372, h376, hc148⟩ := bsome hc148
              refine d_start h (Mem _ _ _) 38 38 rfl (by kernel_rfl) (fun _ _ _ _ _ h => h) (fun _ h => h) (fun Q a w HE HN h HS => ?_)
              refine d_takeP h (fun _ => HS) HN 0 rfl (by kernel_rfl) (by kernel_rfl) (by kernel_rfl) (by decide) rfl rfl (by decide) (fun w' => x_move h.k _ rfl rfl) (fun a h => ?_)
              refine d_takeP h (fun _ => HS) HN 1 rfl (by kernel_rfl) (by kernel_rfl) (by kernel_rfl) (by decide) rfl rfl (by decide) (fun w' => x_nil h.k rfl rfl) (fun a h => ?_)
              refine d_takeP h (fun _ => HS) HN 2 rfl (by kernel_rfl) (by kernel_rfl) (by kernel_rfl) (by decide) rfl rfl (by decide) (fun w' => x_faddr h.k rfl Try.underlying92 rfl sz_Sint rfl) (fun a h => ?_)
              refine d_take h HS HN 3 rfl (by kernel_rfl) (by kernel_rfl) (by kernel_rfl) (by kernel_rfl) (by kernel_rfl) rfl rfl (by decide) (fun w' hw => x_ld h.k rfl Try.underlying89 rfl rfl ((hw.cell (i := 1) rfl 2).trans rfl)) (fun a h => ?_)
              refine d_takeP h (fun _ => HS) HN 4 rfl (by kernel_rfl) (by kernel_rfl) (by kernel_rfl) (by decide) rfl rfl (by decide) (fun w' => x_move h.k _ rfl rfl) (fun a h => ?_)
              obtain ⟨hi280, hm281⟩ := ix_some h279
              obtain ⟨g283, hA282⟩ := h.m.rowHead (i := 0) rfl (Nat.lt_of_le_of_lt (Nat.zero_le _) hm281)
              refine d_takeP h (fun _ => HS) HN 5 rfl (by kernel_rfl) (by kernel_rfl) (by kernel_rfl) (by decide) rfl rfl (by decide) (fun w' => x_iaddrE h.k rfl Try.underlying89 sz_int hA282 rfl rfl hi280 hm281) (fun a h => ?_)
              obtain ⟨u286, hv287, hu288⟩ := (hb146).cell rfl h285
              obtain ⟨e290, hr289⟩ := hu288
              cases e290
              refine d_take h HS HN 6 rfl (by kernel_rfl) (by kernel_rfl) (by kernel_rfl) (by kernel_rfl) (by kernel_rfl) rfl rfl (by decide) (fun w' hw => x_ld h.k rfl Try.underlying3 rfl rfl (hw.cellRowE (i := 0) rfl hA282 _ (by rw [Nat.mul_one]; exact hv287))) (fun a h => ?_)
              obtain ⟨m292, hi296, hm297, hx298⟩ := idx_some h295
              obtain ⟨b293, off294, k299, hA300, hu301, hc302⟩ := (hs81).at1 rfl hx298 (h.m.snOK (i := 3) rfl)
              obtain ⟨e304, hr303⟩ := hu301
              cases e304
              refine d_takeP h (fun _ => HS) HN 7 rfl (by kernel_rfl) (by kernel_rfl) (by kernel_rfl) (by decide) rfl rfl (by decide) (fun w' => x_iaddrE h.k rfl Try.underlying89 sz_int hA300 rfl rfl hi296 hm297) (fun a h => ?_)
              refine d_take h HS HN 8 rfl (by kernel_rfl) (by kernel_rfl) (by kernel_rfl) (by kernel_rfl) (by kernel_rfl) rfl rfl (by decide) (fun w' hw => x_ld h.k rfl Try.underlying3 rfl rfl (hc302 _ (hw.snOK (i := 3) rfl))) (fun a h => ?_)
              refine d_takeP h (fun _ => HS) HN 9 rfl (by kernel_rfl) (by kernel_rfl) (by kernel_rfl) (by decide) rfl rfl (by decide) (fun w' => x_move h.k _ rfl rfl) (fun a h => ?_)
              refine d_takeP h (fun _ => HS) HN 10 rfl (by kernel_rfl) (by kernel_rfl) (by kernel_rfl) (by decide) rfl rfl (by decide) (fun w' => x_nil h.k rfl rfl) (fun a h => ?_)
              refine d_takeP h (fun _ => HS) HN 11 rfl (by kernel_rfl) (by kernel_rfl) (by kernel_rfl) (by decide) rfl rfl (by decide) (fun w' => x_faddr h.k rfl Try.underlying92 rfl sz_Sint rfl) (fun a h => ?_)
              refine d_take h HS HN 12 rfl (by kernel_rfl) (by kernel_rfl) (by kernel_rfl) (by kernel_rfl) (by kernel_rfl) rfl rfl (by decide) (fun w' hw => x_ld h.k rfl Try.underlying89 rfl rfl ((hw.cell (i := 1) rfl 2).trans rfl)) (fun a h => ?_)
              refine d_takeP h (fun _ => HS) HN 13 rfl (by kernel_rfl) (by kernel_rfl) (by kernel_rfl) (by decide) rfl rfl (by decide) (fun w' => x_move h.k _ rfl rfl) (fun a h => ?_)
              obtain ⟨hi307, hm308⟩ := ix_some h306
              obtain ⟨g310, hA309⟩ := h.m.rowHead (i := 0) rfl (Nat.lt_of_le_of_lt (Nat.zero_le _) hm308)
              refine d_takeP h (fun _ => HS) HN 14 rfl (by kernel_rfl) (by kernel_rfl) (by kernel_rfl) (by decide) rfl rfl (by decide) (fun w' => x_iaddrE h.k rfl Try.underlying89 sz_int hA309 rfl rfl hi307 hm308) (fun a h => ?_)
              obtain ⟨u313, hv314, hu315⟩ := (hb146).cell rfl h312
              obtain ⟨e317, hr316⟩ := hu315
              cases e317
              refine d_take h HS HN 15 rfl (by kernel_rfl) (by kernel_rfl) (by kernel_rfl) (by kernel_rfl) (by kernel_rfl) rfl rfl (by decide) (fun w' hw => x_ld h.k rfl Try.underlying3 rfl rfl (hw.cellRowE (i := 0) rfl hA309 _ (by rw [Nat.mul_one]; exact hv314))) (fun a h => ?_)
              obtain ⟨m319, hi323, hm324, hx325⟩ := idx_some h322
              obtain ⟨b320, off321, k326, hA327, hu328, hc329⟩ := (hs81).at1 rfl hx325 (h.m.snOK (i := 3) rfl)
              obtain ⟨e331, hr330⟩ := hu328
              cases e331
              refine d_takeP h (fun _ => HS) HN 16 rfl (by kernel_rfl) (by kernel_rfl) (by kernel_rfl) (by decide) rfl rfl (by decide) (fun w' => x_iaddrE h.k rfl Try.underlying89 sz_int hA327 rfl rfl hi323 hm324) (fun a h => ?_)
              refine d_take h HS HN 17 rfl (by kernel_rfl) (by kernel_rfl) (by kernel_rfl) (by kernel_rfl) (by kernel_rfl) rfl rfl (by decide) (fun w' hw => x_ld h.k rfl Try.underlying3 rfl rfl (hc329 _ (hw.snOK (i := 3) rfl))) (fun a h => ?_)
              refine d_takeP h (fun _ => HS) HN 18 rfl (by kernel_rfl) (by kernel_rfl) (by kernel_rfl) (by decide) rfl rfl (by decide) (fun w' => x_move h.k _ rfl rfl) (fun a h => ?_)
              refine d_takeP h (fun _ => HS) HN 19 rfl (by kernel_rfl) (by kernel_rfl) (by kernel_rfl) (by decide) rfl rfl (by decide) (fun w' => x_nil h.k rfl rfl) (fun a h => ?_)
              refine d_takeP h (fun _ => HS) HN 20 rfl (by kernel_rfl) (by kernel_rfl) (by kernel_rfl) (by decide) rfl rfl (by decide) (fun w' => x_faddr h.k rfl Try.underlying92 rfl sz_Sint rfl) (fun a h => ?_)
              refine d_take h HS HN 21 rfl (by kernel_rfl) (by kernel_rfl) (by kernel_rfl) (by kernel_rfl) (by kernel_rfl) rfl rfl (by decide) (fun w' hw => x_ld h.k rfl Try.underlying89 rfl rfl ((hw.cell (i := 1) rfl 2).trans rfl)) (fun a h => ?_)
              refine d_takeP h (fun _ => HS) HN 22 rfl (by kernel_rfl) (by kernel_rfl) (by kernel_rfl) (by decide) rfl rfl (by decide) (fun w' => x_move h.k _ rfl rfl) (fun a h => ?_)
              obtain ⟨hi334, hm335⟩ := ix_some h333
              obtain ⟨g337, hA336⟩ := h.m.rowHead (i := 0) rfl (Nat.lt_of_le_of_lt (Nat.zero_le _) hm335)
              refine d_takeP h (fun _ => HS) HN 23 rfl (by kernel_rfl) (by kernel_rfl) (by kernel_rfl) (by decide) rfl rfl (by decide) (fun w' => x_iaddrE h.k rfl Try.underlying89 sz_int hA336 rfl rfl hi334 hm335) (fun a h => ?_)
              obtain ⟨u340, hv341, hu342⟩ := (hb146).cell rfl h339
              obtain ⟨e344, hr343⟩ := hu342
              cases e344
              refine d_take h HS HN 24 rfl (by kernel_rfl) (by kernel_rfl) (by kernel_rfl) (by kernel_rfl) (by kernel_rfl) rfl rfl (by decide) (fun w' hw => x_ld h.k rfl Try.underlying3 rfl rfl (hw.cellRowE (i := 0) rfl hA336 _ (by rw [Nat.mul_one]; exact hv341))) (fun a h => ?_)
              obtain ⟨m346, hi350, hm351, hx352⟩ := idx_some h349
              obtain ⟨b347, off348, k353, hA354, hu355, hc356⟩ := (hs81).at1 rfl hx352 (h.m.snOK (i := 3) rfl)
              obtain ⟨e358, hr357⟩ := hu355
              cases e358
              refine d_takeP h (fun _ => HS) HN 25 rfl (by kernel_rfl) (by kernel_rfl) (by kernel_rfl) (by decide) rfl rfl (by decide) (fun w' => x_iaddrE h.k rfl Try.underlying89 sz_int hA354 rfl rfl hi350 hm351) (fun a h => ?_)
              refine d_take h HS HN 26 rfl (by kernel_rfl) (by kernel_rfl) (by kernel_rfl) (by kernel_rfl) (by kernel_rfl) rfl rfl (by decide) (fun w' hw => x_ld h.k rfl Try.underlying3 rfl rfl (hc356 _ (hw.snOK (i := 3) rfl))) (fun a h => ?_)
              refine d_takeP h (fun _ => HS) HN 27 rfl (by kernel_rfl) (by kernel_rfl) (by kernel_rfl) (by decide) rfl rfl (by decide) (fun w' => x_move h.k _ rfl rfl) (fun a h => ?_)
              refine d_takeP h (fun _ => HS) HN 28 rfl (by kernel_rfl) (by kernel_rfl) (by kernel_rfl) (by decide) rfl rfl (by decide) (fun w' => x_nil h.k rfl rfl) (fun a h => ?_)
              refine d_takeP h (fun _ => HS) HN 29 rfl (by kernel_rfl) (by kernel_rfl) (by kernel_rfl) (by decide) rfl rfl (by decide) (fun w' => x_faddr h.k rfl Try.underlying92 rfl sz_Sint rfl) (fun a h => ?_)
              refine d_take h HS HN 30 rfl (by kernel_rfl) (by kernel_rfl) (by kernel_rfl) (by kernel_rfl) (by kernel_rfl) rfl rfl (by decide) (fun w' hw => x_ld h.k rfl Try.underlying89 rfl rfl ((hw.cell (i := 1) rfl 2).trans rfl)) (fun a h => ?_)
              refine d_takeP h (fun _ => HS) HN 31 rfl (by kernel_rfl) (by kernel_rfl) (by kernel_rfl) (by decide) rfl rfl (by decide) (fun w' => x_move h.k _ rfl rfl) (fun a h => ?_)
              obtain ⟨hi361, hm362⟩ := ix_some h360
              obtain ⟨g364, hA363⟩ := h.m.rowHead (i := 0) rfl (Nat.lt_of_le_of_lt (Nat.zero_le _) hm362)
              refine d_takeP h (fun _ => HS) HN 32 rfl (by kernel_rfl) (by kernel_rfl) (by kernel_rfl) (by decide) rfl rfl (by decide) (fun w' => x_iaddrE h.k rfl Try.underlying89 sz_int hA363 rfl rfl hi361 hm362) (fun a h => ?_)
              obtain ⟨u367, hv368, hu369⟩ := (hb146).cell rfl h366
              obtain ⟨e371, hr370⟩ := hu369
              cases e371
              refine d_take h HS HN 33 rfl (by kernel_rfl) (by kernel_rfl) (by kernel_rfl) (by kernel_rfl) (by kernel_rfl) rfl rfl (by decide) (fun w' hw => x_ld h.k rfl Try.underlying3 rfl rfl (hw.cellRowE (i := 0) rfl hA363 _ (by rw [Nat.mul_one]; exact hv368))) (fun a h => ?_)
              obtain ⟨m373, hi377, hm378, hx379⟩ := idx_some h376
              obtain ⟨b374, off375, k380, hA381, hu382, hc383⟩ := (hs81).at1 rfl hx379 (h.m.snOK (i := 3) rfl)
              obtain ⟨e385, hr384⟩ := hu382
              cases e385
              refine d_takeP h (fun _ => HS) HN 34 rfl (by kernel_rfl) (by kernel_rfl) (by kernel_rfl) (by decide) rfl rfl (by decide) (fun w' => x_iaddrE h.k rfl Try.underlying89 sz_int hA381 rfl rfl hi377 hm378) (fun a h => ?_)
              refine d_take h HS HN 35 rfl (by kernel_rfl) (by kernel_rfl) (by kernel_rfl) (by kernel_rfl) (by kernel_rfl) rfl rfl (by decide) (fun w' hw => x_ld h.k rfl Try.underlying3 rfl rfl (hc383 _ (hw.snOK (i := 3) rfl))) (fun a h => ?_)
              refine d_alone 36 rfl (by kernel_rfl) (fun K hK => ?_)
              refine q_bslice (T := tyI) (S := S9) h rfl rfl rfl (by decide) Try.underlying89 zi_int (by decide) (by decide) (by decide) (by decide) [.int .i64 x291, .int .i64 x318, .int .i64 x345, .int .i64 x372] rfl rfl (C := [[.int .i64 x291], [.int .i64 x318], [.int .i64 x345], [.int .i64 x372]]) rfl (xs := [x291, x318, x345, x372]) ⟨[.int .i64 x291], _, rfl, ⟨rfl, hr303⟩, ⟨[.int .i64 x318], _, rfl, ⟨rfl, hr330⟩, ⟨[.int .i64 x345], _, rfl, ⟨rfl, hr357⟩, ⟨[.int .i64 x372], _, rfl, ⟨rfl, hr384⟩, rfl⟩⟩⟩⟩ (by simp only [List.mem_cons, List.not_mem_nil, or_false]; rintro c (rfl | rfl | rfl | rfl) <;> rfl) (fun a w A386 h => ?_)
              have hb387 : reps tyI S9 ([[.int .i64 x291], [.int .i64 x318], [.int .i64 x345], [.int .i64 x372]] : List (List Value)).flatten [x291, x318, x345, x372] := ⟨[.int .i64 x291], _, rfl, ⟨rfl, hr303⟩, ⟨[.int .i64 x318], _, rfl, ⟨rfl, hr330⟩, ⟨[.int .i64 x345], _, rfl, ⟨rfl, hr357⟩, ⟨[.int .i64 x372], _, rfl, ⟨rfl, hr384⟩, rfl⟩⟩⟩⟩
              replace HS := h.m.pick [1, 2, 3, 4] [.row (.slice A145 ([x99, x112, x125, x138]).length 4) 3 1 ([x99, x112, x125, x138]).length ([[.int .i64 x99], [.int .i64 x112], [.int .i64 x125], [.int .i64 x138]] : List (List Value)).flatten, .box g13 92 ([.int .i64 x73.1, .slice A75 x73.2.1.length c76, .slice A79 x73.2.2.length c80]), .row (.slice A75 x73.2.1.length c76) 3 1 x73.2.1.length cs77, .sn S9] (by decide) rfl
              refine hK _ _ (fun _ _ => HS) ?_
              clear hK
              refine d_takeP h (fun _ => HS) HN 37 rfl (by kernel_rfl) (by kernel_rfl) (by kernel_rfl) (by decide) rfl rfl (by decide) (fun w' => x_assign h.k _ rfl rfl) (fun a h => ?_)
              refine d_done (by kernel_rfl) (HE _ _ ?_) _
              refine e_thenN ?_
              have h := h.pick [2, 3, 0, 4] (by decide) rfl
              exact ⟨x69, [x291, x318, x345, x372], A386, 4, ([[.int .i64 x291], [.int .i64 x318], [.int .i64 x345], [.int .i64 x372]] : List (List Value)).flatten, (Option.some.inj hc148), hr70, hb387, h.has (by exact ⟨rfl, rfl, rfl, rfl, rfl, trivial⟩)⟩
            · rw [if_neg (by rw [hb]; decide)] at hc148
              refine wp_skip ?_
              refine e_thenN ?_
              have h := h.pick [1, 2, 0, 3] (by decide) rfl
              exact ⟨x69, [x99, x112, x125, x138], A145, 4, ([[.int .i64 x99], [.int .i64 x112], [.int .i64 x125], [.int .i64 x138]] : List (List Value)).flatten, (Option.some.inj hc148), hr70, hb146, h.has (by exact ⟨rfl, rfl, rfl, rfl, rfl, trivial⟩)⟩
        · rintro a w ⟨x149, x151, A152, c153, cs154, rfl, hr150, hq155, h⟩
          try dsimp only at hl91
          refine c_rs ?_
          refine sAV h (fun a h => ?_)
          refine l_end ?_
          obtain ⟨o388, hl389, hl91⟩ := bsome hl91
          refine c_fin (fun a w => ∃ (x401 : Int × (List Int) × (List Int)), ∃ (A403 : Option Addr), ∃ (c404 : Nat), ∃ (cs405 : List Value), ∃ (A407 : Option Addr), ∃ (c408 : Nat), x401 = o388 ∧ r64 x401.1 ∧ reps tyI S9 cs405 x401.2.1 ∧ slS tyI S9 A407 c408 x401.2.2 ∧ St 206 w0 (ownL ([] ++ [.sn S0])) [(3, .int .i64 (w64 (Int.tdiv (a0.length : Int) 4))), (4, .pointer (some ⟨g13, 0, none⟩)), (6, .int .i64 x149), (7, .int .i64 x71)] [.box g13 92 ([.int .i64 x401.1, .slice A403 x401.2.1.length c404, .slice A407 x401.2.2.length c408]), .row (.slice A403 x401.2.1.length c404) 3 1 x401.2.1.length cs405, .sn S9] a w) ?_ ?_
          · refine wp_block ?_
            refine c_loop (fun m411 a w => ∃ (x390 : Int), ∃ (x392 : Int × (List Int) × (List Int)), ∃ (A394 : Option Addr), ∃ (c395 : Nat), ∃ (cs396 : List Value), ∃ (A398 : Option Addr), ∃ (c399 : Nat), chatelaineref04_Make_l2 Fu a0 x71 x151 m411 x390 x392 = some o388 ∧ r64 x390 ∧ r64 x392.1 ∧ reps tyI S9 cs396 x392.2.1 ∧ slS tyI S9 A398 c399 x392.2.2 ∧ St 206 w0 (ownL ([] ++ [.sn S0])) [(3, .int .i64 (w64 (Int.tdiv (a0.length : Int) 4))), (4, .pointer (some ⟨g13, 0, none⟩)), (6, .int .i64 x149), (7, .int .i64 x71), (8, .slice A152 x151.length c153), (9, .int .i64 x390)] [.box g13 92 ([.int .i64 x392.1, .slice A394 x392.2.1.length c395, .slice A398 x392.2.2.length c399]), .row (.slice A394 x392.2.1.length c395) 3 1 x392.2.1.length cs396, .row (.slice A152 x151.length c153) 3 1 x151.length cs154, .sn S9] a w) Fu ⟨0, x73, A75, c76, cs77, A79, c80, hl389, (show r64 0 from ⟨by decide, by decide⟩), hr74, hq78, hs81, h.has (by exact ⟨rfl, rfl, rfl, rfl, rfl, rfl, trivial⟩)⟩ (fun m411 a w hI => ?_)
            obtain ⟨x390, x392, A394, c395, cs396, A398, c399, hl410, hr391, hr393, hq397, hs400, h⟩ := hI
            obtain _ | m411 := m411
            · rw [chatelaineref04_Make_l2] at hl410; cases hl410
            rw [chatelaineref04_Make_l2] at hl410
            refine wp_seq ?_
            refine c_rs ?_
            refine sMV h (fun a h => ?_)
            refine s_x h rfl rfl (by decide) (x_bin h.k rfl rfl rfl ib_lss) (fun a h => ?_)
            refine l_end ?_
            refine c_cond h rfl (fun hb => ?_) (fun hb => ?_)
            · rw [if_pos (of_decide_eq_true hb)] at hl410
              refine wp_skip ?_
              refine e_thenN ?_
              refine wp_seq ?_
              refine wp_block ?_
              -- region 20 draws
              obtain ⟨m412, h413, hl410⟩ := bsome hl410
              obtain ⟨x418, h419, hl410⟩ := bsome hl410
              obtain ⟨m425, h426, hl410⟩ := bsome hl410
              obtain ⟨x431, h432, hl410⟩ := bsome hl410
              obtain ⟨x438, h439, hl410⟩ := bsome hl410
              obtain ⟨x444, h445, hl410⟩ := bsome hl410
              refine c_fin (fun a w => ∃ (A451 : Option Addr), ∃ (c452 : Nat), ∃ (cs453 : List Value), ∃ (A455 : Option Addr), ∃ (c456 : Nat), r64 ((x392.1, x444, x392.2.2).1) ∧ reps tyI S9 cs453 ((x392.1, x444, x392.2.2).2.1) ∧ slS tyI S9 A455 c456 ((x392.1, x444, x392.2.2).2.2) ∧ St 206 w0 (ownL ([] ++ [.sn S0])) [(3, .int .i64 (w64 (Int.tdiv (a0.length : Int) 4))), (4, .pointer (some ⟨g13, 0, none⟩)), (6, .int .i64 x149), (7, .int .i64 x71), (8, .slice A152 x151.length c153), (9, .int .i64 x390)] [.box g13 92 ([.int .i64 ((x392.1, x444, x392.2.2).1), .slice A451 ((x392.1, x444, x392.2.2).2.1).length c452, .slice A455 ((x392.1, x444, x392.2.2).2.2).length c456]), .row (.slice A451 ((x392.1, x444, x392.2.2).2.1).length c452) 3 1 ((x392.1, x444, x392.2.2).2.1).length cs453, .row (.slice A152 x151.length c153) 3 1 x151.length cs154, .sn S9] a w) ?_ (fun a w h => ?_)
              · refine d_start h (Mem _ _ _) 27 27 rfl (by kernel_rfl) (fun _ _ _ _ _ h => h) (fun _ h => h.pick [2, 3] [.row (.slice A152 x151.length c153) 3 1 x151.length cs154, .sn S9] (by decide) rfl) (fun Q a w HE HN h HS => ?_)
                refine d_takeP h (fun _ => HS) HN 0 rfl (by kernel_rfl) (by kernel_rfl) (by kernel_rfl) (by decide) rfl rfl (by decide) (fun w' => x_move h.k _ rfl rfl) (fun a h => ?_)
                refine d_takeP h (fun _ => HS) HN 1 rfl (by kernel_rfl) (by kernel_rfl) (by kernel_rfl) (by decide) rfl rfl (by decide) (fun w' => x_move h.k _ rfl rfl) (fun a h => ?_)
                refine d_takeP h (fun _ => HS) HN 2 rfl (by kernel_rfl) (by kernel_rfl) (by kernel_rfl) (by decide) rfl rfl (by decide) (fun w' => x_nil h.k rfl rfl) (fun a h => ?_)
                refine d_takeP h (fun _ => HS) HN 3 rfl (by kernel_rfl) (by kernel_rfl) (by kernel_rfl) (by decide) rfl rfl (by decide) (fun w' => x_faddr h.k rfl Try.underlying92 rfl sz_Sint rfl) (fun a h => ?_)
                refine d_takeP h (fun _ => HS) HN 5 rfl (by kernel_rfl) (by kernel_rfl) (by kernel_rfl) (by decide) rfl rfl (by decide) (fun w' => x_move h.k _ rfl rfl) (fun a h => ?_)
                refine d_takeP h (fun _ => HS) HN 6 rfl (by kernel_rfl) (by kernel_rfl) (by kernel_rfl) (by decide) rfl rfl (by decide) (fun w' => x_nil h.k rfl rfl) (fun a h => ?_)
                refine d_takeP h (fun _ => HS) HN 7 rfl (by kernel_rfl) (by kernel_rfl) (by kernel_rfl) (by decide) rfl rfl (by decide) (fun w' => x_faddr h.k rfl Try.underlying92 rfl sz_Sint rfl) (fun a h => ?_)
                refine d_takeP h (fun _ => HS) HN 9 rfl (by kernel_rfl) (by kernel_rfl) (by kernel_rfl) (by decide) rfl rfl (by decide) (fun w' => x_move h.k _ rfl rfl) (fun a h => ?_)
                refine d_takeP h (fun _ => HS) HN 10 rfl (by kernel_rfl) (by kernel_rfl) (by kernel_rfl) (by decide) rfl rfl (by decide) (fun w' => x_move h.k _ rfl rfl) (fun a h => ?_)
                refine d_takeP h (fun _ => HS) HN 11 rfl (by kernel_rfl) (by kernel_rfl) (by kernel_rfl) (by decide) rfl rfl (by decide) (fun w' => x_bin h.k rfl rfl rfl (ib_sub rfl)) (fun a h => ?_)
                refine d_takeP h (fun _ => HS) HN 12 rfl (by kernel_rfl) (by kernel_rfl) (by kernel_rfl) (by decide) rfl rfl (by decide) (fun w' => x_bin h.k rfl rfl rfl (ib_mul rfl)) (fun a h => ?_)
                refine d_takeP h (fun _ => HS) HN 13 rfl (by kernel_rfl) (by kernel_rfl) (by kernel_rfl) (by decide) rfl rfl (by decide) (fun w' => x_move h.k _ rfl rfl) (fun a h => ?_)
                refine d_takeP h (fun _ => HS) HN 14 rfl (by kernel_rfl) (by kernel_rfl) (by kernel_rfl) (by decide) rfl rfl (by decide) (fun w' => x_bin h.k rfl rfl rfl (ib_add rfl)) (fun a h => ?_)
                refine d_takeP h (fun _ => HS) HN 17 rfl (by kernel_rfl) (by kernel_rfl) (by kernel_rfl) (by decide) rfl rfl (by decide) (fun w' => x_move h.k _ rfl rfl) (fun a h => ?_)
                refine d_takeP h (fun _ => HS) HN 18 rfl (by kernel_rfl) (by kernel_rfl) (by kernel_rfl) (by decide) rfl rfl (by decide) (fun w' => x_move h.k _ rfl rfl) (fun a h => ?_)
                obtain ⟨hi427, hm428⟩ := ix_some h426
                obtain ⟨g430, hA429⟩ := h.m.rowHead (i := 2) rfl (Nat.lt_of_le_of_lt (Nat.zero_le _) hm428)
                refine d_takeP h (fun _ => HS) HN 19 rfl (by kernel_rfl) (by kernel_rfl) (by kernel_rfl) (by decide) rfl rfl (by decide) (fun w' => x_iaddrE h.k rfl Try.underlying89 sz_int hA429 rfl rfl hi427 hm428) (fun a h => ?_)
                obtain ⟨u433, hv434, hu435⟩ := (hq155).cell rfl h432
                obtain ⟨e437, hr436⟩ := hu435
                cases e437
                refine d_take h HS HN 20 rfl (by kernel_rfl) (by kernel_rfl) (by kernel_rfl) (by kernel_rfl) (by kernel_rfl) rfl rfl (by decide) (fun w' hw => x_ld h.k rfl Try.underlying3 rfl rfl (hw.cellRowE (i := 0) rfl hA429 _ (by rw [Nat.mul_one]; exact hv434))) (fun a h => ?_)
                refine d_two 4 8 (by kernel_rfl) (d_one 4 rfl _ (fun K hK => ?_)) (d_one 8 rfl _ (fun K hK => ?_))
                · refine s_x h rfl rfl (by decide) (x_ld h.k rfl Try.underlying89 rfl rfl ((h.m.cell (i := 0) rfl 1).trans rfl)) (fun a h => ?_)
                  refine hK _ _ ⟨fun _ _ => HS, ?_⟩
                  clear hK
                  refine d_alone 8 rfl (by kernel_rfl) (fun K hK => ?_)
                  refine s_x h rfl rfl (by decide) (x_ld h.k rfl Try.underlying89 rfl rfl ((h.m.cell (i := 0) rfl 1).trans rfl)) (fun a h => ?_)
                  refine hK _ _ (fun _ _ => HS) ?_
                  clear hK
                  obtain ⟨hi414, hm415⟩ := ix_some h413
                  obtain ⟨g417, hA416⟩ := h.m.rowHead (i := 1) rfl (Nat.lt_of_le_of_lt (Nat.zero_le _) hm415)
                  refine d_takeP h (fun _ => HS) HN 15 rfl (by kernel_rfl) (by kernel_rfl) (by kernel_rfl) (by decide) rfl rfl (by decide) (fun w' => x_iaddrE h.k rfl Try.underlying89 sz_int hA416 rfl rfl hi414 hm415) (fun a h => ?_)
                  refine d_alone 16 rfl (by kernel_rfl) (fun K hK => ?_)
                  obtain ⟨u420, hv421, hu422⟩ := (hq397).cell rfl h419
                  obtain ⟨e424, hr423⟩ := hu422
                  cases e424
                  refine s_x h rfl rfl (by decide) (x_ld h.k rfl Try.underlying3 rfl rfl (h.m.cellRowE (i := 1) rfl hA416 _ (by rw [Nat.mul_one]; exact hv421))) (fun a h => ?_)
                  refine hK _ _ (fun _ _ => HS) ?_
                  clear hK
                  refine d_alone 21 rfl (by kernel_rfl) (fun K hK => ?_)
                  have hX := chatelaineref04_xor_ok Fu (S0 := snapAll _) x418 hr423 x431 hr436 _ h439 _ h.startAll
                  refine q_callX hX h rfl rfl rfl (by decide) Try.func58 rfl rfl rfl (fun a w v L1 S1 hR hb1 h => ?_)
                  obtain ⟨rfl, rfl, hr441, _⟩ := hR
                  replace HS := h.m.pick [2, 3] [.row (.slice A152 x151.length c153) 3 1 x151.length cs154, .sn S9] (by decide) rfl
                  refine hK _ _ (fun _ _ => HS) ?_
                  clear hK
                  refine d_alone 22 rfl (by kernel_rfl) (fun K hK => ?_)
                  refine q_bslice (T := tyI) (S := S9) h rfl rfl rfl (by decide) Try.underlying89 zi_int (by decide) (by decide) (by decide) (by decide) [.int .i64 x438] rfl rfl (C := [[.int .i64 x438]]) rfl (xs := [x438]) ⟨[.int .i64 x438], _, rfl, ⟨rfl, hr441⟩, rfl⟩ (by intro c hc; simp only [List.mem_cons, List.not_mem_nil, or_false] at hc; subst hc; rfl) (fun a w A442 h => ?_)
                  have hb443 : reps tyI S9 ([[.int .i64 x438]] : List (List Value)).flatten [x438] := ⟨[.int .i64 x438], _, rfl, ⟨rfl, hr441⟩, rfl⟩
                  replace HS := h.m.pick [3, 4] [.row (.slice A152 x151.length c153) 3 1 x151.length cs154, .sn S9] (by decide) rfl
                  refine hK _ _ (fun _ _ => HS) ?_
                  clear hK
                  refine d_alone 23 rfl (by kernel_rfl) (fun K hK => ?_)
                  refine q_append (T := tyI) (S := S9) h rfl rfl rfl (by decide) Try.underlying89 zb_int rfl (by decide) rfl 2 rfl hq397 rfl hb443 (h.m.rdRowA (i := 0) rfl) h445 (fun a w A446 c447 cs448 hq449 h => ?_)
                  replace HS := h.m.pick [3, 4] [.row (.slice A152 x151.length c153) 3 1 x151.length cs154, .sn S9] (by decide) rfl
                  refine hK _ _ (fun _ _ => HS) ?_
                  clear hK
                  refine d_takeP h (fun _ => HS) HN 24 rfl (by kernel_rfl) (by kernel_rfl) (by kernel_rfl) (by decide) rfl rfl (by decide) (fun w' => x_nil h.k rfl rfl) (fun a h => ?_)
                  refine d_takeP h (fun _ => HS) HN 25 rfl (by kernel_rfl) (by kernel_rfl) (by kernel_rfl) (by decide) rfl rfl (by decide) (fun w' => x_faddr h.k rfl Try.underlying92 rfl sz_Sint rfl) (fun a h => ?_)
                  refine d_alone 26 rfl (by kernel_rfl) (fun K hK => ?_)
                  refine s_stb h rfl rfl rfl sz_Sint rfl rfl rfl 1 rfl (by first | decide | simp) (fun a w h => ?_)
                  replace HS := h.m.pick [3, 4] [.row (.slice A152 x151.length c153) 3 1 x151.length cs154, .sn S9] (by decide) rfl
                  refine hK _ _ (fun _ _ => HS) ?_
                  clear hK
                  refine d_done (by kernel_rfl) (HE _ _ ?_) _
                  refine e_thenN ?_
                  have h := h.pick [1, 2, 3, 4] (by decide) rfl
                  exact ⟨A446, c447, cs448, A398, c399, hr393, hq449, hs400, h.has (by exact ⟨rfl, rfl, rfl, rfl, rfl, rfl, trivial⟩)⟩
                · refine s_x h rfl rfl (by decide) (x_ld h.k rfl Try.underlying89 rfl rfl ((h.m.cell (i := 0) rfl 1).trans rfl)) (fun a h => ?_)
                  refine hK _ _ ⟨fun _ _ => HS, ?_⟩
                  clear hK
                  obtain ⟨hi414, hm415⟩ := ix_some h413
                  obtain ⟨g417, hA416⟩ := h.m.rowHead (i := 1) rfl (Nat.lt_of_le_of_lt (Nat.zero_le _) hm415)
                  refine d_takeP h (fun _ => HS) HN 15 rfl (by kernel_rfl) (by kernel_rfl) (by kernel_rfl) (by decide) rfl rfl (by decide) (fun w' => x_iaddrE h.k rfl Try.underlying89 sz_int hA416 rfl rfl hi414 hm415) (fun a h => ?_)
                  refine d_two 4 16 (by kernel_rfl) (d_one 4 rfl _ (fun K hK => ?_)) (d_one 16 rfl _ (fun K hK => ?_))
                  · refine s_x h rfl rfl (by decide) (x_ld h.k rfl Try.underlying89 rfl rfl ((h.m.cell (i := 0) rfl 1).trans rfl)) (fun a h => ?_)
                    refine hK _ _ ⟨fun _ _ => HS, ?_⟩
                    clear hK
                    refine d_alone 16 rfl (by kernel_rfl) (fun K hK => ?_)
                    obtain ⟨u420, hv421, hu422⟩ := (hq397).cell rfl h419
                    obtain ⟨e424, hr423⟩ := hu422
                    cases e424
                    refine s_x h rfl rfl (by decide) (x_ld h.k rfl Try.underlying3 rfl rfl (h.m.cellRowE (i := 1) rfl hA416 _ (by rw [Nat.mul_one]; exact hv421))) (fun a h => ?_)
                    refine hK _ _ (fun _ _ => HS) ?_
                    clear hK
                    refine d_alone 21 rfl (by kernel_rfl) (fun K hK => ?_)
                    have hX := chatelaineref04_xor_ok Fu (S0 := snapAll _) x418 hr423 x431 hr436 _ h439 _ h.startAll
                    refine q_callX hX h rfl rfl rfl (by decide) Try.func58 rfl rfl rfl (fun a w v L1 S1 hR hb1 h => ?_)
                    obtain ⟨rfl, rfl, hr441, _⟩ := hR
                    replace HS := h.m.pick [2, 3] [.row (.slice A152 x151.length c153) 3 1 x151.length cs154, .sn S9] (by decide) rfl
                    refine hK _ _ (fun _ _ => HS) ?_
                    clear hK
                    refine d_alone 22 rfl (by kernel_rfl) (fun K hK => ?_)
                    refine q_bslice (T := tyI) (S := S9) h rfl rfl rfl (by decide) Try.underlying89 zi_int (by decide) (by decide) (by decide) (by decide) [.int .i64 x438] rfl rfl (C := [[.int .i64 x438]]) rfl (xs := [x438]) ⟨[.int .i64 x438], _, rfl, ⟨rfl, hr441⟩, rfl⟩ (by intro c hc; simp only [List.mem_cons, List.not_mem_nil, or_false] at hc; subst hc; rfl) (fun a w A442 h => ?_)
                    have hb443 : reps tyI S9 ([[.int .i64 x438]] : List (List Value)).flatten [x438] := ⟨[.int .i64 x438], _, rfl, ⟨rfl, hr441⟩, rfl⟩
                    replace HS := h.m.pick [3, 4] [.row (.slice A152 x151.length c153) 3 1 x151.length cs154, .sn S9] (by decide) rfl
                    refine hK _ _ (fun _ _ => HS) ?_
                    clear hK
                    refine d_alone 23 rfl (by kernel_rfl) (fun K hK => ?_)
                    refine q_append (T := tyI) (S := S9) h rfl rfl rfl (by decide) Try.underlying89 zb_int rfl (by decide) rfl 2 rfl hq397 rfl hb443 (h.m.rdRowA (i := 0) rfl) h445 (fun a w A446 c447 cs448 hq449 h => ?_)
                    replace HS := h.m.pick [3, 4] [.row (.slice A152 x151.length c153) 3 1 x151.length cs154, .sn S9] (by decide) rfl
                    refine hK _ _ (fun _ _ => HS) ?_
                    clear hK
                    refine d_takeP h (fun _ => HS) HN 24 rfl (by kernel_rfl) (by kernel_rfl) (by kernel_rfl) (by decide) rfl rfl (by decide) (fun w' => x_nil h.k rfl rfl) (fun a h => ?_)
                    refine d_takeP h (fun _ => HS) HN 25 rfl (by kernel_rfl) (by kernel_rfl) (by kernel_rfl) (by decide) rfl rfl (by decide) (fun w' => x_faddr h.k rfl Try.underlying92 rfl sz_Sint rfl) (fun a h => ?_)
                    refine d_alone 26 rfl (by kernel_rfl) (fun K hK => ?_)
                    refine s_stb h rfl rfl rfl sz_Sint rfl rfl rfl 1 rfl (by first | decide | simp) (fun a w h => ?_)
                    replace HS := h.m.pick [3, 4] [.row (.slice A152 x151.length c153) 3 1 x151.length cs154, .sn S9] (by decide) rfl
                    refine hK _ _ (fun _ _ => HS) ?_
                    clear hK
                    refine d_done (by kernel_rfl) (HE _ _ ?_) _
                    refine e_thenN ?_
                    have h := h.pick [1, 2, 3, 4] (by decide) rfl
                    exact ⟨A446, c447, cs448, A398, c399, hr393, hq449, hs400, h.has (by exact ⟨rfl, rfl, rfl, rfl, rfl, rfl, trivial⟩)⟩
                  · obtain ⟨u420, hv421, hu422⟩ := (hq397).cell rfl h419
                    obtain ⟨e424, hr423⟩ := hu422
                    cases e424
                    refine s_x h rfl rfl (by decide) (x_ld h.k rfl Try.underlying3 rfl rfl (h.m.cellRowE (i := 1) rfl hA416 _ (by rw [Nat.mul_one]; exact hv421))) (fun a h => ?_)
                    refine hK _ _ ⟨fun _ _ => HS, ?_⟩
                    clear hK
                    refine d_two 4 21 (by kernel_rfl) (d_one 4 rfl _ (fun K hK => ?_)) (d_one 21 rfl _ (fun K hK => ?_))
                    · refine s_x h rfl rfl (by decide) (x_ld h.k rfl Try.underlying89 rfl rfl ((h.m.cell (i := 0) rfl 1).trans rfl)) (fun a h => ?_)
                      refine hK _ _ ⟨fun _ _ => HS, ?_⟩
                      clear hK
                      refine d_alone 21 rfl (by kernel_rfl) (fun K hK => ?_)
                      have hX := chatelaineref04_xor_ok Fu (S0 := snapAll _) x418 hr423 x431 hr436 _ h439 _ h.startAll
                      refine q_callX hX h rfl rfl rfl (by decide) Try.func58 rfl rfl rfl (fun a w v L1 S1 hR hb1 h => ?_)
                      obtain ⟨rfl, rfl, hr441, _⟩ := hR
                      replace HS := h.m.pick [2, 3] [.row (.slice A152 x151.length c153) 3 1 x151.length cs154, .sn S9] (by decide) rfl
                      refine hK _ _ (fun _ _ => HS) ?_
                      clear hK
                      refine d_alone 22 rfl (by kernel_rfl) (fun K hK => ?_)
                      refine q_bslice (T := tyI) (S := S9) h rfl rfl rfl (by decide) Try.underlying89 zi_int (by decide) (by decide) (by decide) (by decide) [.int .i64 x438] rfl rfl (C := [[.int .i64 x438]]) rfl (xs := [x438]) ⟨[.int .i64 x438], _, rfl, ⟨rfl, hr441⟩, rfl⟩ (by intro c hc; simp only [List.mem_cons, List.not_mem_nil, or_false] at hc; subst hc; rfl) (fun a w A442 h => ?_)
                      have hb443 : reps tyI S9 ([[.int .i64 x438]] : List (List Value)).flatten [x438] := ⟨[.int .i64 x438], _, rfl, ⟨rfl, hr441⟩, rfl⟩
                      replace HS := h.m.pick [3, 4] [.row (.slice A152 x151.length c153) 3 1 x151.length cs154, .sn S9] (by decide) rfl
                      refine hK _ _ (fun _ _ => HS) ?_
                      clear hK
                      refine d_alone 23 rfl (by kernel_rfl) (fun K hK => ?_)
                      refine q_append (T := tyI) (S := S9) h rfl rfl rfl (by decide) Try.underlying89 zb_int rfl (by decide) rfl 2 rfl hq397 rfl hb443 (h.m.rdRowA (i := 0) rfl) h445 (fun a w A446 c447 cs448 hq449 h => ?_)
                      replace HS := h.m.pick [3, 4] [.row (.slice A152 x151.length c153) 3 1 x151.length cs154, .sn S9] (by decide) rfl
                      refine hK _ _ (fun _ _ => HS) ?_
                      clear hK
                      refine d_takeP h (fun _ => HS) HN 24 rfl (by kernel_rfl) (by kernel_rfl) (by kernel_rfl) (by decide) rfl rfl (by decide) (fun w' => x_nil h.k rfl rfl) (fun a h => ?_)
                      refine d_takeP h (fun _ => HS) HN 25 rfl (by kernel_rfl) (by kernel_rfl) (by kernel_rfl) (by decide) rfl rfl (by decide) (fun w' => x_faddr h.k rfl Try.underlying92 rfl sz_Sint rfl) (fun a h => ?_)
                      refine d_alone 26 rfl (by kernel_rfl) (fun K hK => ?_)
                      refine s_stb h rfl rfl rfl sz_Sint rfl rfl rfl 1 rfl (by first | decide | simp) (fun a w h => ?_)
                      replace HS := h.m.pick [3, 4] [.row (.slice A152 x151.length c153) 3 1 x151.length cs154, .sn S9] (by decide) rfl
                      refine hK _ _ (fun _ _ => HS) ?_
                      clear hK
                      refine d_done (by kernel_rfl) (HE _ _ ?_) _
                      refine e_thenN ?_
                      have h := h.pick [1, 2, 3, 4] (by decide) rfl
                      exact ⟨A446, c447, cs448, A398, c399, hr393, hq449, hs400, h.has (by exact ⟨rfl, rfl, rfl, rfl, rfl, rfl, trivial⟩)⟩
                    · have hX := chatelaineref04_xor_ok Fu (S0 := snapAll _) x418 hr423 x431 hr436 _ h439 _ h.startAll
                      refine q_callX hX h rfl rfl rfl (by decide) Try.func58 rfl rfl rfl (fun a w v L1 S1 hR hb1 h => ?_)
                      obtain ⟨rfl, rfl, hr441, _⟩ := hR
                      replace HS := h.m.pick [2, 3] [.row (.slice A152 x151.length c153) 3 1 x151.length cs154, .sn S9] (by decide) rfl
                      refine hK _ _ ⟨fun _ _ => HS, ?_⟩
                      clear hK
                      refine d_two 4 22 (by kernel_rfl) (d_one 4 rfl _ (fun K hK => ?_)) (d_one 22 rfl _ (fun K hK => ?_))
                      · refine s_x h rfl rfl (by decide) (x_ld h.k rfl Try.underlying89 rfl rfl ((h.m.cell (i := 0) rfl 1).trans rfl)) (fun a h => ?_)
                        refine hK _ _ ⟨fun _ _ => HS, ?_⟩
                        clear hK
                        refine d_alone 22 rfl (by kernel_rfl) (fun K hK => ?_)
                        refine q_bslice (T := tyI) (S := S9) h rfl rfl rfl (by decide) Try.underlying89 zi_int (by decide) (by decide) (by decide) (by decide) [.int .i64 x438] rfl rfl (C := [[.int .i64 x438]]) rfl (xs := [x438]) ⟨[.int .i64 x438], _, rfl, ⟨rfl, hr441⟩, rfl⟩ (by intro c hc; simp only [List.mem_cons, List.not_mem_nil, or_false] at hc; subst hc; rfl) (fun a w A442 h => ?_)
                        have hb443 : reps tyI S9 ([[.int .i64 x438]] : List (List Value)).flatten [x438] := ⟨[.int .i64 x438], _, rfl, ⟨rfl, hr441⟩, rfl⟩
                        replace HS := h.m.pick [3, 4] [.row (.slice A152 x151.length c153) 3 1 x151.length cs154, .sn S9] (by decide) rfl
                        refine hK _ _ (fun _ _ => HS) ?_
                        clear hK
                        refine d_alone 23 rfl (by kernel_rfl) (fun K hK => ?_)
                        refine q_append (T := tyI) (S := S9) h rfl rfl rfl (by decide) Try.underlying89 zb_int rfl (by decide) rfl 2 rfl hq397 rfl hb443 (h.m.rdRowA (i := 0) rfl) h445 (fun a w A446 c447 cs448 hq449 h => ?_)
                        replace HS := h.m.pick [3, 4] [.row (.slice A152 x151.length c153) 3 1 x151.length cs154, .sn S9] (by decide) rfl
                        refine hK _ _ (fun _ _ => HS) ?_
                        clear hK
                        refine d_takeP h (fun _ => HS) HN 24 rfl (by kernel_rfl) (by kernel_rfl) (by kernel_rfl) (by decide) rfl rfl (by decide) (fun w' => x_nil h.k rfl rfl) (fun a h => ?_)
                        refine d_takeP h (fun _ => HS) HN 25 rfl (by kernel_rfl) (by kernel_rfl) (by kernel_rfl) (by decide) rfl rfl (by decide) (fun w' => x_faddr h.k rfl Try.underlying92 rfl sz_Sint rfl) (fun a h => ?_)
                        refine d_alone 26 rfl (by kernel_rfl) (fun K hK => ?_)
                        refine s_stb h rfl rfl rfl sz_Sint rfl rfl rfl 1 rfl (by first | decide | simp) (fun a w h => ?_)
                        replace HS := h.m.pick [3, 4] [.row (.slice A152 x151.length c153) 3 1 x151.length cs154, .sn S9] (by decide) rfl
                        refine hK _ _ (fun _ _ => HS) ?_
                        clear hK
                        refine d_done (by kernel_rfl) (HE _ _ ?_) _
                        refine e_thenN ?_
                        have h := h.pick [1, 2, 3, 4] (by decide) rfl
                        exact ⟨A446, c447, cs448, A398, c399, hr393, hq449, hs400, h.has (by exact ⟨rfl, rfl, rfl, rfl, rfl, rfl, trivial⟩)⟩
                      · refine q_bslice (T := tyI) (S := S9) h rfl rfl rfl (by decide) Try.underlying89 zi_int (by decide) (by decide) (by decide) (by decide) [.int .i64 x438] rfl rfl (C := [[.int .i64 x438]]) rfl (xs := [x438]) ⟨[.int .i64 x438], _, rfl, ⟨rfl, hr441⟩, rfl⟩ (by intro c hc; simp only [List.mem_cons, List.not_mem_nil, or_false] at hc; subst hc; rfl) (fun a w A442 h => ?_)
                        have hb443 : reps tyI S9 ([[.int .i64 x438]] : List (List Value)).flatten [x438] := ⟨[.int .i64 x438], _, rfl, ⟨rfl, hr441⟩, rfl⟩
                        replace HS := h.m.pick [3, 4] [.row (.slice A152 x151.length c153) 3 1 x151.length cs154, .sn S9] (by decide) rfl
                        refine hK _ _ ⟨fun _ _ => HS, ?_⟩
                        clear hK
                        refine d_alone 4 rfl (by kernel_rfl) (fun K hK => ?_)
                        refine s_x h rfl rfl (by decide) (x_ld h.k rfl Try.underlying89 rfl rfl ((h.m.cell (i := 1) rfl 1).trans rfl)) (fun a h => ?_)
                        refine hK _ _ (fun _ _ => HS) ?_
                        clear hK
                        refine d_alone 23 rfl (by kernel_rfl) (fun K hK => ?_)
                        refine q_append (T := tyI) (S := S9) h rfl rfl rfl (by decide) Try.underlying89 zb_int rfl (by decide) rfl 2 rfl hq397 rfl hb443 (h.m.rdRowA (i := 0) rfl) h445 (fun a w A446 c447 cs448 hq449 h => ?_)
                        replace HS := h.m.pick [3, 4] [.row (.slice A152 x151.length c153) 3 1 x151.length cs154, .sn S9] (by decide) rfl
                        refine hK _ _ (fun _ _ => HS) ?_
                        clear hK
                        refine d_takeP h (fun _ => HS) HN 24 rfl (by kernel_rfl) (by kernel_rfl) (by kernel_rfl) (by decide) rfl rfl (by decide) (fun w' => x_nil h.k rfl rfl) (fun a h => ?_)
                        refine d_takeP h (fun _ => HS) HN 25 rfl (by kernel_rfl) (by kernel_rfl) (by kernel_rfl) (by decide) rfl rfl (by decide) (fun w' => x_faddr h.k rfl Try.underlying92 rfl sz_Sint rfl) (fun a h => ?_)
                        refine d_alone 26 rfl (by kernel_rfl) (fun K hK => ?_)
                        refine s_stb h rfl rfl rfl sz_Sint rfl rfl rfl 1 rfl (by first | decide | simp) (fun a w h => ?_)
                        replace HS := h.m.pick [3, 4] [.row (.slice A152 x151.length c153) 3 1 x151.length cs154, .sn S9] (by decide) rfl
                        refine hK _ _ (fun _ _ => HS) ?_
                        clear hK
                        refine d_done (by kernel_rfl) (HE _ _ ?_) _
                        refine e_thenN ?_
                        have h := h.pick [1, 2, 3, 4] (by decide) rfl
                        exact ⟨A446, c447, cs448, A398, c399, hr393, hq449, hs400, h.has (by exact ⟨rfl, rfl, rfl, rfl, rfl, rfl, trivial⟩)⟩
              obtain ⟨A451, c452, cs453, A455, c456, hr450, hq454, hs457, h⟩ := h
              refine e_blkN ?_
              refine e_thenN ?_
              refine c_r ?_
              refine sMV h (fun a h => ?_)
              refine s_x h rfl rfl (by decide) (x_bin h.k rfl rfl rfl (ib_add rfl)) (fun a h => ?_)
              refine sAV h (fun a h => ?_)
              refine l_nil ?_
              exact e_thenN ⟨m411, Nat.lt_succ_self _, w64 (x390 + 1), (x392.1, x444, x392.2.2), A451, c452, cs453, A455, c456, hl410, (w64_r _), hr450, hq454, hs457, h.has (by exact ⟨rfl, rfl, rfl, rfl, rfl, rfl, trivial⟩)⟩
            · rw [if_neg (of_decide_eq_false hb)] at hl410
              refine wp_exit ?_
              refine e_thenX ?_
              refine e_thenX ?_
              refine e_blkX ?_
              refine e_thenN ?_
              have h := h.pick [0, 1, 3] (by decide) rfl
              exact ⟨x392, A394, c395, cs396, A398, c399, (Option.some.inj hl410), hr393, hq397, hs400, h.has (by exact ⟨rfl, rfl, rfl, rfl, trivial⟩)⟩
          · rintro a w ⟨x401, A403, c404, cs405, A407, c408, rfl, hr402, hq406, hs409, h⟩
            refine e_blkN ?_
            refine e_thenN ?_
            refine c_r ?_
            refine sMV h (fun a h => ?_)
            refine s_x h rfl rfl (by decide) (x_bin h.k rfl rfl rfl (ib_add rfl)) (fun a h => ?_)
            refine sAV h (fun a h => ?_)
            refine l_nil ?_
            exact e_thenN ⟨m92, Nat.lt_succ_self _, x149, w64 (x71 + 1), x401, A403, c404, cs405, A407, c408, hl91, hr150, (w64_r _), hr402, hq406, hs409, h.has (by exact ⟨rfl, rfl, rfl, rfl, trivial⟩)⟩
      · rw [if_neg (of_decide_eq_false hb)] at hl91
        refine wp_exit ?_
        refine e_thenX ?_
        refine e_thenX ?_
        refine e_blkX ?_
        refine e_thenN ?_
        exact ⟨x73, A75, c76, cs77, A79, c80, (Option.some.inj hl91), hr74, hq78, hs81, h.has (by exact ⟨rfl, trivial⟩)⟩
    · rintro a w ⟨x82, A84, c85, cs86, A88, c89, rfl, hr83, hq87, hs90, h⟩
      refine e_thenN ?_
      refine c_rs ?_
      refine sMV h (fun a h => ?_)
      refine sAV h (fun a h => ?_)
      refine l_end ?_
      refine wp_ret ?_
      rw [← Option.some.inj hf]
      have h := h.pick [1, 2, 0] (by decide) rfl
      obtain ⟨S460, le461, up462, hs463, h⟩ := q_freeze (T := tyI) h up11 hq87
      have h := h.pick [1, 0] (by decide) rfl
      obtain ⟨S464, le465, up466, hc467, h⟩ := q_freezeBox h up462
      have hp468 : ptS (tyP tyI (tyP (tyL tyI) (tyL tyI))) S464 g13 (x82.1, x82.2.1, x82.2.2) := ⟨[.int .i64 x82.1, .slice A84 x82.2.1.length c85, .slice A88 x82.2.2.length c89], hc467, ⟨[.int .i64 x82.1], [.slice A84 x82.2.1.length c85, .slice A88 x82.2.2.length c89], rfl, ⟨rfl, hr83⟩, ⟨[.slice A84 x82.2.1.length c85], [.slice A88 x82.2.2.length c89], rfl, ⟨_, _, rfl, (hs463.mono le465)⟩, ⟨_, _, rfl, (hs90.mono (le461.trans le465))⟩⟩⟩⟩
      exact r_ret1 h rfl (rv_tmp h rfl) ⟨_, [], _, rfl, ⟨g13, rfl, rfl, hp468, trivial⟩, rfl, up466, h.m⟩
def chatelaineref04_Key_add_l0 (Fu : Nat) (a0 : Int × (List Int) × (List Int)) (a1 : List Int) (a2 : Int) : Nat → (List Int) → Int → Option ((List Int))
  | 0, _, _ => none
  | k + 1, x3, x8 => if x8 < 16 then ((idx a1 x8).bind fun x18 => (idx a0.2.1 (w64 ((w64 (16 * a2)) + x8))).bind fun x45 => (chatelaineref04_xor Fu x18 x45).bind fun x59 => (app 8 x3 ([x59])).bind fun x65 => chatelaineref04_Key_add_l0 Fu a0 a1 a2 k x65 (w64 (x8 + 1))) else (some x3)
def chatelaineref04_Key_add (Fu : Nat) (a0 : Int × (List Int) × (List Int)) (a1 : List Int) (a2 : Int) : Option ((List Int)) :=
  (chatelaineref04_Key_add_l0 Fu a0 a1 a2 Fu ([]) 0).bind fun x10 => some x10
set_option maxRecDepth 100000 in
set_option maxHeartbeats 2000000 in
theorem chatelaineref04_Key_add_ok (Fu : Nat) {S0 : Snap} (ga0 : Nat) (a0 : Int × (List Int) × (List Int)) (hpa0 : ptS (tyP tyI (tyP (tyL tyI) (tyL tyI))) S0 ga0 a0) (Aa1 : Option Addr) (ca1 : Nat) (a1 : List Int) (hsa1 : slS tyI S0 Aa1 ca1 a1) (a2 : Int) (hra2 : r64 a2) (r : (List Int)) (hf : chatelaineref04_Key_add Fu a0 a1 a2 = some r) (w0 : World) (hm : Mem w0 (ownL ([] ++ [.sn S0])) ([] ++ [.sn S0]) w0) :
    Calls Try.prog 60 #[.pointer (some ⟨ga0, 0, none⟩), .slice Aa1 a1.length ca1, .int .i64 a2] w0 (Ret w0 S0 [] (fun v L1 S1 => ∃ (A72 : Option Addr), ∃ (c73 : Nat), ∃ (cs74 : List Value), v = .slice A72 r.length c73 ∧ L1 = [.row (.slice A72 r.length c73) 3 1 r.length cs74] ∧ reps tyI S1 cs74 r ∧ True)) := by
  unfold chatelaineref04_Key_add at hf
  refine c_enterM Try.func60 rfl 32 rfl (by simp) _ hm _ rfl (fun a h => ?_)
  refine c_rs ?_
  refine sAV h (fun a h => ?_)
  refine l_end ?_
  refine c_rs ?_
  refine sAV h (fun a h => ?_)
  refine l_end ?_
  refine wp_seq ?_
  refine c_rs ?_
  refine sAV h (fun a h => ?_)
  refine l_end ?_
  obtain ⟨o1, hl2, hf⟩ := bsome hf
  refine c_fin (fun a w => ∃ (x10 : List Int), ∃ (A11 : Option Addr), ∃ (c12 : Nat), ∃ (cs13 : List Value), x10 = o1 ∧ reps tyI S0 cs13 x10 ∧ St 32 w0 (ownL ([] ++ [.sn S0])) [(7, .slice A11 x10.length c12)] [.row (.slice A11 x10.length c12) 3 1 x10.length cs13, .sn S0] a w) ?_ ?_
  · refine wp_block ?_
    have h := h.mem (h.m.nilrow 3 1)
    refine c_loop (fun m16 a w => ∃ (x3 : List Int), ∃ (A4 : Option Addr), ∃ (c5 : Nat), ∃ (cs6 : List Value), ∃ (x8 : Int), chatelaineref04_Key_add_l0 Fu a0 a1 a2 m16 x3 x8 = some o1 ∧ reps tyI S0 cs6 x3 ∧ r64 x8 ∧ St 32 w0 (ownL ([] ++ [.sn S0])) [(0, .pointer (some ⟨ga0, 0, none⟩)), (1, .slice Aa1 a1.length ca1), (2, .int .i64 a2), (7, .slice A4 x3.length c5), (8, .int .i64 x8)] [.row (.slice A4 x3.length c5) 3 1 x3.length cs6, .sn S0] a w) Fu ⟨[], none, 0, [], 0, hl2, (show reps tyI S0 [] [] from rfl), (show r64 0 from ⟨by decide, by decide⟩), h.has (by exact ⟨rfl, rfl, rfl, rfl, rfl, trivial⟩)⟩ (fun m16 a w hI => ?_)
    obtain ⟨x3, A4, c5, cs6, x8, hl15, hq7, hr9, h⟩ := hI
    obtain _ | m16 := m16
    · rw [chatelaineref04_Key_add_l0] at hl15; cases hl15
    rw [chatelaineref04_Key_add_l0] at hl15
    refine wp_seq ?_
    refine c_rs ?_
    refine sMV h (fun a h => ?_)
    refine s_x h rfl rfl (by decide) (x_bin h.k rfl rfl rfl ib_lss) (fun a h => ?_)
    refine l_end ?_
    refine c_cond h rfl (fun hb => ?_) (fun hb => ?_)
    · rw [if_pos (of_decide_eq_true hb)] at hl15
      refine wp_skip ?_
      refine e_thenN ?_
      refine wp_seq ?_
      refine wp_block ?_
      -- region 5 draws
      obtain ⟨x18, h22, hl15⟩ := bsome hl15
      obtain ⟨x45, h49, hl15⟩ := bsome hl15
      obtain ⟨x59, h60, hl15⟩ := bsome hl15
      obtain ⟨x65, h66, hl15⟩ := bsome hl15
      refine d_start h (Mem _ _ _) 17 19 rfl (by kernel_rfl) (fun _ _ _ _ _ h => h) (fun _ h => h) (fun Q a w HE HN h HS => ?_)
      refine d_takeP h (fun _ => HS) HN 0 rfl (by kernel_rfl) (by kernel_rfl) (by kernel_rfl) (by decide) rfl rfl (by decide) (fun w' => x_move h.k _ rfl rfl) (fun a h => ?_)
      refine d_takeP h (fun _ => HS) HN 1 rfl (by kernel_rfl) (by kernel_rfl) (by kernel_rfl) (by decide) rfl rfl (by decide) (fun w' => x_move h.k _ rfl rfl) (fun a h => ?_)
      refine d_takeP h (fun _ => HS) HN 2 rfl (by kernel_rfl) (by kernel_rfl) (by kernel_rfl) (by decide) rfl rfl (by decide) (fun w' => x_move h.k _ rfl rfl) (fun a h => ?_)
      obtain ⟨m19, hi23, hm24, hx25⟩ := idx_some h22
      obtain ⟨b20, off21, k26, hA27, hu28, hc29⟩ := (hsa1).at1 rfl hx25 (h.m.snOK (i := 1) rfl)
      obtain ⟨e31, hr30⟩ := hu28
      cases e31
      refine d_takeP h (fun _ => HS) HN 3 rfl (by kernel_rfl) (by kernel_rfl) (by kernel_rfl) (by decide) rfl rfl (by decide) (fun w' => x_iaddrE h.k rfl Try.underlying89 sz_int hA27 rfl rfl hi23 hm24) (fun a h => ?_)
      refine d_takeD h HS HN 4 [15, 16, 17, 18] rfl (by kernel_rfl) (by kernel_rfl) (by kernel_rfl) (by kernel_rfl) (by kernel_rfl) (by kernel_rfl) rfl rfl (by decide) (fun w' hw => x_ld h.k rfl Try.underlying3 rfl rfl (hc29 _ (hw.snOK (i := 1) rfl))) (fun a h => ?_)
      refine d_takeP h (fun _ => HS) HN 5 rfl (by kernel_rfl) (by kernel_rfl) (by kernel_rfl) (by decide) rfl rfl (by decide) (fun w' => x_move h.k _ rfl rfl) (fun a h => ?_)
      obtain ⟨k32, hc33, ⟨k34, k35, rfl, ⟨rfl, hr36⟩, ⟨k37, k38, rfl, ⟨A39, c40, rfl, hs41⟩, ⟨A42, c43, rfl, hs44⟩⟩⟩⟩ := id hpa0
      refine d_takeP h (fun _ => HS) HN 6 rfl (by kernel_rfl) (by kernel_rfl) (by kernel_rfl) (by decide) rfl rfl (by decide) (fun w' => x_nil h.k rfl rfl) (fun a h => ?_)
      refine d_takeP h (fun _ => HS) HN 7 rfl (by kernel_rfl) (by kernel_rfl) (by kernel_rfl) (by decide) rfl rfl (by decide) (fun w' => x_faddr h.k rfl Try.underlying92 rfl sz_Sint rfl) (fun a h => ?_)
      refine d_takeD h HS HN 8 [13, 14, 15, 16, 17, 18] rfl (by kernel_rfl) (by kernel_rfl) (by kernel_rfl) (by kernel_rfl) (by kernel_rfl) (by kernel_rfl) rfl rfl (by decide) (fun w' hw => x_ld h.k rfl Try.underlying89 rfl rfl (hc33 _ (hw.snOK (i := 1) rfl) 1 _ rfl)) (fun a h => ?_)
      refine d_takeP h (fun _ => HS) HN 9 rfl (by kernel_rfl) (by kernel_rfl) (by kernel_rfl) (by decide) rfl rfl (by decide) (fun w' => x_move h.k _ rfl rfl) (fun a h => ?_)
      refine d_takeP h (fun _ => HS) HN 10 rfl (by kernel_rfl) (by kernel_rfl) (by kernel_rfl) (by decide) rfl rfl (by decide) (fun w' => x_bin h.k rfl rfl rfl (ib_mul rfl)) (fun a h => ?_)
      refine d_takeP h (fun _ => HS) HN 11 rfl (by kernel_rfl) (by kernel_rfl) (by kernel_rfl) (by decide) rfl rfl (by decide) (fun w' => x_move h.k _ rfl rfl) (fun a h => ?_)
      refine d_takeP h (fun _ => HS) HN 12 rfl (by kernel_rfl) (by kernel_rfl) (by kernel_rfl) (by decide) rfl rfl (by decide) (fun w' => x_bin h.k rfl rfl rfl (ib_add rfl)) (fun a h => ?_)
      obtain ⟨m46, hi50, hm51, hx52⟩ := idx_some h49
      obtain ⟨b47, off48, k53, hA54, hu55, hc56⟩ := (hs41).at1 rfl hx52 (h.m.snOK (i := 1) rfl)
      obtain ⟨e58, hr57⟩ := hu55
      cases e58
      refine d_takeP h (fun _ => HS) HN 13 rfl (by kernel_rfl) (by kernel_rfl) (by kernel_rfl) (by decide) rfl rfl (by decide) (fun w' => x_iaddrE h.k rfl Try.underlying89 sz_int hA54 rfl rfl hi50 hm51) (fun a h => ?_)
      refine d_takeD h HS HN 14 [15, 16, 17, 18] rfl (by kernel_rfl) (by kernel_rfl) (by kernel_rfl) (by kernel_rfl) (by kernel_rfl) (by kernel_rfl) rfl rfl (by decide) (fun w' hw => x_ld h.k rfl Try.underlying3 rfl rfl (hc56 _ (hw.snOK (i := 1) rfl))) (fun a h => ?_)
      refine d_alone 15 rfl (by kernel_rfl) (fun K hK => ?_)
      have hX := chatelaineref04_xor_ok Fu (S0 := snapAll _) x18 hr30 x45 hr57 _ h60 _ h.startAll
      refine q_callX hX h rfl rfl rfl (by decide) Try.func58 rfl rfl rfl (fun a w v L1 S1 hR hb1 h => ?_)
      obtain ⟨rfl, rfl, hr62, _⟩ := hR
      refine hK _ _ (fun _ _ => HS.ext hb1) ?_
      replace HS := HS.ext hb1
      clear hK
      refine d_alone 16 rfl (by kernel_rfl) (fun K hK => ?_)
      refine q_bslice (T := tyI) (S := S0) h rfl rfl rfl (by decide) Try.underlying89 zi_int (by decide) (by decide) (by decide) (by decide) [.int .i64 x59] rfl rfl (C := [[.int .i64 x59]]) rfl (xs := [x59]) ⟨[.int .i64 x59], _, rfl, ⟨rfl, hr62⟩, rfl⟩ (by intro c hc; simp only [List.mem_cons, List.not_mem_nil, or_false] at hc; subst hc; rfl) (fun a w A63 h => ?_)
      have hb64 : reps tyI S0 ([[.int .i64 x59]] : List (List Value)).flatten [x59] := ⟨[.int .i64 x59], _, rfl, ⟨rfl, hr62⟩, rfl⟩
      replace HS := h.m.pick [1, 2] [.row (.slice A4 x3.length c5) 3 1 x3.length cs6, .sn S0] (by decide) rfl
      refine hK _ _ (fun _ _ => HS) ?_
      clear hK
      refine d_alone 17 rfl (by kernel_rfl) (fun K hK => ?_)
      refine q_append (T := tyI) (S := S0) h rfl rfl rfl (by decide) Try.underlying89 zb_int rfl (by decide) rfl 1 rfl hq7 rfl hb64 (h.m.rdRowA (i := 0) rfl) h66 (fun a w A67 c68 cs69 hq70 h => ?_)
      refine hK _ _ (fun hne _ => absurd rfl hne) ?_
      clear hK
      refine d_takeP h (fun hl => absurd hl (by decide)) HN 18 rfl (by kernel_rfl) (by kernel_rfl) (by kernel_rfl) (by decide) rfl rfl (by decide) (fun w' => x_assign h.k _ rfl rfl) (fun a h => ?_)
      refine d_done (by kernel_rfl) (HE _ _ ?_) _
      refine e_blkN ?_
      refine e_thenN ?_
      refine c_r ?_
      refine sMV h (fun a h => ?_)
      refine s_x h rfl rfl (by decide) (x_bin h.k rfl rfl rfl (ib_add rfl)) (fun a h => ?_)
      refine sAV h (fun a h => ?_)
      refine l_nil ?_
      have h := h.pick [1, 2] (by decide) rfl
      exact e_thenN ⟨m16, Nat.lt_succ_self _, x65, A67, c68, cs69, w64 (x8 + 1), hl15, hq70, (w64_r _), h.has (by exact ⟨rfl, rfl, rfl, rfl, rfl, trivial⟩)⟩
    · rw [if_neg (of_decide_eq_false hb)] at hl15
      refine wp_exit ?_
      refine e_thenX ?_
      refine e_thenX ?_
      refine e_blkX ?_
      refine e_thenN ?_
      exact ⟨x3, A4, c5, cs6, (Option.some.inj hl15), hq7, h.has (by exact ⟨rfl, trivial⟩)⟩
  · rintro a w ⟨x10, A11, c12, cs13, rfl, hq14, h⟩
    refine e_thenN ?_
    refine c_rs ?_
    refine sMV h (fun a h => ?_)
    refine sAV h (fun a h => ?_)
    refine l_end ?_
    refine wp_ret ?_
    rw [← Option.some.inj hf]
    exact r_ret1 h rfl (rv_tmp h rfl) ⟨_, [.row (.slice A11 x10.length c12) 3 1 x10.length cs13], _, rfl, ⟨A11, c12, cs13, rfl, rfl, hq14, trivial⟩, rfl, (Up.refl _ _ _), h.m⟩
def chatelaineref04_Key_Encrypt_l0 (Fu : Nat) (a1 : List UInt8) : Nat → (List Int) → Int → Option ((List Int))
  | 0, _, _ => none
  | k + 1, x7, x12 => if x12 < 16 then ((ix 16 x12).bind fun m22 => (a1[m22]?).bind fun x26 => (app 8 x7 ([(x26.toNat : Int)])).bind fun x33 => chatelaineref04_Key_Encrypt_l0 Fu a1 k x33 (w64 (x12 + 1))) else (some x7)
def chatelaineref04_Key_Encrypt_l2 (Fu : Nat) (a0 : Int × (List Int) × (List Int)) (x49 : List Int) : Nat → (List Int) → Int → Option ((List Int))
  | 0, _, _ => none
  | k + 1, x78, x83 => if x83 < 16 then ((ix x49.length (w64 ((Int.tmod x83 4) + (w64 (4 * (Int.tmod (w64 ((w64 (Int.tdiv x83 4)) + (Int.tmod x83 4))) 4)))))).bind fun m106 => (x49[m106]?).bind fun x112 => (idx a0.2.2 x112).bind fun x119 => (app 8 x78 ([x119])).bind fun x135 => chatelaineref04_Key_Encrypt_l2 Fu a0 x49 k x135 (w64 (x83 + 1))) else (some x78)
def chatelaineref04_Key_Encrypt_l3 (Fu : Nat) (x85 : List Int) : Nat → (List Int) → Int → Option ((List Int))
  | 0, _, _ => none
  | k + 1, x163, x168 => if x168 < 16 then ((ix x85.length x168).bind fun m178 => (x85[m178]?).bind fun x184 => (ix x85.length (w64 (x168 + 1))).bind fun m191 => (x85[m191]?).bind fun x197 => (ix x85.length (w64 (x168 + 2))).bind fun m204 => (x85[m204]?).bind fun x210 => (ix x85.length (w64 (x168 + 3))).bind fun m217 => (x85[m217]?).bind fun x223 => (chatelaineref02_Times Fu x184 2).bind fun x230 => (chatelaineref02_Times Fu x197 3).bind fun x234 => (chatelaineref04_sum Fu x230 x234 x210 x223).bind fun x238 => (app 8 x163 ([x238])).bind fun x244 => (chatelaineref02_Times Fu x197 2).bind fun x250 => (chatelaineref02_Times Fu x210 3).bind fun x254 => (chatelaineref04_sum Fu x184 x250 x254 x223).bind fun x258 => (app 8 x244 ([x258])).bind fun x264 => (chatelaineref02_Times Fu x210 2).bind fun x270 => (chatelaineref02_Times Fu x223 3).bind fun x274 => (chatelaineref04_sum Fu x184 x197 x270 x274).bind fun x278 => (app 8 x264 ([x278])).bind fun x284 => (chatelaineref02_Times Fu x184 3).bind fun x290 => (chatelaineref02_Times Fu x223 2).bind fun x294 => (chatelaineref04_sum Fu x290 x197 x210 x294).bind fun x298 => (app 8 x284 ([x298])).bind fun x304 => chatelaineref04_Key_Encrypt_l3 Fu x85 k x304 (w64 (x168 + 4))) else (some x163)
def chatelaineref04_Key_Encrypt_l1 (Fu : Nat) (a0 : Int × (List Int) × (List Int)) : Nat → (List Int) → Int → Option ((List Int))
  | 0, _, _ => none
  | k + 1, x49, x54 => if x54 ≤ a0.1 then ((chatelaineref04_Key_Encrypt_l2 Fu a0 x49 Fu ([]) 0).bind fun x85 => (if x54 < a0.1 then ((chatelaineref04_Key_Encrypt_l3 Fu x85 Fu ([]) 0).bind fun x170 => some x170) else (some x85)).bind fun x143 => (chatelaineref04_Key_add Fu a0 x143 x54).bind fun x311 => chatelaineref04_Key_Encrypt_l1 Fu a0 k x311 (w64 (x54 + 1))) else (some x49)
def chatelaineref04_Key_Encrypt_l4 (Fu : Nat) (x56 : List Int) : Nat → Int → (List UInt8) → Option ((List UInt8))
  | 0, _, _ => none
  | k + 1, x324, x326 => if x324 < 16 then ((ix x56.length x324).bind fun m336 => (x56[m336]?).bind fun x342 => (ix 16 x324).bind fun m349 => chatelaineref04_Key_Encrypt_l4 Fu x56 k (w64 (x324 + 1)) (x326.set m349 (i8 x342))) else (some x326)
def chatelaineref04_Key_Encrypt (Fu : Nat) (a0 : Int × (List Int) × (List Int)) (a1 : List UInt8) : Option ((List UInt8)) :=
  (chatelaineref04_Key_Encrypt_l0 Fu a1 Fu ([]) 0).bind fun x14 => (chatelaineref04_Key_add Fu a0 x14 0).bind fun x39 => (chatelaineref04_Key_Encrypt_l1 Fu a0 Fu x39 1).bind fun x56 => (chatelaineref04_Key_Encrypt_l4 Fu x56 Fu 0 (List.replicate 16 ((0 : UInt8) : UInt8))).bind fun x330 => some x330
set_option maxRecDepth 100000 in
set_option maxHeartbeats 2000000 in
theorem chatelaineref04_Key_Encrypt_ok (Fu : Nat) {S0 : Snap} (ga0 : Nat) (a0 : Int × (List Int) × (List Int)) (hpa0 : ptS (tyP tyI (tyP (tyL tyI) (tyL tyI))) S0 ga0 a0) (csa1 : List Value) (a1 : List UInt8) (hsa1 : (tyA 16 ty8).rep S0 csa1 a1) (r : (List UInt8)) (hf : chatelaineref04_Key_Encrypt Fu a0 a1 = some r) (w0 : World) (hm : Mem w0 (ownL ([] ++ [.sn S0])) ([] ++ [.sn S0]) w0) :
    Calls Try.prog 40 #[.pointer (some ⟨ga0, 0, none⟩), .agg csa1.toArray] w0 (Ret w0 S0 [] (fun v L1 S1 => ∃ (k359 : List Value), v = .agg k359.toArray ∧ L1 = [] ∧ (tyA 16 ty8).rep S1 k359 r ∧ True)) := by
  unfold chatelaineref04_Key_Encrypt at hf
  obtain ⟨hs1, hl2⟩ := hsa1
  refine c_enterM Try.func40 rfl 155 rfl (by simp) _ hm _ rfl (fun a h => ?_)
  refine c_rs ?_
  refine s_box h rfl rfl rfl (by decide) rfl (cs := csa1) (by rfl) (fun a w g3 h => ?_)
  refine s_alloc h rfl rfl rfl (by decide) zi_A16_uint8 rfl (fun a w g4 h => ?_)
  have h := h.parts (L' := [.box g4 64 (List.replicate 16 (.int .u8 0 : Value)), .box g3 64 csa1, .sn S0]) rfl
  refine l_end ?_
  refine c_rs ?_
  refine sAV h (fun a h => ?_)
  refine l_end ?_
  refine wp_seq ?_
  refine c_rs ?_
  refine sAV h (fun a h => ?_)
  refine l_end ?_
  obtain ⟨o5, hl6, hf⟩ := bsome hf
  refine c_fin (fun a w => ∃ (x14 : List Int), ∃ (A15 : Option Addr), ∃ (c16 : Nat), ∃ (cs17 : List Value), x14 = o5 ∧ reps tyI S0 cs17 x14 ∧ St 155 w0 (ownL ([] ++ [.sn S0])) [(0, .pointer (some ⟨ga0, 0, none⟩)), (4, .pointer (some ⟨g4, 0, none⟩)), (5, .slice A15 x14.length c16)] [.box g4 64 (List.replicate 16 (.int .u8 0 : Value)), .row (.slice A15 x14.length c16) 3 1 x14.length cs17, .sn S0] a w) ?_ ?_
  · refine wp_block ?_
    have h := h.mem (h.m.nilrow 3 1)
    have h := h.pick [2, 1, 0, 3] (by decide) rfl
    refine c_loop (fun m20 a w => ∃ (x7 : List Int), ∃ (A8 : Option Addr), ∃ (c9 : Nat), ∃ (cs10 : List Value), ∃ (x12 : Int), chatelaineref04_Key_Encrypt_l0 Fu a1 m20 x7 x12 = some o5 ∧ reps tyI S0 cs10 x7 ∧ r64 x12 ∧ St 155 w0 (ownL ([] ++ [.sn S0])) [(0, .pointer (some ⟨ga0, 0, none⟩)), (3, .pointer (some ⟨g3, 0, none⟩)), (4, .pointer (some ⟨g4, 0, none⟩)), (5, .slice A8 x7.length c9), (6, .int .i64 x12)] [.box g3 64 csa1, .box g4 64 (List.replicate 16 (.int .u8 0 : Value)), .row (.slice A8 x7.length c9) 3 1 x7.length cs10, .sn S0] a w) Fu ⟨[], none, 0, [], 0, hl6, (show reps tyI S0 [] [] from rfl), (show r64 0 from ⟨by decide, by decide⟩), h.has (by exact ⟨rfl, rfl, rfl, rfl, rfl, trivial⟩)⟩ (fun m20 a w hI => ?_)
    obtain ⟨x7, A8, c9, cs10, x12, hl19, hq11, hr13, h⟩ := hI
    obtain _ | m20 := m20
    · rw [chatelaineref04_Key_Encrypt_l0] at hl19; cases hl19
    rw [chatelaineref04_Key_Encrypt_l0] at hl19
    refine wp_seq ?_
    refine c_rs ?_
    refine sMV h (fun a h => ?_)
    refine s_x h rfl rfl (by decide) (x_bin h.k rfl rfl rfl ib_lss) (fun a h => ?_)
    refine l_end ?_
    refine c_cond h rfl (fun hb => ?_) (fun hb => ?_)
    · rw [if_pos (of_decide_eq_true hb)] at hl19
      refine wp_skip ?_
      refine e_thenN ?_
      refine wp_seq ?_
      refine wp_block ?_
      refine c_r ?_
      refine sMV h (fun a h => ?_)
      refine sMV h (fun a h => ?_)
      obtain ⟨m22, h23, hl19⟩ := bsome hl19
      obtain ⟨hi24, hm25⟩ := ix_some h23
      refine s_x h rfl rfl (by decide) (x_iaddrA h.k rfl Try.underlying64 sz_uint8 rfl rfl hi24 hm25 rfl) (fun a h => ?_)
      obtain ⟨x26, h27, hl19⟩ := bsome hl19
      obtain ⟨u28, hv29, hu30⟩ := (hs1).cell rfl h27
      cases hu30
      refine s_x h rfl rfl (by decide) (x_ld h.k rfl Try.underlying5 rfl rfl ((h.m.cell (i := 0) rfl _).trans (by rw [Nat.zero_add, Nat.mul_one]; exact hv29))) (fun a h => ?_)
      refine s_x h rfl rfl (by decide) (x_convE h.k rfl Try.underlying5 Try.underlying3 rfl (nw64 (u8_r _))) (fun a h => ?_)
      refine q_bslice (T := tyI) (S := S0) h rfl rfl rfl (by decide) Try.underlying89 zi_int (by decide) (by decide) (by decide) (by decide) [.int .i64 (x26.toNat : Int)] rfl rfl (C := [[.int .i64 (x26.toNat : Int)]]) rfl (xs := [(x26.toNat : Int)]) ⟨[.int .i64 (x26.toNat : Int)], _, rfl, ⟨rfl, (u8_r _)⟩, rfl⟩ (by intro c hc; simp only [List.mem_cons, List.not_mem_nil, or_false] at hc; subst hc; rfl) (fun a w A31 h => ?_)
      have hb32 : reps tyI S0 ([[.int .i64 (x26.toNat : Int)]] : List (List Value)).flatten [(x26.toNat : Int)] := ⟨[.int .i64 (x26.toNat : Int)], _, rfl, ⟨rfl, (u8_r _)⟩, rfl⟩
      obtain ⟨x33, h34, hl19⟩ := bsome hl19
      refine q_append (T := tyI) (S := S0) h rfl rfl rfl (by decide) Try.underlying89 zb_int rfl (by decide) rfl 3 rfl hq11 rfl hb32 (h.m.rdRowA (i := 0) rfl) h34 (fun a w A35 c36 cs37 hq38 h => ?_)
      refine sAV h (fun a h => ?_)
      refine l_nil ?_
      refine e_blkN ?_
      refine e_thenN ?_
      refine c_r ?_
      refine sMV h (fun a h => ?_)
      refine s_x h rfl rfl (by decide) (x_bin h.k rfl rfl rfl (ib_add rfl)) (fun a h => ?_)
      refine sAV h (fun a h => ?_)
      refine l_nil ?_
      have h := h.pick [1, 2, 3, 4] (by decide) rfl
      exact e_thenN ⟨m20, Nat.lt_succ_self _, x33, A35, c36, cs37, w64 (x12 + 1), hl19, hq38, (w64_r _), h.has (by exact ⟨rfl, rfl, rfl, rfl, rfl, trivial⟩)⟩
    · rw [if_neg (of_decide_eq_false hb)] at hl19
      refine wp_exit ?_
      refine e_thenX ?_
      refine e_thenX ?_
      refine e_blkX ?_
      refine e_thenN ?_
      have h := h.pick [1, 2, 3] (by decide) rfl
      exact ⟨x7, A8, c9, cs10, (Option.some.inj hl19), hq11, h.has (by exact ⟨rfl, rfl, rfl, trivial⟩)⟩
  · rintro a w ⟨x14, A15, c16, cs17, rfl, hq18, h⟩
    refine e_thenN ?_
    refine c_rs ?_
    refine sMV h (fun a h => ?_)
    refine sMV h (fun a h => ?_)
    obtain ⟨x39, h40, hf⟩ := bsome hf
    have hX := chatelaineref04_Key_add_ok Fu (S0 := snapAll _) ga0 a0 (hpa0.mono (h.m.leAll (i := 2) rfl)) A15 c16 x14 (h.m.rowAll (i := 1) rfl (j := 2) rfl hq18) 0 (show r64 0 from ⟨by decide, by decide⟩) _ h40 _ h.startAll
    refine q_callX hX h rfl rfl rfl (by decide) Try.func60 rfl rfl rfl (fun a w v L1 S1 hR hb1 h => ?_)
    obtain ⟨A42, c43, cs44, rfl, rfl, hq45, _⟩ := hR
    have hq46 := hq45.fl (S' := S0) fl_I
    refine sAV h (fun a h => ?_)
    refine l_end ?_
    refine wp_seq ?_
    refine c_rs ?_
    refine sAV h (fun a h => ?_)
    refine l_end ?_
    obtain ⟨o47, hl48, hf⟩ := bsome hf
    refine c_fin (fun a w => ∃ (x56 : List Int), ∃ (A57 : Option Addr), ∃ (c58 : Nat), ∃ (cs59 : List Value), x56 = o47 ∧ reps tyI S0 cs59 x56 ∧ St 155 w0 (ownL ([] ++ [.sn S0])) [(4, .pointer (some ⟨g4, 0, none⟩)), (5, .slice A57 x56.length c58)] [.box g4 64 (List.replicate 16 (.int .u8 0 : Value)), .row (.slice A57 x56.length c58) 3 1 x56.length cs59, .sn S0] a w) ?_ ?_
    · refine wp_block ?_
      have h := h.pick [1, 0, 3] (by decide) rfl
      refine c_loop (fun m62 a w => ∃ (x49 : List Int), ∃ (A50 : Option Addr), ∃ (c51 : Nat), ∃ (cs52 : List Value), ∃ (x54 : Int), chatelaineref04_Key_Encrypt_l1 Fu a0 m62 x49 x54 = some o47 ∧ reps tyI S0 cs52 x49 ∧ r64 x54 ∧ St 155 w0 (ownL ([] ++ [.sn S0])) [(0, .pointer (some ⟨ga0, 0, none⟩)), (4, .pointer (some ⟨g4, 0, none⟩)), (5, .slice A50 x49.length c51), (7, .int .i64 x54)] [.box g4 64 (List.replicate 16 (.int .u8 0 : Value)), .row (.slice A50 x49.length c51) 3 1 x49.length cs52, .sn S0] a w) Fu ⟨x39, A42, c43, cs44, 1, hl48, hq46, (show r64 1 from ⟨by decide, by decide⟩), h.has (by exact ⟨rfl, rfl, rfl, rfl, trivial⟩)⟩ (fun m62 a w hI => ?_)
      obtain ⟨x49, A50, c51, cs52, x54, hl61, hq53, hr55, h⟩ := hI
      obtain _ | m62 := m62
      · rw [chatelaineref04_Key_Encrypt_l1] at hl61; cases hl61
      rw [chatelaineref04_Key_Encrypt_l1] at hl61
      refine wp_seq ?_
      refine c_rs ?_
      refine sMV h (fun a h => ?_)
      refine sMV h (fun a h => ?_)
      obtain ⟨k63, hc64, ⟨k65, k66, rfl, ⟨rfl, hr67⟩, ⟨k68, k69, rfl, ⟨A70, c71, rfl, hs72⟩, ⟨A73, c74, rfl, hs75⟩⟩⟩⟩ := id hpa0
      refine s_x h rfl rfl (by decide) (x_nil h.k rfl rfl) (fun a h => ?_)
      refine s_x h rfl rfl (by decide) (x_faddr h.k rfl Try.underlying92 rfl sz_int rfl) (fun a h => ?_)
      refine s_x h rfl rfl (by decide) (x_ld h.k rfl Try.underlying3 rfl rfl (hc64 _ (h.m.snOK (i := 2) rfl) 0 _ rfl)) (fun a h => ?_)
      refine s_x h rfl rfl (by decide) (x_bin h.k rfl rfl rfl ib_leq) (fun a h => ?_)
      refine l_end ?_
      refine c_cond h rfl (fun hb => ?_) (fun hb => ?_)
      · rw [if_pos (of_decide_eq_true hb)] at hl61
        refine wp_skip ?_
        refine e_thenN ?_
        refine wp_seq ?_
        refine wp_block ?_
        refine c_rs ?_
        refine sAV h (fun a h => ?_)
        refine l_end ?_
        refine wp_seq ?_
        refine c_rs ?_
        refine sAV h (fun a h => ?_)
        refine l_end ?_
        obtain ⟨o76, hl77, hl61⟩ := bsome hl61
        refine c_fin (fun a w => ∃ (x85 : List Int), ∃ (A86 : Option Addr), ∃ (c87 : Nat), ∃ (cs88 : List Value), x85 = o76 ∧ reps tyI S0 cs88 x85 ∧ St 155 w0 (ownL ([] ++ [.sn S0])) [(0, .pointer (some ⟨ga0, 0, none⟩)), (4, .pointer (some ⟨g4, 0, none⟩)), (7, .int .i64 x54), (8, .slice A86 x85.length c87)] [.box g4 64 (List.replicate 16 (.int .u8 0 : Value)), .row (.slice A86 x85.length c87) 3 1 x85.length cs88, .sn S0] a w) ?_ ?_
        · refine wp_block ?_
          have h := h.mem (h.m.nilrow 3 1)
          have h := h.pick [1, 2, 0, 3] (by decide) rfl
          refine c_loop (fun m91 a w => ∃ (x78 : List Int), ∃ (A79 : Option Addr), ∃ (c80 : Nat), ∃ (cs81 : List Value), ∃ (x83 : Int), chatelaineref04_Key_Encrypt_l2 Fu a0 x49 m91 x78 x83 = some o76 ∧ reps tyI S0 cs81 x78 ∧ r64 x83 ∧ St 155 w0 (ownL ([] ++ [.sn S0])) [(0, .pointer (some ⟨ga0, 0, none⟩)), (4, .pointer (some ⟨g4, 0, none⟩)), (5, .slice A50 x49.length c51), (7, .int .i64 x54), (8, .slice A79 x78.length c80), (9, .int .i64 x83)] [.box g4 64 (List.replicate 16 (.int .u8 0 : Value)), .row (.slice A50 x49.length c51) 3 1 x49.length cs52, .row (.slice A79 x78.length c80) 3 1 x78.length cs81, .sn S0] a w) Fu ⟨[], none, 0, [], 0, hl77, (show reps tyI S0 [] [] from rfl), (show r64 0 from ⟨by decide, by decide⟩), h.has (by exact ⟨rfl, rfl, rfl, rfl, rfl, rfl, trivial⟩)⟩ (fun m91 a w hI => ?_)
          obtain ⟨x78, A79, c80, cs81, x83, hl90, hq82, hr84, h⟩ := hI
          obtain _ | m91 := m91
          · rw [chatelaineref04_Key_Encrypt_l2] at hl90; cases hl90
          rw [chatelaineref04_Key_Encrypt_l2] at hl90
          refine wp_seq ?_
          refine c_rs ?_
          refine sMV h (fun a h => ?_)
          refine s_x h rfl rfl (by decide) (x_bin h.k rfl rfl rfl ib_lss) (fun a h => ?_)
          refine l_end ?_
          refine c_cond h rfl (fun hb => ?_) (fun hb => ?_)
          · rw [if_pos (of_decide_eq_true hb)] at hl90
            refine wp_skip ?_
            refine e_thenN ?_
            refine wp_seq ?_
            refine wp_block ?_
            refine c_rs ?_
            refine sMV h (fun a h => ?_)
            refine s_x h rfl rfl (by decide) (x_bin h.k rfl rfl rfl (ib_remw (by decide))) (fun a h => ?_)
            refine sAV h (fun a h => ?_)
            refine l_end ?_
            refine c_rs ?_
            refine sMV h (fun a h => ?_)
            refine s_x h rfl rfl (by decide) (x_bin h.k rfl rfl rfl (ib_quow (by decide))) (fun a h => ?_)
            refine sAV h (fun a h => ?_)
            refine l_end ?_
            -- region 16 draws
            obtain ⟨m106, h107, hl90⟩ := bsome hl90
            obtain ⟨x112, h113, hl90⟩ := bsome hl90
            obtain ⟨x119, h123, hl90⟩ := bsome hl90
            obtain ⟨x135, h136, hl90⟩ := bsome hl90
            refine d_start h (Mem _ _ _) 18 20 rfl (by kernel_rfl) (fun _ _ _ _ _ h => h) (fun _ h => h) (fun Q a w HE HN h HS => ?_)
            refine d_takeP h (fun _ => HS) HN 0 rfl (by kernel_rfl) (by kernel_rfl) (by kernel_rfl) (by decide) rfl rfl (by decide) (fun w' => x_move h.k _ rfl rfl) (fun a h => ?_)
            refine d_takeP h (fun _ => HS) HN 1 rfl (by kernel_rfl) (by kernel_rfl) (by kernel_rfl) (by decide) rfl rfl (by decide) (fun w' => x_move h.k _ rfl rfl) (fun a h => ?_)
            obtain ⟨k93, hc94, ⟨k95, k96, rfl, ⟨rfl, hr97⟩, ⟨k98, k99, rfl, ⟨A100, c101, rfl, hs102⟩, ⟨A103, c104, rfl, hs105⟩⟩⟩⟩ := id hpa0
            refine d_takeP h (fun _ => HS) HN 2 rfl (by kernel_rfl) (by kernel_rfl) (by kernel_rfl) (by decide) rfl rfl (by decide) (fun w' => x_nil h.k rfl rfl) (fun a h => ?_)
            refine d_takeP h (fun _ => HS) HN 3 rfl (by kernel_rfl) (by kernel_rfl) (by kernel_rfl) (by decide) rfl rfl (by decide) (fun w' => x_faddr h.k rfl Try.underlying92 rfl sz_Sint rfl) (fun a h => ?_)
            refine d_takeD h HS HN 4 [15, 16, 17, 18, 19] rfl (by kernel_rfl) (by kernel_rfl) (by kernel_rfl) (by kernel_rfl) (by kernel_rfl) (by kernel_rfl) rfl rfl (by decide) (fun w' hw => x_ld h.k rfl Try.underlying89 rfl rfl (hc94 _ (hw.snOK (i := 3) rfl) 2 _ rfl)) (fun a h => ?_)
            refine d_takeP h (fun _ => HS) HN 5 rfl (by kernel_rfl) (by kernel_rfl) (by kernel_rfl) (by decide) rfl rfl (by decide) (fun w' => x_move h.k _ rfl rfl) (fun a h => ?_)
            refine d_takeP h (fun _ => HS) HN 6 rfl (by kernel_rfl) (by kernel_rfl) (by kernel_rfl) (by decide) rfl rfl (by decide) (fun w' => x_move h.k _ rfl rfl) (fun a h => ?_)
            refine d_takeP h (fun _ => HS) HN 7 rfl (by kernel_rfl) (by kernel_rfl) (by kernel_rfl) (by decide) rfl rfl (by decide) (fun w' => x_move h.k _ rfl rfl) (fun a h => ?_)
            refine d_takeP h (fun _ => HS) HN 8 rfl (by kernel_rfl) (by kernel_rfl) (by kernel_rfl) (by decide) rfl rfl (by decide) (fun w' => x_move h.k _ rfl rfl) (fun a h => ?_)
            refine d_takeP h (fun _ => HS) HN 9 rfl (by kernel_rfl) (by kernel_rfl) (by kernel_rfl) (by decide) rfl rfl (by decide) (fun w' => x_bin h.k rfl rfl rfl (ib_add rfl)) (fun a h => ?_)
            refine d_takeP h (fun _ => HS) HN 10 rfl (by kernel_rfl) (by kernel_rfl) (by kernel_rfl) (by decide) rfl rfl (by decide) (fun w' => x_bin h.k rfl rfl rfl (ib_remw (by decide))) (fun a h => ?_)
            refine d_takeP h (fun _ => HS) HN 11 rfl (by kernel_rfl) (by kernel_rfl) (by kernel_rfl) (by decide) rfl rfl (by decide) (fun w' => x_bin h.k rfl rfl rfl (ib_mul rfl)) (fun a h => ?_)
            refine d_takeP h (fun _ => HS) HN 12 rfl (by kernel_rfl) (by kernel_rfl) (by kernel_rfl) (by decide) rfl rfl (by decide) (fun w' => x_bin h.k rfl rfl rfl (ib_add rfl)) (fun a h => ?_)
            obtain ⟨hi108, hm109⟩ := ix_some h107
            obtain ⟨g111, hA110⟩ := h.m.rowHead (i := 1) rfl (Nat.lt_of_le_of_lt (Nat.zero_le _) hm109)
            refine d_takeP h (fun _ => HS) HN 13 rfl (by kernel_rfl) (by kernel_rfl) (by kernel_rfl) (by decide) rfl rfl (by decide) (fun w' => x_iaddrE h.k rfl Try.underlying89 sz_int hA110 rfl rfl hi108 hm109) (fun a h => ?_)
            obtain ⟨u114, hv115, hu116⟩ := (hq53).cell rfl h113
            obtain ⟨e118, hr117⟩ := hu116
            cases e118
            refine d_takeD h HS HN 14 [15, 16, 17, 18, 19] rfl (by kernel_rfl) (by kernel_rfl) (by kernel_rfl) (by kernel_rfl) (by kernel_rfl) (by kernel_rfl) rfl rfl (by decide) (fun w' hw => x_ld h.k rfl Try.underlying3 rfl rfl (hw.cellRowE (i := 1) rfl hA110 _ (by rw [Nat.mul_one]; exact hv115))) (fun a h => ?_)
            obtain ⟨m120, hi124, hm125, hx126⟩ := idx_some h123
            obtain ⟨b121, off122, k127, hA128, hu129, hc130⟩ := (hs105).at1 rfl hx126 (h.m.snOK (i := 3) rfl)
            obtain ⟨e132, hr131⟩ := hu129
            cases e132
            refine d_takeP h (fun _ => HS) HN 15 rfl (by kernel_rfl) (by kernel_rfl) (by kernel_rfl) (by decide) rfl rfl (by decide) (fun w' => x_iaddrE h.k rfl Try.underlying89 sz_int hA128 rfl rfl hi124 hm125) (fun a h => ?_)
            refine d_takeD h HS HN 16 [17, 18, 19] rfl (by kernel_rfl) (by kernel_rfl) (by kernel_rfl) (by kernel_rfl) (by kernel_rfl) (by kernel_rfl) rfl rfl (by decide) (fun w' hw => x_ld h.k rfl Try.underlying3 rfl rfl (hc130 _ (hw.snOK (i := 3) rfl))) (fun a h => ?_)
            refine d_alone 17 rfl (by kernel_rfl) (fun K hK => ?_)
            refine q_bslice (T := tyI) (S := S0) h rfl rfl rfl (by decide) Try.underlying89 zi_int (by decide) (by decide) (by decide) (by decide) [.int .i64 x119] rfl rfl (C := [[.int .i64 x119]]) rfl (xs := [x119]) ⟨[.int .i64 x119], _, rfl, ⟨rfl, hr131⟩, rfl⟩ (by intro c hc; simp only [List.mem_cons, List.not_mem_nil, or_false] at hc; subst hc; rfl) (fun a w A133 h => ?_)
            have hb134 : reps tyI S0 ([[.int .i64 x119]] : List (List Value)).flatten [x119] := ⟨[.int .i64 x119], _, rfl, ⟨rfl, hr131⟩, rfl⟩
            replace HS := h.m.pick [1, 2, 3, 4] [.box g4 64 (List.replicate 16 (.int .u8 0 : Value)), .row (.slice A50 x49.length c51) 3 1 x49.length cs52, .row (.slice A79 x78.length c80) 3 1 x78.length cs81, .sn S0] (by decide) rfl
            refine hK _ _ (fun _ _ => HS) ?_
            clear hK
            refine d_alone 18 rfl (by kernel_rfl) (fun K hK => ?_)
            refine q_append (T := tyI) (S := S0) h rfl rfl rfl (by decide) Try.underlying89 zb_int rfl (by decide) rfl 3 rfl hq82 rfl hb134 (h.m.rdRowA (i := 0) rfl) h136 (fun a w A137 c138 cs139 hq140 h => ?_)
            refine hK _ _ (fun hne _ => absurd rfl hne) ?_
            clear hK
            refine d_takeP h (fun hl => absurd hl (by decide)) HN 19 rfl (by kernel_rfl) (by kernel_rfl) (by kernel_rfl) (by decide) rfl rfl (by decide) (fun w' => x_assign h.k _ rfl rfl) (fun a h => ?_)
            refine d_done (by kernel_rfl) (HE _ _ ?_) _
            refine e_blkN ?_
            refine e_thenN ?_
            refine c_r ?_
            refine sMV h (fun a h => ?_)
            refine s_x h rfl rfl (by decide) (x_bin h.k rfl rfl rfl (ib_add rfl)) (fun a h => ?_)
            refine sAV h (fun a h => ?_)
            refine l_nil ?_
            have h := h.pick [1, 2, 3, 4] (by decide) rfl
            exact e_thenN ⟨m91, Nat.lt_succ_self _, x135, A137, c138, cs139, w64 (x83 + 1), hl90, hq140, (w64_r _), h.has (by exact ⟨rfl, rfl, rfl, rfl, rfl, rfl, trivial⟩)⟩
          · rw [if_neg (of_decide_eq_false hb)] at hl90
            refine wp_exit ?_
            refine e_thenX ?_
            refine e_thenX ?_
            refine e_blkX ?_
            refine e_thenN ?_
            have h := h.pick [0, 2, 3] (by decide) rfl
            exact ⟨x78, A79, c80, cs81, (Option.some.inj hl90), hq82, h.has (by exact ⟨rfl, rfl, rfl, rfl, trivial⟩)⟩
        · rintro a w ⟨x85, A86, c87, cs88, rfl, hq89, h⟩
          refine e_thenN ?_
          obtain ⟨o141, hc142, hl61⟩ := bsome hl61
          refine c_cut (fun a w => ∃ (x143 : List Int), ∃ (A144 : Option Addr), ∃ (c145 : Nat), ∃ (cs146 : List Value), x143 = o141 ∧ reps tyI S0 cs146 x143 ∧ St 155 w0 (ownL ([] ++ [.sn S0])) [(0, .pointer (some ⟨ga0, 0, none⟩)), (4, .pointer (some ⟨g4, 0, none⟩)), (7, .int .i64 x54), (8, .slice A144 x143.length c145)] [.box g4 64 (List.replicate 16 (.int .u8 0 : Value)), .row (.slice A144 x143.length c145) 3 1 x143.length cs146, .sn S0] a w) ?_ ?_
          · refine c_rs ?_
            refine sMV h (fun a h => ?_)
            refine sMV h (fun a h => ?_)
            obtain ⟨k148, hc149, ⟨k150, k151, rfl, ⟨rfl, hr152⟩, ⟨k153, k154, rfl, ⟨A155, c156, rfl, hs157⟩, ⟨A158, c159, rfl, hs160⟩⟩⟩⟩ := id hpa0
            refine s_x h rfl rfl (by decide) (x_nil h.k rfl rfl) (fun a h => ?_)
            refine s_x h rfl rfl (by decide) (x_faddr h.k rfl Try.underlying92 rfl sz_int rfl) (fun a h => ?_)
            refine s_x h rfl rfl (by decide) (x_ld h.k rfl Try.underlying3 rfl rfl (hc149 _ (h.m.snOK (i := 2) rfl) 0 _ rfl)) (fun a h => ?_)
            refine s_x h rfl rfl (by decide) (x_bin h.k rfl rfl rfl ib_lss) (fun a h => ?_)
            refine l_end ?_
            refine c_cond h rfl (fun hb => ?_) (fun hb => ?_)
            · rw [if_pos (of_decide_eq_true hb)] at hc142
              refine c_rs ?_
              refine sAV h (fun a h => ?_)
              refine l_end ?_
              refine wp_seq ?_
              refine c_rs ?_
              refine sAV h (fun a h => ?_)
              refine l_end ?_
              obtain ⟨o161, hl162, hc142⟩ := bsome hc142
              refine c_fin (fun a w => ∃ (x170 : List Int), ∃ (A171 : Option Addr), ∃ (c172 : Nat), ∃ (cs173 : List Value), x170 = o161 ∧ reps tyI S0 cs173 x170 ∧ St 155 w0 (ownL ([] ++ [.sn S0])) [(0, .pointer (some ⟨ga0, 0, none⟩)), (4, .pointer (some ⟨g4, 0, none⟩)), (7, .int .i64 x54), (12, .slice A171 x170.length c172)] [.box g4 64 (List.replicate 16 (.int .u8 0 : Value)), .row (.slice A171 x170.length c172) 3 1 x170.length cs173, .sn S0] a w) ?_ ?_
              · refine wp_block ?_
                have h := h.mem (h.m.nilrow 3 1)
                have h := h.pick [1, 2, 0, 3] (by decide) rfl
                refine c_loop (fun m176 a w => ∃ (x163 : List Int), ∃ (A164 : Option Addr), ∃ (c165 : Nat), ∃ (cs166 : List Value), ∃ (x168 : Int), chatelaineref04_Key_Encrypt_l3 Fu x85 m176 x163 x168 = some o161 ∧ reps tyI S0 cs166 x163 ∧ r64 x168 ∧ St 155 w0 (ownL ([] ++ [.sn S0])) [(0, .pointer (some ⟨ga0, 0, none⟩)), (4, .pointer (some ⟨g4, 0, none⟩)), (7, .int .i64 x54), (8, .slice A86 x85.length c87), (12, .slice A164 x163.length c165), (13, .int .i64 x168)] [.box g4 64 (List.replicate 16 (.int .u8 0 : Value)), .row (.slice A86 x85.length c87) 3 1 x85.length cs88, .row (.slice A164 x163.length c165) 3 1 x163.length cs166, .sn S0] a w) Fu ⟨[], none, 0, [], 0, hl162, (show reps tyI S0 [] [] from rfl), (show r64 0 from ⟨by decide, by decide⟩), h.has (by exact ⟨rfl, rfl, rfl, rfl, rfl, rfl, trivial⟩)⟩ (fun m176 a w hI => ?_)
                obtain ⟨x163, A164, c165, cs166, x168, hl175, hq167, hr169, h⟩ := hI
                obtain _ | m176 := m176
                · rw [chatelaineref04_Key_Encrypt_l3] at hl175; cases hl175
                rw [chatelaineref04_Key_Encrypt_l3] at hl175
                refine wp_seq ?_
                refine c_rs ?_
                refine sMV h (fun a h => ?_)
                refine s_x h rfl rfl (by decide) (x_bin h.k rfl rfl rfl ib_lss) (fun a h => ?_)
                refine l_end ?_
                refine c_cond h rfl (fun hb => ?_) (fun hb => ?_)
                · rw [if_pos (of_decide_eq_true hb)] at hl175
                  refine wp_skip ?_
                  refine e_thenN ?_
                  refine wp_seq ?_
                  refine wp_block ?_
                  refine c_rs ?_
                  refine sMV h (fun a h => ?_)
                  refine sMV h (fun a h => ?_)
                  obtain ⟨m178, h179, hl175⟩ := bsome hl175
                  obtain ⟨hi180, hm181⟩ := ix_some h179
                  obtain ⟨g183, hA182⟩ := h.m.rowHead (i := 1) rfl (Nat.lt_of_le_of_lt (Nat.zero_le _) hm181)
                  refine s_x h rfl rfl (by decide) (x_iaddrE h.k rfl Try.underlying89 sz_int hA182 rfl rfl hi180 hm181) (fun a h => ?_)
                  obtain ⟨x184, h185, hl175⟩ := bsome hl175
                  obtain ⟨u186, hv187, hu188⟩ := (hq89).cell rfl h185
                  obtain ⟨e190, hr189⟩ := hu188
                  cases e190
                  refine s_x h rfl rfl (by decide) (x_ld h.k rfl Try.underlying3 rfl rfl (h.m.cellRowE (i := 1) rfl hA182 _ (by rw [Nat.mul_one]; exact hv187))) (fun a h => ?_)
                  refine sAV h (fun a h => ?_)
                  refine l_end ?_
                  refine c_rs ?_
                  refine sMV h (fun a h => ?_)
                  refine sMV h (fun a h => ?_)
                  refine s_x h rfl rfl (by decide) (x_bin h.k rfl rfl rfl (ib_add rfl)) (fun a h => ?_)
                  obtain ⟨m191, h192, hl175⟩ := bsome hl175
                  obtain ⟨hi193, hm194⟩ := ix_some h192
                  obtain ⟨g196, hA195⟩ := h.m.rowHead (i := 1) rfl (Nat.lt_of_le_of_lt (Nat.zero_le _) hm194)
                  refine s_x h rfl rfl (by decide) (x_iaddrE h.k rfl Try.underlying89 sz_int hA195 rfl rfl hi193 hm194) (fun a h => ?_)
                  obtain ⟨x197, h198, hl175⟩ := bsome hl175
                  obtain ⟨u199, hv200, hu201⟩ := (hq89).cell rfl h198
                  obtain ⟨e203, hr202⟩ := hu201
                  cases e203
                  refine s_x h rfl rfl (by decide) (x_ld h.k rfl Try.underlying3 rfl rfl (h.m.cellRowE (i := 1) rfl hA195 _ (by rw [Nat.mul_one]; exact hv200))) (fun a h => ?_)
                  refine sAV h (fun a h => ?_)
                  refine l_end ?_
                  refine c_rs ?_
                  refine sMV h (fun a h => ?_)
                  refine sMV h (fun a h => ?_)
                  refine s_x h rfl rfl (by decide) (x_bin h.k rfl rfl rfl (ib_add rfl)) (fun a h => ?_)
                  obtain ⟨m204, h205, hl175⟩ := bsome hl175
                  obtain ⟨hi206, hm207⟩ := ix_some h205
                  obtain ⟨g209, hA208⟩ := h.m.rowHead (i := 1) rfl (Nat.lt_of_le_of_lt (Nat.zero_le _) hm207)
                  refine s_x h rfl rfl (by decide) (x_iaddrE h.k rfl Try.underlying89 sz_int hA208 rfl rfl hi206 hm207) (fun a h => ?_)
                  obtain ⟨x210, h211, hl175⟩ := bsome hl175
                  obtain ⟨u212, hv213, hu214⟩ := (hq89).cell rfl h211
                  obtain ⟨e216, hr215⟩ := hu214
                  cases e216
                  refine s_x h rfl rfl (by decide) (x_ld h.k rfl Try.underlying3 rfl rfl (h.m.cellRowE (i := 1) rfl hA208 _ (by rw [Nat.mul_one]; exact hv213))) (fun a h => ?_)
                  refine sAV h (fun a h => ?_)
                  refine l_end ?_
                  refine c_rs ?_
                  refine sMV h (fun a h => ?_)
                  refine sMV h (fun a h => ?_)
                  refine s_x h rfl rfl (by decide) (x_bin h.k rfl rfl rfl (ib_add rfl)) (fun a h => ?_)
                  obtain ⟨m217, h218, hl175⟩ := bsome hl175
                  obtain ⟨hi219, hm220⟩ := ix_some h218
                  obtain ⟨g222, hA221⟩ := h.m.rowHead (i := 1) rfl (Nat.lt_of_le_of_lt (Nat.zero_le _) hm220)
                  refine s_x h rfl rfl (by decide) (x_iaddrE h.k rfl Try.underlying89 sz_int hA221 rfl rfl hi219 hm220) (fun a h => ?_)
                  obtain ⟨x223, h224, hl175⟩ := bsome hl175
                  obtain ⟨u225, hv226, hu227⟩ := (hq89).cell rfl h224
                  obtain ⟨e229, hr228⟩ := hu227
                  cases e229
                  refine s_x h rfl rfl (by decide) (x_ld h.k rfl Try.underlying3 rfl rfl (h.m.cellRowE (i := 1) rfl hA221 _ (by rw [Nat.mul_one]; exact hv226))) (fun a h => ?_)
                  refine sAV h (fun a h => ?_)
                  refine l_end ?_
                  refine c_rs ?_
                  refine sMV h (fun a h => ?_)
                  refine sMV h (fun a h => ?_)
                  obtain ⟨x230, h231, hl175⟩ := bsome hl175
                  have hX := chatelaineref02_Times_ok Fu (S0 := snapAll _) x184 hr189 2 (show r64 2 from ⟨by decide, by decide⟩) _ h231 _ h.startAll
                  refine q_callX hX h rfl rfl rfl (by decide) Try.func59 rfl rfl rfl (fun a w v L1 S1 hR hb1 h => ?_)
                  obtain ⟨rfl, rfl, hr233, _⟩ := hR
                  refine sMV h (fun a h => ?_)
                  obtain ⟨x234, h235, hl175⟩ := bsome hl175
                  have hX := chatelaineref02_Times_ok Fu (S0 := snapAll _) x197 hr202 3 (show r64 3 from ⟨by decide, by decide⟩) _ h235 _ h.startAll
                  refine q_callX hX h rfl rfl rfl (by decide) Try.func59 rfl rfl rfl (fun a w v L1 S1 hR hb1 h => ?_)
                  obtain ⟨rfl, rfl, hr237, _⟩ := hR
                  refine sMV h (fun a h => ?_)
                  refine sMV h (fun a h => ?_)
                  obtain ⟨x238, h239, hl175⟩ := bsome hl175
                  have hX := chatelaineref04_sum_ok Fu (S0 := snapAll _) x230 hr233 x234 hr237 x210 hr215 x223 hr228 _ h239 _ h.startAll
                  refine q_callX hX h rfl rfl rfl (by decide) Try.func61 rfl rfl rfl (fun a w v L1 S1 hR hb1 h => ?_)
                  obtain ⟨rfl, rfl, hr241, _⟩ := hR
                  refine q_bslice (T := tyI) (S := S0) h rfl rfl rfl (by decide) Try.underlying89 zi_int (by decide) (by decide) (by decide) (by decide) [.int .i64 x238] rfl rfl (C := [[.int .i64 x238]]) rfl (xs := [x238]) ⟨[.int .i64 x238], _, rfl, ⟨rfl, hr241⟩, rfl⟩ (by intro c hc; simp only [List.mem_cons, List.not_mem_nil, or_false] at hc; subst hc; rfl) (fun a w A242 h => ?_)
                  have hb243 : reps tyI S0 ([[.int .i64 x238]] : List (List Value)).flatten [x238] := ⟨[.int .i64 x238], _, rfl, ⟨rfl, hr241⟩, rfl⟩
                  obtain ⟨x244, h245, hl175⟩ := bsome hl175
                  refine q_append (T := tyI) (S := S0) h rfl rfl rfl (by decide) Try.underlying89 zb_int rfl (by decide) rfl 3 rfl hq167 rfl hb243 (h.m.rdRowA (i := 0) rfl) h245 (fun a w A246 c247 cs248 hq249 h => ?_)
                  refine sAV h (fun a h => ?_)
                  refine l_end ?_
                  refine c_rs ?_
                  refine sMV h (fun a h => ?_)
                  refine sMV h (fun a h => ?_)
                  refine sMV h (fun a h => ?_)
                  obtain ⟨x250, h251, hl175⟩ := bsome hl175
                  have hX := chatelaineref02_Times_ok Fu (S0 := snapAll _) x197 hr202 2 (show r64 2 from ⟨by decide, by decide⟩) _ h251 _ h.startAll
                  refine q_callX hX h rfl rfl rfl (by decide) Try.func59 rfl rfl rfl (fun a w v L1 S1 hR hb1 h => ?_)
                  obtain ⟨rfl, rfl, hr253, _⟩ := hR
                  refine sMV h (fun a h => ?_)
                  obtain ⟨x254, h255, hl175⟩ := bsome hl175
                  have hX := chatelaineref02_Times_ok Fu (S0 := snapAll _) x210 hr215 3 (show r64 3 from ⟨by decide, by decide⟩) _ h255 _ h.startAll
                  refine q_callX hX h rfl rfl rfl (by decide) Try.func59 rfl rfl rfl (fun a w v L1 S1 hR hb1 h => ?_)
                  obtain ⟨rfl, rfl, hr257, _⟩ := hR
                  refine sMV h (fun a h => ?_)
                  obtain ⟨x258, h259, hl175⟩ := bsome hl175
                  have hX := chatelaineref04_sum_ok Fu (S0 := snapAll _) x184 hr189 x250 hr253 x254 hr257 x223 hr228 _ h259 _ h.startAll
                  refine q_callX hX h rfl rfl rfl (by decide) Try.func61 rfl rfl rfl (fun a w v L1 S1 hR hb1 h => ?_)
                  obtain ⟨rfl, rfl, hr261, _⟩ := hR
                  refine q_bslice (T := tyI) (S := S0) h rfl rfl rfl (by decide) Try.underlying89 zi_int (by decide) (by decide) (by decide) (by decide) [.int .i64 x258] rfl rfl (C := [[.int .i64 x258]]) rfl (xs := [x258]) ⟨[.int .i64 x258], _, rfl, ⟨rfl, hr261⟩, rfl⟩ (by intro c hc; simp only [List.mem_cons, List.not_mem_nil, or_false] at hc; subst hc; rfl) (fun a w A262 h => ?_)
                  have hb263 : reps tyI S0 ([[.int .i64 x258]] : List (List Value)).flatten [x258] := ⟨[.int .i64 x258], _, rfl, ⟨rfl, hr261⟩, rfl⟩
                  obtain ⟨x264, h265, hl175⟩ := bsome hl175
                  refine q_append (T := tyI) (S := S0) h rfl rfl rfl (by decide) Try.underlying89 zb_int rfl (by decide) rfl 4 rfl hq249 rfl hb263 (h.m.rdRowA (i := 0) rfl) h265 (fun a w A266 c267 cs268 hq269 h => ?_)
                  refine sAV h (fun a h => ?_)
                  refine l_end ?_
                  refine c_rs ?_
                  refine sMV h (fun a h => ?_)
                  refine sMV h (fun a h => ?_)
                  refine sMV h (fun a h => ?_)
                  refine sMV h (fun a h => ?_)
                  obtain ⟨x270, h271, hl175⟩ := bsome hl175
                  have hX := chatelaineref02_Times_ok Fu (S0 := snapAll _) x210 hr215 2 (show r64 2 from ⟨by decide, by decide⟩) _ h271 _ h.startAll
                  refine q_callX hX h rfl rfl rfl (by decide) Try.func59 rfl rfl rfl (fun a w v L1 S1 hR hb1 h => ?_)
                  obtain ⟨rfl, rfl, hr273, _⟩ := hR
                  refine sMV h (fun a h => ?_)
                  obtain ⟨x274, h275, hl175⟩ := bsome hl175
                  have hX := chatelaineref02_Times_ok Fu (S0 := snapAll _) x223 hr228 3 (show r64 3 from ⟨by decide, by decide⟩) _ h275 _ h.startAll
                  refine q_callX hX h rfl rfl rfl (by decide) Try.func59 rfl rfl rfl (fun a w v L1 S1 hR hb1 h => ?_)
                  obtain ⟨rfl, rfl, hr277, _⟩ := hR
                  obtain ⟨x278, h279, hl175⟩ := bsome hl175
                  have hX := chatelaineref04_sum_ok Fu (S0 := snapAll _) x184 hr189 x197 hr202 x270 hr273 x274 hr277 _ h279 _ h.startAll
                  refine q_callX hX h rfl rfl rfl (by decide) Try.func61 rfl rfl rfl (fun a w v L1 S1 hR hb1 h => ?_)
                  obtain ⟨rfl, rfl, hr281, _⟩ := hR
                  refine q_bslice (T := tyI) (S := S0) h rfl rfl rfl (by decide) Try.underlying89 zi_int (by decide) (by decide) (by decide) (by decide) [.int .i64 x278] rfl rfl (C := [[.int .i64 x278]]) rfl (xs := [x278]) ⟨[.int .i64 x278], _, rfl, ⟨rfl, hr281⟩, rfl⟩ (by intro c hc; simp only [List.mem_cons, List.not_mem_nil, or_false] at hc; subst hc; rfl) (fun a w A282 h => ?_)
                  have hb283 : reps tyI S0 ([[.int .i64 x278]] : List (List Value)).flatten [x278] := ⟨[.int .i64 x278], _, rfl, ⟨rfl, hr281⟩, rfl⟩
                  obtain ⟨x284, h285, hl175⟩ := bsome hl175
                  refine q_append (T := tyI) (S := S0) h rfl rfl rfl (by decide) Try.underlying89 zb_int rfl (by decide) rfl 5 rfl hq269 rfl hb283 (h.m.rdRowA (i := 0) rfl) h285 (fun a w A286 c287 cs288 hq289 h => ?_)
                  refine sAV h (fun a h => ?_)
                  refine l_end ?_
                  refine c_r ?_
                  refine sMV h (fun a h => ?_)
                  refine sMV h (fun a h => ?_)
                  obtain ⟨x290, h291, hl175⟩ := bsome hl175
                  have hX := chatelaineref02_Times_ok Fu (S0 := snapAll _) x184 hr189 3 (show r64 3 from ⟨by decide, by decide⟩) _ h291 _ h.startAll
                  refine q_callX hX h rfl rfl rfl (by decide) Try.func59 rfl rfl rfl (fun a w v L1 S1 hR hb1 h => ?_)
                  obtain ⟨rfl, rfl, hr293, _⟩ := hR
                  refine sMV h (fun a h => ?_)
                  refine sMV h (fun a h => ?_)
                  refine sMV h (fun a h => ?_)
                  obtain ⟨x294, h295, hl175⟩ := bsome hl175
                  have hX := chatelaineref02_Times_ok Fu (S0 := snapAll _) x223 hr228 2 (show r64 2 from ⟨by decide, by decide⟩) _ h295 _ h.startAll
                  refine q_callX hX h rfl rfl rfl (by decide) Try.func59 rfl rfl rfl (fun a w v L1 S1 hR hb1 h => ?_)
                  obtain ⟨rfl, rfl, hr297, _⟩ := hR
                  obtain ⟨x298, h299, hl175⟩ := bsome hl175
                  have hX := chatelaineref04_sum_ok Fu (S0 := snapAll _) x290 hr293 x197 hr202 x210 hr215 x294 hr297 _ h299 _ h.startAll
                  refine q_callX hX h rfl rfl rfl (by decide) Try.func61 rfl rfl rfl (fun a w v L1 S1 hR hb1 h => ?_)
                  obtain ⟨rfl, rfl, hr301, _⟩ := hR
                  refine q_bslice (T := tyI) (S := S0) h rfl rfl rfl (by decide) Try.underlying89 zi_int (by decide) (by decide) (by decide) (by decide) [.int .i64 x298] rfl rfl (C := [[.int .i64 x298]]) rfl (xs := [x298]) ⟨[.int .i64 x298], _, rfl, ⟨rfl, hr301⟩, rfl⟩ (by intro c hc; simp only [List.mem_cons, List.not_mem_nil, or_false] at hc; subst hc; rfl) (fun a w A302 h => ?_)
                  have hb303 : reps tyI S0 ([[.int .i64 x298]] : List (List Value)).flatten [x298] := ⟨[.int .i64 x298], _, rfl, ⟨rfl, hr301⟩, rfl⟩
                  obtain ⟨x304, h305, hl175⟩ := bsome hl175
                  refine q_append (T := tyI) (S := S0) h rfl rfl rfl (by decide) Try.underlying89 zb_int rfl (by decide) rfl 6 rfl hq289 rfl hb303 (h.m.rdRowA (i := 0) rfl) h305 (fun a w A306 c307 cs308 hq309 h => ?_)
                  refine sAV h (fun a h => ?_)
                  refine l_nil ?_
                  refine e_blkN ?_
                  refine e_thenN ?_
                  refine c_r ?_
                  refine sMV h (fun a h => ?_)
                  refine s_x h rfl rfl (by decide) (x_bin h.k rfl rfl rfl (ib_add rfl)) (fun a h => ?_)
                  refine sAV h (fun a h => ?_)
                  refine l_nil ?_
                  have h := h.pick [4, 5, 6, 7] (by decide) rfl
                  exact e_thenN ⟨m176, Nat.lt_succ_self _, x304, A306, c307, cs308, w64 (x168 + 4), hl175, hq309, (w64_r _), h.has (by exact ⟨rfl, rfl, rfl, rfl, rfl, rfl, trivial⟩)⟩
                · rw [if_neg (of_decide_eq_false hb)] at hl175
                  refine wp_exit ?_
                  refine e_thenX ?_
                  refine e_thenX ?_
                  refine e_blkX ?_
                  refine e_thenN ?_
                  have h := h.pick [0, 2, 3] (by decide) rfl
                  exact ⟨x163, A164, c165, cs166, (Option.some.inj hl175), hq167, h.has (by exact ⟨rfl, rfl, rfl, rfl, trivial⟩)⟩
              · rintro a w ⟨x170, A171, c172, cs173, rfl, hq174, h⟩
                refine e_thenN ?_
                refine c_r ?_
                refine sMV h (fun a h => ?_)
                refine sAV h (fun a h => ?_)
                refine l_nil ?_
                refine e_thenN ?_
                exact ⟨x170, A171, c172, cs173, (Option.some.inj hc142), hq174, h.has (by exact ⟨rfl, rfl, rfl, rfl, trivial⟩)⟩
            · rw [if_neg (of_decide_eq_false hb)] at hc142
              refine wp_skip ?_
              refine e_thenN ?_
              exact ⟨x85, A86, c87, cs88, (Option.some.inj hc142), hq89, h.has (by exact ⟨rfl, rfl, rfl, rfl, trivial⟩)⟩
          · rintro a w ⟨x143, A144, c145, cs146, rfl, hq147, h⟩
            refine c_r ?_
            refine sMV h (fun a h => ?_)
            refine sMV h (fun a h => ?_)
            refine sMV h (fun a h => ?_)
            obtain ⟨x311, h312, hl61⟩ := bsome hl61
            have hX := chatelaineref04_Key_add_ok Fu (S0 := snapAll _) ga0 a0 (hpa0.mono (h.m.leAll (i := 2) rfl)) A144 c145 x143 (h.m.rowAll (i := 1) rfl (j := 2) rfl hq147) x54 hr55 _ h312 _ h.startAll
            refine q_callX hX h rfl rfl rfl (by decide) Try.func60 rfl rfl rfl (fun a w v L1 S1 hR hb1 h => ?_)
            obtain ⟨A314, c315, cs316, rfl, rfl, hq317, _⟩ := hR
            have hq318 := hq317.fl (S' := S0) fl_I
            refine sAV h (fun a h => ?_)
            refine l_nil ?_
            refine e_blkN ?_
            refine e_thenN ?_
            refine c_r ?_
            refine sMV h (fun a h => ?_)
            refine s_x h rfl rfl (by decide) (x_bin h.k rfl rfl rfl (ib_add rfl)) (fun a h => ?_)
            refine sAV h (fun a h => ?_)
            refine l_nil ?_
            have h := h.pick [1, 0, 3] (by decide) rfl
            exact e_thenN ⟨m62, Nat.lt_succ_self _, x311, A314, c315, cs316, w64 (x54 + 1), hl61, hq318, (w64_r _), h.has (by exact ⟨rfl, rfl, rfl, rfl, trivial⟩)⟩
      · rw [if_neg (of_decide_eq_false hb)] at hl61
        refine wp_exit ?_
        refine e_thenX ?_
        refine e_thenX ?_
        refine e_blkX ?_
        refine e_thenN ?_
        exact ⟨x49, A50, c51, cs52, (Option.some.inj hl61), hq53, h.has (by exact ⟨rfl, rfl, trivial⟩)⟩
    · rintro a w ⟨x56, A57, c58, cs59, rfl, hq60, h⟩
      refine e_thenN ?_
      refine c_rs ?_
      refine s_alloc h rfl rfl rfl (by decide) zi_A16_uint8 rfl (fun a w g321 h => ?_)
      have h := h.parts (L' := [.box g321 64 (List.replicate 16 (.int .u8 0 : Value)), .box g4 64 (List.replicate 16 (.int .u8 0 : Value)), .row (.slice A57 x56.length c58) 3 1 x56.length cs59, .sn S0]) rfl
      refine l_end ?_
      refine wp_seq ?_
      refine c_rs ?_
      refine sAV h (fun a h => ?_)
      refine l_end ?_
      obtain ⟨o322, hl323, hf⟩ := bsome hf
      refine c_fin (fun a w => ∃ (x330 : List UInt8), ∃ (k331 : List Value), x330 = o322 ∧ reps ty8 S0 k331 x330 ∧ x330.length = 16 ∧ St 155 w0 (ownL ([] ++ [.sn S0])) [(4, .pointer (some ⟨g4, 0, none⟩)), (18, .pointer (some ⟨g321, 0, none⟩))] [.box g4 64 (List.replicate 16 (.int .u8 0 : Value)), .box g321 64 k331, .sn S0] a w) ?_ ?_
      · refine wp_block ?_
        have h := h.pick [1, 2, 0, 3] (by decide) rfl
        refine c_loop (fun m335 a w => ∃ (x324 : Int), ∃ (x326 : List UInt8), ∃ (k327 : List Value), chatelaineref04_Key_Encrypt_l4 Fu x56 m335 x324 x326 = some o322 ∧ r64 x324 ∧ reps ty8 S0 k327 x326 ∧ x326.length = 16 ∧ St 155 w0 (ownL ([] ++ [.sn S0])) [(4, .pointer (some ⟨g4, 0, none⟩)), (5, .slice A57 x56.length c58), (18, .pointer (some ⟨g321, 0, none⟩)), (19, .int .i64 x324)] [.box g4 64 (List.replicate 16 (.int .u8 0 : Value)), .row (.slice A57 x56.length c58) 3 1 x56.length cs59, .box g321 64 k327, .sn S0] a w) Fu ⟨0, (List.replicate 16 ((0 : UInt8) : UInt8)), (List.replicate 16 (.int .u8 0 : Value)), hl323, (show r64 0 from ⟨by decide, by decide⟩), (show reps ty8 S0 (List.replicate 16 (.int .u8 0 : Value)) (List.replicate 16 ((0 : UInt8) : UInt8)) from repsRep1 (x := ((0 : UInt8) : UInt8)) rfl), (show (List.replicate 16 ((0 : UInt8) : UInt8)).length = 16 from List.length_replicate), h.has (by exact ⟨rfl, rfl, rfl, rfl, trivial⟩)⟩ (fun m335 a w hI => ?_)
        obtain ⟨x324, x326, k327, hl334, hr325, hs328, hl329, h⟩ := hI
        obtain _ | m335 := m335
        · rw [chatelaineref04_Key_Encrypt_l4] at hl334; cases hl334
        rw [chatelaineref04_Key_Encrypt_l4] at hl334
        refine wp_seq ?_
        refine c_rs ?_
        refine sMV h (fun a h => ?_)
        refine s_x h rfl rfl (by decide) (x_bin h.k rfl rfl rfl ib_lss) (fun a h => ?_)
        refine l_end ?_
        refine c_cond h rfl (fun hb => ?_) (fun hb => ?_)
        · rw [if_pos (of_decide_eq_true hb)] at hl334
          refine wp_skip ?_
          refine e_thenN ?_
          refine wp_seq ?_
          refine wp_block ?_
          refine c_r ?_
          refine sMV h (fun a h => ?_)
          refine sMV h (fun a h => ?_)
          refine sMV h (fun a h => ?_)
          obtain ⟨m336, h337, hl334⟩ := bsome hl334
          obtain ⟨hi338, hm339⟩ := ix_some h337
          obtain ⟨g341, hA340⟩ := h.m.rowHead (i := 1) rfl (Nat.lt_of_le_of_lt (Nat.zero_le _) hm339)
          refine s_x h rfl rfl (by decide) (x_iaddrE h.k rfl Try.underlying89 sz_int hA340 rfl rfl hi338 hm339) (fun a h => ?_)
          obtain ⟨x342, h343, hl334⟩ := bsome hl334
          obtain ⟨u344, hv345, hu346⟩ := (hq60).cell rfl h343
          obtain ⟨e348, hr347⟩ := hu346
          cases e348
          refine s_x h rfl rfl (by decide) (x_ld h.k rfl Try.underlying3 rfl rfl (h.m.cellRowE (i := 1) rfl hA340 _ (by rw [Nat.mul_one]; exact hv345))) (fun a h => ?_)
          refine s_x h rfl rfl (by decide) (x_convE h.k rfl Try.underlying3 Try.underlying5 rfl (i8_wrap _).symm) (fun a h => ?_)
          obtain ⟨m349, h350, hl334⟩ := bsome hl334
          obtain ⟨hi351, hm352⟩ := ix_some h350
          refine s_x h rfl rfl (by decide) (x_iaddrA h.k rfl Try.underlying64 sz_uint8 rfl rfl hi351 hm352 rfl) (fun a h => ?_)
          refine q_setBox (T := ty8) (q := i8 x342) h rfl rfl rfl sz_uint8 rfl rfl 2 rfl rfl hs328 rfl (by first | omega | (simp_all; done)) (fun a w cs353 hq354 h => ?_)
          have hl355 : (x326.set m349 (i8 x342)).length = 16 := by rw [List.length_set]; exact hl329
          refine l_nil ?_
          refine e_blkN ?_
          refine e_thenN ?_
          refine c_r ?_
          refine sMV h (fun a h => ?_)
          refine s_x h rfl rfl (by decide) (x_bin h.k rfl rfl rfl (ib_add rfl)) (fun a h => ?_)
          refine sAV h (fun a h => ?_)
          refine l_nil ?_
          exact e_thenN ⟨m335, Nat.lt_succ_self _, w64 (x324 + 1), (x326.set m349 (i8 x342)), cs353, hl334, (w64_r _), hq354, hl355, h.has (by exact ⟨rfl, rfl, rfl, rfl, trivial⟩)⟩
        · rw [if_neg (of_decide_eq_false hb)] at hl334
          refine wp_exit ?_
          refine e_thenX ?_
          refine e_thenX ?_
          refine e_blkX ?_
          refine e_thenN ?_
          have h := h.pick [0, 2, 3] (by decide) rfl
          exact ⟨x326, k327, (Option.some.inj hl334), hs328, hl329, h.has (by exact ⟨rfl, rfl, trivial⟩)⟩
      · rintro a w ⟨x330, k331, rfl, hs332, hl333, h⟩
        refine e_thenN ?_
        refine c_rs ?_
        refine s_x h rfl rfl (by decide) (x_ldR h.k rfl ag_A16_uint8 rfl k331 ((hs332).len.trans (by rw [hl333]; rfl)) (h.m.range0 (i := 1) rfl)) (fun a h => ?_)
        refine s_stW h rfl rfl rfl ag_A16_uint8 rfl (es := k331) rfl ((hs332).len.trans (by rw [hl333]; rfl)) (hs332).one 0 rfl (by first | rfl | simp_all) (fun a w h => ?_)
        refine l_end ?_
        refine wp_ret ?_
        rw [← Option.some.inj hf]
        exact r_ret1 h rfl (rv_cellA h rfl 0 rfl ag_A16_uint8 ((hs332).len.trans (by rw [hl333]; rfl))) ⟨_, [], _, rfl, ⟨k331, rfl, rfl, ⟨hs332, hl333⟩, trivial⟩, rfl, (Up.refl _ _ _), (h.m.pick [2] _ (by decide) rfl)⟩
end Go.Proofs.Ythaoiajbgadcjaa
