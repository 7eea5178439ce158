/- Xm: Go functions as plain functions, and that they are so (written by xt.py). -/
import Derived.Test.YtoimllmmlbehgaaXk
set_option linter.unusedVariables false
set_option linter.unusedSimpArgs false
namespace Go.Proofs.Ytoimllmmlbehgaa
open Go.RowKit
def chatelainelaw10_XtsApart (Fu : Nat) (a0 : Int) (a1 : List UInt8) (a2 : List UInt8) : Option Bool :=
  (chatelainelaw10_awake Fu).bind fun x4 => if (!x4) = true then (some false) else (if (((((decide ((a1.length : Int) = 0)) || (decide (Int.tmod (a1.length : Int) 16 ≠ 0))) || (decide (200 < (a1.length : Int)))) || (decide (a0 < 0))) || (decide (4611686018427387904 < a0))) = true then (some true) else ((chatelainelaw10_key Fu).bind fun x15 => (xts_New Fu x15).bind fun x27 => (match x27 with | .inl x33 => ((xts_Sector_Encrypt_nil0 Fu a0 a1).bind fun x35 => if (((decide (x33 ≠ 0)) || (decide (x35.2 ≠ 0))) || (decide ((x35.1.length : Int) ≠ (a1.length : Int)))) = true then (some false) else ((ix 2 0).bind fun m49 => (a2[m49]?).bind fun x53 => (remI (x53.toNat : Int) (a1.length : Int)).bind fun x58 => (app 1 ([]) a1).bind fun x61 => (ix x61.length x58).bind fun m70 => (x61[m70]?).bind fun x76 => (ix 2 1).bind fun m81 => (a2[m81]?).bind fun x85 => (ix x61.length x58).bind fun m90 => (xts_Sector_Encrypt_nil0 Fu a0 (x61.set m90 (x76 ^^^ x85))).bind fun x103 => (sub a1 0 16).bind fun x113 => (xts_Sector_Encrypt_nil0 Fu a0 x113).bind fun x123 => (if (((decide (x103.2 ≠ 0)) || (decide (x123.2 ≠ 0))) || (decide ((x103.1.length : Int) ≠ (a1.length : Int)))) = true then some true else (sub x35.1 0 16).bind fun x139 => (chatelaineref01_Same Fu x123.1 x139).bind fun x149 => some (!x149)).bind fun z137 => (if z137 = true then some true else (chatelaineref01_Same Fu x35.1 x103.1).bind fun x154 => (ix 2 1).bind fun m157 => (a2[m157]?).bind fun x161 => some (!(x154 == (decide ((x161.toNat : Int) = 0))))).bind fun z152 => if z152 = true then (some false) else ((sub x35.1 0 (w64 ((w64 (Int.tdiv x58 16)) * 16))).bind fun x166 => (sub x103.1 0 (w64 ((w64 (Int.tdiv x58 16)) * 16))).bind fun x176 => (chatelaineref01_Same Fu x166 x176).bind fun x186 => (if x186 = true then (sub x35.1 (w64 ((w64 ((w64 (Int.tdiv x58 16)) * 16)) + 16)) (x35.1.length : Int)).bind fun x191 => (sub x103.1 (w64 ((w64 ((w64 (Int.tdiv x58 16)) * 16)) + 16)) (x103.1.length : Int)).bind fun x201 => (chatelaineref01_Same Fu x191 x201).bind fun x211 => some x211 else some false).bind fun z189 => some z189))) | .inr x214 => ((xts_Sector_Encrypt Fu x214.1 a0 a1).bind fun x218 => if (((decide (x214.2 ≠ 0)) || (decide (x218.2 ≠ 0))) || (decide ((x218.1.length : Int) ≠ (a1.length : Int)))) = true then (some false) else ((ix 2 0).bind fun m232 => (a2[m232]?).bind fun x236 => (remI (x236.toNat : Int) (a1.length : Int)).bind fun x241 => (app 1 ([]) a1).bind fun x244 => (ix x244.length x241).bind fun m253 => (x244[m253]?).bind fun x259 => (ix 2 1).bind fun m264 => (a2[m264]?).bind fun x268 => (ix x244.length x241).bind fun m273 => (xts_Sector_Encrypt Fu x214.1 a0 (x244.set m273 (x259 ^^^ x268))).bind fun x286 => (sub a1 0 16).bind fun x296 => (xts_Sector_Encrypt Fu x214.1 a0 x296).bind fun x306 => (if (((decide (x286.2 ≠ 0)) || (decide (x306.2 ≠ 0))) || (decide ((x286.1.length : Int) ≠ (a1.length : Int)))) = true then some true else (sub x218.1 0 16).bind fun x322 => (chatelaineref01_Same Fu x306.1 x322).bind fun x332 => some (!x332)).bind fun z320 => (if z320 = true then some true else (chatelaineref01_Same Fu x218.1 x286.1).bind fun x337 => (ix 2 1).bind fun m340 => (a2[m340]?).bind fun x344 => some (!(x337 == (decide ((x344.toNat : Int) = 0))))).bind fun z335 => if z335 = true then (some false) else ((sub x218.1 0 (w64 ((w64 (Int.tdiv x241 16)) * 16))).bind fun x349 => (sub x286.1 0 (w64 ((w64 (Int.tdiv x241 16)) * 16))).bind fun x359 => (chatelaineref01_Same Fu x349 x359).bind fun x369 => (if x369 = true then (sub x218.1 (w64 ((w64 ((w64 (Int.tdiv x241 16)) * 16)) + 16)) (x218.1.length : Int)).bind fun x374 => (sub x286.1 (w64 ((w64 ((w64 (Int.tdiv x241 16)) * 16)) + 16)) (x286.1.length : Int)).bind fun x384 => (chatelaineref01_Same Fu x374 x384).bind fun x394 => some x394 else some false).bind fun z372 => some z372))))))
set_option maxRecDepth 100000 in
set_option maxHeartbeats 2000000 in
theorem chatelainelaw10_XtsApart_ok (Fu : Nat) {S0 : Snap} (a0 : Int) (hra0 : r64 a0) (Aa1 : Option Addr) (ca1 : Nat) (a1 : List UInt8) (hsa1 : slS ty8 S0 Aa1 ca1 a1) (csa2 : List Value) (a2 : List UInt8) (hsa2 : (tyA 2 ty8).rep S0 csa2 a2) (r : Bool) (hf : chatelainelaw10_XtsApart Fu a0 a1 a2 = some r) (w0 : World) (hm : Mem w0 (ownL ([] ++ [.sn S0])) ([] ++ [.sn S0]) w0) :
    Calls Try.prog 9 #[.int .i64 a0, .slice Aa1 a1.length ca1, .agg csa2.toArray] w0 (Ret w0 S0 [] (fun v L1 S1 => v = .bool r ∧ L1 = [] ∧ True)) := by
  unfold chatelainelaw10_XtsApart at hf
  obtain ⟨hs1, hl2⟩ := hsa2
  refine c_enterM Try.func9 rfl 149 rfl (by simp) _ hm _ rfl (fun a h => ?_)
  refine c_rs ?_ -- region 0
  refine s_box h rfl rfl rfl (by decide) rfl (cs := csa2) (by rfl) (fun a w g3 h => ?_)
  refine s_assign h rfl _ rfl rfl (by decide) rfl (fun a h => ?_)
  refine l_end ?_
  refine wp_seq ?_
  refine c_rs ?_ -- region 1
  obtain ⟨x4, h5, hf⟩ := bsome hf
  have hX := chatelainelaw10_awake_ok Fu (S0 := snapAll _)  _ h5 _ h.startAll
  refine q_callX hX h rfl rfl rfl (by decide) Try.func28 rfl rfl rfl (fun a w v L1 S1 hR hb1 h => ?_)
  obtain ⟨rfl, rfl, _⟩ := hR
  refine s_x h rfl rfl (by decide) (x_not h.k rfl rfl) (fun a h => ?_)
  refine l_end ?_
  refine c_cond h rfl (fun hb => ?_) (fun hb => ?_)
  · rw [if_pos hb] at hf
    refine c_rs ?_ -- region 2
    refine s_assign h rfl _ rfl rfl (by decide) rfl (fun a h => ?_)
    refine l_end ?_
    refine wp_ret ?_
    refine e_thenR ?_
    rw [← Option.some.inj hf]
    exact r_ret1 h rfl (rv_tmp h rfl) ⟨_, [], _, rfl, ⟨rfl, rfl, trivial⟩, rfl, (Up.refl _ _ _), (h.m.pick [1] _ (by decide) rfl)⟩
  · rw [if_neg (by rw [hb]; decide)] at hf
    refine wp_skip ?_
    refine e_thenN ?_
    refine wp_seq ?_
    refine c_rs ?_ -- region 3
    refine s_move h rfl _ rfl rfl (by decide) rfl (fun a h => ?_)
    refine s_x h rfl rfl (by decide) (x_len h.k rfl Try.underlying22 rfl) (fun a h => ?_)
    refine s_x h rfl rfl (by decide) (x_bin h.k rfl rfl rfl ib_eql) (fun a h => ?_)
    refine s_move h rfl _ rfl rfl (by decide) rfl (fun a h => ?_)
    refine q_grp h 5 (t := 23) 28 ((decide ((a1.length : Int) = 0)) || (decide (Int.tmod (a1.length : Int) 16 ≠ 0))) rfl (fun hB3 => ?_) (fun hB3 => ?_) (fun a w h => ?_)
    · refine g_no h rfl rfl rfl rfl hB3 rfl (by decide) (fun a h => ?_)
      refine g_no h rfl rfl rfl rfl hB3 rfl (by decide) (fun a h => ?_)
      refine g_no h rfl rfl rfl rfl hB3 rfl (by decide) (fun a h => ?_)
      refine g_no h rfl rfl rfl rfl hB3 rfl (by decide) (fun a h => ?_)
      refine s_x h rfl rfl (by decide) (x_pick (u' := undef) h.k rfl rfl (fun _ => rfl) (fun hh => absurd (hB3.symm.trans hh) (by decide))) (fun a h => ?_)
      exact (h.mid 4 rfl).val (by first | rfl | (rw [hB3]; first | rfl | simp))
    · refine g_yes h rfl rfl rfl rfl hB3 ?_
      refine s_move h rfl _ rfl rfl (by decide) rfl (fun a h => ?_)
      refine g_yes h rfl rfl rfl rfl hB3 ?_
      refine s_x h rfl rfl (by decide) (x_len h.k rfl Try.underlying22 rfl) (fun a h => ?_)
      refine g_yes h rfl rfl rfl rfl hB3 ?_
      refine s_x h rfl rfl (by decide) (x_bin h.k rfl rfl rfl (ib_remw (by decide))) (fun a h => ?_)
      refine g_yes h rfl rfl rfl rfl hB3 ?_
      refine s_x h rfl rfl (by decide) (x_bin h.k rfl rfl rfl ib_neq) (fun a h => ?_)
      refine s_x h rfl rfl (by decide) (x_pick (u' := undef) h.k rfl rfl (fun hh => absurd (hB3.symm.trans hh) (by decide)) (fun _ => rfl)) (fun a h => ?_)
      exact (h.mid 4 rfl).val (by first | rfl | (rw [hB3]; first | rfl | simp))
    refine s_move h rfl _ rfl rfl (by decide) rfl (fun a h => ?_)
    refine q_grp h 4 (t := 29) 33 (((decide ((a1.length : Int) = 0)) || (decide (Int.tmod (a1.length : Int) 16 ≠ 0))) || (decide (200 < (a1.length : Int)))) rfl (fun hB9 => ?_) (fun hB9 => ?_) (fun a w h => ?_)
    · refine g_no h rfl rfl rfl rfl hB9 rfl (by decide) (fun a h => ?_)
      refine g_no h rfl rfl rfl rfl hB9 rfl (by decide) (fun a h => ?_)
      refine g_no h rfl rfl rfl rfl hB9 rfl (by decide) (fun a h => ?_)
      refine s_x h rfl rfl (by decide) (x_pick (u' := undef) h.k rfl rfl (fun _ => rfl) (fun hh => absurd (hB9.symm.trans hh) (by decide))) (fun a h => ?_)
      exact (h.mid 3 rfl).val (by first | rfl | (rw [hB9]; first | rfl | simp))
    · refine g_yes h rfl rfl rfl rfl hB9 ?_
      refine s_move h rfl _ rfl rfl (by decide) rfl (fun a h => ?_)
      refine g_yes h rfl rfl rfl rfl hB9 ?_
      refine s_x h rfl rfl (by decide) (x_len h.k rfl Try.underlying22 rfl) (fun a h => ?_)
      refine g_yes h rfl rfl rfl rfl hB9 ?_
      refine s_x h rfl rfl (by decide) (x_bin h.k rfl rfl rfl ib_gtr) (fun a h => ?_)
      refine s_x h rfl rfl (by decide) (x_pick (u' := undef) h.k rfl rfl (fun hh => absurd (hB9.symm.trans hh) (by decide)) (fun _ => rfl)) (fun a h => ?_)
      exact (h.mid 3 rfl).val (by first | rfl | (rw [hB9]; first | rfl | simp))
    refine s_move h rfl _ rfl rfl (by decide) rfl (fun a h => ?_)
    refine q_grp h 3 (t := 34) 37 ((((decide ((a1.length : Int) = 0)) || (decide (Int.tmod (a1.length : Int) 16 ≠ 0))) || (decide (200 < (a1.length : Int)))) || (decide (a0 < 0))) rfl (fun hB14 => ?_) (fun hB14 => ?_) (fun a w h => ?_)
    · refine g_no h rfl rfl rfl rfl hB14 rfl (by decide) (fun a h => ?_)
      refine g_no h rfl rfl rfl rfl hB14 rfl (by decide) (fun a h => ?_)
      refine s_x h rfl rfl (by decide) (x_pick (u' := undef) h.k rfl rfl (fun _ => rfl) (fun hh => absurd (hB14.symm.trans hh) (by decide))) (fun a h => ?_)
      exact (h.mid 2 rfl).val (by first | rfl | (rw [hB14]; first | rfl | simp))
    · refine g_yes h rfl rfl rfl rfl hB14 ?_
      refine s_move h rfl _ rfl rfl (by decide) rfl (fun a h => ?_)
      refine g_yes h rfl rfl rfl rfl hB14 ?_
      refine s_x h rfl rfl (by decide) (x_bin h.k rfl rfl rfl ib_lss) (fun a h => ?_)
      refine s_x h rfl rfl (by decide) (x_pick (u' := undef) h.k rfl rfl (fun hh => absurd (hB14.symm.trans hh) (by decide)) (fun _ => rfl)) (fun a h => ?_)
      exact (h.mid 2 rfl).val (by first | rfl | (rw [hB14]; first | rfl | simp))
    refine s_move h rfl _ rfl rfl (by decide) rfl (fun a h => ?_)
    refine q_grp h 3 (t := 38) 41 (((((decide ((a1.length : Int) = 0)) || (decide (Int.tmod (a1.length : Int) 16 ≠ 0))) || (decide (200 < (a1.length : Int)))) || (decide (a0 < 0))) || (decide (4611686018427387904 < a0))) rfl (fun hB18 => ?_) (fun hB18 => ?_) (fun a w h => ?_)
    · refine g_no h rfl rfl rfl rfl hB18 rfl (by decide) (fun a h => ?_)
      refine g_no h rfl rfl rfl rfl hB18 rfl (by decide) (fun a h => ?_)
      refine s_x h rfl rfl (by decide) (x_pick (u' := undef) h.k rfl rfl (fun _ => rfl) (fun hh => absurd (hB18.symm.trans hh) (by decide))) (fun a h => ?_)
      exact (h.mid 2 rfl).val (by first | rfl | (rw [hB18]; first | rfl | simp))
    · refine g_yes h rfl rfl rfl rfl hB18 ?_
      refine s_move h rfl _ rfl rfl (by decide) rfl (fun a h => ?_)
      refine g_yes h rfl rfl rfl rfl hB18 ?_
      refine s_x h rfl rfl (by decide) (x_bin h.k rfl rfl rfl ib_gtr) (fun a h => ?_)
      refine s_x h rfl rfl (by decide) (x_pick (u' := undef) h.k rfl rfl (fun hh => absurd (hB18.symm.trans hh) (by decide)) (fun _ => rfl)) (fun a h => ?_)
      exact (h.mid 2 rfl).val (by first | rfl | (rw [hB18]; first | rfl | simp))
    refine l_end ?_
    refine c_cond h rfl (fun hb => ?_) (fun hb => ?_)
    · rw [if_pos hb] at hf
      refine c_rs ?_ -- region 4
      refine s_assign h rfl _ rfl rfl (by decide) rfl (fun a h => ?_)
      refine l_end ?_
      refine wp_ret ?_
      refine e_thenR ?_
      rw [← Option.some.inj hf]
      exact r_ret1 h rfl (rv_tmp h rfl) ⟨_, [], _, rfl, ⟨rfl, rfl, trivial⟩, rfl, (Up.refl _ _ _), (h.m.pick [1] _ (by decide) rfl)⟩
    · rw [if_neg (by rw [hb]; decide)] at hf
      refine wp_skip ?_
      refine e_thenN ?_
      refine c_rs ?_ -- region 5
      obtain ⟨x15, h16, hf⟩ := bsome hf
      have hX := chatelainelaw10_key_ok Fu (S0 := snapAll _)  _ h16 _ h.startAll
      refine q_callX hX h rfl rfl rfl (by decide) Try.func30 rfl rfl rfl (fun a w v L1 S1 hR hb1 h => ?_)
      obtain ⟨A18, c19, cs20, rfl, rfl, hq21, _⟩ := hR
      have hq22 := hq21.fl (S' := S0) fl_8
      have h := h.pick [0, 2, 1] (by decide) rfl
      obtain ⟨S23, le24, up25, hs26, h⟩ := q_freeze (T := ty8) h (Up.refl _ _ _) hq22
      obtain ⟨x27, h28, hf⟩ := bsome hf
      have hX := xts_New_ok Fu (S0 := S23) A18 c19 x15 hs26 _ h28 _ (h.sub (Ls := []))
      refine q_callY (Ls := []) hX h up25 rfl rfl rfl (by decide) Try.func29 rfl rfl rfl (fun a w v L1 S30 hR le32 up31 h => ?_)
      rcases hR with hR | hR
      · obtain ⟨x33, rfl, hR⟩ := hR
        dsimp only at hf
        obtain ⟨rfl, rfl, hr34, _⟩ := hR
        refine s_move h rfl _ rfl rfl (by decide) rfl (fun a h => ?_)
        refine s_x h rfl rfl (by decide) (x_ext h.k rfl rfl rfl) (fun a h => ?_)
        refine s_x h rfl rfl (by decide) (x_ext h.k rfl rfl rfl) (fun a h => ?_)
        refine s_assign h rfl _ rfl rfl (by decide) rfl (fun a h => ?_)
        refine s_assign h rfl _ rfl rfl (by decide) rfl (fun a h => ?_)
        refine l_end ?_
        refine c_rs ?_ -- region 6
        refine s_move h rfl _ rfl rfl (by decide) rfl (fun a h => ?_)
        refine s_move h rfl _ rfl rfl (by decide) rfl (fun a h => ?_)
        refine s_move h rfl _ rfl rfl (by decide) rfl (fun a h => ?_)
        obtain ⟨x35, h36, hf⟩ := bsome hf
        have hX := xts_Sector_Encrypt_nil0_ok Fu (S0 := S30) a0 hra0 Aa1 ca1 a1 (hsa1.mono (le24.trans le32)) _ h36 _ (h.sub (Ls := []))
        refine q_callY (Ls := []) hX h up31 rfl rfl rfl (by decide) Try.func31 rfl rfl rfl (fun a w v L1 S38 hR le40 up39 h => ?_)
        obtain ⟨A41, c42, rfl, rfl, hs43, hr44, _⟩ := hR
        refine s_move h rfl _ rfl rfl (by decide) rfl (fun a h => ?_)
        refine s_x h rfl rfl (by decide) (x_ext h.k rfl rfl rfl) (fun a h => ?_)
        refine s_x h rfl rfl (by decide) (x_ext h.k rfl rfl rfl) (fun a h => ?_)
        refine s_assign h rfl _ rfl rfl (by decide) rfl (fun a h => ?_)
        refine s_assign h rfl _ rfl rfl (by decide) rfl (fun a h => ?_)
        refine l_end ?_
        refine wp_seq ?_
        refine c_rs ?_ -- region 7
        refine s_move h rfl _ rfl rfl (by decide) rfl (fun a h => ?_)
        refine s_x h rfl rfl (by decide) (x_bin h.k rfl rfl rfl ib_neq) (fun a h => ?_)
        refine s_move h rfl _ rfl rfl (by decide) rfl (fun a h => ?_)
        refine q_grp h 3 (t := 56) 59 ((decide (x33 ≠ 0)) || (decide (x35.2 ≠ 0))) rfl (fun hB2 => ?_) (fun hB2 => ?_) (fun a w h => ?_)
        · refine g_no h rfl rfl rfl rfl hB2 rfl (by decide) (fun a h => ?_)
          refine g_no h rfl rfl rfl rfl hB2 rfl (by decide) (fun a h => ?_)
          refine s_x h rfl rfl (by decide) (x_pick (u' := undef) h.k rfl rfl (fun _ => rfl) (fun hh => absurd (hB2.symm.trans hh) (by decide))) (fun a h => ?_)
          exact (h.mid 2 rfl).val (by first | rfl | (rw [hB2]; first | rfl | simp))
        · refine g_yes h rfl rfl rfl rfl hB2 ?_
          refine s_move h rfl _ rfl rfl (by decide) rfl (fun a h => ?_)
          refine g_yes h rfl rfl rfl rfl hB2 ?_
          refine s_x h rfl rfl (by decide) (x_bin h.k rfl rfl rfl ib_neq) (fun a h => ?_)
          refine s_x h rfl rfl (by decide) (x_pick (u' := undef) h.k rfl rfl (fun hh => absurd (hB2.symm.trans hh) (by decide)) (fun _ => rfl)) (fun a h => ?_)
          exact (h.mid 2 rfl).val (by first | rfl | (rw [hB2]; first | rfl | simp))
        refine s_move h rfl _ rfl rfl (by decide) rfl (fun a h => ?_)
        refine q_grp h 6 (t := 60) 66 (((decide (x33 ≠ 0)) || (decide (x35.2 ≠ 0))) || (decide ((x35.1.length : Int) ≠ (a1.length : Int)))) rfl (fun hB6 => ?_) (fun hB6 => ?_) (fun a w h => ?_)
        · refine g_no h rfl rfl rfl rfl hB6 rfl (by decide) (fun a h => ?_)
          refine g_no h rfl rfl rfl rfl hB6 rfl (by decide) (fun a h => ?_)
          refine g_no h rfl rfl rfl rfl hB6 rfl (by decide) (fun a h => ?_)
          refine g_no h rfl rfl rfl rfl hB6 rfl (by decide) (fun a h => ?_)
          refine g_no h rfl rfl rfl rfl hB6 rfl (by decide) (fun a h => ?_)
          refine s_x h rfl rfl (by decide) (x_pick (u' := undef) h.k rfl rfl (fun _ => rfl) (fun hh => absurd (hB6.symm.trans hh) (by decide))) (fun a h => ?_)
          exact (h.mid 5 rfl).val (by first | rfl | (rw [hB6]; first | rfl | simp))
        · refine g_yes h rfl rfl rfl rfl hB6 ?_
          refine s_move h rfl _ rfl rfl (by decide) rfl (fun a h => ?_)
          refine g_yes h rfl rfl rfl rfl hB6 ?_
          refine s_x h rfl rfl (by decide) (x_len h.k rfl Try.underlying22 rfl) (fun a h => ?_)
          refine g_yes h rfl rfl rfl rfl hB6 ?_
          refine s_move h rfl _ rfl rfl (by decide) rfl (fun a h => ?_)
          refine g_yes h rfl rfl rfl rfl hB6 ?_
          refine s_x h rfl rfl (by decide) (x_len h.k rfl Try.underlying22 rfl) (fun a h => ?_)
          refine g_yes h rfl rfl rfl rfl hB6 ?_
          refine s_x h rfl rfl (by decide) (x_bin h.k rfl rfl rfl ib_neq) (fun a h => ?_)
          refine s_x h rfl rfl (by decide) (x_pick (u' := undef) h.k rfl rfl (fun hh => absurd (hB6.symm.trans hh) (by decide)) (fun _ => rfl)) (fun a h => ?_)
          exact (h.mid 5 rfl).val (by first | rfl | (rw [hB6]; first | rfl | simp))
        refine l_end ?_
        refine c_cond h rfl (fun hb => ?_) (fun hb => ?_)
        · rw [if_pos hb] at hf
          refine c_rs ?_ -- region 8
          refine s_assign h rfl _ rfl rfl (by decide) rfl (fun a h => ?_)
          refine l_end ?_
          refine wp_ret ?_
          refine e_thenR ?_
          rw [← Option.some.inj hf]
          exact r_ret1 h rfl (rv_tmp h rfl) ⟨_, [], _, rfl, ⟨rfl, rfl, trivial⟩, rfl, up39, (h.m.pick [0] _ (by decide) rfl)⟩
        · rw [if_neg (by rw [hb]; decide)] at hf
          refine wp_skip ?_
          refine e_thenN ?_
          refine c_rs ?_ -- region 9
          obtain ⟨m49, h50, hf⟩ := bsome hf
          obtain ⟨hi51, hm52⟩ := ix_some h50
          refine s_x h rfl rfl (by decide) (x_iaddrA h.k rfl Try.underlying53 sz_uint8 rfl rfl hi51 hm52 rfl) (fun a h => ?_)
          obtain ⟨x53, h54, hf⟩ := bsome hf
          obtain ⟨u55, hv56, hu57⟩ := ((hs1.mono ((le24.trans le32).trans le40))).cell rfl h54
          cases hu57
          refine s_x h rfl rfl (by decide) (x_ld h.k rfl Try.underlying5 rfl rfl ((h.m.cell (i := 1) rfl _).trans (by rw [Nat.zero_add, Nat.mul_one]; exact hv56))) (fun a h => ?_)
          refine s_x h rfl rfl (by decide) (x_convE h.k rfl Try.underlying5 Try.underlying3 rfl (nw64 (u8_r _))) (fun a h => ?_)
          refine s_move h rfl _ rfl rfl (by decide) rfl (fun a h => ?_)
          refine s_x h rfl rfl (by decide) (x_len h.k rfl Try.underlying22 rfl) (fun a h => ?_)
          obtain ⟨x58, h59, hf⟩ := bsome hf
          refine s_x h rfl rfl (by decide) (x_bin h.k rfl rfl rfl (ib_rem_ h59)) (fun a h => ?_)
          refine s_assign h rfl _ rfl rfl (by decide) rfl (fun a h => ?_)
          refine l_end ?_
          refine c_rs ?_ -- region 10
          refine q_bslice0 h rfl rfl rfl (by decide) Try.underlying22 sz_uint8 (fun a w A60 h => ?_)
          refine s_move h rfl _ rfl rfl (by decide) rfl (fun a h => ?_)
          obtain ⟨x61, h62, hf⟩ := bsome hf
          obtain ⟨_, _, vs63, hrd64, hrp65⟩ := id (hsa1.mono ((le24.trans le32).trans le40))
          refine q_append (T := ty8) (S := S38) h rfl rfl rfl (by decide) Try.underlying22 zb_uint8 rfl (by decide) rfl 0 rfl (show reps ty8 S38 [] [] from rfl) rfl hrp65 (hrd64 _ (h.m.snOK (i := 1) rfl)) h62 (fun a w A66 c67 cs68 hq69 h => ?_)
          refine s_assign h rfl _ rfl rfl (by decide) rfl (fun a h => ?_)
          refine l_end ?_
          refine wp_seq ?_
          -- region 11 draws
          obtain ⟨m70, h71, hf⟩ := bsome hf
          obtain ⟨x76, h77, hf⟩ := bsome hf
          obtain ⟨m81, h82, hf⟩ := bsome hf
          obtain ⟨x85, h86, hf⟩ := bsome hf
          obtain ⟨m90, h91, hf⟩ := bsome hf
          refine d_start h (Mem _ _ _) 8 9 rfl (by kernel_rfl) (fun _ _ _ _ _ h => h) (fun _ h => h) (fun Q a w HE HN h HS => ?_)
          refine d_takeP h (fun _ => HS) HN 0 rfl (by kernel_rfl) (by kernel_rfl) (by kernel_rfl) (by decide) rfl rfl (by decide) (fun w' => x_move h.k _ rfl rfl) (fun a h => ?_)
          refine d_takeP h (fun _ => HS) HN 1 rfl (by kernel_rfl) (by kernel_rfl) (by kernel_rfl) (by decide) rfl rfl (by decide) (fun w' => x_move h.k _ rfl rfl) (fun a h => ?_)
          obtain ⟨hi72, hm73⟩ := ix_some h71
          obtain ⟨g75, hA74⟩ := h.m.rowHead (i := 0) rfl (Nat.lt_of_le_of_lt (Nat.zero_le _) hm73)
          refine d_takeP h (fun _ => HS) HN 2 rfl (by kernel_rfl) (by kernel_rfl) (by kernel_rfl) (by decide) rfl rfl (by decide) (fun w' => x_iaddrE h.k rfl Try.underlying22 sz_uint8 hA74 rfl rfl hi72 hm73) (fun a h => ?_)
          obtain ⟨u78, hv79, hu80⟩ := (hq69).cell rfl h77
          cases hu80
          refine d_take h HS HN 3 rfl (by kernel_rfl) (by kernel_rfl) (by kernel_rfl) (by kernel_rfl) (by kernel_rfl) rfl rfl (by decide) (fun w' hw => x_ld h.k rfl Try.underlying5 rfl rfl (hw.cellRowE (i := 0) rfl hA74 _ (by rw [Nat.mul_one]; exact hv79))) (fun a h => ?_)
          obtain ⟨hi83, hm84⟩ := ix_some h82
          refine d_takeP h (fun _ => HS) HN 4 rfl (by kernel_rfl) (by kernel_rfl) (by kernel_rfl) (by decide) rfl rfl (by decide) (fun w' => x_iaddrA h.k rfl Try.underlying53 sz_uint8 rfl rfl hi83 hm84 rfl) (fun a h => ?_)
          obtain ⟨u87, hv88, hu89⟩ := ((hs1.mono ((le24.trans le32).trans le40))).cell rfl h86
          cases hu89
          refine d_take h HS HN 5 rfl (by kernel_rfl) (by kernel_rfl) (by kernel_rfl) (by kernel_rfl) (by kernel_rfl) rfl rfl (by decide) (fun w' hw => x_ld h.k rfl Try.underlying5 rfl rfl ((hw.cell (i := 2) rfl _).trans (by rw [Nat.zero_add, Nat.mul_one]; exact hv88))) (fun a h => ?_)
          refine d_takeP h (fun _ => HS) HN 6 rfl (by kernel_rfl) (by kernel_rfl) (by kernel_rfl) (by decide) rfl rfl (by decide) (fun w' => x_bin h.k rfl rfl rfl (ib_xor (u8_xor_ x76 x85))) (fun a h => ?_)
          obtain ⟨hi92, hm93⟩ := ix_some h91
          obtain ⟨g95, hA94⟩ := h.m.rowHead (i := 0) rfl (Nat.lt_of_le_of_lt (Nat.zero_le _) hm93)
          refine d_takeP h (fun _ => HS) HN 7 rfl (by kernel_rfl) (by kernel_rfl) (by kernel_rfl) (by decide) rfl rfl (by decide) (fun w' => x_iaddrE h.k rfl Try.underlying22 sz_uint8 hA94 rfl rfl hi92 hm93) (fun a h => ?_)
          refine d_alone 8 rfl (by kernel_rfl) (fun K hK => ?_)
          refine q_setRow (T := ty8) (q := (x76 ^^^ x85)) h rfl rfl rfl sz_uint8 hA94 rfl rfl 0 rfl rfl hq69 rfl (by first | exact hm93 | simpa using hm93) (fun a w cs96 hq97 h => ?_)
          have hl98 : x61.length = (x61.set m90 (x76 ^^^ x85)).length := by simp only [List.length_set]
          rw [hl98] at h
          refine hK _ _ (fun hne _ => absurd rfl hne) ?_
          clear hK
          refine d_done (by kernel_rfl) (HE _ _ ?_) _
          refine e_thenN ?_
          refine c_rs ?_ -- region 12
          refine s_move h rfl _ rfl rfl (by decide) rfl (fun a h => ?_)
          refine s_move h rfl _ rfl rfl (by decide) rfl (fun a h => ?_)
          refine s_move h rfl _ rfl rfl (by decide) rfl (fun a h => ?_)
          obtain ⟨S99, le100, up101, hs102, h⟩ := q_freeze (T := ty8) h up39 hq97
          obtain ⟨x103, h104, hf⟩ := bsome hf
          have hX := xts_Sector_Encrypt_nil0_ok Fu (S0 := S99) a0 hra0 A66 c67 (x61.set m90 (x76 ^^^ x85)) hs102 _ h104 _ (h.sub (Ls := []))
          refine q_callY (Ls := []) hX h up101 rfl rfl rfl (by decide) Try.func31 rfl rfl rfl (fun a w v L1 S106 hR le108 up107 h => ?_)
          obtain ⟨A109, c110, rfl, rfl, hs111, hr112, _⟩ := hR
          refine s_move h rfl _ rfl rfl (by decide) rfl (fun a h => ?_)
          refine s_x h rfl rfl (by decide) (x_ext h.k rfl rfl rfl) (fun a h => ?_)
          refine s_x h rfl rfl (by decide) (x_ext h.k rfl rfl rfl) (fun a h => ?_)
          refine s_assign h rfl _ rfl rfl (by decide) rfl (fun a h => ?_)
          refine s_assign h rfl _ rfl rfl (by decide) rfl (fun a h => ?_)
          refine l_end ?_
          refine c_rs ?_ -- region 13
          refine s_move h rfl _ rfl rfl (by decide) rfl (fun a h => ?_)
          refine s_move h rfl _ rfl rfl (by decide) rfl (fun a h => ?_)
          refine s_move h rfl _ rfl rfl (by decide) rfl (fun a h => ?_)
          obtain ⟨x113, h114, hf⟩ := bsome hf
          obtain ⟨m115, n116, hi117, hi118, hm119, hm120, hr121⟩ := sub_some h114
          have hs122 := slS.sub ((hsa1.mono ((((le24.trans le32).trans le40).trans le100).trans le108))) hm119 hm120 (Nat.le_trans hm120 ((hsa1.mono ((((le24.trans le32).trans le40).trans le100).trans le108))).1) (Nat.le_refl _) hr121
          refine s_x h rfl rfl (by decide) (x_sliceE h.k rfl Try.underlying22 sz_uint8 rfl ca1 hr121 (bd_none (by omega)) (bd_some rfl hi118) (bd_none rfl) (by intro hh; cases hh) hm119 hm120 (Nat.le_trans hm120 ((hsa1.mono ((((le24.trans le32).trans le40).trans le100).trans le108))).1) (Nat.le_refl _)) (fun a h => ?_)
          obtain ⟨x123, h124, hf⟩ := bsome hf
          have hX := xts_Sector_Encrypt_nil0_ok Fu (S0 := S106) a0 hra0 (sA Aa1 ca1 m115 1) (ca1 - m115) x113 hs122 _ h124 _ (h.sub (Ls := []))
          refine q_callY (Ls := []) hX h up107 rfl rfl rfl (by decide) Try.func31 rfl rfl rfl (fun a w v L1 S126 hR le128 up127 h => ?_)
          obtain ⟨A129, c130, rfl, rfl, hs131, hr132, _⟩ := hR
          refine s_move h rfl _ rfl rfl (by decide) rfl (fun a h => ?_)
          refine s_x h rfl rfl (by decide) (x_ext h.k rfl rfl rfl) (fun a h => ?_)
          refine s_x h rfl rfl (by decide) (x_ext h.k rfl rfl rfl) (fun a h => ?_)
          refine s_assign h rfl _ rfl rfl (by decide) rfl (fun a h => ?_)
          refine s_assign h rfl _ rfl rfl (by decide) rfl (fun a h => ?_)
          refine l_end ?_
          refine wp_seq ?_
          refine wp_seq ?_
          -- region 14 draws
          obtain ⟨z137, hz138, hf⟩ := bsome hf
          obtain ⟨z152, hz153, hf⟩ := bsome hf
          refine c_fin (fun a w => St 149 w0 (ownL ([] ++ [.sn S0])) [(9, .slice A41 x35.1.length c42), (11, .int .i64 x58), (13, .slice A109 x103.1.length c110), (127, .bool z152)] [.sn S126] a w) ?_ (fun a w h => ?_)
          · refine d_start h (Mem _ _ _) 29 29 rfl (by kernel_rfl) (fun _ _ _ _ _ h => h) (fun _ h => h) (fun Q a w HE HN h HS => ?_)
            refine d_takeP h (fun _ => HS) HN 0 rfl (by kernel_rfl) (by kernel_rfl) (by kernel_rfl) (by decide) rfl rfl (by decide) (fun w' => x_move h.k _ rfl rfl) (fun a h => ?_)
            refine d_takeP h (fun _ => HS) HN 1 rfl (by kernel_rfl) (by kernel_rfl) (by kernel_rfl) (by decide) rfl rfl (by decide) (fun w' => x_bin h.k rfl rfl rfl ib_neq) (fun a h => ?_)
            refine d_takeP h (fun _ => HS) HN 2 rfl (by kernel_rfl) (by kernel_rfl) (by kernel_rfl) (by decide) rfl rfl (by decide) (fun w' => x_move h.k _ rfl rfl) (fun a h => ?_)
            refine d_split (t := 101) h rfl (fun hB2 => ?_) (fun hB2 => ?_)
            · refine d_takeNP h (fun _ => HS) HN 3 rfl (by kernel_rfl) (by kernel_rfl) (by kernel_rfl) (by decide) (by rw [g_want h rfl rfl rfl rfl hB2]; rfl) rfl (by decide) (fun a h => ?_)
              refine d_takeNP h (fun _ => HS) HN 4 rfl (by kernel_rfl) (by kernel_rfl) (by kernel_rfl) (by decide) (by rw [g_want h rfl rfl rfl rfl hB2]; rfl) rfl (by decide) (fun a h => ?_)
              refine d_takeP h (fun _ => HS) HN 5 rfl (by kernel_rfl) (by kernel_rfl) (by kernel_rfl) (by decide) rfl rfl (by decide) (fun w' => x_pick (v := .bool ((decide (x103.2 ≠ 0)) || (decide (x123.2 ≠ 0)))) (u' := undef) h.k rfl rfl (fun _ => by rw [hB2]; first | rfl | simp [ev, List.lookup]) (fun hh => absurd (hB2.symm.trans hh) (by decide))) (fun a h => ?_)
              refine d_takeP h (fun _ => HS) HN 6 rfl (by kernel_rfl) (by kernel_rfl) (by kernel_rfl) (by decide) rfl rfl (by decide) (fun w' => x_move h.k _ rfl rfl) (fun a h => ?_)
              refine d_split (t := 105) h rfl (fun hB6 => ?_) (fun hB6 => ?_)
              · refine d_takeNP h (fun _ => HS) HN 7 rfl (by kernel_rfl) (by kernel_rfl) (by kernel_rfl) (by decide) (by rw [g_want h rfl rfl rfl rfl hB6]; rfl) rfl (by decide) (fun a h => ?_)
                refine d_takeNP h (fun _ => HS) HN 8 rfl (by kernel_rfl) (by kernel_rfl) (by kernel_rfl) (by decide) (by rw [g_want h rfl rfl rfl rfl hB6]; rfl) rfl (by decide) (fun a h => ?_)
                refine d_takeNP h (fun _ => HS) HN 9 rfl (by kernel_rfl) (by kernel_rfl) (by kernel_rfl) (by decide) (by rw [g_want h rfl rfl rfl rfl hB6]; rfl) rfl (by decide) (fun a h => ?_)
                refine d_takeNP h (fun _ => HS) HN 10 rfl (by kernel_rfl) (by kernel_rfl) (by kernel_rfl) (by decide) (by rw [g_want h rfl rfl rfl rfl hB6]; rfl) rfl (by decide) (fun a h => ?_)
                refine d_takeNP h (fun _ => HS) HN 11 rfl (by kernel_rfl) (by kernel_rfl) (by kernel_rfl) (by decide) (by rw [g_want h rfl rfl rfl rfl hB6]; rfl) rfl (by decide) (fun a h => ?_)
                refine d_takeP h (fun _ => HS) HN 12 rfl (by kernel_rfl) (by kernel_rfl) (by kernel_rfl) (by decide) rfl rfl (by decide) (fun w' => x_pick (v := .bool (((decide (x103.2 ≠ 0)) || (decide (x123.2 ≠ 0))) || (decide ((x103.1.length : Int) ≠ (a1.length : Int))))) (u' := undef) h.k rfl rfl (fun _ => by rw [hB6]; first | rfl | simp [ev, List.lookup]) (fun hh => absurd (hB6.symm.trans hh) (by decide))) (fun a h => ?_)
                refine d_takeP h (fun _ => HS) HN 13 rfl (by kernel_rfl) (by kernel_rfl) (by kernel_rfl) (by decide) rfl rfl (by decide) (fun w' => x_move h.k _ rfl rfl) (fun a h => ?_)
                refine d_split (t := 112) h rfl (fun hB13 => ?_) (fun hB13 => ?_)
                · rw [if_pos hB13] at hz138
                  refine d_takeNP h (fun _ => HS) HN 14 rfl (by kernel_rfl) (by kernel_rfl) (by kernel_rfl) (by decide) (by rw [g_want h rfl rfl rfl rfl hB13]; rfl) rfl (by decide) (fun a h => ?_)
                  refine d_takeNP h (fun _ => HS) HN 15 rfl (by kernel_rfl) (by kernel_rfl) (by kernel_rfl) (by decide) (by rw [g_want h rfl rfl rfl rfl hB13]; rfl) rfl (by decide) (fun a h => ?_)
                  refine d_takeNP h (fun _ => HS) HN 16 rfl (by kernel_rfl) (by kernel_rfl) (by kernel_rfl) (by decide) (by rw [g_want h rfl rfl rfl rfl hB13]; rfl) rfl (by decide) (fun a h => ?_)
                  refine d_takeNP h (fun _ => HS) HN 17 rfl (by kernel_rfl) (by kernel_rfl) (by kernel_rfl) (by decide) (by rw [g_want h rfl rfl rfl rfl hB13]; rfl) rfl (by decide) (fun a h => ?_)
                  refine d_takeNP h (fun _ => HS) HN 18 rfl (by kernel_rfl) (by kernel_rfl) (by kernel_rfl) (by decide) (by rw [g_want h rfl rfl rfl rfl hB13]; rfl) rfl (by decide) (fun a h => ?_)
                  refine d_takeP h (fun _ => HS) HN 19 rfl (by kernel_rfl) (by kernel_rfl) (by kernel_rfl) (by decide) rfl rfl (by decide) (fun w' => x_pick (v := .bool z137) (u' := undef) h.k rfl rfl (fun _ => by rw [← Option.some.inj hz138]; rfl) (fun hh => absurd (hB13.symm.trans hh) (by decide))) (fun a h => ?_)
                  refine d_takeP h (fun _ => HS) HN 20 rfl (by kernel_rfl) (by kernel_rfl) (by kernel_rfl) (by decide) rfl rfl (by decide) (fun w' => x_move h.k _ rfl rfl) (fun a h => ?_)
                  refine d_split (t := 119) h rfl (fun hB20 => ?_) (fun hB20 => ?_)
                  · rw [if_pos hB20] at hz153
                    refine d_takeNP h (fun _ => HS) HN 21 rfl (by kernel_rfl) (by kernel_rfl) (by kernel_rfl) (by decide) (by rw [g_want h rfl rfl rfl rfl hB20]; rfl) rfl (by decide) (fun a h => ?_)
                    refine d_takeNP h (fun _ => HS) HN 22 rfl (by kernel_rfl) (by kernel_rfl) (by kernel_rfl) (by decide) (by rw [g_want h rfl rfl rfl rfl hB20]; rfl) rfl (by decide) (fun a h => ?_)
                    refine d_takeNP h (fun _ => HS) HN 23 rfl (by kernel_rfl) (by kernel_rfl) (by kernel_rfl) (by decide) (by rw [g_want h rfl rfl rfl rfl hB20]; rfl) rfl (by decide) (fun a h => ?_)
                    refine d_takeNP h (fun _ => HS) HN 24 rfl (by kernel_rfl) (by kernel_rfl) (by kernel_rfl) (by decide) (by rw [g_want h rfl rfl rfl rfl hB20]; rfl) rfl (by decide) (fun a h => ?_)
                    refine d_takeNP h (fun _ => HS) HN 25 rfl (by kernel_rfl) (by kernel_rfl) (by kernel_rfl) (by decide) (by rw [g_want h rfl rfl rfl rfl hB20]; rfl) rfl (by decide) (fun a h => ?_)
                    refine d_takeNP h (fun _ => HS) HN 26 rfl (by kernel_rfl) (by kernel_rfl) (by kernel_rfl) (by decide) (by rw [g_want h rfl rfl rfl rfl hB20]; rfl) rfl (by decide) (fun a h => ?_)
                    refine d_takeNP h (fun _ => HS) HN 27 rfl (by kernel_rfl) (by kernel_rfl) (by kernel_rfl) (by decide) (by rw [g_want h rfl rfl rfl rfl hB20]; rfl) rfl (by decide) (fun a h => ?_)
                    refine d_takeP h (fun _ => HS) HN 28 rfl (by kernel_rfl) (by kernel_rfl) (by kernel_rfl) (by decide) rfl rfl (by decide) (fun w' => x_pick (v := .bool z152) (u' := undef) h.k rfl rfl (fun _ => by rw [← Option.some.inj hz153]; rfl) (fun hh => absurd (hB20.symm.trans hh) (by decide))) (fun a h => ?_)
                    refine d_done (by kernel_rfl) (HE _ _ ?_) _
                    refine e_thenN ?_
                    have h := h.pick [0] (by decide) rfl
                    exact h.has (by exact ⟨rfl, rfl, rfl, rfl, trivial⟩)
                  · rw [if_neg (by rw [hB20]; decide)] at hz153
                    obtain ⟨x154, h155, hz153⟩ := bsome hz153
                    obtain ⟨m157, h158, hz153⟩ := bsome hz153
                    obtain ⟨x161, h162, hz153⟩ := bsome hz153
                    refine d_takeP h (fun _ => HS) HN 21 rfl (by kernel_rfl) (by kernel_rfl) (by kernel_rfl) (by decide) (by rw [g_want h rfl rfl rfl rfl hB20]; rfl) rfl (by decide) (fun w' => x_move h.k _ rfl rfl) (fun a h => ?_)
                    refine d_takeP h (fun _ => HS) HN 22 rfl (by kernel_rfl) (by kernel_rfl) (by kernel_rfl) (by decide) (by rw [g_want h rfl rfl rfl rfl hB20]; rfl) rfl (by decide) (fun w' => x_move h.k _ rfl rfl) (fun a h => ?_)
                    obtain ⟨hi159, hm160⟩ := ix_some h158
                    refine d_takeP h (fun _ => HS) HN 24 rfl (by kernel_rfl) (by kernel_rfl) (by kernel_rfl) (by decide) (by rw [g_want h rfl rfl rfl rfl hB20]; rfl) rfl (by decide) (fun w' => x_iaddrA h.k rfl Try.underlying53 sz_uint8 rfl rfl hi159 hm160 rfl) (fun a h => ?_)
                    obtain ⟨u163, hv164, hu165⟩ := ((hs1.mono (((((le24.trans le32).trans le40).trans le100).trans le108).trans le128))).cell rfl h162
                    cases hu165
                    refine d_takeY h HS HN 25 rfl (by kernel_rfl) (by kernel_rfl) (by kernel_rfl) (by kernel_rfl) (by kernel_rfl) (by rw [g_want h rfl rfl rfl rfl hB20]; rfl) rfl (by decide) (fun w' hw => x_ld h.k rfl Try.underlying5 rfl rfl ((hw.cell (i := 1) rfl _).trans (by rw [Nat.zero_add, Nat.mul_one]; exact hv164))) (fun a h => ?_)
                    refine d_takeP h (fun _ => HS) HN 26 rfl (by kernel_rfl) (by kernel_rfl) (by kernel_rfl) (by decide) (by rw [g_want h rfl rfl rfl rfl hB20]; rfl) rfl (by decide) (fun w' => x_bin h.k rfl rfl rfl ib_eql) (fun a h => ?_)
                    refine d_alone 23 rfl (by kernel_rfl) (fun K hK => ?_)
                    refine g_yes (j := 20) (t := 119) h rfl rfl rfl rfl hB20 ?_
                    have hX := chatelaineref01_Same_ok Fu (S0 := snapAll _) A41 c42 x35.1 ((hs43.mono ((le100.trans le108).trans le128)).mono (h.m.leAll (i := 0) rfl)) A109 c110 x103.1 ((hs111.mono le128).mono (h.m.leAll (i := 0) rfl)) _ h155 _ h.startAll
                    refine q_callX hX h rfl rfl rfl (by decide) Try.func25 rfl rfl rfl (fun a w v L1 S1 hR hb1 h => ?_)
                    obtain ⟨rfl, rfl, _⟩ := hR
                    refine hK _ _ (fun _ _ => HS.ext hb1) ?_
                    replace HS := HS.ext hb1
                    clear hK
                    refine d_takeP h (fun _ => HS) HN 27 rfl (by kernel_rfl) (by kernel_rfl) (by kernel_rfl) (by decide) (by rw [g_want h rfl rfl rfl rfl hB20]; rfl) rfl (by decide) (fun w' => x_neqB h.k rfl Try.underlying4 rfl rfl) (fun a h => ?_)
                    refine d_takeP h (fun _ => HS) HN 28 rfl (by kernel_rfl) (by kernel_rfl) (by kernel_rfl) (by decide) rfl rfl (by decide) (fun w' => x_pick (v := .bool z152) (u' := undef) h.k rfl rfl (fun hh => absurd (hB20.symm.trans hh) (by decide)) (fun _ => by rw [← Option.some.inj hz153]; rfl)) (fun a h => ?_)
                    refine d_done (by kernel_rfl) (HE _ _ ?_) _
                    refine e_thenN ?_
                    have h := h.pick [0] (by decide) rfl
                    exact h.has (by exact ⟨rfl, rfl, rfl, rfl, trivial⟩)
                · rw [if_neg (by rw [hB13]; decide)] at hz138
                  obtain ⟨x139, h140, hz138⟩ := bsome hz138
                  obtain ⟨x149, h150, hz138⟩ := bsome hz138
                  refine d_takeP h (fun _ => HS) HN 14 rfl (by kernel_rfl) (by kernel_rfl) (by kernel_rfl) (by decide) (by rw [g_want h rfl rfl rfl rfl hB13]; rfl) rfl (by decide) (fun w' => x_move h.k _ rfl rfl) (fun a h => ?_)
                  refine d_takeP h (fun _ => HS) HN 15 rfl (by kernel_rfl) (by kernel_rfl) (by kernel_rfl) (by decide) (by rw [g_want h rfl rfl rfl rfl hB13]; rfl) rfl (by decide) (fun w' => x_move h.k _ rfl rfl) (fun a h => ?_)
                  obtain ⟨m141, n142, hi143, hi144, hm145, hm146, hr147⟩ := sub_some h140
                  have hs148 := slS.sub ((hs43.mono ((le100.trans le108).trans le128))) hm145 hm146 (Nat.le_trans hm146 ((hs43.mono ((le100.trans le108).trans le128))).1) (Nat.le_refl _) hr147
                  refine d_takeP h (fun _ => HS) HN 16 rfl (by kernel_rfl) (by kernel_rfl) (by kernel_rfl) (by decide) (by rw [g_want h rfl rfl rfl rfl hB13]; rfl) rfl (by decide) (fun w' => x_sliceE h.k rfl Try.underlying22 sz_uint8 rfl c42 hr147 (bd_none (by omega)) (bd_some rfl hi144) (bd_none rfl) (by intro hh; cases hh) hm145 hm146 (Nat.le_trans hm146 ((hs43.mono ((le100.trans le108).trans le128))).1) (Nat.le_refl _)) (fun a h => ?_)
                  refine d_alone 17 rfl (by kernel_rfl) (fun K hK => ?_)
                  refine g_yes (j := 13) (t := 112) h rfl rfl rfl rfl hB13 ?_
                  have hX := chatelaineref01_Same_ok Fu (S0 := snapAll _) A129 c130 x123.1 (hs131.mono (h.m.leAll (i := 0) rfl)) (sA A41 c42 m141 1) (c42 - m141) x139 (hs148.mono (h.m.leAll (i := 0) rfl)) _ h150 _ h.startAll
                  refine q_callX hX h rfl rfl rfl (by decide) Try.func25 rfl rfl rfl (fun a w v L1 S1 hR hb1 h => ?_)
                  obtain ⟨rfl, rfl, _⟩ := hR
                  refine hK _ _ (fun _ _ => HS.ext hb1) ?_
                  replace HS := HS.ext hb1
                  clear hK
                  refine d_takeP h (fun _ => HS) HN 18 rfl (by kernel_rfl) (by kernel_rfl) (by kernel_rfl) (by decide) (by rw [g_want h rfl rfl rfl rfl hB13]; rfl) rfl (by decide) (fun w' => x_not h.k rfl rfl) (fun a h => ?_)
                  refine d_takeP h (fun _ => HS) HN 19 rfl (by kernel_rfl) (by kernel_rfl) (by kernel_rfl) (by decide) rfl rfl (by decide) (fun w' => x_pick (v := .bool z137) (u' := undef) h.k rfl rfl (fun hh => absurd (hB13.symm.trans hh) (by decide)) (fun _ => by rw [← Option.some.inj hz138]; rfl)) (fun a h => ?_)
                  refine d_takeP h (fun _ => HS) HN 20 rfl (by kernel_rfl) (by kernel_rfl) (by kernel_rfl) (by decide) rfl rfl (by decide) (fun w' => x_move h.k _ rfl rfl) (fun a h => ?_)
                  refine d_split (t := 119) h rfl (fun hB20 => ?_) (fun hB20 => ?_)
                  · rw [if_pos hB20] at hz153
                    refine d_takeNP h (fun _ => HS) HN 21 rfl (by kernel_rfl) (by kernel_rfl) (by kernel_rfl) (by decide) (by rw [g_want h rfl rfl rfl rfl hB20]; rfl) rfl (by decide) (fun a h => ?_)
                    refine d_takeNP h (fun _ => HS) HN 22 rfl (by kernel_rfl) (by kernel_rfl) (by kernel_rfl) (by decide) (by rw [g_want h rfl rfl rfl rfl hB20]; rfl) rfl (by decide) (fun a h => ?_)
                    refine d_takeNP h (fun _ => HS) HN 23 rfl (by kernel_rfl) (by kernel_rfl) (by kernel_rfl) (by decide) (by rw [g_want h rfl rfl rfl rfl hB20]; rfl) rfl (by decide) (fun a h => ?_)
                    refine d_takeNP h (fun _ => HS) HN 24 rfl (by kernel_rfl) (by kernel_rfl) (by kernel_rfl) (by decide) (by rw [g_want h rfl rfl rfl rfl hB20]; rfl) rfl (by decide) (fun a h => ?_)
                    refine d_takeNP h (fun _ => HS) HN 25 rfl (by kernel_rfl) (by kernel_rfl) (by kernel_rfl) (by decide) (by rw [g_want h rfl rfl rfl rfl hB20]; rfl) rfl (by decide) (fun a h => ?_)
                    refine d_takeNP h (fun _ => HS) HN 26 rfl (by kernel_rfl) (by kernel_rfl) (by kernel_rfl) (by decide) (by rw [g_want h rfl rfl rfl rfl hB20]; rfl) rfl (by decide) (fun a h => ?_)
                    refine d_takeNP h (fun _ => HS) HN 27 rfl (by kernel_rfl) (by kernel_rfl) (by kernel_rfl) (by decide) (by rw [g_want h rfl rfl rfl rfl hB20]; rfl) rfl (by decide) (fun a h => ?_)
                    refine d_takeP h (fun _ => HS) HN 28 rfl (by kernel_rfl) (by kernel_rfl) (by kernel_rfl) (by decide) rfl rfl (by decide) (fun w' => x_pick (v := .bool z152) (u' := undef) h.k rfl rfl (fun _ => by rw [← Option.some.inj hz153]; rfl) (fun hh => absurd (hB20.symm.trans hh) (by decide))) (fun a h => ?_)
                    refine d_done (by kernel_rfl) (HE _ _ ?_) _
                    refine e_thenN ?_
                    have h := h.pick [0] (by decide) rfl
                    exact h.has (by exact ⟨rfl, rfl, rfl, rfl, trivial⟩)
                  · rw [if_neg (by rw [hB20]; decide)] at hz153
                    obtain ⟨x154, h155, hz153⟩ := bsome hz153
                    obtain ⟨m157, h158, hz153⟩ := bsome hz153
                    obtain ⟨x161, h162, hz153⟩ := bsome hz153
                    refine d_takeP h (fun _ => HS) HN 21 rfl (by kernel_rfl) (by kernel_rfl) (by kernel_rfl) (by decide) (by rw [g_want h rfl rfl rfl rfl hB20]; rfl) rfl (by decide) (fun w' => x_move h.k _ rfl rfl) (fun a h => ?_)
                    refine d_takeP h (fun _ => HS) HN 22 rfl (by kernel_rfl) (by kernel_rfl) (by kernel_rfl) (by decide) (by rw [g_want h rfl rfl rfl rfl hB20]; rfl) rfl (by decide) (fun w' => x_move h.k _ rfl rfl) (fun a h => ?_)
                    obtain ⟨hi159, hm160⟩ := ix_some h158
                    refine d_takeP h (fun _ => HS) HN 24 rfl (by kernel_rfl) (by kernel_rfl) (by kernel_rfl) (by decide) (by rw [g_want h rfl rfl rfl rfl hB20]; rfl) rfl (by decide) (fun w' => x_iaddrA h.k rfl Try.underlying53 sz_uint8 rfl rfl hi159 hm160 rfl) (fun a h => ?_)
                    obtain ⟨u163, hv164, hu165⟩ := ((hs1.mono (((((le24.trans le32).trans le40).trans le100).trans le108).trans le128))).cell rfl h162
                    cases hu165
                    refine d_takeY h HS HN 25 rfl (by kernel_rfl) (by kernel_rfl) (by kernel_rfl) (by kernel_rfl) (by kernel_rfl) (by rw [g_want h rfl rfl rfl rfl hB20]; rfl) rfl (by decide) (fun w' hw => x_ld h.k rfl Try.underlying5 rfl rfl ((hw.cell (i := 1) rfl _).trans (by rw [Nat.zero_add, Nat.mul_one]; exact hv164))) (fun a h => ?_)
                    refine d_takeP h (fun _ => HS) HN 26 rfl (by kernel_rfl) (by kernel_rfl) (by kernel_rfl) (by decide) (by rw [g_want h rfl rfl rfl rfl hB20]; rfl) rfl (by decide) (fun w' => x_bin h.k rfl rfl rfl ib_eql) (fun a h => ?_)
                    refine d_alone 23 rfl (by kernel_rfl) (fun K hK => ?_)
                    refine g_yes (j := 20) (t := 119) h rfl rfl rfl rfl hB20 ?_
                    have hX := chatelaineref01_Same_ok Fu (S0 := snapAll _) A41 c42 x35.1 ((hs43.mono ((le100.trans le108).trans le128)).mono (h.m.leAll (i := 0) rfl)) A109 c110 x103.1 ((hs111.mono le128).mono (h.m.leAll (i := 0) rfl)) _ h155 _ h.startAll
                    refine q_callX hX h rfl rfl rfl (by decide) Try.func25 rfl rfl rfl (fun a w v L1 S1 hR hb1 h => ?_)
                    obtain ⟨rfl, rfl, _⟩ := hR
                    refine hK _ _ (fun _ _ => HS.ext hb1) ?_
                    replace HS := HS.ext hb1
                    clear hK
                    refine d_takeP h (fun _ => HS) HN 27 rfl (by kernel_rfl) (by kernel_rfl) (by kernel_rfl) (by decide) (by rw [g_want h rfl rfl rfl rfl hB20]; rfl) rfl (by decide) (fun w' => x_neqB h.k rfl Try.underlying4 rfl rfl) (fun a h => ?_)
                    refine d_takeP h (fun _ => HS) HN 28 rfl (by kernel_rfl) (by kernel_rfl) (by kernel_rfl) (by decide) rfl rfl (by decide) (fun w' => x_pick (v := .bool z152) (u' := undef) h.k rfl rfl (fun hh => absurd (hB20.symm.trans hh) (by decide)) (fun _ => by rw [← Option.some.inj hz153]; rfl)) (fun a h => ?_)
                    refine d_done (by kernel_rfl) (HE _ _ ?_) _
                    refine e_thenN ?_
                    have h := h.pick [0] (by decide) rfl
                    exact h.has (by exact ⟨rfl, rfl, rfl, rfl, trivial⟩)
              · refine d_takeP h (fun _ => HS) HN 7 rfl (by kernel_rfl) (by kernel_rfl) (by kernel_rfl) (by decide) (by rw [g_want h rfl rfl rfl rfl hB6]; rfl) rfl (by decide) (fun w' => x_move h.k _ rfl rfl) (fun a h => ?_)
                refine d_takeP h (fun _ => HS) HN 8 rfl (by kernel_rfl) (by kernel_rfl) (by kernel_rfl) (by decide) (by rw [g_want h rfl rfl rfl rfl hB6]; rfl) rfl (by decide) (fun w' => x_len h.k rfl Try.underlying22 rfl) (fun a h => ?_)
                refine d_takeP h (fun _ => HS) HN 9 rfl (by kernel_rfl) (by kernel_rfl) (by kernel_rfl) (by decide) (by rw [g_want h rfl rfl rfl rfl hB6]; rfl) rfl (by decide) (fun w' => x_move h.k _ rfl rfl) (fun a h => ?_)
                refine d_takeP h (fun _ => HS) HN 10 rfl (by kernel_rfl) (by kernel_rfl) (by kernel_rfl) (by decide) (by rw [g_want h rfl rfl rfl rfl hB6]; rfl) rfl (by decide) (fun w' => x_len h.k rfl Try.underlying22 rfl) (fun a h => ?_)
                refine d_takeP h (fun _ => HS) HN 11 rfl (by kernel_rfl) (by kernel_rfl) (by kernel_rfl) (by decide) (by rw [g_want h rfl rfl rfl rfl hB6]; rfl) rfl (by decide) (fun w' => x_bin h.k rfl rfl rfl ib_neq) (fun a h => ?_)
                refine d_takeP h (fun _ => HS) HN 12 rfl (by kernel_rfl) (by kernel_rfl) (by kernel_rfl) (by decide) rfl rfl (by decide) (fun w' => x_pick (v := .bool (((decide (x103.2 ≠ 0)) || (decide (x123.2 ≠ 0))) || (decide ((x103.1.length : Int) ≠ (a1.length : Int))))) (u' := undef) h.k rfl rfl (fun hh => absurd (hB6.symm.trans hh) (by decide)) (fun _ => by rw [hB6]; first | rfl | simp [ev, List.lookup])) (fun a h => ?_)
                refine d_takeP h (fun _ => HS) HN 13 rfl (by kernel_rfl) (by kernel_rfl) (by kernel_rfl) (by decide) rfl rfl (by decide) (fun w' => x_move h.k _ rfl rfl) (fun a h => ?_)
                refine d_split (t := 112) h rfl (fun hB13 => ?_) (fun hB13 => ?_)
                · rw [if_pos hB13] at hz138
                  refine d_takeNP h (fun _ => HS) HN 14 rfl (by kernel_rfl) (by kernel_rfl) (by kernel_rfl) (by decide) (by rw [g_want h rfl rfl rfl rfl hB13]; rfl) rfl (by decide) (fun a h => ?_)
                  refine d_takeNP h (fun _ => HS) HN 15 rfl (by kernel_rfl) (by kernel_rfl) (by kernel_rfl) (by decide) (by rw [g_want h rfl rfl rfl rfl hB13]; rfl) rfl (by decide) (fun a h => ?_)
                  refine d_takeNP h (fun _ => HS) HN 16 rfl (by kernel_rfl) (by kernel_rfl) (by kernel_rfl) (by decide) (by rw [g_want h rfl rfl rfl rfl hB13]; rfl) rfl (by decide) (fun a h => ?_)
                  refine d_takeNP h (fun _ => HS) HN 17 rfl (by kernel_rfl) (by kernel_rfl) (by kernel_rfl) (by decide) (by rw [g_want h rfl rfl rfl rfl hB13]; rfl) rfl (by decide) (fun a h => ?_)
                  refine d_takeNP h (fun _ => HS) HN 18 rfl (by kernel_rfl) (by kernel_rfl) (by kernel_rfl) (by decide) (by rw [g_want h rfl rfl rfl rfl hB13]; rfl) rfl (by decide) (fun a h => ?_)
                  refine d_takeP h (fun _ => HS) HN 19 rfl (by kernel_rfl) (by kernel_rfl) (by kernel_rfl) (by decide) rfl rfl (by decide) (fun w' => x_pick (v := .bool z137) (u' := undef) h.k rfl rfl (fun _ => by rw [← Option.some.inj hz138]; rfl) (fun hh => absurd (hB13.symm.trans hh) (by decide))) (fun a h => ?_)
                  refine d_takeP h (fun _ => HS) HN 20 rfl (by kernel_rfl) (by kernel_rfl) (by kernel_rfl) (by decide) rfl rfl (by decide) (fun w' => x_move h.k _ rfl rfl) (fun a h => ?_)
                  refine d_split (t := 119) h rfl (fun hB20 => ?_) (fun hB20 => ?_)
                  · rw [if_pos hB20] at hz153
                    refine d_takeNP h (fun _ => HS) HN 21 rfl (by kernel_rfl) (by kernel_rfl) (by kernel_rfl) (by decide) (by rw [g_want h rfl rfl rfl rfl hB20]; rfl) rfl (by decide) (fun a h => ?_)
                    refine d_takeNP h (fun _ => HS) HN 22 rfl (by kernel_rfl) (by kernel_rfl) (by kernel_rfl) (by decide) (by rw [g_want h rfl rfl rfl rfl hB20]; rfl) rfl (by decide) (fun a h => ?_)
                    refine d_takeNP h (fun _ => HS) HN 23 rfl (by kernel_rfl) (by kernel_rfl) (by kernel_rfl) (by decide) (by rw [g_want h rfl rfl rfl rfl hB20]; rfl) rfl (by decide) (fun a h => ?_)
                    refine d_takeNP h (fun _ => HS) HN 24 rfl (by kernel_rfl) (by kernel_rfl) (by kernel_rfl) (by decide) (by rw [g_want h rfl rfl rfl rfl hB20]; rfl) rfl (by decide) (fun a h => ?_)
                    refine d_takeNP h (fun _ => HS) HN 25 rfl (by kernel_rfl) (by kernel_rfl) (by kernel_rfl) (by decide) (by rw [g_want h rfl rfl rfl rfl hB20]; rfl) rfl (by decide) (fun a h => ?_)
                    refine d_takeNP h (fun _ => HS) HN 26 rfl (by kernel_rfl) (by kernel_rfl) (by kernel_rfl) (by decide) (by rw [g_want h rfl rfl rfl rfl hB20]; rfl) rfl (by decide) (fun a h => ?_)
                    refine d_takeNP h (fun _ => HS) HN 27 rfl (by kernel_rfl) (by kernel_rfl) (by kernel_rfl) (by decide) (by rw [g_want h rfl rfl rfl rfl hB20]; rfl) rfl (by decide) (fun a h => ?_)
                    refine d_takeP h (fun _ => HS) HN 28 rfl (by kernel_rfl) (by kernel_rfl) (by kernel_rfl) (by decide) rfl rfl (by decide) (fun w' => x_pick (v := .bool z152) (u' := undef) h.k rfl rfl (fun _ => by rw [← Option.some.inj hz153]; rfl) (fun hh => absurd (hB20.symm.trans hh) (by decide))) (fun a h => ?_)
                    refine d_done (by kernel_rfl) (HE _ _ ?_) _
                    refine e_thenN ?_
                    have h := h.pick [0] (by decide) rfl
                    exact h.has (by exact ⟨rfl, rfl, rfl, rfl, trivial⟩)
                  · rw [if_neg (by rw [hB20]; decide)] at hz153
                    obtain ⟨x154, h155, hz153⟩ := bsome hz153
                    obtain ⟨m157, h158, hz153⟩ := bsome hz153
                    obtain ⟨x161, h162, hz153⟩ := bsome hz153
                    refine d_takeP h (fun _ => HS) HN 21 rfl (by kernel_rfl) (by kernel_rfl) (by kernel_rfl) (by decide) (by rw [g_want h rfl rfl rfl rfl hB20]; rfl) rfl (by decide) (fun w' => x_move h.k _ rfl rfl) (fun a h => ?_)
                    refine d_takeP h (fun _ => HS) HN 22 rfl (by kernel_rfl) (by kernel_rfl) (by kernel_rfl) (by decide) (by rw [g_want h rfl rfl rfl rfl hB20]; rfl) rfl (by decide) (fun w' => x_move h.k _ rfl rfl) (fun a h => ?_)
                    obtain ⟨hi159, hm160⟩ := ix_some h158
                    refine d_takeP h (fun _ => HS) HN 24 rfl (by kernel_rfl) (by kernel_rfl) (by kernel_rfl) (by decide) (by rw [g_want h rfl rfl rfl rfl hB20]; rfl) rfl (by decide) (fun w' => x_iaddrA h.k rfl Try.underlying53 sz_uint8 rfl rfl hi159 hm160 rfl) (fun a h => ?_)
                    obtain ⟨u163, hv164, hu165⟩ := ((hs1.mono (((((le24.trans le32).trans le40).trans le100).trans le108).trans le128))).cell rfl h162
                    cases hu165
                    refine d_takeY h HS HN 25 rfl (by kernel_rfl) (by kernel_rfl) (by kernel_rfl) (by kernel_rfl) (by kernel_rfl) (by rw [g_want h rfl rfl rfl rfl hB20]; rfl) rfl (by decide) (fun w' hw => x_ld h.k rfl Try.underlying5 rfl rfl ((hw.cell (i := 1) rfl _).trans (by rw [Nat.zero_add, Nat.mul_one]; exact hv164))) (fun a h => ?_)
                    refine d_takeP h (fun _ => HS) HN 26 rfl (by kernel_rfl) (by kernel_rfl) (by kernel_rfl) (by decide) (by rw [g_want h rfl rfl rfl rfl hB20]; rfl) rfl (by decide) (fun w' => x_bin h.k rfl rfl rfl ib_eql) (fun a h => ?_)
                    refine d_alone 23 rfl (by kernel_rfl) (fun K hK => ?_)
                    refine g_yes (j := 20) (t := 119) h rfl rfl rfl rfl hB20 ?_
                    have hX := chatelaineref01_Same_ok Fu (S0 := snapAll _) A41 c42 x35.1 ((hs43.mono ((le100.trans le108).trans le128)).mono (h.m.leAll (i := 0) rfl)) A109 c110 x103.1 ((hs111.mono le128).mono (h.m.leAll (i := 0) rfl)) _ h155 _ h.startAll
                    refine q_callX hX h rfl rfl rfl (by decide) Try.func25 rfl rfl rfl (fun a w v L1 S1 hR hb1 h => ?_)
                    obtain ⟨rfl, rfl, _⟩ := hR
                    refine hK _ _ (fun _ _ => HS.ext hb1) ?_
                    replace HS := HS.ext hb1
                    clear hK
                    refine d_takeP h (fun _ => HS) HN 27 rfl (by kernel_rfl) (by kernel_rfl) (by kernel_rfl) (by decide) (by rw [g_want h rfl rfl rfl rfl hB20]; rfl) rfl (by decide) (fun w' => x_neqB h.k rfl Try.underlying4 rfl rfl) (fun a h => ?_)
                    refine d_takeP h (fun _ => HS) HN 28 rfl (by kernel_rfl) (by kernel_rfl) (by kernel_rfl) (by decide) rfl rfl (by decide) (fun w' => x_pick (v := .bool z152) (u' := undef) h.k rfl rfl (fun hh => absurd (hB20.symm.trans hh) (by decide)) (fun _ => by rw [← Option.some.inj hz153]; rfl)) (fun a h => ?_)
                    refine d_done (by kernel_rfl) (HE _ _ ?_) _
                    refine e_thenN ?_
                    have h := h.pick [0] (by decide) rfl
                    exact h.has (by exact ⟨rfl, rfl, rfl, rfl, trivial⟩)
                · rw [if_neg (by rw [hB13]; decide)] at hz138
                  obtain ⟨x139, h140, hz138⟩ := bsome hz138
                  obtain ⟨x149, h150, hz138⟩ := bsome hz138
                  refine d_takeP h (fun _ => HS) HN 14 rfl (by kernel_rfl) (by kernel_rfl) (by kernel_rfl) (by decide) (by rw [g_want h rfl rfl rfl rfl hB13]; rfl) rfl (by decide) (fun w' => x_move h.k _ rfl rfl) (fun a h => ?_)
                  refine d_takeP h (fun _ => HS) HN 15 rfl (by kernel_rfl) (by kernel_rfl) (by kernel_rfl) (by decide) (by rw [g_want h rfl rfl rfl rfl hB13]; rfl) rfl (by decide) (fun w' => x_move h.k _ rfl rfl) (fun a h => ?_)
                  obtain ⟨m141, n142, hi143, hi144, hm145, hm146, hr147⟩ := sub_some h140
                  have hs148 := slS.sub ((hs43.mono ((le100.trans le108).trans le128))) hm145 hm146 (Nat.le_trans hm146 ((hs43.mono ((le100.trans le108).trans le128))).1) (Nat.le_refl _) hr147
                  refine d_takeP h (fun _ => HS) HN 16 rfl (by kernel_rfl) (by kernel_rfl) (by kernel_rfl) (by decide) (by rw [g_want h rfl rfl rfl rfl hB13]; rfl) rfl (by decide) (fun w' => x_sliceE h.k rfl Try.underlying22 sz_uint8 rfl c42 hr147 (bd_none (by omega)) (bd_some rfl hi144) (bd_none rfl) (by intro hh; cases hh) hm145 hm146 (Nat.le_trans hm146 ((hs43.mono ((le100.trans le108).trans le128))).1) (Nat.le_refl _)) (fun a h => ?_)
                  refine d_alone 17 rfl (by kernel_rfl) (fun K hK => ?_)
                  refine g_yes (j := 13) (t := 112) h rfl rfl rfl rfl hB13 ?_
                  have hX := chatelaineref01_Same_ok Fu (S0 := snapAll _) A129 c130 x123.1 (hs131.mono (h.m.leAll (i := 0) rfl)) (sA A41 c42 m141 1) (c42 - m141) x139 (hs148.mono (h.m.leAll (i := 0) rfl)) _ h150 _ h.startAll
                  refine q_callX hX h rfl rfl rfl (by decide) Try.func25 rfl rfl rfl (fun a w v L1 S1 hR hb1 h => ?_)
                  obtain ⟨rfl, rfl, _⟩ := hR
                  refine hK _ _ (fun _ _ => HS.ext hb1) ?_
                  replace HS := HS.ext hb1
                  clear hK
                  refine d_takeP h (fun _ => HS) HN 18 rfl (by kernel_rfl) (by kernel_rfl) (by kernel_rfl) (by decide) (by rw [g_want h rfl rfl rfl rfl hB13]; rfl) rfl (by decide) (fun w' => x_not h.k rfl rfl) (fun a h => ?_)
                  refine d_takeP h (fun _ => HS) HN 19 rfl (by kernel_rfl) (by kernel_rfl) (by kernel_rfl) (by decide) rfl rfl (by decide) (fun w' => x_pick (v := .bool z137) (u' := undef) h.k rfl rfl (fun hh => absurd (hB13.symm.trans hh) (by decide)) (fun _ => by rw [← Option.some.inj hz138]; rfl)) (fun a h => ?_)
                  refine d_takeP h (fun _ => HS) HN 20 rfl (by kernel_rfl) (by kernel_rfl) (by kernel_rfl) (by decide) rfl rfl (by decide) (fun w' => x_move h.k _ rfl rfl) (fun a h => ?_)
                  refine d_split (t := 119) h rfl (fun hB20 => ?_) (fun hB20 => ?_)
                  · rw [if_pos hB20] at hz153
                    refine d_takeNP h (fun _ => HS) HN 21 rfl (by kernel_rfl) (by kernel_rfl) (by kernel_rfl) (by decide) (by rw [g_want h rfl rfl rfl rfl hB20]; rfl) rfl (by decide) (fun a h => ?_)
                    refine d_takeNP h (fun _ => HS) HN 22 rfl (by kernel_rfl) (by kernel_rfl) (by kernel_rfl) (by decide) (by rw [g_want h rfl rfl rfl rfl hB20]; rfl) rfl (by decide) (fun a h => ?_)
                    refine d_takeNP h (fun _ => HS) HN 23 rfl (by kernel_rfl) (by kernel_rfl) (by kernel_rfl) (by decide) (by rw [g_want h rfl rfl rfl rfl hB20]; rfl) rfl (by decide) (fun a h => ?_)
                    refine d_takeNP h (fun _ => HS) HN 24 rfl (by kernel_rfl) (by kernel_rfl) (by kernel_rfl) (by decide) (by rw [g_want h rfl rfl rfl rfl hB20]; rfl) rfl (by decide) (fun a h => ?_)
                    refine d_takeNP h (fun _ => HS) HN 25 rfl (by kernel_rfl) (by kernel_rfl) (by kernel_rfl) (by decide) (by rw [g_want h rfl rfl rfl rfl hB20]; rfl) rfl (by decide) (fun a h => ?_)
                    refine d_takeNP h (fun _ => HS) HN 26 rfl (by kernel_rfl) (by kernel_rfl) (by kernel_rfl) (by decide) (by rw [g_want h rfl rfl rfl rfl hB20]; rfl) rfl (by decide) (fun a h => ?_)
                    refine d_takeNP h (fun _ => HS) HN 27 rfl (by kernel_rfl) (by kernel_rfl) (by kernel_rfl) (by decide) (by rw [g_want h rfl rfl rfl rfl hB20]; rfl) rfl (by decide) (fun a h => ?_)
                    refine d_takeP h (fun _ => HS) HN 28 rfl (by kernel_rfl) (by kernel_rfl) (by kernel_rfl) (by decide) rfl rfl (by decide) (fun w' => x_pick (v := .bool z152) (u' := undef) h.k rfl rfl (fun _ => by rw [← Option.some.inj hz153]; rfl) (fun hh => absurd (hB20.symm.trans hh) (by decide))) (fun a h => ?_)
                    refine d_done (by kernel_rfl) (HE _ _ ?_) _
                    refine e_thenN ?_
                    have h := h.pick [0] (by decide) rfl
                    exact h.has (by exact ⟨rfl, rfl, rfl, rfl, trivial⟩)
                  · rw [if_neg (by rw [hB20]; decide)] at hz153
                    obtain ⟨x154, h155, hz153⟩ := bsome hz153
                    obtain ⟨m157, h158, hz153⟩ := bsome hz153
                    obtain ⟨x161, h162, hz153⟩ := bsome hz153
                    refine d_takeP h (fun _ => HS) HN 21 rfl (by kernel_rfl) (by kernel_rfl) (by kernel_rfl) (by decide) (by rw [g_want h rfl rfl rfl rfl hB20]; rfl) rfl (by decide) (fun w' => x_move h.k _ rfl rfl) (fun a h => ?_)
                    refine d_takeP h (fun _ => HS) HN 22 rfl (by kernel_rfl) (by kernel_rfl) (by kernel_rfl) (by decide) (by rw [g_want h rfl rfl rfl rfl hB20]; rfl) rfl (by decide) (fun w' => x_move h.k _ rfl rfl) (fun a h => ?_)
                    obtain ⟨hi159, hm160⟩ := ix_some h158
                    refine d_takeP h (fun _ => HS) HN 24 rfl (by kernel_rfl) (by kernel_rfl) (by kernel_rfl) (by decide) (by rw [g_want h rfl rfl rfl rfl hB20]; rfl) rfl (by decide) (fun w' => x_iaddrA h.k rfl Try.underlying53 sz_uint8 rfl rfl hi159 hm160 rfl) (fun a h => ?_)
                    obtain ⟨u163, hv164, hu165⟩ := ((hs1.mono (((((le24.trans le32).trans le40).trans le100).trans le108).trans le128))).cell rfl h162
                    cases hu165
                    refine d_takeY h HS HN 25 rfl (by kernel_rfl) (by kernel_rfl) (by kernel_rfl) (by kernel_rfl) (by kernel_rfl) (by rw [g_want h rfl rfl rfl rfl hB20]; rfl) rfl (by decide) (fun w' hw => x_ld h.k rfl Try.underlying5 rfl rfl ((hw.cell (i := 1) rfl _).trans (by rw [Nat.zero_add, Nat.mul_one]; exact hv164))) (fun a h => ?_)
                    refine d_takeP h (fun _ => HS) HN 26 rfl (by kernel_rfl) (by kernel_rfl) (by kernel_rfl) (by decide) (by rw [g_want h rfl rfl rfl rfl hB20]; rfl) rfl (by decide) (fun w' => x_bin h.k rfl rfl rfl ib_eql) (fun a h => ?_)
                    refine d_alone 23 rfl (by kernel_rfl) (fun K hK => ?_)
                    refine g_yes (j := 20) (t := 119) h rfl rfl rfl rfl hB20 ?_
                    have hX := chatelaineref01_Same_ok Fu (S0 := snapAll _) A41 c42 x35.1 ((hs43.mono ((le100.trans le108).trans le128)).mono (h.m.leAll (i := 0) rfl)) A109 c110 x103.1 ((hs111.mono le128).mono (h.m.leAll (i := 0) rfl)) _ h155 _ h.startAll
                    refine q_callX hX h rfl rfl rfl (by decide) Try.func25 rfl rfl rfl (fun a w v L1 S1 hR hb1 h => ?_)
                    obtain ⟨rfl, rfl, _⟩ := hR
                    refine hK _ _ (fun _ _ => HS.ext hb1) ?_
                    replace HS := HS.ext hb1
                    clear hK
                    refine d_takeP h (fun _ => HS) HN 27 rfl (by kernel_rfl) (by kernel_rfl) (by kernel_rfl) (by decide) (by rw [g_want h rfl rfl rfl rfl hB20]; rfl) rfl (by decide) (fun w' => x_neqB h.k rfl Try.underlying4 rfl rfl) (fun a h => ?_)
                    refine d_takeP h (fun _ => HS) HN 28 rfl (by kernel_rfl) (by kernel_rfl) (by kernel_rfl) (by decide) rfl rfl (by decide) (fun w' => x_pick (v := .bool z152) (u' := undef) h.k rfl rfl (fun hh => absurd (hB20.symm.trans hh) (by decide)) (fun _ => by rw [← Option.some.inj hz153]; rfl)) (fun a h => ?_)
                    refine d_done (by kernel_rfl) (HE _ _ ?_) _
                    refine e_thenN ?_
                    have h := h.pick [0] (by decide) rfl
                    exact h.has (by exact ⟨rfl, rfl, rfl, rfl, trivial⟩)
            · refine d_takeP h (fun _ => HS) HN 3 rfl (by kernel_rfl) (by kernel_rfl) (by kernel_rfl) (by decide) (by rw [g_want h rfl rfl rfl rfl hB2]; rfl) rfl (by decide) (fun w' => x_move h.k _ rfl rfl) (fun a h => ?_)
              refine d_takeP h (fun _ => HS) HN 4 rfl (by kernel_rfl) (by kernel_rfl) (by kernel_rfl) (by decide) (by rw [g_want h rfl rfl rfl rfl hB2]; rfl) rfl (by decide) (fun w' => x_bin h.k rfl rfl rfl ib_neq) (fun a h => ?_)
              refine d_takeP h (fun _ => HS) HN 5 rfl (by kernel_rfl) (by kernel_rfl) (by kernel_rfl) (by decide) rfl rfl (by decide) (fun w' => x_pick (v := .bool ((decide (x103.2 ≠ 0)) || (decide (x123.2 ≠ 0)))) (u' := undef) h.k rfl rfl (fun hh => absurd (hB2.symm.trans hh) (by decide)) (fun _ => by rw [hB2]; first | rfl | simp [ev, List.lookup])) (fun a h => ?_)
              refine d_takeP h (fun _ => HS) HN 6 rfl (by kernel_rfl) (by kernel_rfl) (by kernel_rfl) (by decide) rfl rfl (by decide) (fun w' => x_move h.k _ rfl rfl) (fun a h => ?_)
              refine d_split (t := 105) h rfl (fun hB6 => ?_) (fun hB6 => ?_)
              · refine d_takeNP h (fun _ => HS) HN 7 rfl (by kernel_rfl) (by kernel_rfl) (by kernel_rfl) (by decide) (by rw [g_want h rfl rfl rfl rfl hB6]; rfl) rfl (by decide) (fun a h => ?_)
                refine d_takeNP h (fun _ => HS) HN 8 rfl (by kernel_rfl) (by kernel_rfl) (by kernel_rfl) (by decide) (by rw [g_want h rfl rfl rfl rfl hB6]; rfl) rfl (by decide) (fun a h => ?_)
                refine d_takeNP h (fun _ => HS) HN 9 rfl (by kernel_rfl) (by kernel_rfl) (by kernel_rfl) (by decide) (by rw [g_want h rfl rfl rfl rfl hB6]; rfl) rfl (by decide) (fun a h => ?_)
                refine d_takeNP h (fun _ => HS) HN 10 rfl (by kernel_rfl) (by kernel_rfl) (by kernel_rfl) (by decide) (by rw [g_want h rfl rfl rfl rfl hB6]; rfl) rfl (by decide) (fun a h => ?_)
                refine d_takeNP h (fun _ => HS) HN 11 rfl (by kernel_rfl) (by kernel_rfl) (by kernel_rfl) (by decide) (by rw [g_want h rfl rfl rfl rfl hB6]; rfl) rfl (by decide) (fun a h => ?_)
                refine d_takeP h (fun _ => HS) HN 12 rfl (by kernel_rfl) (by kernel_rfl) (by kernel_rfl) (by decide) rfl rfl (by decide) (fun w' => x_pick (v := .bool (((decide (x103.2 ≠ 0)) || (decide (x123.2 ≠ 0))) || (decide ((x103.1.length : Int) ≠ (a1.length : Int))))) (u' := undef) h.k rfl rfl (fun _ => by rw [hB6]; first | rfl | simp [ev, List.lookup]) (fun hh => absurd (hB6.symm.trans hh) (by decide))) (fun a h => ?_)
                refine d_takeP h (fun _ => HS) HN 13 rfl (by kernel_rfl) (by kernel_rfl) (by kernel_rfl) (by decide) rfl rfl (by decide) (fun w' => x_move h.k _ rfl rfl) (fun a h => ?_)
                refine d_split (t := 112) h rfl (fun hB13 => ?_) (fun hB13 => ?_)
                · rw [if_pos hB13] at hz138
                  refine d_takeNP h (fun _ => HS) HN 14 rfl (by kernel_rfl) (by kernel_rfl) (by kernel_rfl) (by decide) (by rw [g_want h rfl rfl rfl rfl hB13]; rfl) rfl (by decide) (fun a h => ?_)
                  refine d_takeNP h (fun _ => HS) HN 15 rfl (by kernel_rfl) (by kernel_rfl) (by kernel_rfl) (by decide) (by rw [g_want h rfl rfl rfl rfl hB13]; rfl) rfl (by decide) (fun a h => ?_)
                  refine d_takeNP h (fun _ => HS) HN 16 rfl (by kernel_rfl) (by kernel_rfl) (by kernel_rfl) (by decide) (by rw [g_want h rfl rfl rfl rfl hB13]; rfl) rfl (by decide) (fun a h => ?_)
                  refine d_takeNP h (fun _ => HS) HN 17 rfl (by kernel_rfl) (by kernel_rfl) (by kernel_rfl) (by decide) (by rw [g_want h rfl rfl rfl rfl hB13]; rfl) rfl (by decide) (fun a h => ?_)
                  refine d_takeNP h (fun _ => HS) HN 18 rfl (by kernel_rfl) (by kernel_rfl) (by kernel_rfl) (by decide) (by rw [g_want h rfl rfl rfl rfl hB13]; rfl) rfl (by decide) (fun a h => ?_)
                  refine d_takeP h (fun _ => HS) HN 19 rfl (by kernel_rfl) (by kernel_rfl) (by kernel_rfl) (by decide) rfl rfl (by decide) (fun w' => x_pick (v := .bool z137) (u' := undef) h.k rfl rfl (fun _ => by rw [← Option.some.inj hz138]; rfl) (fun hh => absurd (hB13.symm.trans hh) (by decide))) (fun a h => ?_)
                  refine d_takeP h (fun _ => HS) HN 20 rfl (by kernel_rfl) (by kernel_rfl) (by kernel_rfl) (by decide) rfl rfl (by decide) (fun w' => x_move h.k _ rfl rfl) (fun a h => ?_)
                  refine d_split (t := 119) h rfl (fun hB20 => ?_) (fun hB20 => ?_)
                  · rw [if_pos hB20] at hz153
                    refine d_takeNP h (fun _ => HS) HN 21 rfl (by kernel_rfl) (by kernel_rfl) (by kernel_rfl) (by decide) (by rw [g_want h rfl rfl rfl rfl hB20]; rfl) rfl (by decide) (fun a h => ?_)
                    refine d_takeNP h (fun _ => HS) HN 22 rfl (by kernel_rfl) (by kernel_rfl) (by kernel_rfl) (by decide) (by rw [g_want h rfl rfl rfl rfl hB20]; rfl) rfl (by decide) (fun a h => ?_)
                    refine d_takeNP h (fun _ => HS) HN 23 rfl (by kernel_rfl) (by kernel_rfl) (by kernel_rfl) (by decide) (by rw [g_want h rfl rfl rfl rfl hB20]; rfl) rfl (by decide) (fun a h => ?_)
                    refine d_takeNP h (fun _ => HS) HN 24 rfl (by kernel_rfl) (by kernel_rfl) (by kernel_rfl) (by decide) (by rw [g_want h rfl rfl rfl rfl hB20]; rfl) rfl (by decide) (fun a h => ?_)
                    refine d_takeNP h (fun _ => HS) HN 25 rfl (by kernel_rfl) (by kernel_rfl) (by kernel_rfl) (by decide) (by rw [g_want h rfl rfl rfl rfl hB20]; rfl) rfl (by decide) (fun a h => ?_)
                    refine d_takeNP h (fun _ => HS) HN 26 rfl (by kernel_rfl) (by kernel_rfl) (by kernel_rfl) (by decide) (by rw [g_want h rfl rfl rfl rfl hB20]; rfl) rfl (by decide) (fun a h => ?_)
                    refine d_takeNP h (fun _ => HS) HN 27 rfl (by kernel_rfl) (by kernel_rfl) (by kernel_rfl) (by decide) (by rw [g_want h rfl rfl rfl rfl hB20]; rfl) rfl (by decide) (fun a h => ?_)
                    refine d_takeP h (fun _ => HS) HN 28 rfl (by kernel_rfl) (by kernel_rfl) (by kernel_rfl) (by decide) rfl rfl (by decide) (fun w' => x_pick (v := .bool z152) (u' := undef) h.k rfl rfl (fun _ => by rw [← Option.some.inj hz153]; rfl) (fun hh => absurd (hB20.symm.trans hh) (by decide))) (fun a h => ?_)
                    refine d_done (by kernel_rfl) (HE _ _ ?_) _
                    refine e_thenN ?_
                    have h := h.pick [0] (by decide) rfl
                    exact h.has (by exact ⟨rfl, rfl, rfl, rfl, trivial⟩)
                  · rw [if_neg (by rw [hB20]; decide)] at hz153
                    obtain ⟨x154, h155, hz153⟩ := bsome hz153
                    obtain ⟨m157, h158, hz153⟩ := bsome hz153
                    obtain ⟨x161, h162, hz153⟩ := bsome hz153
                    refine d_takeP h (fun _ => HS) HN 21 rfl (by kernel_rfl) (by kernel_rfl) (by kernel_rfl) (by decide) (by rw [g_want h rfl rfl rfl rfl hB20]; rfl) rfl (by decide) (fun w' => x_move h.k _ rfl rfl) (fun a h => ?_)
                    refine d_takeP h (fun _ => HS) HN 22 rfl (by kernel_rfl) (by kernel_rfl) (by kernel_rfl) (by decide) (by rw [g_want h rfl rfl rfl rfl hB20]; rfl) rfl (by decide) (fun w' => x_move h.k _ rfl rfl) (fun a h => ?_)
                    obtain ⟨hi159, hm160⟩ := ix_some h158
                    refine d_takeP h (fun _ => HS) HN 24 rfl (by kernel_rfl) (by kernel_rfl) (by kernel_rfl) (by decide) (by rw [g_want h rfl rfl rfl rfl hB20]; rfl) rfl (by decide) (fun w' => x_iaddrA h.k rfl Try.underlying53 sz_uint8 rfl rfl hi159 hm160 rfl) (fun a h => ?_)
                    obtain ⟨u163, hv164, hu165⟩ := ((hs1.mono (((((le24.trans le32).trans le40).trans le100).trans le108).trans le128))).cell rfl h162
                    cases hu165
                    refine d_takeY h HS HN 25 rfl (by kernel_rfl) (by kernel_rfl) (by kernel_rfl) (by kernel_rfl) (by kernel_rfl) (by rw [g_want h rfl rfl rfl rfl hB20]; rfl) rfl (by decide) (fun w' hw => x_ld h.k rfl Try.underlying5 rfl rfl ((hw.cell (i := 1) rfl _).trans (by rw [Nat.zero_add, Nat.mul_one]; exact hv164))) (fun a h => ?_)
                    refine d_takeP h (fun _ => HS) HN 26 rfl (by kernel_rfl) (by kernel_rfl) (by kernel_rfl) (by decide) (by rw [g_want h rfl rfl rfl rfl hB20]; rfl) rfl (by decide) (fun w' => x_bin h.k rfl rfl rfl ib_eql) (fun a h => ?_)
                    refine d_alone 23 rfl (by kernel_rfl) (fun K hK => ?_)
                    refine g_yes (j := 20) (t := 119) h rfl rfl rfl rfl hB20 ?_
                    have hX := chatelaineref01_Same_ok Fu (S0 := snapAll _) A41 c42 x35.1 ((hs43.mono ((le100.trans le108).trans le128)).mono (h.m.leAll (i := 0) rfl)) A109 c110 x103.1 ((hs111.mono le128).mono (h.m.leAll (i := 0) rfl)) _ h155 _ h.startAll
                    refine q_callX hX h rfl rfl rfl (by decide) Try.func25 rfl rfl rfl (fun a w v L1 S1 hR hb1 h => ?_)
                    obtain ⟨rfl, rfl, _⟩ := hR
                    refine hK _ _ (fun _ _ => HS.ext hb1) ?_
                    replace HS := HS.ext hb1
                    clear hK
                    refine d_takeP h (fun _ => HS) HN 27 rfl (by kernel_rfl) (by kernel_rfl) (by kernel_rfl) (by decide) (by rw [g_want h rfl rfl rfl rfl hB20]; rfl) rfl (by decide) (fun w' => x_neqB h.k rfl Try.underlying4 rfl rfl) (fun a h => ?_)
                    refine d_takeP h (fun _ => HS) HN 28 rfl (by kernel_rfl) (by kernel_rfl) (by kernel_rfl) (by decide) rfl rfl (by decide) (fun w' => x_pick (v := .bool z152) (u' := undef) h.k rfl rfl (fun hh => absurd (hB20.symm.trans hh) (by decide)) (fun _ => by rw [← Option.some.inj hz153]; rfl)) (fun a h => ?_)
                    refine d_done (by kernel_rfl) (HE _ _ ?_) _
                    refine e_thenN ?_
                    have h := h.pick [0] (by decide) rfl
                    exact h.has (by exact ⟨rfl, rfl, rfl, rfl, trivial⟩)
                · rw [if_neg (by rw [hB13]; decide)] at hz138
                  obtain ⟨x139, h140, hz138⟩ := bsome hz138
                  obtain ⟨x149, h150, hz138⟩ := bsome hz138
                  refine d_takeP h (fun _ => HS) HN 14 rfl (by kernel_rfl) (by kernel_rfl) (by kernel_rfl) (by decide) (by rw [g_want h rfl rfl rfl rfl hB13]; rfl) rfl (by decide) (fun w' => x_move h.k _ rfl rfl) (fun a h => ?_)
                  refine d_takeP h (fun _ => HS) HN 15 rfl (by kernel_rfl) (by kernel_rfl) (by kernel_rfl) (by decide) (by rw [g_want h rfl rfl rfl rfl hB13]; rfl) rfl (by decide) (fun w' => x_move h.k _ rfl rfl) (fun a h => ?_)
                  obtain ⟨m141, n142, hi143, hi144, hm145, hm146, hr147⟩ := sub_some h140
                  have hs148 := slS.sub ((hs43.mono ((le100.trans le108).trans le128))) hm145 hm146 (Nat.le_trans hm146 ((hs43.mono ((le100.trans le108).trans le128))).1) (Nat.le_refl _) hr147
                  refine d_takeP h (fun _ => HS) HN 16 rfl (by kernel_rfl) (by kernel_rfl) (by kernel_rfl) (by decide) (by rw [g_want h rfl rfl rfl rfl hB13]; rfl) rfl (by decide) (fun w' => x_sliceE h.k rfl Try.underlying22 sz_uint8 rfl c42 hr147 (bd_none (by omega)) (bd_some rfl hi144) (bd_none rfl) (by intro hh; cases hh) hm145 hm146 (Nat.le_trans hm146 ((hs43.mono ((le100.trans le108).trans le128))).1) (Nat.le_refl _)) (fun a h => ?_)
                  refine d_alone 17 rfl (by kernel_rfl) (fun K hK => ?_)
                  refine g_yes (j := 13) (t := 112) h rfl rfl rfl rfl hB13 ?_
                  have hX := chatelaineref01_Same_ok Fu (S0 := snapAll _) A129 c130 x123.1 (hs131.mono (h.m.leAll (i := 0) rfl)) (sA A41 c42 m141 1) (c42 - m141) x139 (hs148.mono (h.m.leAll (i := 0) rfl)) _ h150 _ h.startAll
                  refine q_callX hX h rfl rfl rfl (by decide) Try.func25 rfl rfl rfl (fun a w v L1 S1 hR hb1 h => ?_)
                  obtain ⟨rfl, rfl, _⟩ := hR
                  refine hK _ _ (fun _ _ => HS.ext hb1) ?_
                  replace HS := HS.ext hb1
                  clear hK
                  refine d_takeP h (fun _ => HS) HN 18 rfl (by kernel_rfl) (by kernel_rfl) (by kernel_rfl) (by decide) (by rw [g_want h rfl rfl rfl rfl hB13]; rfl) rfl (by decide) (fun w' => x_not h.k rfl rfl) (fun a h => ?_)
                  refine d_takeP h (fun _ => HS) HN 19 rfl (by kernel_rfl) (by kernel_rfl) (by kernel_rfl) (by decide) rfl rfl (by decide) (fun w' => x_pick (v := .bool z137) (u' := undef) h.k rfl rfl (fun hh => absurd (hB13.symm.trans hh) (by decide)) (fun _ => by rw [← Option.some.inj hz138]; rfl)) (fun a h => ?_)
                  refine d_takeP h (fun _ => HS) HN 20 rfl (by kernel_rfl) (by kernel_rfl) (by kernel_rfl) (by decide) rfl rfl (by decide) (fun w' => x_move h.k _ rfl rfl) (fun a h => ?_)
                  refine d_split (t := 119) h rfl (fun hB20 => ?_) (fun hB20 => ?_)
                  · rw [if_pos hB20] at hz153
                    refine d_takeNP h (fun _ => HS) HN 21 rfl (by kernel_rfl) (by kernel_rfl) (by kernel_rfl) (by decide) (by rw [g_want h rfl rfl rfl rfl hB20]; rfl) rfl (by decide) (fun a h => ?_)
                    refine d_takeNP h (fun _ => HS) HN 22 rfl (by kernel_rfl) (by kernel_rfl) (by kernel_rfl) (by decide) (by rw [g_want h rfl rfl rfl rfl hB20]; rfl) rfl (by decide) (fun a h => ?_)
                    refine d_takeNP h (fun _ => HS) HN 23 rfl (by kernel_rfl) (by kernel_rfl) (by kernel_rfl) (by decide) (by rw [g_want h rfl rfl rfl rfl hB20]; rfl) rfl (by decide) (fun a h => ?_)
                    refine d_takeNP h (fun _ => HS) HN 24 rfl (by kernel_rfl) (by kernel_rfl) (by kernel_rfl) (by decide) (by rw [g_want h rfl rfl rfl rfl hB20]; rfl) rfl (by decide) (fun a h => ?_)
                    refine d_takeNP h (fun _ => HS) HN 25 rfl (by kernel_rfl) (by kernel_rfl) (by kernel_rfl) (by decide) (by rw [g_want h rfl rfl rfl rfl hB20]; rfl) rfl (by decide) (fun a h => ?_)
                    refine d_takeNP h (fun _ => HS) HN 26 rfl (by kernel_rfl) (by kernel_rfl) (by kernel_rfl) (by decide) (by rw [g_want h rfl rfl rfl rfl hB20]; rfl) rfl (by decide) (fun a h => ?_)
                    refine d_takeNP h (fun _ => HS) HN 27 rfl (by kernel_rfl) (by kernel_rfl) (by kernel_rfl) (by decide) (by rw [g_want h rfl rfl rfl rfl hB20]; rfl) rfl (by decide) (fun a h => ?_)
                    refine d_takeP h (fun _ => HS) HN 28 rfl (by kernel_rfl) (by kernel_rfl) (by kernel_rfl) (by decide) rfl rfl (by decide) (fun w' => x_pick (v := .bool z152) (u' := undef) h.k rfl rfl (fun _ => by rw [← Option.some.inj hz153]; rfl) (fun hh => absurd (hB20.symm.trans hh) (by decide))) (fun a h => ?_)
                    refine d_done (by kernel_rfl) (HE _ _ ?_) _
                    refine e_thenN ?_
                    have h := h.pick [0] (by decide) rfl
                    exact h.has (by exact ⟨rfl, rfl, rfl, rfl, trivial⟩)
                  · rw [if_neg (by rw [hB20]; decide)] at hz153
                    obtain ⟨x154, h155, hz153⟩ := bsome hz153
                    obtain ⟨m157, h158, hz153⟩ := bsome hz153
                    obtain ⟨x161, h162, hz153⟩ := bsome hz153
                    refine d_takeP h (fun _ => HS) HN 21 rfl (by kernel_rfl) (by kernel_rfl) (by kernel_rfl) (by decide) (by rw [g_want h rfl rfl rfl rfl hB20]; rfl) rfl (by decide) (fun w' => x_move h.k _ rfl rfl) (fun a h => ?_)
                    refine d_takeP h (fun _ => HS) HN 22 rfl (by kernel_rfl) (by kernel_rfl) (by kernel_rfl) (by decide) (by rw [g_want h rfl rfl rfl rfl hB20]; rfl) rfl (by decide) (fun w' => x_move h.k _ rfl rfl) (fun a h => ?_)
                    obtain ⟨hi159, hm160⟩ := ix_some h158
                    refine d_takeP h (fun _ => HS) HN 24 rfl (by kernel_rfl) (by kernel_rfl) (by kernel_rfl) (by decide) (by rw [g_want h rfl rfl rfl rfl hB20]; rfl) rfl (by decide) (fun w' => x_iaddrA h.k rfl Try.underlying53 sz_uint8 rfl rfl hi159 hm160 rfl) (fun a h => ?_)
                    obtain ⟨u163, hv164, hu165⟩ := ((hs1.mono (((((le24.trans le32).trans le40).trans le100).trans le108).trans le128))).cell rfl h162
                    cases hu165
                    refine d_takeY h HS HN 25 rfl (by kernel_rfl) (by kernel_rfl) (by kernel_rfl) (by kernel_rfl) (by kernel_rfl) (by rw [g_want h rfl rfl rfl rfl hB20]; rfl) rfl (by decide) (fun w' hw => x_ld h.k rfl Try.underlying5 rfl rfl ((hw.cell (i := 1) rfl _).trans (by rw [Nat.zero_add, Nat.mul_one]; exact hv164))) (fun a h => ?_)
                    refine d_takeP h (fun _ => HS) HN 26 rfl (by kernel_rfl) (by kernel_rfl) (by kernel_rfl) (by decide) (by rw [g_want h rfl rfl rfl rfl hB20]; rfl) rfl (by decide) (fun w' => x_bin h.k rfl rfl rfl ib_eql) (fun a h => ?_)
                    refine d_alone 23 rfl (by kernel_rfl) (fun K hK => ?_)
                    refine g_yes (j := 20) (t := 119) h rfl rfl rfl rfl hB20 ?_
                    have hX := chatelaineref01_Same_ok Fu (S0 := snapAll _) A41 c42 x35.1 ((hs43.mono ((le100.trans le108).trans le128)).mono (h.m.leAll (i := 0) rfl)) A109 c110 x103.1 ((hs111.mono le128).mono (h.m.leAll (i := 0) rfl)) _ h155 _ h.startAll
                    refine q_callX hX h rfl rfl rfl (by decide) Try.func25 rfl rfl rfl (fun a w v L1 S1 hR hb1 h => ?_)
                    obtain ⟨rfl, rfl, _⟩ := hR
                    refine hK _ _ (fun _ _ => HS.ext hb1) ?_
                    replace HS := HS.ext hb1
                    clear hK
                    refine d_takeP h (fun _ => HS) HN 27 rfl (by kernel_rfl) (by kernel_rfl) (by kernel_rfl) (by decide) (by rw [g_want h rfl rfl rfl rfl hB20]; rfl) rfl (by decide) (fun w' => x_neqB h.k rfl Try.underlying4 rfl rfl) (fun a h => ?_)
                    refine d_takeP h (fun _ => HS) HN 28 rfl (by kernel_rfl) (by kernel_rfl) (by kernel_rfl) (by decide) rfl rfl (by decide) (fun w' => x_pick (v := .bool z152) (u' := undef) h.k rfl rfl (fun hh => absurd (hB20.symm.trans hh) (by decide)) (fun _ => by rw [← Option.some.inj hz153]; rfl)) (fun a h => ?_)
                    refine d_done (by kernel_rfl) (HE _ _ ?_) _
                    refine e_thenN ?_
                    have h := h.pick [0] (by decide) rfl
                    exact h.has (by exact ⟨rfl, rfl, rfl, rfl, trivial⟩)
              · refine d_takeP h (fun _ => HS) HN 7 rfl (by kernel_rfl) (by kernel_rfl) (by kernel_rfl) (by decide) (by rw [g_want h rfl rfl rfl rfl hB6]; rfl) rfl (by decide) (fun w' => x_move h.k _ rfl rfl) (fun a h => ?_)
                refine d_takeP h (fun _ => HS) HN 8 rfl (by kernel_rfl) (by kernel_rfl) (by kernel_rfl) (by decide) (by rw [g_want h rfl rfl rfl rfl hB6]; rfl) rfl (by decide) (fun w' => x_len h.k rfl Try.underlying22 rfl) (fun a h => ?_)
                refine d_takeP h (fun _ => HS) HN 9 rfl (by kernel_rfl) (by kernel_rfl) (by kernel_rfl) (by decide) (by rw [g_want h rfl rfl rfl rfl hB6]; rfl) rfl (by decide) (fun w' => x_move h.k _ rfl rfl) (fun a h => ?_)
                refine d_takeP h (fun _ => HS) HN 10 rfl (by kernel_rfl) (by kernel_rfl) (by kernel_rfl) (by decide) (by rw [g_want h rfl rfl rfl rfl hB6]; rfl) rfl (by decide) (fun w' => x_len h.k rfl Try.underlying22 rfl) (fun a h => ?_)
                refine d_takeP h (fun _ => HS) HN 11 rfl (by kernel_rfl) (by kernel_rfl) (by kernel_rfl) (by decide) (by rw [g_want h rfl rfl rfl rfl hB6]; rfl) rfl (by decide) (fun w' => x_bin h.k rfl rfl rfl ib_neq) (fun a h => ?_)
                refine d_takeP h (fun _ => HS) HN 12 rfl (by kernel_rfl) (by kernel_rfl) (by kernel_rfl) (by decide) rfl rfl (by decide) (fun w' => x_pick (v := .bool (((decide (x103.2 ≠ 0)) || (decide (x123.2 ≠ 0))) || (decide ((x103.1.length : Int) ≠ (a1.length : Int))))) (u' := undef) h.k rfl rfl (fun hh => absurd (hB6.symm.trans hh) (by decide)) (fun _ => by rw [hB6]; first | rfl | simp [ev, List.lookup])) (fun a h => ?_)
                refine d_takeP h (fun _ => HS) HN 13 rfl (by kernel_rfl) (by kernel_rfl) (by kernel_rfl) (by decide) rfl rfl (by decide) (fun w' => x_move h.k _ rfl rfl) (fun a h => ?_)
                refine d_split (t := 112) h rfl (fun hB13 => ?_) (fun hB13 => ?_)
                · rw [if_pos hB13] at hz138
                  refine d_takeNP h (fun _ => HS) HN 14 rfl (by kernel_rfl) (by kernel_rfl) (by kernel_rfl) (by decide) (by rw [g_want h rfl rfl rfl rfl hB13]; rfl) rfl (by decide) (fun a h => ?_)
                  refine d_takeNP h (fun _ => HS) HN 15 rfl (by kernel_rfl) (by kernel_rfl) (by kernel_rfl) (by decide) (by rw [g_want h rfl rfl rfl rfl hB13]; rfl) rfl (by decide) (fun a h => ?_)
                  refine d_takeNP h (fun _ => HS) HN 16 rfl (by kernel_rfl) (by kernel_rfl) (by kernel_rfl) (by decide) (by rw [g_want h rfl rfl rfl rfl hB13]; rfl) rfl (by decide) (fun a h => ?_)
                  refine d_takeNP h (fun _ => HS) HN 17 rfl (by kernel_rfl) (by kernel_rfl) (by kernel_rfl) (by decide) (by rw [g_want h rfl rfl rfl rfl hB13]; rfl) rfl (by decide) (fun a h => ?_)
                  refine d_takeNP h (fun _ => HS) HN 18 rfl (by kernel_rfl) (by kernel_rfl) (by kernel_rfl) (by decide) (by rw [g_want h rfl rfl rfl rfl hB13]; rfl) rfl (by decide) (fun a h => ?_)
                  refine d_takeP h (fun _ => HS) HN 19 rfl (by kernel_rfl) (by kernel_rfl) (by kernel_rfl) (by decide) rfl rfl (by decide) (fun w' => x_pick (v := .bool z137) (u' := undef) h.k rfl rfl (fun _ => by rw [← Option.some.inj hz138]; rfl) (fun hh => absurd (hB13.symm.trans hh) (by decide))) (fun a h => ?_)
                  refine d_takeP h (fun _ => HS) HN 20 rfl (by kernel_rfl) (by kernel_rfl) (by kernel_rfl) (by decide) rfl rfl (by decide) (fun w' => x_move h.k _ rfl rfl) (fun a h => ?_)
                  refine d_split (t := 119) h rfl (fun hB20 => ?_) (fun hB20 => ?_)
                  · rw [if_pos hB20] at hz153
                    refine d_takeNP h (fun _ => HS) HN 21 rfl (by kernel_rfl) (by kernel_rfl) (by kernel_rfl) (by decide) (by rw [g_want h rfl rfl rfl rfl hB20]; rfl) rfl (by decide) (fun a h => ?_)
                    refine d_takeNP h (fun _ => HS) HN 22 rfl (by kernel_rfl) (by kernel_rfl) (by kernel_rfl) (by decide) (by rw [g_want h rfl rfl rfl rfl hB20]; rfl) rfl (by decide) (fun a h => ?_)
                    refine d_takeNP h (fun _ => HS) HN 23 rfl (by kernel_rfl) (by kernel_rfl) (by kernel_rfl) (by decide) (by rw [g_want h rfl rfl rfl rfl hB20]; rfl) rfl (by decide) (fun a h => ?_)
                    refine d_takeNP h (fun _ => HS) HN 24 rfl (by kernel_rfl) (by kernel_rfl) (by kernel_rfl) (by decide) (by rw [g_want h rfl rfl rfl rfl hB20]; rfl) rfl (by decide) (fun a h => ?_)
                    refine d_takeNP h (fun _ => HS) HN 25 rfl (by kernel_rfl) (by kernel_rfl) (by kernel_rfl) (by decide) (by rw [g_want h rfl rfl rfl rfl hB20]; rfl) rfl (by decide) (fun a h => ?_)
                    refine d_takeNP h (fun _ => HS) HN 26 rfl (by kernel_rfl) (by kernel_rfl) (by kernel_rfl) (by decide) (by rw [g_want h rfl rfl rfl rfl hB20]; rfl) rfl (by decide) (fun a h => ?_)
                    refine d_takeNP h (fun _ => HS) HN 27 rfl (by kernel_rfl) (by kernel_rfl) (by kernel_rfl) (by decide) (by rw [g_want h rfl rfl rfl rfl hB20]; rfl) rfl (by decide) (fun a h => ?_)
                    refine d_takeP h (fun _ => HS) HN 28 rfl (by kernel_rfl) (by kernel_rfl) (by kernel_rfl) (by decide) rfl rfl (by decide) (fun w' => x_pick (v := .bool z152) (u' := undef) h.k rfl rfl (fun _ => by rw [← Option.some.inj hz153]; rfl) (fun hh => absurd (hB20.symm.trans hh) (by decide))) (fun a h => ?_)
                    refine d_done (by kernel_rfl) (HE _ _ ?_) _
                    refine e_thenN ?_
                    have h := h.pick [0] (by decide) rfl
                    exact h.has (by exact ⟨rfl, rfl, rfl, rfl, trivial⟩)
                  · rw [if_neg (by rw [hB20]; decide)] at hz153
                    obtain ⟨x154, h155, hz153⟩ := bsome hz153
                    obtain ⟨m157, h158, hz153⟩ := bsome hz153
                    obtain ⟨x161, h162, hz153⟩ := bsome hz153
                    refine d_takeP h (fun _ => HS) HN 21 rfl (by kernel_rfl) (by kernel_rfl) (by kernel_rfl) (by decide) (by rw [g_want h rfl rfl rfl rfl hB20]; rfl) rfl (by decide) (fun w' => x_move h.k _ rfl rfl) (fun a h => ?_)
                    refine d_takeP h (fun _ => HS) HN 22 rfl (by kernel_rfl) (by kernel_rfl) (by kernel_rfl) (by decide) (by rw [g_want h rfl rfl rfl rfl hB20]; rfl) rfl (by decide) (fun w' => x_move h.k _ rfl rfl) (fun a h => ?_)
                    obtain ⟨hi159, hm160⟩ := ix_some h158
                    refine d_takeP h (fun _ => HS) HN 24 rfl (by kernel_rfl) (by kernel_rfl) (by kernel_rfl) (by decide) (by rw [g_want h rfl rfl rfl rfl hB20]; rfl) rfl (by decide) (fun w' => x_iaddrA h.k rfl Try.underlying53 sz_uint8 rfl rfl hi159 hm160 rfl) (fun a h => ?_)
                    obtain ⟨u163, hv164, hu165⟩ := ((hs1.mono (((((le24.trans le32).trans le40).trans le100).trans le108).trans le128))).cell rfl h162
                    cases hu165
                    refine d_takeY h HS HN 25 rfl (by kernel_rfl) (by kernel_rfl) (by kernel_rfl) (by kernel_rfl) (by kernel_rfl) (by rw [g_want h rfl rfl rfl rfl hB20]; rfl) rfl (by decide) (fun w' hw => x_ld h.k rfl Try.underlying5 rfl rfl ((hw.cell (i := 1) rfl _).trans (by rw [Nat.zero_add, Nat.mul_one]; exact hv164))) (fun a h => ?_)
                    refine d_takeP h (fun _ => HS) HN 26 rfl (by kernel_rfl) (by kernel_rfl) (by kernel_rfl) (by decide) (by rw [g_want h rfl rfl rfl rfl hB20]; rfl) rfl (by decide) (fun w' => x_bin h.k rfl rfl rfl ib_eql) (fun a h => ?_)
                    refine d_alone 23 rfl (by kernel_rfl) (fun K hK => ?_)
                    refine g_yes (j := 20) (t := 119) h rfl rfl rfl rfl hB20 ?_
                    have hX := chatelaineref01_Same_ok Fu (S0 := snapAll _) A41 c42 x35.1 ((hs43.mono ((le100.trans le108).trans le128)).mono (h.m.leAll (i := 0) rfl)) A109 c110 x103.1 ((hs111.mono le128).mono (h.m.leAll (i := 0) rfl)) _ h155 _ h.startAll
                    refine q_callX hX h rfl rfl rfl (by decide) Try.func25 rfl rfl rfl (fun a w v L1 S1 hR hb1 h => ?_)
                    obtain ⟨rfl, rfl, _⟩ := hR
                    refine hK _ _ (fun _ _ => HS.ext hb1) ?_
                    replace HS := HS.ext hb1
                    clear hK
                    refine d_takeP h (fun _ => HS) HN 27 rfl (by kernel_rfl) (by kernel_rfl) (by kernel_rfl) (by decide) (by rw [g_want h rfl rfl rfl rfl hB20]; rfl) rfl (by decide) (fun w' => x_neqB h.k rfl Try.underlying4 rfl rfl) (fun a h => ?_)
                    refine d_takeP h (fun _ => HS) HN 28 rfl (by kernel_rfl) (by kernel_rfl) (by kernel_rfl) (by decide) rfl rfl (by decide) (fun w' => x_pick (v := .bool z152) (u' := undef) h.k rfl rfl (fun hh => absurd (hB20.symm.trans hh) (by decide)) (fun _ => by rw [← Option.some.inj hz153]; rfl)) (fun a h => ?_)
                    refine d_done (by kernel_rfl) (HE _ _ ?_) _
                    refine e_thenN ?_
                    have h := h.pick [0] (by decide) rfl
                    exact h.has (by exact ⟨rfl, rfl, rfl, rfl, trivial⟩)
                · rw [if_neg (by rw [hB13]; decide)] at hz138
                  obtain ⟨x139, h140, hz138⟩ := bsome hz138
                  obtain ⟨x149, h150, hz138⟩ := bsome hz138
                  refine d_takeP h (fun _ => HS) HN 14 rfl (by kernel_rfl) (by kernel_rfl) (by kernel_rfl) (by decide) (by rw [g_want h rfl rfl rfl rfl hB13]; rfl) rfl (by decide) (fun w' => x_move h.k _ rfl rfl) (fun a h => ?_)
                  refine d_takeP h (fun _ => HS) HN 15 rfl (by kernel_rfl) (by kernel_rfl) (by kernel_rfl) (by decide) (by rw [g_want h rfl rfl rfl rfl hB13]; rfl) rfl (by decide) (fun w' => x_move h.k _ rfl rfl) (fun a h => ?_)
                  obtain ⟨m141, n142, hi143, hi144, hm145, hm146, hr147⟩ := sub_some h140
                  have hs148 := slS.sub ((hs43.mono ((le100.trans le108).trans le128))) hm145 hm146 (Nat.le_trans hm146 ((hs43.mono ((le100.trans le108).trans le128))).1) (Nat.le_refl _) hr147
                  refine d_takeP h (fun _ => HS) HN 16 rfl (by kernel_rfl) (by kernel_rfl) (by kernel_rfl) (by decide) (by rw [g_want h rfl rfl rfl rfl hB13]; rfl) rfl (by decide) (fun w' => x_sliceE h.k rfl Try.underlying22 sz_uint8 rfl c42 hr147 (bd_none (by omega)) (bd_some rfl hi144) (bd_none rfl) (by intro hh; cases hh) hm145 hm146 (Nat.le_trans hm146 ((hs43.mono ((le100.trans le108).trans le128))).1) (Nat.le_refl _)) (fun a h => ?_)
                  refine d_alone 17 rfl (by kernel_rfl) (fun K hK => ?_)
                  refine g_yes (j := 13) (t := 112) h rfl rfl rfl rfl hB13 ?_
                  have hX := chatelaineref01_Same_ok Fu (S0 := snapAll _) A129 c130 x123.1 (hs131.mono (h.m.leAll (i := 0) rfl)) (sA A41 c42 m141 1) (c42 - m141) x139 (hs148.mono (h.m.leAll (i := 0) rfl)) _ h150 _ h.startAll
                  refine q_callX hX h rfl rfl rfl (by decide) Try.func25 rfl rfl rfl (fun a w v L1 S1 hR hb1 h => ?_)
                  obtain ⟨rfl, rfl, _⟩ := hR
                  refine hK _ _ (fun _ _ => HS.ext hb1) ?_
                  replace HS := HS.ext hb1
                  clear hK
                  refine d_takeP h (fun _ => HS) HN 18 rfl (by kernel_rfl) (by kernel_rfl) (by kernel_rfl) (by decide) (by rw [g_want h rfl rfl rfl rfl hB13]; rfl) rfl (by decide) (fun w' => x_not h.k rfl rfl) (fun a h => ?_)
                  refine d_takeP h (fun _ => HS) HN 19 rfl (by kernel_rfl) (by kernel_rfl) (by kernel_rfl) (by decide) rfl rfl (by decide) (fun w' => x_pick (v := .bool z137) (u' := undef) h.k rfl rfl (fun hh => absurd (hB13.symm.trans hh) (by decide)) (fun _ => by rw [← Option.some.inj hz138]; rfl)) (fun a h => ?_)
                  refine d_takeP h (fun _ => HS) HN 20 rfl (by kernel_rfl) (by kernel_rfl) (by kernel_rfl) (by decide) rfl rfl (by decide) (fun w' => x_move h.k _ rfl rfl) (fun a h => ?_)
                  refine d_split (t := 119) h rfl (fun hB20 => ?_) (fun hB20 => ?_)
                  · rw [if_pos hB20] at hz153
                    refine d_takeNP h (fun _ => HS) HN 21 rfl (by kernel_rfl) (by kernel_rfl) (by kernel_rfl) (by decide) (by rw [g_want h rfl rfl rfl rfl hB20]; rfl) rfl (by decide) (fun a h => ?_)
                    refine d_takeNP h (fun _ => HS) HN 22 rfl (by kernel_rfl) (by kernel_rfl) (by kernel_rfl) (by decide) (by rw [g_want h rfl rfl rfl rfl hB20]; rfl) rfl (by decide) (fun a h => ?_)
                    refine d_takeNP h (fun _ => HS) HN 23 rfl (by kernel_rfl) (by kernel_rfl) (by kernel_rfl) (by decide) (by rw [g_want h rfl rfl rfl rfl hB20]; rfl) rfl (by decide) (fun a h => ?_)
                    refine d_takeNP h (fun _ => HS) HN 24 rfl (by kernel_rfl) (by kernel_rfl) (by kernel_rfl) (by decide) (by rw [g_want h rfl rfl rfl rfl hB20]; rfl) rfl (by decide) (fun a h => ?_)
                    refine d_takeNP h (fun _ => HS) HN 25 rfl (by kernel_rfl) (by kernel_rfl) (by kernel_rfl) (by decide) (by rw [g_want h rfl rfl rfl rfl hB20]; rfl) rfl (by decide) (fun a h => ?_)
                    refine d_takeNP h (fun _ => HS) HN 26 rfl (by kernel_rfl) (by kernel_rfl) (by kernel_rfl) (by decide) (by rw [g_want h rfl rfl rfl rfl hB20]; rfl) rfl (by decide) (fun a h => ?_)
                    refine d_takeNP h (fun _ => HS) HN 27 rfl (by kernel_rfl) (by kernel_rfl) (by kernel_rfl) (by decide) (by rw [g_want h rfl rfl rfl rfl hB20]; rfl) rfl (by decide) (fun a h => ?_)
                    refine d_takeP h (fun _ => HS) HN 28 rfl (by kernel_rfl) (by kernel_rfl) (by kernel_rfl) (by decide) rfl rfl (by decide) (fun w' => x_pick (v := .bool z152) (u' := undef) h.k rfl rfl (fun _ => by rw [← Option.some.inj hz153]; rfl) (fun hh => absurd (hB20.symm.trans hh) (by decide))) (fun a h => ?_)
                    refine d_done (by kernel_rfl) (HE _ _ ?_) _
                    refine e_thenN ?_
                    have h := h.pick [0] (by decide) rfl
                    exact h.has (by exact ⟨rfl, rfl, rfl, rfl, trivial⟩)
                  · rw [if_neg (by rw [hB20]; decide)] at hz153
                    obtain ⟨x154, h155, hz153⟩ := bsome hz153
                    obtain ⟨m157, h158, hz153⟩ := bsome hz153
                    obtain ⟨x161, h162, hz153⟩ := bsome hz153
                    refine d_takeP h (fun _ => HS) HN 21 rfl (by kernel_rfl) (by kernel_rfl) (by kernel_rfl) (by decide) (by rw [g_want h rfl rfl rfl rfl hB20]; rfl) rfl (by decide) (fun w' => x_move h.k _ rfl rfl) (fun a h => ?_)
                    refine d_takeP h (fun _ => HS) HN 22 rfl (by kernel_rfl) (by kernel_rfl) (by kernel_rfl) (by decide) (by rw [g_want h rfl rfl rfl rfl hB20]; rfl) rfl (by decide) (fun w' => x_move h.k _ rfl rfl) (fun a h => ?_)
                    obtain ⟨hi159, hm160⟩ := ix_some h158
                    refine d_takeP h (fun _ => HS) HN 24 rfl (by kernel_rfl) (by kernel_rfl) (by kernel_rfl) (by decide) (by rw [g_want h rfl rfl rfl rfl hB20]; rfl) rfl (by decide) (fun w' => x_iaddrA h.k rfl Try.underlying53 sz_uint8 rfl rfl hi159 hm160 rfl) (fun a h => ?_)
                    obtain ⟨u163, hv164, hu165⟩ := ((hs1.mono (((((le24.trans le32).trans le40).trans le100).trans le108).trans le128))).cell rfl h162
                    cases hu165
                    refine d_takeY h HS HN 25 rfl (by kernel_rfl) (by kernel_rfl) (by kernel_rfl) (by kernel_rfl) (by kernel_rfl) (by rw [g_want h rfl rfl rfl rfl hB20]; rfl) rfl (by decide) (fun w' hw => x_ld h.k rfl Try.underlying5 rfl rfl ((hw.cell (i := 1) rfl _).trans (by rw [Nat.zero_add, Nat.mul_one]; exact hv164))) (fun a h => ?_)
                    refine d_takeP h (fun _ => HS) HN 26 rfl (by kernel_rfl) (by kernel_rfl) (by kernel_rfl) (by decide) (by rw [g_want h rfl rfl rfl rfl hB20]; rfl) rfl (by decide) (fun w' => x_bin h.k rfl rfl rfl ib_eql) (fun a h => ?_)
                    refine d_alone 23 rfl (by kernel_rfl) (fun K hK => ?_)
                    refine g_yes (j := 20) (t := 119) h rfl rfl rfl rfl hB20 ?_
                    have hX := chatelaineref01_Same_ok Fu (S0 := snapAll _) A41 c42 x35.1 ((hs43.mono ((le100.trans le108).trans le128)).mono (h.m.leAll (i := 0) rfl)) A109 c110 x103.1 ((hs111.mono le128).mono (h.m.leAll (i := 0) rfl)) _ h155 _ h.startAll
                    refine q_callX hX h rfl rfl rfl (by decide) Try.func25 rfl rfl rfl (fun a w v L1 S1 hR hb1 h => ?_)
                    obtain ⟨rfl, rfl, _⟩ := hR
                    refine hK _ _ (fun _ _ => HS.ext hb1) ?_
                    replace HS := HS.ext hb1
                    clear hK
                    refine d_takeP h (fun _ => HS) HN 27 rfl (by kernel_rfl) (by kernel_rfl) (by kernel_rfl) (by decide) (by rw [g_want h rfl rfl rfl rfl hB20]; rfl) rfl (by decide) (fun w' => x_neqB h.k rfl Try.underlying4 rfl rfl) (fun a h => ?_)
                    refine d_takeP h (fun _ => HS) HN 28 rfl (by kernel_rfl) (by kernel_rfl) (by kernel_rfl) (by decide) rfl rfl (by decide) (fun w' => x_pick (v := .bool z152) (u' := undef) h.k rfl rfl (fun hh => absurd (hB20.symm.trans hh) (by decide)) (fun _ => by rw [← Option.some.inj hz153]; rfl)) (fun a h => ?_)
                    refine d_done (by kernel_rfl) (HE _ _ ?_) _
                    refine e_thenN ?_
                    have h := h.pick [0] (by decide) rfl
                    exact h.has (by exact ⟨rfl, rfl, rfl, rfl, trivial⟩)
          refine e_thenN ?_
          refine c_cond h rfl (fun hb => ?_) (fun hb => ?_)
          · rw [if_pos hb] at hf
            refine c_rs ?_ -- region 15
            refine s_assign h rfl _ rfl rfl (by decide) rfl (fun a h => ?_)
            refine l_end ?_
            refine wp_ret ?_
            refine e_thenR ?_
            rw [← Option.some.inj hf]
            exact r_ret1 h rfl (rv_tmp h rfl) ⟨_, [], _, rfl, ⟨rfl, rfl, trivial⟩, rfl, up127, h.m⟩
          · rw [if_neg (by rw [hb]; decide)] at hf
            refine wp_skip ?_
            refine e_thenN ?_
            refine c_rs ?_ -- region 16
            refine s_move h rfl _ rfl rfl (by decide) rfl (fun a h => ?_)
            refine s_x h rfl rfl (by decide) (x_bin h.k rfl rfl rfl (ib_quow (by decide))) (fun a h => ?_)
            refine s_x h rfl rfl (by decide) (x_bin h.k rfl rfl rfl (ib_mul rfl)) (fun a h => ?_)
            refine s_assign h rfl _ rfl rfl (by decide) rfl (fun a h => ?_)
            refine l_end ?_
            refine wp_seq ?_
            -- region 17 draws
            obtain ⟨x166, h167, hf⟩ := bsome hf
            obtain ⟨x176, h177, hf⟩ := bsome hf
            obtain ⟨x186, h187, hf⟩ := bsome hf
            obtain ⟨z189, hz190, hf⟩ := bsome hf
            refine c_fin (fun a w => St 149 w0 (ownL ([] ++ [.sn S0])) [(6, .bool z189)] [.sn S126] a w) ?_ (fun a w h => ?_)
            · refine d_start h (Mem _ _ _) 19 19 rfl (by kernel_rfl) (fun _ _ _ _ _ h => h) (fun _ h => h) (fun Q a w HE HN h HS => ?_)
              refine d_takeP h (fun _ => HS) HN 0 rfl (by kernel_rfl) (by kernel_rfl) (by kernel_rfl) (by decide) rfl rfl (by decide) (fun w' => x_move h.k _ rfl rfl) (fun a h => ?_)
              refine d_takeP h (fun _ => HS) HN 1 rfl (by kernel_rfl) (by kernel_rfl) (by kernel_rfl) (by decide) rfl rfl (by decide) (fun w' => x_move h.k _ rfl rfl) (fun a h => ?_)
              obtain ⟨m168, n169, hi170, hi171, hm172, hm173, hr174⟩ := sub_some h167
              have hs175 := slS.sub ((hs43.mono ((le100.trans le108).trans le128))) hm172 hm173 (Nat.le_trans hm173 ((hs43.mono ((le100.trans le108).trans le128))).1) (Nat.le_refl _) hr174
              refine d_takeP h (fun _ => HS) HN 2 rfl (by kernel_rfl) (by kernel_rfl) (by kernel_rfl) (by decide) rfl rfl (by decide) (fun w' => x_sliceE h.k rfl Try.underlying22 sz_uint8 rfl c42 hr174 (bd_none (by omega)) (bd_some rfl hi171) (bd_none rfl) (by intro hh; cases hh) hm172 hm173 (Nat.le_trans hm173 ((hs43.mono ((le100.trans le108).trans le128))).1) (Nat.le_refl _)) (fun a h => ?_)
              refine d_takeP h (fun _ => HS) HN 3 rfl (by kernel_rfl) (by kernel_rfl) (by kernel_rfl) (by decide) rfl rfl (by decide) (fun w' => x_move h.k _ rfl rfl) (fun a h => ?_)
              refine d_takeP h (fun _ => HS) HN 4 rfl (by kernel_rfl) (by kernel_rfl) (by kernel_rfl) (by decide) rfl rfl (by decide) (fun w' => x_move h.k _ rfl rfl) (fun a h => ?_)
              obtain ⟨m178, n179, hi180, hi181, hm182, hm183, hr184⟩ := sub_some h177
              have hs185 := slS.sub ((hs111.mono le128)) hm182 hm183 (Nat.le_trans hm183 ((hs111.mono le128)).1) (Nat.le_refl _) hr184
              refine d_takeP h (fun _ => HS) HN 5 rfl (by kernel_rfl) (by kernel_rfl) (by kernel_rfl) (by decide) rfl rfl (by decide) (fun w' => x_sliceE h.k rfl Try.underlying22 sz_uint8 rfl c110 hr184 (bd_none (by omega)) (bd_some rfl hi181) (bd_none rfl) (by intro hh; cases hh) hm182 hm183 (Nat.le_trans hm183 ((hs111.mono le128)).1) (Nat.le_refl _)) (fun a h => ?_)
              refine d_alone 6 rfl (by kernel_rfl) (fun K hK => ?_)
              have hX := chatelaineref01_Same_ok Fu (S0 := snapAll _) (sA A41 c42 m168 1) (c42 - m168) x166 (hs175.mono (h.m.leAll (i := 0) rfl)) (sA A109 c110 m178 1) (c110 - m178) x176 (hs185.mono (h.m.leAll (i := 0) rfl)) _ h187 _ h.startAll
              refine q_callX hX h rfl rfl rfl (by decide) Try.func25 rfl rfl rfl (fun a w v L1 S1 hR hb1 h => ?_)
              obtain ⟨rfl, rfl, _⟩ := hR
              refine hK _ _ (fun _ _ => HS.ext hb1) ?_
              replace HS := HS.ext hb1
              clear hK
              refine d_takeP h (fun _ => HS) HN 7 rfl (by kernel_rfl) (by kernel_rfl) (by kernel_rfl) (by decide) rfl rfl (by decide) (fun w' => x_move h.k _ rfl rfl) (fun a h => ?_)
              refine d_split (t := 138) h rfl (fun hB7 => ?_) (fun hB7 => ?_)
              · rw [if_pos hB7] at hz190
                obtain ⟨x191, h192, hz190⟩ := bsome hz190
                obtain ⟨x201, h202, hz190⟩ := bsome hz190
                obtain ⟨x211, h212, hz190⟩ := bsome hz190
                refine d_takeP h (fun _ => HS) HN 8 rfl (by kernel_rfl) (by kernel_rfl) (by kernel_rfl) (by decide) (by rw [g_want h rfl rfl rfl rfl hB7]; rfl) rfl (by decide) (fun w' => x_move h.k _ rfl rfl) (fun a h => ?_)
                refine d_takeP h (fun _ => HS) HN 9 rfl (by kernel_rfl) (by kernel_rfl) (by kernel_rfl) (by decide) (by rw [g_want h rfl rfl rfl rfl hB7]; rfl) rfl (by decide) (fun w' => x_move h.k _ rfl rfl) (fun a h => ?_)
                refine d_takeP h (fun _ => HS) HN 10 rfl (by kernel_rfl) (by kernel_rfl) (by kernel_rfl) (by decide) (by rw [g_want h rfl rfl rfl rfl hB7]; rfl) rfl (by decide) (fun w' => x_bin h.k rfl rfl rfl (ib_add rfl)) (fun a h => ?_)
                obtain ⟨m193, n194, hi195, hi196, hm197, hm198, hr199⟩ := sub_some h192
                have hs200 := slS.sub ((hs43.mono ((le100.trans le108).trans le128))) hm197 hm198 (Nat.le_trans hm198 ((hs43.mono ((le100.trans le108).trans le128))).1) (Nat.le_refl _) hr199
                refine d_takeP h (fun _ => HS) HN 11 rfl (by kernel_rfl) (by kernel_rfl) (by kernel_rfl) (by decide) (by rw [g_want h rfl rfl rfl rfl hB7]; rfl) rfl (by decide) (fun w' => x_sliceE h.k rfl Try.underlying22 sz_uint8 rfl c42 hr199 (bd_some rfl hi195) (bd_none (by omega)) (bd_none rfl) (by intro _; rfl) hm197 hm198 (Nat.le_trans hm198 ((hs43.mono ((le100.trans le108).trans le128))).1) (Nat.le_refl _)) (fun a h => ?_)
                refine d_takeP h (fun _ => HS) HN 12 rfl (by kernel_rfl) (by kernel_rfl) (by kernel_rfl) (by decide) (by rw [g_want h rfl rfl rfl rfl hB7]; rfl) rfl (by decide) (fun w' => x_move h.k _ rfl rfl) (fun a h => ?_)
                refine d_takeP h (fun _ => HS) HN 13 rfl (by kernel_rfl) (by kernel_rfl) (by kernel_rfl) (by decide) (by rw [g_want h rfl rfl rfl rfl hB7]; rfl) rfl (by decide) (fun w' => x_move h.k _ rfl rfl) (fun a h => ?_)
                refine d_takeP h (fun _ => HS) HN 14 rfl (by kernel_rfl) (by kernel_rfl) (by kernel_rfl) (by decide) (by rw [g_want h rfl rfl rfl rfl hB7]; rfl) rfl (by decide) (fun w' => x_bin h.k rfl rfl rfl (ib_add rfl)) (fun a h => ?_)
                obtain ⟨m203, n204, hi205, hi206, hm207, hm208, hr209⟩ := sub_some h202
                have hs210 := slS.sub ((hs111.mono le128)) hm207 hm208 (Nat.le_trans hm208 ((hs111.mono le128)).1) (Nat.le_refl _) hr209
                refine d_takeP h (fun _ => HS) HN 15 rfl (by kernel_rfl) (by kernel_rfl) (by kernel_rfl) (by decide) (by rw [g_want h rfl rfl rfl rfl hB7]; rfl) rfl (by decide) (fun w' => x_sliceE h.k rfl Try.underlying22 sz_uint8 rfl c110 hr209 (bd_some rfl hi205) (bd_none (by omega)) (bd_none rfl) (by intro _; rfl) hm207 hm208 (Nat.le_trans hm208 ((hs111.mono le128)).1) (Nat.le_refl _)) (fun a h => ?_)
                refine d_alone 16 rfl (by kernel_rfl) (fun K hK => ?_)
                refine g_yes (j := 7) (t := 138) h rfl rfl rfl rfl hB7 ?_
                have hX := chatelaineref01_Same_ok Fu (S0 := snapAll _) (sA A41 c42 m193 1) (c42 - m193) x191 (hs200.mono (h.m.leAll (i := 0) rfl)) (sA A109 c110 m203 1) (c110 - m203) x201 (hs210.mono (h.m.leAll (i := 0) rfl)) _ h212 _ h.startAll
                refine q_callX hX h rfl rfl rfl (by decide) Try.func25 rfl rfl rfl (fun a w v L1 S1 hR hb1 h => ?_)
                obtain ⟨rfl, rfl, _⟩ := hR
                refine hK _ _ (fun _ _ => HS.ext hb1) ?_
                replace HS := HS.ext hb1
                clear hK
                refine d_takeP h (fun _ => HS) HN 17 rfl (by kernel_rfl) (by kernel_rfl) (by kernel_rfl) (by decide) rfl rfl (by decide) (fun w' => x_pick (v := .bool z189) (u' := undef) h.k rfl rfl (fun _ => by rw [← Option.some.inj hz190]; rfl) (fun hh => absurd (hB7.symm.trans hh) (by decide))) (fun a h => ?_)
                refine d_takeP h (fun _ => HS) HN 18 rfl (by kernel_rfl) (by kernel_rfl) (by kernel_rfl) (by decide) rfl rfl (by decide) (fun w' => x_assign h.k _ rfl rfl) (fun a h => ?_)
                refine d_done (by kernel_rfl) (HE _ _ ?_) _
                refine e_thenN ?_
                exact h.has (by exact ⟨rfl, trivial⟩)
              · rw [if_neg (by rw [hB7]; decide)] at hz190
                refine d_takeNP h (fun _ => HS) HN 8 rfl (by kernel_rfl) (by kernel_rfl) (by kernel_rfl) (by decide) (by rw [g_want h rfl rfl rfl rfl hB7]; rfl) rfl (by decide) (fun a h => ?_)
                refine d_takeNP h (fun _ => HS) HN 9 rfl (by kernel_rfl) (by kernel_rfl) (by kernel_rfl) (by decide) (by rw [g_want h rfl rfl rfl rfl hB7]; rfl) rfl (by decide) (fun a h => ?_)
                refine d_takeNP h (fun _ => HS) HN 10 rfl (by kernel_rfl) (by kernel_rfl) (by kernel_rfl) (by decide) (by rw [g_want h rfl rfl rfl rfl hB7]; rfl) rfl (by decide) (fun a h => ?_)
                refine d_takeNP h (fun _ => HS) HN 11 rfl (by kernel_rfl) (by kernel_rfl) (by kernel_rfl) (by decide) (by rw [g_want h rfl rfl rfl rfl hB7]; rfl) rfl (by decide) (fun a h => ?_)
                refine d_takeNP h (fun _ => HS) HN 12 rfl (by kernel_rfl) (by kernel_rfl) (by kernel_rfl) (by decide) (by rw [g_want h rfl rfl rfl rfl hB7]; rfl) rfl (by decide) (fun a h => ?_)
                refine d_takeNP h (fun _ => HS) HN 13 rfl (by kernel_rfl) (by kernel_rfl) (by kernel_rfl) (by decide) (by rw [g_want h rfl rfl rfl rfl hB7]; rfl) rfl (by decide) (fun a h => ?_)
                refine d_takeNP h (fun _ => HS) HN 14 rfl (by kernel_rfl) (by kernel_rfl) (by kernel_rfl) (by decide) (by rw [g_want h rfl rfl rfl rfl hB7]; rfl) rfl (by decide) (fun a h => ?_)
                refine d_takeNP h (fun _ => HS) HN 15 rfl (by kernel_rfl) (by kernel_rfl) (by kernel_rfl) (by decide) (by rw [g_want h rfl rfl rfl rfl hB7]; rfl) rfl (by decide) (fun a h => ?_)
                refine d_takeNP h (fun _ => HS) HN 16 rfl (by kernel_rfl) (by kernel_rfl) (by kernel_rfl) (by decide) (by rw [g_want h rfl rfl rfl rfl hB7]; rfl) rfl (by decide) (fun a h => ?_)
                refine d_takeP h (fun _ => HS) HN 17 rfl (by kernel_rfl) (by kernel_rfl) (by kernel_rfl) (by decide) rfl rfl (by decide) (fun w' => x_pick (v := .bool z189) (u' := undef) h.k rfl rfl (fun hh => absurd (hB7.symm.trans hh) (by decide)) (fun _ => by rw [← Option.some.inj hz190]; rfl)) (fun a h => ?_)
                refine d_takeP h (fun _ => HS) HN 18 rfl (by kernel_rfl) (by kernel_rfl) (by kernel_rfl) (by decide) rfl rfl (by decide) (fun w' => x_assign h.k _ rfl rfl) (fun a h => ?_)
                refine d_done (by kernel_rfl) (HE _ _ ?_) _
                refine e_thenN ?_
                exact h.has (by exact ⟨rfl, trivial⟩)
            refine e_thenN ?_
            refine wp_ret ?_
            rw [← Option.some.inj hf]
            exact r_ret1 h rfl (rv_tmp h rfl) ⟨_, [], _, rfl, ⟨rfl, rfl, trivial⟩, rfl, up127, h.m⟩
      · obtain ⟨x214, rfl, hR⟩ := hR
        dsimp only at hf
        obtain ⟨g215, rfl, rfl, hp216, hr217, _⟩ := hR
        refine s_move h rfl _ rfl rfl (by decide) rfl (fun a h => ?_)
        refine s_x h rfl rfl (by decide) (x_ext h.k rfl rfl rfl) (fun a h => ?_)
        refine s_x h rfl rfl (by decide) (x_ext h.k rfl rfl rfl) (fun a h => ?_)
        refine s_assign h rfl _ rfl rfl (by decide) rfl (fun a h => ?_)
        refine s_assign h rfl _ rfl rfl (by decide) rfl (fun a h => ?_)
        refine l_end ?_
        refine c_rs ?_ -- region 6
        refine s_move h rfl _ rfl rfl (by decide) rfl (fun a h => ?_)
        refine s_move h rfl _ rfl rfl (by decide) rfl (fun a h => ?_)
        refine s_move h rfl _ rfl rfl (by decide) rfl (fun a h => ?_)
        obtain ⟨x218, h219, hf⟩ := bsome hf
        have hX := xts_Sector_Encrypt_ok Fu (S0 := S30) g215 x214.1 hp216 a0 hra0 Aa1 ca1 a1 (hsa1.mono (le24.trans le32)) _ h219 _ (h.sub (Ls := []))
        refine q_callY (Ls := []) hX h up31 rfl rfl rfl (by decide) Try.func31 rfl rfl rfl (fun a w v L1 S221 hR le223 up222 h => ?_)
        obtain ⟨A224, c225, rfl, rfl, hs226, hr227, _⟩ := hR
        refine s_move h rfl _ rfl rfl (by decide) rfl (fun a h => ?_)
        refine s_x h rfl rfl (by decide) (x_ext h.k rfl rfl rfl) (fun a h => ?_)
        refine s_x h rfl rfl (by decide) (x_ext h.k rfl rfl rfl) (fun a h => ?_)
        refine s_assign h rfl _ rfl rfl (by decide) rfl (fun a h => ?_)
        refine s_assign h rfl _ rfl rfl (by decide) rfl (fun a h => ?_)
        refine l_end ?_
        refine wp_seq ?_
        refine c_rs ?_ -- region 7
        refine s_move h rfl _ rfl rfl (by decide) rfl (fun a h => ?_)
        refine s_x h rfl rfl (by decide) (x_bin h.k rfl rfl rfl ib_neq) (fun a h => ?_)
        refine s_move h rfl _ rfl rfl (by decide) rfl (fun a h => ?_)
        refine q_grp h 3 (t := 56) 59 ((decide (x214.2 ≠ 0)) || (decide (x218.2 ≠ 0))) rfl (fun hB2 => ?_) (fun hB2 => ?_) (fun a w h => ?_)
        · refine g_no h rfl rfl rfl rfl hB2 rfl (by decide) (fun a h => ?_)
          refine g_no h rfl rfl rfl rfl hB2 rfl (by decide) (fun a h => ?_)
          refine s_x h rfl rfl (by decide) (x_pick (u' := undef) h.k rfl rfl (fun _ => rfl) (fun hh => absurd (hB2.symm.trans hh) (by decide))) (fun a h => ?_)
          exact (h.mid 2 rfl).val (by first | rfl | (rw [hB2]; first | rfl | simp))
        · refine g_yes h rfl rfl rfl rfl hB2 ?_
          refine s_move h rfl _ rfl rfl (by decide) rfl (fun a h => ?_)
          refine g_yes h rfl rfl rfl rfl hB2 ?_
          refine s_x h rfl rfl (by decide) (x_bin h.k rfl rfl rfl ib_neq) (fun a h => ?_)
          refine s_x h rfl rfl (by decide) (x_pick (u' := undef) h.k rfl rfl (fun hh => absurd (hB2.symm.trans hh) (by decide)) (fun _ => rfl)) (fun a h => ?_)
          exact (h.mid 2 rfl).val (by first | rfl | (rw [hB2]; first | rfl | simp))
        refine s_move h rfl _ rfl rfl (by decide) rfl (fun a h => ?_)
        refine q_grp h 6 (t := 60) 66 (((decide (x214.2 ≠ 0)) || (decide (x218.2 ≠ 0))) || (decide ((x218.1.length : Int) ≠ (a1.length : Int)))) rfl (fun hB6 => ?_) (fun hB6 => ?_) (fun a w h => ?_)
        · refine g_no h rfl rfl rfl rfl hB6 rfl (by decide) (fun a h => ?_)
          refine g_no h rfl rfl rfl rfl hB6 rfl (by decide) (fun a h => ?_)
          refine g_no h rfl rfl rfl rfl hB6 rfl (by decide) (fun a h => ?_)
          refine g_no h rfl rfl rfl rfl hB6 rfl (by decide) (fun a h => ?_)
          refine g_no h rfl rfl rfl rfl hB6 rfl (by decide) (fun a h => ?_)
          refine s_x h rfl rfl (by decide) (x_pick (u' := undef) h.k rfl rfl (fun _ => rfl) (fun hh => absurd (hB6.symm.trans hh) (by decide))) (fun a h => ?_)
          exact (h.mid 5 rfl).val (by first | rfl | (rw [hB6]; first | rfl | simp))
        · refine g_yes h rfl rfl rfl rfl hB6 ?_
          refine s_move h rfl _ rfl rfl (by decide) rfl (fun a h => ?_)
          refine g_yes h rfl rfl rfl rfl hB6 ?_
          refine s_x h rfl rfl (by decide) (x_len h.k rfl Try.underlying22 rfl) (fun a h => ?_)
          refine g_yes h rfl rfl rfl rfl hB6 ?_
          refine s_move h rfl _ rfl rfl (by decide) rfl (fun a h => ?_)
          refine g_yes h rfl rfl rfl rfl hB6 ?_
          refine s_x h rfl rfl (by decide) (x_len h.k rfl Try.underlying22 rfl) (fun a h => ?_)
          refine g_yes h rfl rfl rfl rfl hB6 ?_
          refine s_x h rfl rfl (by decide) (x_bin h.k rfl rfl rfl ib_neq) (fun a h => ?_)
          refine s_x h rfl rfl (by decide) (x_pick (u' := undef) h.k rfl rfl (fun hh => absurd (hB6.symm.trans hh) (by decide)) (fun _ => rfl)) (fun a h => ?_)
          exact (h.mid 5 rfl).val (by first | rfl | (rw [hB6]; first | rfl | simp))
        refine l_end ?_
        refine c_cond h rfl (fun hb => ?_) (fun hb => ?_)
        · rw [if_pos hb] at hf
          refine c_rs ?_ -- region 8
          refine s_assign h rfl _ rfl rfl (by decide) rfl (fun a h => ?_)
          refine l_end ?_
          refine wp_ret ?_
          refine e_thenR ?_
          rw [← Option.some.inj hf]
          exact r_ret1 h rfl (rv_tmp h rfl) ⟨_, [], _, rfl, ⟨rfl, rfl, trivial⟩, rfl, up222, (h.m.pick [0] _ (by decide) rfl)⟩
        · rw [if_neg (by rw [hb]; decide)] at hf
          refine wp_skip ?_
          refine e_thenN ?_
          refine c_rs ?_ -- region 9
          obtain ⟨m232, h233, hf⟩ := bsome hf
          obtain ⟨hi234, hm235⟩ := ix_some h233
          refine s_x h rfl rfl (by decide) (x_iaddrA h.k rfl Try.underlying53 sz_uint8 rfl rfl hi234 hm235 rfl) (fun a h => ?_)
          obtain ⟨x236, h237, hf⟩ := bsome hf
          obtain ⟨u238, hv239, hu240⟩ := ((hs1.mono ((le24.trans le32).trans le223))).cell rfl h237
          cases hu240
          refine s_x h rfl rfl (by decide) (x_ld h.k rfl Try.underlying5 rfl rfl ((h.m.cell (i := 1) rfl _).trans (by rw [Nat.zero_add, Nat.mul_one]; exact hv239))) (fun a h => ?_)
          refine s_x h rfl rfl (by decide) (x_convE h.k rfl Try.underlying5 Try.underlying3 rfl (nw64 (u8_r _))) (fun a h => ?_)
          refine s_move h rfl _ rfl rfl (by decide) rfl (fun a h => ?_)
          refine s_x h rfl rfl (by decide) (x_len h.k rfl Try.underlying22 rfl) (fun a h => ?_)
          obtain ⟨x241, h242, hf⟩ := bsome hf
          refine s_x h rfl rfl (by decide) (x_bin h.k rfl rfl rfl (ib_rem_ h242)) (fun a h => ?_)
          refine s_assign h rfl _ rfl rfl (by decide) rfl (fun a h => ?_)
          refine l_end ?_
          refine c_rs ?_ -- region 10
          refine q_bslice0 h rfl rfl rfl (by decide) Try.underlying22 sz_uint8 (fun a w A243 h => ?_)
          refine s_move h rfl _ rfl rfl (by decide) rfl (fun a h => ?_)
          obtain ⟨x244, h245, hf⟩ := bsome hf
          obtain ⟨_, _, vs246, hrd247, hrp248⟩ := id (hsa1.mono ((le24.trans le32).trans le223))
          refine q_append (T := ty8) (S := S221) h rfl rfl rfl (by decide) Try.underlying22 zb_uint8 rfl (by decide) rfl 0 rfl (show reps ty8 S221 [] [] from rfl) rfl hrp248 (hrd247 _ (h.m.snOK (i := 1) rfl)) h245 (fun a w A249 c250 cs251 hq252 h => ?_)
          refine s_assign h rfl _ rfl rfl (by decide) rfl (fun a h => ?_)
          refine l_end ?_
          refine wp_seq ?_
          -- region 11 draws
          obtain ⟨m253, h254, hf⟩ := bsome hf
          obtain ⟨x259, h260, hf⟩ := bsome hf
          obtain ⟨m264, h265, hf⟩ := bsome hf
          obtain ⟨x268, h269, hf⟩ := bsome hf
          obtain ⟨m273, h274, hf⟩ := bsome hf
          refine d_start h (Mem _ _ _) 8 9 rfl (by kernel_rfl) (fun _ _ _ _ _ h => h) (fun _ h => h) (fun Q a w HE HN h HS => ?_)
          refine d_takeP h (fun _ => HS) HN 0 rfl (by kernel_rfl) (by kernel_rfl) (by kernel_rfl) (by decide) rfl rfl (by decide) (fun w' => x_move h.k _ rfl rfl) (fun a h => ?_)
          refine d_takeP h (fun _ => HS) HN 1 rfl (by kernel_rfl) (by kernel_rfl) (by kernel_rfl) (by decide) rfl rfl (by decide) (fun w' => x_move h.k _ rfl rfl) (fun a h => ?_)
          obtain ⟨hi255, hm256⟩ := ix_some h254
          obtain ⟨g258, hA257⟩ := h.m.rowHead (i := 0) rfl (Nat.lt_of_le_of_lt (Nat.zero_le _) hm256)
          refine d_takeP h (fun _ => HS) HN 2 rfl (by kernel_rfl) (by kernel_rfl) (by kernel_rfl) (by decide) rfl rfl (by decide) (fun w' => x_iaddrE h.k rfl Try.underlying22 sz_uint8 hA257 rfl rfl hi255 hm256) (fun a h => ?_)
          obtain ⟨u261, hv262, hu263⟩ := (hq252).cell rfl h260
          cases hu263
          refine d_take h HS HN 3 rfl (by kernel_rfl) (by kernel_rfl) (by kernel_rfl) (by kernel_rfl) (by kernel_rfl) rfl rfl (by decide) (fun w' hw => x_ld h.k rfl Try.underlying5 rfl rfl (hw.cellRowE (i := 0) rfl hA257 _ (by rw [Nat.mul_one]; exact hv262))) (fun a h => ?_)
          obtain ⟨hi266, hm267⟩ := ix_some h265
          refine d_takeP h (fun _ => HS) HN 4 rfl (by kernel_rfl) (by kernel_rfl) (by kernel_rfl) (by decide) rfl rfl (by decide) (fun w' => x_iaddrA h.k rfl Try.underlying53 sz_uint8 rfl rfl hi266 hm267 rfl) (fun a h => ?_)
          obtain ⟨u270, hv271, hu272⟩ := ((hs1.mono ((le24.trans le32).trans le223))).cell rfl h269
          cases hu272
          refine d_take h HS HN 5 rfl (by kernel_rfl) (by kernel_rfl) (by kernel_rfl) (by kernel_rfl) (by kernel_rfl) rfl rfl (by decide) (fun w' hw => x_ld h.k rfl Try.underlying5 rfl rfl ((hw.cell (i := 2) rfl _).trans (by rw [Nat.zero_add, Nat.mul_one]; exact hv271))) (fun a h => ?_)
          refine d_takeP h (fun _ => HS) HN 6 rfl (by kernel_rfl) (by kernel_rfl) (by kernel_rfl) (by decide) rfl rfl (by decide) (fun w' => x_bin h.k rfl rfl rfl (ib_xor (u8_xor_ x259 x268))) (fun a h => ?_)
          obtain ⟨hi275, hm276⟩ := ix_some h274
          obtain ⟨g278, hA277⟩ := h.m.rowHead (i := 0) rfl (Nat.lt_of_le_of_lt (Nat.zero_le _) hm276)
          refine d_takeP h (fun _ => HS) HN 7 rfl (by kernel_rfl) (by kernel_rfl) (by kernel_rfl) (by decide) rfl rfl (by decide) (fun w' => x_iaddrE h.k rfl Try.underlying22 sz_uint8 hA277 rfl rfl hi275 hm276) (fun a h => ?_)
          refine d_alone 8 rfl (by kernel_rfl) (fun K hK => ?_)
          refine q_setRow (T := ty8) (q := (x259 ^^^ x268)) h rfl rfl rfl sz_uint8 hA277 rfl rfl 0 rfl rfl hq252 rfl (by first | exact hm276 | simpa using hm276) (fun a w cs279 hq280 h => ?_)
          have hl281 : x244.length = (x244.set m273 (x259 ^^^ x268)).length := by simp only [List.length_set]
          rw [hl281] at h
          refine hK _ _ (fun hne _ => absurd rfl hne) ?_
          clear hK
          refine d_done (by kernel_rfl) (HE _ _ ?_) _
          refine e_thenN ?_
          refine c_rs ?_ -- region 12
          refine s_move h rfl _ rfl rfl (by decide) rfl (fun a h => ?_)
          refine s_move h rfl _ rfl rfl (by decide) rfl (fun a h => ?_)
          refine s_move h rfl _ rfl rfl (by decide) rfl (fun a h => ?_)
          obtain ⟨S282, le283, up284, hs285, h⟩ := q_freeze (T := ty8) h up222 hq280
          obtain ⟨x286, h287, hf⟩ := bsome hf
          have hX := xts_Sector_Encrypt_ok Fu (S0 := S282) g215 x214.1 (hp216.mono (le223.trans le283)) a0 hra0 A249 c250 (x244.set m273 (x259 ^^^ x268)) hs285 _ h287 _ (h.sub (Ls := []))
          refine q_callY (Ls := []) hX h up284 rfl rfl rfl (by decide) Try.func31 rfl rfl rfl (fun a w v L1 S289 hR le291 up290 h => ?_)
          obtain ⟨A292, c293, rfl, rfl, hs294, hr295, _⟩ := hR
          refine s_move h rfl _ rfl rfl (by decide) rfl (fun a h => ?_)
          refine s_x h rfl rfl (by decide) (x_ext h.k rfl rfl rfl) (fun a h => ?_)
          refine s_x h rfl rfl (by decide) (x_ext h.k rfl rfl rfl) (fun a h => ?_)
          refine s_assign h rfl _ rfl rfl (by decide) rfl (fun a h => ?_)
          refine s_assign h rfl _ rfl rfl (by decide) rfl (fun a h => ?_)
          refine l_end ?_
          refine c_rs ?_ -- region 13
          refine s_move h rfl _ rfl rfl (by decide) rfl (fun a h => ?_)
          refine s_move h rfl _ rfl rfl (by decide) rfl (fun a h => ?_)
          refine s_move h rfl _ rfl rfl (by decide) rfl (fun a h => ?_)
          obtain ⟨x296, h297, hf⟩ := bsome hf
          obtain ⟨m298, n299, hi300, hi301, hm302, hm303, hr304⟩ := sub_some h297
          have hs305 := slS.sub ((hsa1.mono ((((le24.trans le32).trans le223).trans le283).trans le291))) hm302 hm303 (Nat.le_trans hm303 ((hsa1.mono ((((le24.trans le32).trans le223).trans le283).trans le291))).1) (Nat.le_refl _) hr304
          refine s_x h rfl rfl (by decide) (x_sliceE h.k rfl Try.underlying22 sz_uint8 rfl ca1 hr304 (bd_none (by omega)) (bd_some rfl hi301) (bd_none rfl) (by intro hh; cases hh) hm302 hm303 (Nat.le_trans hm303 ((hsa1.mono ((((le24.trans le32).trans le223).trans le283).trans le291))).1) (Nat.le_refl _)) (fun a h => ?_)
          obtain ⟨x306, h307, hf⟩ := bsome hf
          have hX := xts_Sector_Encrypt_ok Fu (S0 := S289) g215 x214.1 (hp216.mono ((le223.trans le283).trans le291)) a0 hra0 (sA Aa1 ca1 m298 1) (ca1 - m298) x296 hs305 _ h307 _ (h.sub (Ls := []))
          refine q_callY (Ls := []) hX h up290 rfl rfl rfl (by decide) Try.func31 rfl rfl rfl (fun a w v L1 S309 hR le311 up310 h => ?_)
          obtain ⟨A312, c313, rfl, rfl, hs314, hr315, _⟩ := hR
          refine s_move h rfl _ rfl rfl (by decide) rfl (fun a h => ?_)
          refine s_x h rfl rfl (by decide) (x_ext h.k rfl rfl rfl) (fun a h => ?_)
          refine s_x h rfl rfl (by decide) (x_ext h.k rfl rfl rfl) (fun a h => ?_)
          refine s_assign h rfl _ rfl rfl (by decide) rfl (fun a h => ?_)
          refine s_assign h rfl _ rfl rfl (by decide) rfl (fun a h => ?_)
          refine l_end ?_
          refine wp_seq ?_
          refine wp_seq ?_
          -- region 14 draws
          obtain ⟨z320, hz321, hf⟩ := bsome hf
          obtain ⟨z335, hz336, hf⟩ := bsome hf
          refine c_fin (fun a w => St 149 w0 (ownL ([] ++ [.sn S0])) [(9, .slice A224 x218.1.length c225), (11, .int .i64 x241), (13, .slice A292 x286.1.length c293), (127, .bool z335)] [.sn S309] a w) ?_ (fun a w h => ?_)
          · refine d_start h (Mem _ _ _) 29 29 rfl (by kernel_rfl) (fun _ _ _ _ _ h => h) (fun _ h => h) (fun Q a w HE HN h HS => ?_)
            refine d_takeP h (fun _ => HS) HN 0 rfl (by kernel_rfl) (by kernel_rfl) (by kernel_rfl) (by decide) rfl rfl (by decide) (fun w' => x_move h.k _ rfl rfl) (fun a h => ?_)
            refine d_takeP h (fun _ => HS) HN 1 rfl (by kernel_rfl) (by kernel_rfl) (by kernel_rfl) (by decide) rfl rfl (by decide) (fun w' => x_bin h.k rfl rfl rfl ib_neq) (fun a h => ?_)
            refine d_takeP h (fun _ => HS) HN 2 rfl (by kernel_rfl) (by kernel_rfl) (by kernel_rfl) (by decide) rfl rfl (by decide) (fun w' => x_move h.k _ rfl rfl) (fun a h => ?_)
            refine d_split (t := 101) h rfl (fun hB2 => ?_) (fun hB2 => ?_)
            · refine d_takeNP h (fun _ => HS) HN 3 rfl (by kernel_rfl) (by kernel_rfl) (by kernel_rfl) (by decide) (by rw [g_want h rfl rfl rfl rfl hB2]; rfl) rfl (by decide) (fun a h => ?_)
              refine d_takeNP h (fun _ => HS) HN 4 rfl (by kernel_rfl) (by kernel_rfl) (by kernel_rfl) (by decide) (by rw [g_want h rfl rfl rfl rfl hB2]; rfl) rfl (by decide) (fun a h => ?_)
              refine d_takeP h (fun _ => HS) HN 5 rfl (by kernel_rfl) (by kernel_rfl) (by kernel_rfl) (by decide) rfl rfl (by decide) (fun w' => x_pick (v := .bool ((decide (x286.2 ≠ 0)) || (decide (x306.2 ≠ 0)))) (u' := undef) h.k rfl rfl (fun _ => by rw [hB2]; first | rfl | simp [ev, List.lookup]) (fun hh => absurd (hB2.symm.trans hh) (by decide))) (fun a h => ?_)
              refine d_takeP h (fun _ => HS) HN 6 rfl (by kernel_rfl) (by kernel_rfl) (by kernel_rfl) (by decide) rfl rfl (by decide) (fun w' => x_move h.k _ rfl rfl) (fun a h => ?_)
              refine d_split (t := 105) h rfl (fun hB6 => ?_) (fun hB6 => ?_)
              · refine d_takeNP h (fun _ => HS) HN 7 rfl (by kernel_rfl) (by kernel_rfl) (by kernel_rfl) (by decide) (by rw [g_want h rfl rfl rfl rfl hB6]; rfl) rfl (by decide) (fun a h => ?_)
                refine d_takeNP h (fun _ => HS) HN 8 rfl (by kernel_rfl) (by kernel_rfl) (by kernel_rfl) (by decide) (by rw [g_want h rfl rfl rfl rfl hB6]; rfl) rfl (by decide) (fun a h => ?_)
                refine d_takeNP h (fun _ => HS) HN 9 rfl (by kernel_rfl) (by kernel_rfl) (by kernel_rfl) (by decide) (by rw [g_want h rfl rfl rfl rfl hB6]; rfl) rfl (by decide) (fun a h => ?_)
                refine d_takeNP h (fun _ => HS) HN 10 rfl (by kernel_rfl) (by kernel_rfl) (by kernel_rfl) (by decide) (by rw [g_want h rfl rfl rfl rfl hB6]; rfl) rfl (by decide) (fun a h => ?_)
                refine d_takeNP h (fun _ => HS) HN 11 rfl (by kernel_rfl) (by kernel_rfl) (by kernel_rfl) (by decide) (by rw [g_want h rfl rfl rfl rfl hB6]; rfl) rfl (by decide) (fun a h => ?_)
                refine d_takeP h (fun _ => HS) HN 12 rfl (by kernel_rfl) (by kernel_rfl) (by kernel_rfl) (by decide) rfl rfl (by decide) (fun w' => x_pick (v := .bool (((decide (x286.2 ≠ 0)) || (decide (x306.2 ≠ 0))) || (decide ((x286.1.length : Int) ≠ (a1.length : Int))))) (u' := undef) h.k rfl rfl (fun _ => by rw [hB6]; first | rfl | simp [ev, List.lookup]) (fun hh => absurd (hB6.symm.trans hh) (by decide))) (fun a h => ?_)
                refine d_takeP h (fun _ => HS) HN 13 rfl (by kernel_rfl) (by kernel_rfl) (by kernel_rfl) (by decide) rfl rfl (by decide) (fun w' => x_move h.k _ rfl rfl) (fun a h => ?_)
                refine d_split (t := 112) h rfl (fun hB13 => ?_) (fun hB13 => ?_)
                · rw [if_pos hB13] at hz321
                  refine d_takeNP h (fun _ => HS) HN 14 rfl (by kernel_rfl) (by kernel_rfl) (by kernel_rfl) (by decide) (by rw [g_want h rfl rfl rfl rfl hB13]; rfl) rfl (by decide) (fun a h => ?_)
                  refine d_takeNP h (fun _ => HS) HN 15 rfl (by kernel_rfl) (by kernel_rfl) (by kernel_rfl) (by decide) (by rw [g_want h rfl rfl rfl rfl hB13]; rfl) rfl (by decide) (fun a h => ?_)
                  refine d_takeNP h (fun _ => HS) HN 16 rfl (by kernel_rfl) (by kernel_rfl) (by kernel_rfl) (by decide) (by rw [g_want h rfl rfl rfl rfl hB13]; rfl) rfl (by decide) (fun a h => ?_)
                  refine d_takeNP h (fun _ => HS) HN 17 rfl (by kernel_rfl) (by kernel_rfl) (by kernel_rfl) (by decide) (by rw [g_want h rfl rfl rfl rfl hB13]; rfl) rfl (by decide) (fun a h => ?_)
                  refine d_takeNP h (fun _ => HS) HN 18 rfl (by kernel_rfl) (by kernel_rfl) (by kernel_rfl) (by decide) (by rw [g_want h rfl rfl rfl rfl hB13]; rfl) rfl (by decide) (fun a h => ?_)
                  refine d_takeP h (fun _ => HS) HN 19 rfl (by kernel_rfl) (by kernel_rfl) (by kernel_rfl) (by decide) rfl rfl (by decide) (fun w' => x_pick (v := .bool z320) (u' := undef) h.k rfl rfl (fun _ => by rw [← Option.some.inj hz321]; rfl) (fun hh => absurd (hB13.symm.trans hh) (by decide))) (fun a h => ?_)
                  refine d_takeP h (fun _ => HS) HN 20 rfl (by kernel_rfl) (by kernel_rfl) (by kernel_rfl) (by decide) rfl rfl (by decide) (fun w' => x_move h.k _ rfl rfl) (fun a h => ?_)
                  refine d_split (t := 119) h rfl (fun hB20 => ?_) (fun hB20 => ?_)
                  · rw [if_pos hB20] at hz336
                    refine d_takeNP h (fun _ => HS) HN 21 rfl (by kernel_rfl) (by kernel_rfl) (by kernel_rfl) (by decide) (by rw [g_want h rfl rfl rfl rfl hB20]; rfl) rfl (by decide) (fun a h => ?_)
                    refine d_takeNP h (fun _ => HS) HN 22 rfl (by kernel_rfl) (by kernel_rfl) (by kernel_rfl) (by decide) (by rw [g_want h rfl rfl rfl rfl hB20]; rfl) rfl (by decide) (fun a h => ?_)
                    refine d_takeNP h (fun _ => HS) HN 23 rfl (by kernel_rfl) (by kernel_rfl) (by kernel_rfl) (by decide) (by rw [g_want h rfl rfl rfl rfl hB20]; rfl) rfl (by decide) (fun a h => ?_)
                    refine d_takeNP h (fun _ => HS) HN 24 rfl (by kernel_rfl) (by kernel_rfl) (by kernel_rfl) (by decide) (by rw [g_want h rfl rfl rfl rfl hB20]; rfl) rfl (by decide) (fun a h => ?_)
                    refine d_takeNP h (fun _ => HS) HN 25 rfl (by kernel_rfl) (by kernel_rfl) (by kernel_rfl) (by decide) (by rw [g_want h rfl rfl rfl rfl hB20]; rfl) rfl (by decide) (fun a h => ?_)
                    refine d_takeNP h (fun _ => HS) HN 26 rfl (by kernel_rfl) (by kernel_rfl) (by kernel_rfl) (by decide) (by rw [g_want h rfl rfl rfl rfl hB20]; rfl) rfl (by decide) (fun a h => ?_)
                    refine d_takeNP h (fun _ => HS) HN 27 rfl (by kernel_rfl) (by kernel_rfl) (by kernel_rfl) (by decide) (by rw [g_want h rfl rfl rfl rfl hB20]; rfl) rfl (by decide) (fun a h => ?_)
                    refine d_takeP h (fun _ => HS) HN 28 rfl (by kernel_rfl) (by kernel_rfl) (by kernel_rfl) (by decide) rfl rfl (by decide) (fun w' => x_pick (v := .bool z335) (u' := undef) h.k rfl rfl (fun _ => by rw [← Option.some.inj hz336]; rfl) (fun hh => absurd (hB20.symm.trans hh) (by decide))) (fun a h => ?_)
                    refine d_done (by kernel_rfl) (HE _ _ ?_) _
                    refine e_thenN ?_
                    have h := h.pick [0] (by decide) rfl
                    exact h.has (by exact ⟨rfl, rfl, rfl, rfl, trivial⟩)
                  · rw [if_neg (by rw [hB20]; decide)] at hz336
                    obtain ⟨x337, h338, hz336⟩ := bsome hz336
                    obtain ⟨m340, h341, hz336⟩ := bsome hz336
                    obtain ⟨x344, h345, hz336⟩ := bsome hz336
                    refine d_takeP h (fun _ => HS) HN 21 rfl (by kernel_rfl) (by kernel_rfl) (by kernel_rfl) (by decide) (by rw [g_want h rfl rfl rfl rfl hB20]; rfl) rfl (by decide) (fun w' => x_move h.k _ rfl rfl) (fun a h => ?_)
                    refine d_takeP h (fun _ => HS) HN 22 rfl (by kernel_rfl) (by kernel_rfl) (by kernel_rfl) (by decide) (by rw [g_want h rfl rfl rfl rfl hB20]; rfl) rfl (by decide) (fun w' => x_move h.k _ rfl rfl) (fun a h => ?_)
                    obtain ⟨hi342, hm343⟩ := ix_some h341
                    refine d_takeP h (fun _ => HS) HN 24 rfl (by kernel_rfl) (by kernel_rfl) (by kernel_rfl) (by decide) (by rw [g_want h rfl rfl rfl rfl hB20]; rfl) rfl (by decide) (fun w' => x_iaddrA h.k rfl Try.underlying53 sz_uint8 rfl rfl hi342 hm343 rfl) (fun a h => ?_)
                    obtain ⟨u346, hv347, hu348⟩ := ((hs1.mono (((((le24.trans le32).trans le223).trans le283).trans le291).trans le311))).cell rfl h345
                    cases hu348
                    refine d_takeY h HS HN 25 rfl (by kernel_rfl) (by kernel_rfl) (by kernel_rfl) (by kernel_rfl) (by kernel_rfl) (by rw [g_want h rfl rfl rfl rfl hB20]; rfl) rfl (by decide) (fun w' hw => x_ld h.k rfl Try.underlying5 rfl rfl ((hw.cell (i := 1) rfl _).trans (by rw [Nat.zero_add, Nat.mul_one]; exact hv347))) (fun a h => ?_)
                    refine d_takeP h (fun _ => HS) HN 26 rfl (by kernel_rfl) (by kernel_rfl) (by kernel_rfl) (by decide) (by rw [g_want h rfl rfl rfl rfl hB20]; rfl) rfl (by decide) (fun w' => x_bin h.k rfl rfl rfl ib_eql) (fun a h => ?_)
                    refine d_alone 23 rfl (by kernel_rfl) (fun K hK => ?_)
                    refine g_yes (j := 20) (t := 119) h rfl rfl rfl rfl hB20 ?_
                    have hX := chatelaineref01_Same_ok Fu (S0 := snapAll _) A224 c225 x218.1 ((hs226.mono ((le283.trans le291).trans le311)).mono (h.m.leAll (i := 0) rfl)) A292 c293 x286.1 ((hs294.mono le311).mono (h.m.leAll (i := 0) rfl)) _ h338 _ h.startAll
                    refine q_callX hX h rfl rfl rfl (by decide) Try.func25 rfl rfl rfl (fun a w v L1 S1 hR hb1 h => ?_)
                    obtain ⟨rfl, rfl, _⟩ := hR
                    refine hK _ _ (fun _ _ => HS.ext hb1) ?_
                    replace HS := HS.ext hb1
                    clear hK
                    refine d_takeP h (fun _ => HS) HN 27 rfl (by kernel_rfl) (by kernel_rfl) (by kernel_rfl) (by decide) (by rw [g_want h rfl rfl rfl rfl hB20]; rfl) rfl (by decide) (fun w' => x_neqB h.k rfl Try.underlying4 rfl rfl) (fun a h => ?_)
                    refine d_takeP h (fun _ => HS) HN 28 rfl (by kernel_rfl) (by kernel_rfl) (by kernel_rfl) (by decide) rfl rfl (by decide) (fun w' => x_pick (v := .bool z335) (u' := undef) h.k rfl rfl (fun hh => absurd (hB20.symm.trans hh) (by decide)) (fun _ => by rw [← Option.some.inj hz336]; rfl)) (fun a h => ?_)
                    refine d_done (by kernel_rfl) (HE _ _ ?_) _
                    refine e_thenN ?_
                    have h := h.pick [0] (by decide) rfl
                    exact h.has (by exact ⟨rfl, rfl, rfl, rfl, trivial⟩)
                · rw [if_neg (by rw [hB13]; decide)] at hz321
                  obtain ⟨x322, h323, hz321⟩ := bsome hz321
                  obtain ⟨x332, h333, hz321⟩ := bsome hz321
                  refine d_takeP h (fun _ => HS) HN 14 rfl (by kernel_rfl) (by kernel_rfl) (by kernel_rfl) (by decide) (by rw [g_want h rfl rfl rfl rfl hB13]; rfl) rfl (by decide) (fun w' => x_move h.k _ rfl rfl) (fun a h => ?_)
                  refine d_takeP h (fun _ => HS) HN 15 rfl (by kernel_rfl) (by kernel_rfl) (by kernel_rfl) (by decide) (by rw [g_want h rfl rfl rfl rfl hB13]; rfl) rfl (by decide) (fun w' => x_move h.k _ rfl rfl) (fun a h => ?_)
                  obtain ⟨m324, n325, hi326, hi327, hm328, hm329, hr330⟩ := sub_some h323
                  have hs331 := slS.sub ((hs226.mono ((le283.trans le291).trans le311))) hm328 hm329 (Nat.le_trans hm329 ((hs226.mono ((le283.trans le291).trans le311))).1) (Nat.le_refl _) hr330
                  refine d_takeP h (fun _ => HS) HN 16 rfl (by kernel_rfl) (by kernel_rfl) (by kernel_rfl) (by decide) (by rw [g_want h rfl rfl rfl rfl hB13]; rfl) rfl (by decide) (fun w' => x_sliceE h.k rfl Try.underlying22 sz_uint8 rfl c225 hr330 (bd_none (by omega)) (bd_some rfl hi327) (bd_none rfl) (by intro hh; cases hh) hm328 hm329 (Nat.le_trans hm329 ((hs226.mono ((le283.trans le291).trans le311))).1) (Nat.le_refl _)) (fun a h => ?_)
                  refine d_alone 17 rfl (by kernel_rfl) (fun K hK => ?_)
                  refine g_yes (j := 13) (t := 112) h rfl rfl rfl rfl hB13 ?_
                  have hX := chatelaineref01_Same_ok Fu (S0 := snapAll _) A312 c313 x306.1 (hs314.mono (h.m.leAll (i := 0) rfl)) (sA A224 c225 m324 1) (c225 - m324) x322 (hs331.mono (h.m.leAll (i := 0) rfl)) _ h333 _ h.startAll
                  refine q_callX hX h rfl rfl rfl (by decide) Try.func25 rfl rfl rfl (fun a w v L1 S1 hR hb1 h => ?_)
                  obtain ⟨rfl, rfl, _⟩ := hR
                  refine hK _ _ (fun _ _ => HS.ext hb1) ?_
                  replace HS := HS.ext hb1
                  clear hK
                  refine d_takeP h (fun _ => HS) HN 18 rfl (by kernel_rfl) (by kernel_rfl) (by kernel_rfl) (by decide) (by rw [g_want h rfl rfl rfl rfl hB13]; rfl) rfl (by decide) (fun w' => x_not h.k rfl rfl) (fun a h => ?_)
                  refine d_takeP h (fun _ => HS) HN 19 rfl (by kernel_rfl) (by kernel_rfl) (by kernel_rfl) (by decide) rfl rfl (by decide) (fun w' => x_pick (v := .bool z320) (u' := undef) h.k rfl rfl (fun hh => absurd (hB13.symm.trans hh) (by decide)) (fun _ => by rw [← Option.some.inj hz321]; rfl)) (fun a h => ?_)
                  refine d_takeP h (fun _ => HS) HN 20 rfl (by kernel_rfl) (by kernel_rfl) (by kernel_rfl) (by decide) rfl rfl (by decide) (fun w' => x_move h.k _ rfl rfl) (fun a h => ?_)
                  refine d_split (t := 119) h rfl (fun hB20 => ?_) (fun hB20 => ?_)
                  · rw [if_pos hB20] at hz336
                    refine d_takeNP h (fun _ => HS) HN 21 rfl (by kernel_rfl) (by kernel_rfl) (by kernel_rfl) (by decide) (by rw [g_want h rfl rfl rfl rfl hB20]; rfl) rfl (by decide) (fun a h => ?_)
                    refine d_takeNP h (fun _ => HS) HN 22 rfl (by kernel_rfl) (by kernel_rfl) (by kernel_rfl) (by decide) (by rw [g_want h rfl rfl rfl rfl hB20]; rfl) rfl (by decide) (fun a h => ?_)
                    refine d_takeNP h (fun _ => HS) HN 23 rfl (by kernel_rfl) (by kernel_rfl) (by kernel_rfl) (by decide) (by rw [g_want h rfl rfl rfl rfl hB20]; rfl) rfl (by decide) (fun a h => ?_)
                    refine d_takeNP h (fun _ => HS) HN 24 rfl (by kernel_rfl) (by kernel_rfl) (by kernel_rfl) (by decide) (by rw [g_want h rfl rfl rfl rfl hB20]; rfl) rfl (by decide) (fun a h => ?_)
                    refine d_takeNP h (fun _ => HS) HN 25 rfl (by kernel_rfl) (by kernel_rfl) (by kernel_rfl) (by decide) (by rw [g_want h rfl rfl rfl rfl hB20]; rfl) rfl (by decide) (fun a h => ?_)
                    refine d_takeNP h (fun _ => HS) HN 26 rfl (by kernel_rfl) (by kernel_rfl) (by kernel_rfl) (by decide) (by rw [g_want h rfl rfl rfl rfl hB20]; rfl) rfl (by decide) (fun a h => ?_)
                    refine d_takeNP h (fun _ => HS) HN 27 rfl (by kernel_rfl) (by kernel_rfl) (by kernel_rfl) (by decide) (by rw [g_want h rfl rfl rfl rfl hB20]; rfl) rfl (by decide) (fun a h => ?_)
                    refine d_takeP h (fun _ => HS) HN 28 rfl (by kernel_rfl) (by kernel_rfl) (by kernel_rfl) (by decide) rfl rfl (by decide) (fun w' => x_pick (v := .bool z335) (u' := undef) h.k rfl rfl (fun _ => by rw [← Option.some.inj hz336]; rfl) (fun hh => absurd (hB20.symm.trans hh) (by decide))) (fun a h => ?_)
                    refine d_done (by kernel_rfl) (HE _ _ ?_) _
                    refine e_thenN ?_
                    have h := h.pick [0] (by decide) rfl
                    exact h.has (by exact ⟨rfl, rfl, rfl, rfl, trivial⟩)
                  · rw [if_neg (by rw [hB20]; decide)] at hz336
                    obtain ⟨x337, h338, hz336⟩ := bsome hz336
                    obtain ⟨m340, h341, hz336⟩ := bsome hz336
                    obtain ⟨x344, h345, hz336⟩ := bsome hz336
                    refine d_takeP h (fun _ => HS) HN 21 rfl (by kernel_rfl) (by kernel_rfl) (by kernel_rfl) (by decide) (by rw [g_want h rfl rfl rfl rfl hB20]; rfl) rfl (by decide) (fun w' => x_move h.k _ rfl rfl) (fun a h => ?_)
                    refine d_takeP h (fun _ => HS) HN 22 rfl (by kernel_rfl) (by kernel_rfl) (by kernel_rfl) (by decide) (by rw [g_want h rfl rfl rfl rfl hB20]; rfl) rfl (by decide) (fun w' => x_move h.k _ rfl rfl) (fun a h => ?_)
                    obtain ⟨hi342, hm343⟩ := ix_some h341
                    refine d_takeP h (fun _ => HS) HN 24 rfl (by kernel_rfl) (by kernel_rfl) (by kernel_rfl) (by decide) (by rw [g_want h rfl rfl rfl rfl hB20]; rfl) rfl (by decide) (fun w' => x_iaddrA h.k rfl Try.underlying53 sz_uint8 rfl rfl hi342 hm343 rfl) (fun a h => ?_)
                    obtain ⟨u346, hv347, hu348⟩ := ((hs1.mono (((((le24.trans le32).trans le223).trans le283).trans le291).trans le311))).cell rfl h345
                    cases hu348
                    refine d_takeY h HS HN 25 rfl (by kernel_rfl) (by kernel_rfl) (by kernel_rfl) (by kernel_rfl) (by kernel_rfl) (by rw [g_want h rfl rfl rfl rfl hB20]; rfl) rfl (by decide) (fun w' hw => x_ld h.k rfl Try.underlying5 rfl rfl ((hw.cell (i := 1) rfl _).trans (by rw [Nat.zero_add, Nat.mul_one]; exact hv347))) (fun a h => ?_)
                    refine d_takeP h (fun _ => HS) HN 26 rfl (by kernel_rfl) (by kernel_rfl) (by kernel_rfl) (by decide) (by rw [g_want h rfl rfl rfl rfl hB20]; rfl) rfl (by decide) (fun w' => x_bin h.k rfl rfl rfl ib_eql) (fun a h => ?_)
                    refine d_alone 23 rfl (by kernel_rfl) (fun K hK => ?_)
                    refine g_yes (j := 20) (t := 119) h rfl rfl rfl rfl hB20 ?_
                    have hX := chatelaineref01_Same_ok Fu (S0 := snapAll _) A224 c225 x218.1 ((hs226.mono ((le283.trans le291).trans le311)).mono (h.m.leAll (i := 0) rfl)) A292 c293 x286.1 ((hs294.mono le311).mono (h.m.leAll (i := 0) rfl)) _ h338 _ h.startAll
                    refine q_callX hX h rfl rfl rfl (by decide) Try.func25 rfl rfl rfl (fun a w v L1 S1 hR hb1 h => ?_)
                    obtain ⟨rfl, rfl, _⟩ := hR
                    refine hK _ _ (fun _ _ => HS.ext hb1) ?_
                    replace HS := HS.ext hb1
                    clear hK
                    refine d_takeP h (fun _ => HS) HN 27 rfl (by kernel_rfl) (by kernel_rfl) (by kernel_rfl) (by decide) (by rw [g_want h rfl rfl rfl rfl hB20]; rfl) rfl (by decide) (fun w' => x_neqB h.k rfl Try.underlying4 rfl rfl) (fun a h => ?_)
                    refine d_takeP h (fun _ => HS) HN 28 rfl (by kernel_rfl) (by kernel_rfl) (by kernel_rfl) (by decide) rfl rfl (by decide) (fun w' => x_pick (v := .bool z335) (u' := undef) h.k rfl rfl (fun hh => absurd (hB20.symm.trans hh) (by decide)) (fun _ => by rw [← Option.some.inj hz336]; rfl)) (fun a h => ?_)
                    refine d_done (by kernel_rfl) (HE _ _ ?_) _
                    refine e_thenN ?_
                    have h := h.pick [0] (by decide) rfl
                    exact h.has (by exact ⟨rfl, rfl, rfl, rfl, trivial⟩)
              · refine d_takeP h (fun _ => HS) HN 7 rfl (by kernel_rfl) (by kernel_rfl) (by kernel_rfl) (by decide) (by rw [g_want h rfl rfl rfl rfl hB6]; rfl) rfl (by decide) (fun w' => x_move h.k _ rfl rfl) (fun a h => ?_)
                refine d_takeP h (fun _ => HS) HN 8 rfl (by kernel_rfl) (by kernel_rfl) (by kernel_rfl) (by decide) (by rw [g_want h rfl rfl rfl rfl hB6]; rfl) rfl (by decide) (fun w' => x_len h.k rfl Try.underlying22 rfl) (fun a h => ?_)
                refine d_takeP h (fun _ => HS) HN 9 rfl (by kernel_rfl) (by kernel_rfl) (by kernel_rfl) (by decide) (by rw [g_want h rfl rfl rfl rfl hB6]; rfl) rfl (by decide) (fun w' => x_move h.k _ rfl rfl) (fun a h => ?_)
                refine d_takeP h (fun _ => HS) HN 10 rfl (by kernel_rfl) (by kernel_rfl) (by kernel_rfl) (by decide) (by rw [g_want h rfl rfl rfl rfl hB6]; rfl) rfl (by decide) (fun w' => x_len h.k rfl Try.underlying22 rfl) (fun a h => ?_)
                refine d_takeP h (fun _ => HS) HN 11 rfl (by kernel_rfl) (by kernel_rfl) (by kernel_rfl) (by decide) (by rw [g_want h rfl rfl rfl rfl hB6]; rfl) rfl (by decide) (fun w' => x_bin h.k rfl rfl rfl ib_neq) (fun a h => ?_)
                refine d_takeP h (fun _ => HS) HN 12 rfl (by kernel_rfl) (by kernel_rfl) (by kernel_rfl) (by decide) rfl rfl (by decide) (fun w' => x_pick (v := .bool (((decide (x286.2 ≠ 0)) || (decide (x306.2 ≠ 0))) || (decide ((x286.1.length : Int) ≠ (a1.length : Int))))) (u' := undef) h.k rfl rfl (fun hh => absurd (hB6.symm.trans hh) (by decide)) (fun _ => by rw [hB6]; first | rfl | simp [ev, List.lookup])) (fun a h => ?_)
                refine d_takeP h (fun _ => HS) HN 13 rfl (by kernel_rfl) (by kernel_rfl) (by kernel_rfl) (by decide) rfl rfl (by decide) (fun w' => x_move h.k _ rfl rfl) (fun a h => ?_)
                refine d_split (t := 112) h rfl (fun hB13 => ?_) (fun hB13 => ?_)
                · rw [if_pos hB13] at hz321
                  refine d_takeNP h (fun _ => HS) HN 14 rfl (by kernel_rfl) (by kernel_rfl) (by kernel_rfl) (by decide) (by rw [g_want h rfl rfl rfl rfl hB13]; rfl) rfl (by decide) (fun a h => ?_)
                  refine d_takeNP h (fun _ => HS) HN 15 rfl (by kernel_rfl) (by kernel_rfl) (by kernel_rfl) (by decide) (by rw [g_want h rfl rfl rfl rfl hB13]; rfl) rfl (by decide) (fun a h => ?_)
                  refine d_takeNP h (fun _ => HS) HN 16 rfl (by kernel_rfl) (by kernel_rfl) (by kernel_rfl) (by decide) (by rw [g_want h rfl rfl rfl rfl hB13]; rfl) rfl (by decide) (fun a h => ?_)
                  refine d_takeNP h (fun _ => HS) HN 17 rfl (by kernel_rfl) (by kernel_rfl) (by kernel_rfl) (by decide) (by rw [g_want h rfl rfl rfl rfl hB13]; rfl) rfl (by decide) (fun a h => ?_)
                  refine d_takeNP h (fun _ => HS) HN 18 rfl (by kernel_rfl) (by kernel_rfl) (by kernel_rfl) (by decide) (by rw [g_want h rfl rfl rfl rfl hB13]; rfl) rfl (by decide) (fun a h => ?_)
                  refine d_takeP h (fun _ => HS) HN 19 rfl (by kernel_rfl) (by kernel_rfl) (by kernel_rfl) (by decide) rfl rfl (by decide) (fun w' => x_pick (v := .bool z320) (u' := undef) h.k rfl rfl (fun _ => by rw [← Option.some.inj hz321]; rfl) (fun hh => absurd (hB13.symm.trans hh) (by decide))) (fun a h => ?_)
                  refine d_takeP h (fun _ => HS) HN 20 rfl (by kernel_rfl) (by kernel_rfl) (by kernel_rfl) (by decide) rfl rfl (by decide) (fun w' => x_move h.k _ rfl rfl) (fun a h => ?_)
                  refine d_split (t := 119) h rfl (fun hB20 => ?_) (fun hB20 => ?_)
                  · rw [if_pos hB20] at hz336
                    refine d_takeNP h (fun _ => HS) HN 21 rfl (by kernel_rfl) (by kernel_rfl) (by kernel_rfl) (by decide) (by rw [g_want h rfl rfl rfl rfl hB20]; rfl) rfl (by decide) (fun a h => ?_)
                    refine d_takeNP h (fun _ => HS) HN 22 rfl (by kernel_rfl) (by kernel_rfl) (by kernel_rfl) (by decide) (by rw [g_want h rfl rfl rfl rfl hB20]; rfl) rfl (by decide) (fun a h => ?_)
                    refine d_takeNP h (fun _ => HS) HN 23 rfl (by kernel_rfl) (by kernel_rfl) (by kernel_rfl) (by decide) (by rw [g_want h rfl rfl rfl rfl hB20]; rfl) rfl (by decide) (fun a h => ?_)
                    refine d_takeNP h (fun _ => HS) HN 24 rfl (by kernel_rfl) (by kernel_rfl) (by kernel_rfl) (by decide) (by rw [g_want h rfl rfl rfl rfl hB20]; rfl) rfl (by decide) (fun a h => ?_)
                    refine d_takeNP h (fun _ => HS) HN 25 rfl (by kernel_rfl) (by kernel_rfl) (by kernel_rfl) (by decide) (by rw [g_want h rfl rfl rfl rfl hB20]; rfl) rfl (by decide) (fun a h => ?_)
                    refine d_takeNP h (fun _ => HS) HN 26 rfl (by kernel_rfl) (by kernel_rfl) (by kernel_rfl) (by decide) (by rw [g_want h rfl rfl rfl rfl hB20]; rfl) rfl (by decide) (fun a h => ?_)
                    refine d_takeNP h (fun _ => HS) HN 27 rfl (by kernel_rfl) (by kernel_rfl) (by kernel_rfl) (by decide) (by rw [g_want h rfl rfl rfl rfl hB20]; rfl) rfl (by decide) (fun a h => ?_)
                    refine d_takeP h (fun _ => HS) HN 28 rfl (by kernel_rfl) (by kernel_rfl) (by kernel_rfl) (by decide) rfl rfl (by decide) (fun w' => x_pick (v := .bool z335) (u' := undef) h.k rfl rfl (fun _ => by rw [← Option.some.inj hz336]; rfl) (fun hh => absurd (hB20.symm.trans hh) (by decide))) (fun a h => ?_)
                    refine d_done (by kernel_rfl) (HE _ _ ?_) _
                    refine e_thenN ?_
                    have h := h.pick [0] (by decide) rfl
                    exact h.has (by exact ⟨rfl, rfl, rfl, rfl, trivial⟩)
                  · rw [if_neg (by rw [hB20]; decide)] at hz336
                    obtain ⟨x337, h338, hz336⟩ := bsome hz336
                    obtain ⟨m340, h341, hz336⟩ := bsome hz336
                    obtain ⟨x344, h345, hz336⟩ := bsome hz336
                    refine d_takeP h (fun _ => HS) HN 21 rfl (by kernel_rfl) (by kernel_rfl) (by kernel_rfl) (by decide) (by rw [g_want h rfl rfl rfl rfl hB20]; rfl) rfl (by decide) (fun w' => x_move h.k _ rfl rfl) (fun a h => ?_)
                    refine d_takeP h (fun _ => HS) HN 22 rfl (by kernel_rfl) (by kernel_rfl) (by kernel_rfl) (by decide) (by rw [g_want h rfl rfl rfl rfl hB20]; rfl) rfl (by decide) (fun w' => x_move h.k _ rfl rfl) (fun a h => ?_)
                    obtain ⟨hi342, hm343⟩ := ix_some h341
                    refine d_takeP h (fun _ => HS) HN 24 rfl (by kernel_rfl) (by kernel_rfl) (by kernel_rfl) (by decide) (by rw [g_want h rfl rfl rfl rfl hB20]; rfl) rfl (by decide) (fun w' => x_iaddrA h.k rfl Try.underlying53 sz_uint8 rfl rfl hi342 hm343 rfl) (fun a h => ?_)
                    obtain ⟨u346, hv347, hu348⟩ := ((hs1.mono (((((le24.trans le32).trans le223).trans le283).trans le291).trans le311))).cell rfl h345
                    cases hu348
                    refine d_takeY h HS HN 25 rfl (by kernel_rfl) (by kernel_rfl) (by kernel_rfl) (by kernel_rfl) (by kernel_rfl) (by rw [g_want h rfl rfl rfl rfl hB20]; rfl) rfl (by decide) (fun w' hw => x_ld h.k rfl Try.underlying5 rfl rfl ((hw.cell (i := 1) rfl _).trans (by rw [Nat.zero_add, Nat.mul_one]; exact hv347))) (fun a h => ?_)
                    refine d_takeP h (fun _ => HS) HN 26 rfl (by kernel_rfl) (by kernel_rfl) (by kernel_rfl) (by decide) (by rw [g_want h rfl rfl rfl rfl hB20]; rfl) rfl (by decide) (fun w' => x_bin h.k rfl rfl rfl ib_eql) (fun a h => ?_)
                    refine d_alone 23 rfl (by kernel_rfl) (fun K hK => ?_)
                    refine g_yes (j := 20) (t := 119) h rfl rfl rfl rfl hB20 ?_
                    have hX := chatelaineref01_Same_ok Fu (S0 := snapAll _) A224 c225 x218.1 ((hs226.mono ((le283.trans le291).trans le311)).mono (h.m.leAll (i := 0) rfl)) A292 c293 x286.1 ((hs294.mono le311).mono (h.m.leAll (i := 0) rfl)) _ h338 _ h.startAll
                    refine q_callX hX h rfl rfl rfl (by decide) Try.func25 rfl rfl rfl (fun a w v L1 S1 hR hb1 h => ?_)
                    obtain ⟨rfl, rfl, _⟩ := hR
                    refine hK _ _ (fun _ _ => HS.ext hb1) ?_
                    replace HS := HS.ext hb1
                    clear hK
                    refine d_takeP h (fun _ => HS) HN 27 rfl (by kernel_rfl) (by kernel_rfl) (by kernel_rfl) (by decide) (by rw [g_want h rfl rfl rfl rfl hB20]; rfl) rfl (by decide) (fun w' => x_neqB h.k rfl Try.underlying4 rfl rfl) (fun a h => ?_)
                    refine d_takeP h (fun _ => HS) HN 28 rfl (by kernel_rfl) (by kernel_rfl) (by kernel_rfl) (by decide) rfl rfl (by decide) (fun w' => x_pick (v := .bool z335) (u' := undef) h.k rfl rfl (fun hh => absurd (hB20.symm.trans hh) (by decide)) (fun _ => by rw [← Option.some.inj hz336]; rfl)) (fun a h => ?_)
                    refine d_done (by kernel_rfl) (HE _ _ ?_) _
                    refine e_thenN ?_
                    have h := h.pick [0] (by decide) rfl
                    exact h.has (by exact ⟨rfl, rfl, rfl, rfl, trivial⟩)
                · rw [if_neg (by rw [hB13]; decide)] at hz321
                  obtain ⟨x322, h323, hz321⟩ := bsome hz321
                  obtain ⟨x332, h333, hz321⟩ := bsome hz321
                  refine d_takeP h (fun _ => HS) HN 14 rfl (by kernel_rfl) (by kernel_rfl) (by kernel_rfl) (by decide) (by rw [g_want h rfl rfl rfl rfl hB13]; rfl) rfl (by decide) (fun w' => x_move h.k _ rfl rfl) (fun a h => ?_)
                  refine d_takeP h (fun _ => HS) HN 15 rfl (by kernel_rfl) (by kernel_rfl) (by kernel_rfl) (by decide) (by rw [g_want h rfl rfl rfl rfl hB13]; rfl) rfl (by decide) (fun w' => x_move h.k _ rfl rfl) (fun a h => ?_)
                  obtain ⟨m324, n325, hi326, hi327, hm328, hm329, hr330⟩ := sub_some h323
                  have hs331 := slS.sub ((hs226.mono ((le283.trans le291).trans le311))) hm328 hm329 (Nat.le_trans hm329 ((hs226.mono ((le283.trans le291).trans le311))).1) (Nat.le_refl _) hr330
                  refine d_takeP h (fun _ => HS) HN 16 rfl (by kernel_rfl) (by kernel_rfl) (by kernel_rfl) (by decide) (by rw [g_want h rfl rfl rfl rfl hB13]; rfl) rfl (by decide) (fun w' => x_sliceE h.k rfl Try.underlying22 sz_uint8 rfl c225 hr330 (bd_none (by omega)) (bd_some rfl hi327) (bd_none rfl) (by intro hh; cases hh) hm328 hm329 (Nat.le_trans hm329 ((hs226.mono ((le283.trans le291).trans le311))).1) (Nat.le_refl _)) (fun a h => ?_)
                  refine d_alone 17 rfl (by kernel_rfl) (fun K hK => ?_)
                  refine g_yes (j := 13) (t := 112) h rfl rfl rfl rfl hB13 ?_
                  have hX := chatelaineref01_Same_ok Fu (S0 := snapAll _) A312 c313 x306.1 (hs314.mono (h.m.leAll (i := 0) rfl)) (sA A224 c225 m324 1) (c225 - m324) x322 (hs331.mono (h.m.leAll (i := 0) rfl)) _ h333 _ h.startAll
                  refine q_callX hX h rfl rfl rfl (by decide) Try.func25 rfl rfl rfl (fun a w v L1 S1 hR hb1 h => ?_)
                  obtain ⟨rfl, rfl, _⟩ := hR
                  refine hK _ _ (fun _ _ => HS.ext hb1) ?_
                  replace HS := HS.ext hb1
                  clear hK
                  refine d_takeP h (fun _ => HS) HN 18 rfl (by kernel_rfl) (by kernel_rfl) (by kernel_rfl) (by decide) (by rw [g_want h rfl rfl rfl rfl hB13]; rfl) rfl (by decide) (fun w' => x_not h.k rfl rfl) (fun a h => ?_)
                  refine d_takeP h (fun _ => HS) HN 19 rfl (by kernel_rfl) (by kernel_rfl) (by kernel_rfl) (by decide) rfl rfl (by decide) (fun w' => x_pick (v := .bool z320) (u' := undef) h.k rfl rfl (fun hh => absurd (hB13.symm.trans hh) (by decide)) (fun _ => by rw [← Option.some.inj hz321]; rfl)) (fun a h => ?_)
                  refine d_takeP h (fun _ => HS) HN 20 rfl (by kernel_rfl) (by kernel_rfl) (by kernel_rfl) (by decide) rfl rfl (by decide) (fun w' => x_move h.k _ rfl rfl) (fun a h => ?_)
                  refine d_split (t := 119) h rfl (fun hB20 => ?_) (fun hB20 => ?_)
                  · rw [if_pos hB20] at hz336
                    refine d_takeNP h (fun _ => HS) HN 21 rfl (by kernel_rfl) (by kernel_rfl) (by kernel_rfl) (by decide) (by rw [g_want h rfl rfl rfl rfl hB20]; rfl) rfl (by decide) (fun a h => ?_)
                    refine d_takeNP h (fun _ => HS) HN 22 rfl (by kernel_rfl) (by kernel_rfl) (by kernel_rfl) (by decide) (by rw [g_want h rfl rfl rfl rfl hB20]; rfl) rfl (by decide) (fun a h => ?_)
                    refine d_takeNP h (fun _ => HS) HN 23 rfl (by kernel_rfl) (by kernel_rfl) (by kernel_rfl) (by decide) (by rw [g_want h rfl rfl rfl rfl hB20]; rfl) rfl (by decide) (fun a h => ?_)
                    refine d_takeNP h (fun _ => HS) HN 24 rfl (by kernel_rfl) (by kernel_rfl) (by kernel_rfl) (by decide) (by rw [g_want h rfl rfl rfl rfl hB20]; rfl) rfl (by decide) (fun a h => ?_)
                    refine d_takeNP h (fun _ => HS) HN 25 rfl (by kernel_rfl) (by kernel_rfl) (by kernel_rfl) (by decide) (by rw [g_want h rfl rfl rfl rfl hB20]; rfl) rfl (by decide) (fun a h => ?_)
                    refine d_takeNP h (fun _ => HS) HN 26 rfl (by kernel_rfl) (by kernel_rfl) (by kernel_rfl) (by decide) (by rw [g_want h rfl rfl rfl rfl hB20]; rfl) rfl (by decide) (fun a h => ?_)
                    refine d_takeNP h (fun _ => HS) HN 27 rfl (by kernel_rfl) (by kernel_rfl) (by kernel_rfl) (by decide) (by rw [g_want h rfl rfl rfl rfl hB20]; rfl) rfl (by decide) (fun a h => ?_)
                    refine d_takeP h (fun _ => HS) HN 28 rfl (by kernel_rfl) (by kernel_rfl) (by kernel_rfl) (by decide) rfl rfl (by decide) (fun w' => x_pick (v := .bool z335) (u' := undef) h.k rfl rfl (fun _ => by rw [← Option.some.inj hz336]; rfl) (fun hh => absurd (hB20.symm.trans hh) (by decide))) (fun a h => ?_)
                    refine d_done (by kernel_rfl) (HE _ _ ?_) _
                    refine e_thenN ?_
                    have h := h.pick [0] (by decide) rfl
                    exact h.has (by exact ⟨rfl, rfl, rfl, rfl, trivial⟩)
                  · rw [if_neg (by rw [hB20]; decide)] at hz336
                    obtain ⟨x337, h338, hz336⟩ := bsome hz336
                    obtain ⟨m340, h341, hz336⟩ := bsome hz336
                    obtain ⟨x344, h345, hz336⟩ := bsome hz336
                    refine d_takeP h (fun _ => HS) HN 21 rfl (by kernel_rfl) (by kernel_rfl) (by kernel_rfl) (by decide) (by rw [g_want h rfl rfl rfl rfl hB20]; rfl) rfl (by decide) (fun w' => x_move h.k _ rfl rfl) (fun a h => ?_)
                    refine d_takeP h (fun _ => HS) HN 22 rfl (by kernel_rfl) (by kernel_rfl) (by kernel_rfl) (by decide) (by rw [g_want h rfl rfl rfl rfl hB20]; rfl) rfl (by decide) (fun w' => x_move h.k _ rfl rfl) (fun a h => ?_)
                    obtain ⟨hi342, hm343⟩ := ix_some h341
                    refine d_takeP h (fun _ => HS) HN 24 rfl (by kernel_rfl) (by kernel_rfl) (by kernel_rfl) (by decide) (by rw [g_want h rfl rfl rfl rfl hB20]; rfl) rfl (by decide) (fun w' => x_iaddrA h.k rfl Try.underlying53 sz_uint8 rfl rfl hi342 hm343 rfl) (fun a h => ?_)
                    obtain ⟨u346, hv347, hu348⟩ := ((hs1.mono (((((le24.trans le32).trans le223).trans le283).trans le291).trans le311))).cell rfl h345
                    cases hu348
                    refine d_takeY h HS HN 25 rfl (by kernel_rfl) (by kernel_rfl) (by kernel_rfl) (by kernel_rfl) (by kernel_rfl) (by rw [g_want h rfl rfl rfl rfl hB20]; rfl) rfl (by decide) (fun w' hw => x_ld h.k rfl Try.underlying5 rfl rfl ((hw.cell (i := 1) rfl _).trans (by rw [Nat.zero_add, Nat.mul_one]; exact hv347))) (fun a h => ?_)
                    refine d_takeP h (fun _ => HS) HN 26 rfl (by kernel_rfl) (by kernel_rfl) (by kernel_rfl) (by decide) (by rw [g_want h rfl rfl rfl rfl hB20]; rfl) rfl (by decide) (fun w' => x_bin h.k rfl rfl rfl ib_eql) (fun a h => ?_)
                    refine d_alone 23 rfl (by kernel_rfl) (fun K hK => ?_)
                    refine g_yes (j := 20) (t := 119) h rfl rfl rfl rfl hB20 ?_
                    have hX := chatelaineref01_Same_ok Fu (S0 := snapAll _) A224 c225 x218.1 ((hs226.mono ((le283.trans le291).trans le311)).mono (h.m.leAll (i := 0) rfl)) A292 c293 x286.1 ((hs294.mono le311).mono (h.m.leAll (i := 0) rfl)) _ h338 _ h.startAll
                    refine q_callX hX h rfl rfl rfl (by decide) Try.func25 rfl rfl rfl (fun a w v L1 S1 hR hb1 h => ?_)
                    obtain ⟨rfl, rfl, _⟩ := hR
                    refine hK _ _ (fun _ _ => HS.ext hb1) ?_
                    replace HS := HS.ext hb1
                    clear hK
                    refine d_takeP h (fun _ => HS) HN 27 rfl (by kernel_rfl) (by kernel_rfl) (by kernel_rfl) (by decide) (by rw [g_want h rfl rfl rfl rfl hB20]; rfl) rfl (by decide) (fun w' => x_neqB h.k rfl Try.underlying4 rfl rfl) (fun a h => ?_)
                    refine d_takeP h (fun _ => HS) HN 28 rfl (by kernel_rfl) (by kernel_rfl) (by kernel_rfl) (by decide) rfl rfl (by decide) (fun w' => x_pick (v := .bool z335) (u' := undef) h.k rfl rfl (fun hh => absurd (hB20.symm.trans hh) (by decide)) (fun _ => by rw [← Option.some.inj hz336]; rfl)) (fun a h => ?_)
                    refine d_done (by kernel_rfl) (HE _ _ ?_) _
                    refine e_thenN ?_
                    have h := h.pick [0] (by decide) rfl
                    exact h.has (by exact ⟨rfl, rfl, rfl, rfl, trivial⟩)
            · refine d_takeP h (fun _ => HS) HN 3 rfl (by kernel_rfl) (by kernel_rfl) (by kernel_rfl) (by decide) (by rw [g_want h rfl rfl rfl rfl hB2]; rfl) rfl (by decide) (fun w' => x_move h.k _ rfl rfl) (fun a h => ?_)
              refine d_takeP h (fun _ => HS) HN 4 rfl (by kernel_rfl) (by kernel_rfl) (by kernel_rfl) (by decide) (by rw [g_want h rfl rfl rfl rfl hB2]; rfl) rfl (by decide) (fun w' => x_bin h.k rfl rfl rfl ib_neq) (fun a h => ?_)
              refine d_takeP h (fun _ => HS) HN 5 rfl (by kernel_rfl) (by kernel_rfl) (by kernel_rfl) (by decide) rfl rfl (by decide) (fun w' => x_pick (v := .bool ((decide (x286.2 ≠ 0)) || (decide (x306.2 ≠ 0)))) (u' := undef) h.k rfl rfl (fun hh => absurd (hB2.symm.trans hh) (by decide)) (fun _ => by rw [hB2]; first | rfl | simp [ev, List.lookup])) (fun a h => ?_)
              refine d_takeP h (fun _ => HS) HN 6 rfl (by kernel_rfl) (by kernel_rfl) (by kernel_rfl) (by decide) rfl rfl (by decide) (fun w' => x_move h.k _ rfl rfl) (fun a h => ?_)
              refine d_split (t := 105) h rfl (fun hB6 => ?_) (fun hB6 => ?_)
              · refine d_takeNP h (fun _ => HS) HN 7 rfl (by kernel_rfl) (by kernel_rfl) (by kernel_rfl) (by decide) (by rw [g_want h rfl rfl rfl rfl hB6]; rfl) rfl (by decide) (fun a h => ?_)
                refine d_takeNP h (fun _ => HS) HN 8 rfl (by kernel_rfl) (by kernel_rfl) (by kernel_rfl) (by decide) (by rw [g_want h rfl rfl rfl rfl hB6]; rfl) rfl (by decide) (fun a h => ?_)
                refine d_takeNP h (fun _ => HS) HN 9 rfl (by kernel_rfl) (by kernel_rfl) (by kernel_rfl) (by decide) (by rw [g_want h rfl rfl rfl rfl hB6]; rfl) rfl (by decide) (fun a h => ?_)
                refine d_takeNP h (fun _ => HS) HN 10 rfl (by kernel_rfl) (by kernel_rfl) (by kernel_rfl) (by decide) (by rw [g_want h rfl rfl rfl rfl hB6]; rfl) rfl (by decide) (fun a h => ?_)
                refine d_takeNP h (fun _ => HS) HN 11 rfl (by kernel_rfl) (by kernel_rfl) (by kernel_rfl) (by decide) (by rw [g_want h rfl rfl rfl rfl hB6]; rfl) rfl (by decide) (fun a h => ?_)
                refine d_takeP h (fun _ => HS) HN 12 rfl (by kernel_rfl) (by kernel_rfl) (by kernel_rfl) (by decide) rfl rfl (by decide) (fun w' => x_pick (v := .bool (((decide (x286.2 ≠ 0)) || (decide (x306.2 ≠ 0))) || (decide ((x286.1.length : Int) ≠ (a1.length : Int))))) (u' := undef) h.k rfl rfl (fun _ => by rw [hB6]; first | rfl | simp [ev, List.lookup]) (fun hh => absurd (hB6.symm.trans hh) (by decide))) (fun a h => ?_)
                refine d_takeP h (fun _ => HS) HN 13 rfl (by kernel_rfl) (by kernel_rfl) (by kernel_rfl) (by decide) rfl rfl (by decide) (fun w' => x_move h.k _ rfl rfl) (fun a h => ?_)
                refine d_split (t := 112) h rfl (fun hB13 => ?_) (fun hB13 => ?_)
                · rw [if_pos hB13] at hz321
                  refine d_takeNP h (fun _ => HS) HN 14 rfl (by kernel_rfl) (by kernel_rfl) (by kernel_rfl) (by decide) (by rw [g_want h rfl rfl rfl rfl hB13]; rfl) rfl (by decide) (fun a h => ?_)
                  refine d_takeNP h (fun _ => HS) HN 15 rfl (by kernel_rfl) (by kernel_rfl) (by kernel_rfl) (by decide) (by rw [g_want h rfl rfl rfl rfl hB13]; rfl) rfl (by decide) (fun a h => ?_)
                  refine d_takeNP h (fun _ => HS) HN 16 rfl (by kernel_rfl) (by kernel_rfl) (by kernel_rfl) (by decide) (by rw [g_want h rfl rfl rfl rfl hB13]; rfl) rfl (by decide) (fun a h => ?_)
                  refine d_takeNP h (fun _ => HS) HN 17 rfl (by kernel_rfl) (by kernel_rfl) (by kernel_rfl) (by decide) (by rw [g_want h rfl rfl rfl rfl hB13]; rfl) rfl (by decide) (fun a h => ?_)
                  refine d_takeNP h (fun _ => HS) HN 18 rfl (by kernel_rfl) (by kernel_rfl) (by kernel_rfl) (by decide) (by rw [g_want h rfl rfl rfl rfl hB13]; rfl) rfl (by decide) (fun a h => ?_)
                  refine d_takeP h (fun _ => HS) HN 19 rfl (by kernel_rfl) (by kernel_rfl) (by kernel_rfl) (by decide) rfl rfl (by decide) (fun w' => x_pick (v := .bool z320) (u' := undef) h.k rfl rfl (fun _ => by rw [← Option.some.inj hz321]; rfl) (fun hh => absurd (hB13.symm.trans hh) (by decide))) (fun a h => ?_)
                  refine d_takeP h (fun _ => HS) HN 20 rfl (by kernel_rfl) (by kernel_rfl) (by kernel_rfl) (by decide) rfl rfl (by decide) (fun w' => x_move h.k _ rfl rfl) (fun a h => ?_)
                  refine d_split (t := 119) h rfl (fun hB20 => ?_) (fun hB20 => ?_)
                  · rw [if_pos hB20] at hz336
                    refine d_takeNP h (fun _ => HS) HN 21 rfl (by kernel_rfl) (by kernel_rfl) (by kernel_rfl) (by decide) (by rw [g_want h rfl rfl rfl rfl hB20]; rfl) rfl (by decide) (fun a h => ?_)
                    refine d_takeNP h (fun _ => HS) HN 22 rfl (by kernel_rfl) (by kernel_rfl) (by kernel_rfl) (by decide) (by rw [g_want h rfl rfl rfl rfl hB20]; rfl) rfl (by decide) (fun a h => ?_)
                    refine d_takeNP h (fun _ => HS) HN 23 rfl (by kernel_rfl) (by kernel_rfl) (by kernel_rfl) (by decide) (by rw [g_want h rfl rfl rfl rfl hB20]; rfl) rfl (by decide) (fun a h => ?_)
                    refine d_takeNP h (fun _ => HS) HN 24 rfl (by kernel_rfl) (by kernel_rfl) (by kernel_rfl) (by decide) (by rw [g_want h rfl rfl rfl rfl hB20]; rfl) rfl (by decide) (fun a h => ?_)
                    refine d_takeNP h (fun _ => HS) HN 25 rfl (by kernel_rfl) (by kernel_rfl) (by kernel_rfl) (by decide) (by rw [g_want h rfl rfl rfl rfl hB20]; rfl) rfl (by decide) (fun a h => ?_)
                    refine d_takeNP h (fun _ => HS) HN 26 rfl (by kernel_rfl) (by kernel_rfl) (by kernel_rfl) (by decide) (by rw [g_want h rfl rfl rfl rfl hB20]; rfl) rfl (by decide) (fun a h => ?_)
                    refine d_takeNP h (fun _ => HS) HN 27 rfl (by kernel_rfl) (by kernel_rfl) (by kernel_rfl) (by decide) (by rw [g_want h rfl rfl rfl rfl hB20]; rfl) rfl (by decide) (fun a h => ?_)
                    refine d_takeP h (fun _ => HS) HN 28 rfl (by kernel_rfl) (by kernel_rfl) (by kernel_rfl) (by decide) rfl rfl (by decide) (fun w' => x_pick (v := .bool z335) (u' := undef) h.k rfl rfl (fun _ => by rw [← Option.some.inj hz336]; rfl) (fun hh => absurd (hB20.symm.trans hh) (by decide))) (fun a h => ?_)
                    refine d_done (by kernel_rfl) (HE _ _ ?_) _
                    refine e_thenN ?_
                    have h := h.pick [0] (by decide) rfl
                    exact h.has (by exact ⟨rfl, rfl, rfl, rfl, trivial⟩)
                  · rw [if_neg (by rw [hB20]; decide)] at hz336
                    obtain ⟨x337, h338, hz336⟩ := bsome hz336
                    obtain ⟨m340, h341, hz336⟩ := bsome hz336
                    obtain ⟨x344, h345, hz336⟩ := bsome hz336
                    refine d_takeP h (fun _ => HS) HN 21 rfl (by kernel_rfl) (by kernel_rfl) (by kernel_rfl) (by decide) (by rw [g_want h rfl rfl rfl rfl hB20]; rfl) rfl (by decide) (fun w' => x_move h.k _ rfl rfl) (fun a h => ?_)
                    refine d_takeP h (fun _ => HS) HN 22 rfl (by kernel_rfl) (by kernel_rfl) (by kernel_rfl) (by decide) (by rw [g_want h rfl rfl rfl rfl hB20]; rfl) rfl (by decide) (fun w' => x_move h.k _ rfl rfl) (fun a h => ?_)
                    obtain ⟨hi342, hm343⟩ := ix_some h341
                    refine d_takeP h (fun _ => HS) HN 24 rfl (by kernel_rfl) (by kernel_rfl) (by kernel_rfl) (by decide) (by rw [g_want h rfl rfl rfl rfl hB20]; rfl) rfl (by decide) (fun w' => x_iaddrA h.k rfl Try.underlying53 sz_uint8 rfl rfl hi342 hm343 rfl) (fun a h => ?_)
                    obtain ⟨u346, hv347, hu348⟩ := ((hs1.mono (((((le24.trans le32).trans le223).trans le283).trans le291).trans le311))).cell rfl h345
                    cases hu348
                    refine d_takeY h HS HN 25 rfl (by kernel_rfl) (by kernel_rfl) (by kernel_rfl) (by kernel_rfl) (by kernel_rfl) (by rw [g_want h rfl rfl rfl rfl hB20]; rfl) rfl (by decide) (fun w' hw => x_ld h.k rfl Try.underlying5 rfl rfl ((hw.cell (i := 1) rfl _).trans (by rw [Nat.zero_add, Nat.mul_one]; exact hv347))) (fun a h => ?_)
                    refine d_takeP h (fun _ => HS) HN 26 rfl (by kernel_rfl) (by kernel_rfl) (by kernel_rfl) (by decide) (by rw [g_want h rfl rfl rfl rfl hB20]; rfl) rfl (by decide) (fun w' => x_bin h.k rfl rfl rfl ib_eql) (fun a h => ?_)
                    refine d_alone 23 rfl (by kernel_rfl) (fun K hK => ?_)
                    refine g_yes (j := 20) (t := 119) h rfl rfl rfl rfl hB20 ?_
                    have hX := chatelaineref01_Same_ok Fu (S0 := snapAll _) A224 c225 x218.1 ((hs226.mono ((le283.trans le291).trans le311)).mono (h.m.leAll (i := 0) rfl)) A292 c293 x286.1 ((hs294.mono le311).mono (h.m.leAll (i := 0) rfl)) _ h338 _ h.startAll
                    refine q_callX hX h rfl rfl rfl (by decide) Try.func25 rfl rfl rfl (fun a w v L1 S1 hR hb1 h => ?_)
                    obtain ⟨rfl, rfl, _⟩ := hR
                    refine hK _ _ (fun _ _ => HS.ext hb1) ?_
                    replace HS := HS.ext hb1
                    clear hK
                    refine d_takeP h (fun _ => HS) HN 27 rfl (by kernel_rfl) (by kernel_rfl) (by kernel_rfl) (by decide) (by rw [g_want h rfl rfl rfl rfl hB20]; rfl) rfl (by decide) (fun w' => x_neqB h.k rfl Try.underlying4 rfl rfl) (fun a h => ?_)
                    refine d_takeP h (fun _ => HS) HN 28 rfl (by kernel_rfl) (by kernel_rfl) (by kernel_rfl) (by decide) rfl rfl (by decide) (fun w' => x_pick (v := .bool z335) (u' := undef) h.k rfl rfl (fun hh => absurd (hB20.symm.trans hh) (by decide)) (fun _ => by rw [← Option.some.inj hz336]; rfl)) (fun a h => ?_)
                    refine d_done (by kernel_rfl) (HE _ _ ?_) _
                    refine e_thenN ?_
                    have h := h.pick [0] (by decide) rfl
                    exact h.has (by exact ⟨rfl, rfl, rfl, rfl, trivial⟩)
                · rw [if_neg (by rw [hB13]; decide)] at hz321
                  obtain ⟨x322, h323, hz321⟩ := bsome hz321
                  obtain ⟨x332, h333, hz321⟩ := bsome hz321
                  refine d_takeP h (fun _ => HS) HN 14 rfl (by kernel_rfl) (by kernel_rfl) (by kernel_rfl) (by decide) (by rw [g_want h rfl rfl rfl rfl hB13]; rfl) rfl (by decide) (fun w' => x_move h.k _ rfl rfl) (fun a h => ?_)
                  refine d_takeP h (fun _ => HS) HN 15 rfl (by kernel_rfl) (by kernel_rfl) (by kernel_rfl) (by decide) (by rw [g_want h rfl rfl rfl rfl hB13]; rfl) rfl (by decide) (fun w' => x_move h.k _ rfl rfl) (fun a h => ?_)
                  obtain ⟨m324, n325, hi326, hi327, hm328, hm329, hr330⟩ := sub_some h323
                  have hs331 := slS.sub ((hs226.mono ((le283.trans le291).trans le311))) hm328 hm329 (Nat.le_trans hm329 ((hs226.mono ((le283.trans le291).trans le311))).1) (Nat.le_refl _) hr330
                  refine d_takeP h (fun _ => HS) HN 16 rfl (by kernel_rfl) (by kernel_rfl) (by kernel_rfl) (by decide) (by rw [g_want h rfl rfl rfl rfl hB13]; rfl) rfl (by decide) (fun w' => x_sliceE h.k rfl Try.underlying22 sz_uint8 rfl c225 hr330 (bd_none (by omega)) (bd_some rfl hi327) (bd_none rfl) (by intro hh; cases hh) hm328 hm329 (Nat.le_trans hm329 ((hs226.mono ((le283.trans le291).trans le311))).1) (Nat.le_refl _)) (fun a h => ?_)
                  refine d_alone 17 rfl (by kernel_rfl) (fun K hK => ?_)
                  refine g_yes (j := 13) (t := 112) h rfl rfl rfl rfl hB13 ?_
                  have hX := chatelaineref01_Same_ok Fu (S0 := snapAll _) A312 c313 x306.1 (hs314.mono (h.m.leAll (i := 0) rfl)) (sA A224 c225 m324 1) (c225 - m324) x322 (hs331.mono (h.m.leAll (i := 0) rfl)) _ h333 _ h.startAll
                  refine q_callX hX h rfl rfl rfl (by decide) Try.func25 rfl rfl rfl (fun a w v L1 S1 hR hb1 h => ?_)
                  obtain ⟨rfl, rfl, _⟩ := hR
                  refine hK _ _ (fun _ _ => HS.ext hb1) ?_
                  replace HS := HS.ext hb1
                  clear hK
                  refine d_takeP h (fun _ => HS) HN 18 rfl (by kernel_rfl) (by kernel_rfl) (by kernel_rfl) (by decide) (by rw [g_want h rfl rfl rfl rfl hB13]; rfl) rfl (by decide) (fun w' => x_not h.k rfl rfl) (fun a h => ?_)
                  refine d_takeP h (fun _ => HS) HN 19 rfl (by kernel_rfl) (by kernel_rfl) (by kernel_rfl) (by decide) rfl rfl (by decide) (fun w' => x_pick (v := .bool z320) (u' := undef) h.k rfl rfl (fun hh => absurd (hB13.symm.trans hh) (by decide)) (fun _ => by rw [← Option.some.inj hz321]; rfl)) (fun a h => ?_)
                  refine d_takeP h (fun _ => HS) HN 20 rfl (by kernel_rfl) (by kernel_rfl) (by kernel_rfl) (by decide) rfl rfl (by decide) (fun w' => x_move h.k _ rfl rfl) (fun a h => ?_)
                  refine d_split (t := 119) h rfl (fun hB20 => ?_) (fun hB20 => ?_)
                  · rw [if_pos hB20] at hz336
                    refine d_takeNP h (fun _ => HS) HN 21 rfl (by kernel_rfl) (by kernel_rfl) (by kernel_rfl) (by decide) (by rw [g_want h rfl rfl rfl rfl hB20]; rfl) rfl (by decide) (fun a h => ?_)
                    refine d_takeNP h (fun _ => HS) HN 22 rfl (by kernel_rfl) (by kernel_rfl) (by kernel_rfl) (by decide) (by rw [g_want h rfl rfl rfl rfl hB20]; rfl) rfl (by decide) (fun a h => ?_)
                    refine d_takeNP h (fun _ => HS) HN 23 rfl (by kernel_rfl) (by kernel_rfl) (by kernel_rfl) (by decide) (by rw [g_want h rfl rfl rfl rfl hB20]; rfl) rfl (by decide) (fun a h => ?_)
                    refine d_takeNP h (fun _ => HS) HN 24 rfl (by kernel_rfl) (by kernel_rfl) (by kernel_rfl) (by decide) (by rw [g_want h rfl rfl rfl rfl hB20]; rfl) rfl (by decide) (fun a h => ?_)
                    refine d_takeNP h (fun _ => HS) HN 25 rfl (by kernel_rfl) (by kernel_rfl) (by kernel_rfl) (by decide) (by rw [g_want h rfl rfl rfl rfl hB20]; rfl) rfl (by decide) (fun a h => ?_)
                    refine d_takeNP h (fun _ => HS) HN 26 rfl (by kernel_rfl) (by kernel_rfl) (by kernel_rfl) (by decide) (by rw [g_want h rfl rfl rfl rfl hB20]; rfl) rfl (by decide) (fun a h => ?_)
                    refine d_takeNP h (fun _ => HS) HN 27 rfl (by kernel_rfl) (by kernel_rfl) (by kernel_rfl) (by decide) (by rw [g_want h rfl rfl rfl rfl hB20]; rfl) rfl (by decide) (fun a h => ?_)
                    refine d_takeP h (fun _ => HS) HN 28 rfl (by kernel_rfl) (by kernel_rfl) (by kernel_rfl) (by decide) rfl rfl (by decide) (fun w' => x_pick (v := .bool z335) (u' := undef) h.k rfl rfl (fun _ => by rw [← Option.some.inj hz336]; rfl) (fun hh => absurd (hB20.symm.trans hh) (by decide))) (fun a h => ?_)
                    refine d_done (by kernel_rfl) (HE _ _ ?_) _
                    refine e_thenN ?_
                    have h := h.pick [0] (by decide) rfl
                    exact h.has (by exact ⟨rfl, rfl, rfl, rfl, trivial⟩)
                  · rw [if_neg (by rw [hB20]; decide)] at hz336
                    obtain ⟨x337, h338, hz336⟩ := bsome hz336
                    obtain ⟨m340, h341, hz336⟩ := bsome hz336
                    obtain ⟨x344, h345, hz336⟩ := bsome hz336
                    refine d_takeP h (fun _ => HS) HN 21 rfl (by kernel_rfl) (by kernel_rfl) (by kernel_rfl) (by decide) (by rw [g_want h rfl rfl rfl rfl hB20]; rfl) rfl (by decide) (fun w' => x_move h.k _ rfl rfl) (fun a h => ?_)
                    refine d_takeP h (fun _ => HS) HN 22 rfl (by kernel_rfl) (by kernel_rfl) (by kernel_rfl) (by decide) (by rw [g_want h rfl rfl rfl rfl hB20]; rfl) rfl (by decide) (fun w' => x_move h.k _ rfl rfl) (fun a h => ?_)
                    obtain ⟨hi342, hm343⟩ := ix_some h341
                    refine d_takeP h (fun _ => HS) HN 24 rfl (by kernel_rfl) (by kernel_rfl) (by kernel_rfl) (by decide) (by rw [g_want h rfl rfl rfl rfl hB20]; rfl) rfl (by decide) (fun w' => x_iaddrA h.k rfl Try.underlying53 sz_uint8 rfl rfl hi342 hm343 rfl) (fun a h => ?_)
                    obtain ⟨u346, hv347, hu348⟩ := ((hs1.mono (((((le24.trans le32).trans le223).trans le283).trans le291).trans le311))).cell rfl h345
                    cases hu348
                    refine d_takeY h HS HN 25 rfl (by kernel_rfl) (by kernel_rfl) (by kernel_rfl) (by kernel_rfl) (by kernel_rfl) (by rw [g_want h rfl rfl rfl rfl hB20]; rfl) rfl (by decide) (fun w' hw => x_ld h.k rfl Try.underlying5 rfl rfl ((hw.cell (i := 1) rfl _).trans (by rw [Nat.zero_add, Nat.mul_one]; exact hv347))) (fun a h => ?_)
                    refine d_takeP h (fun _ => HS) HN 26 rfl (by kernel_rfl) (by kernel_rfl) (by kernel_rfl) (by decide) (by rw [g_want h rfl rfl rfl rfl hB20]; rfl) rfl (by decide) (fun w' => x_bin h.k rfl rfl rfl ib_eql) (fun a h => ?_)
                    refine d_alone 23 rfl (by kernel_rfl) (fun K hK => ?_)
                    refine g_yes (j := 20) (t := 119) h rfl rfl rfl rfl hB20 ?_
                    have hX := chatelaineref01_Same_ok Fu (S0 := snapAll _) A224 c225 x218.1 ((hs226.mono ((le283.trans le291).trans le311)).mono (h.m.leAll (i := 0) rfl)) A292 c293 x286.1 ((hs294.mono le311).mono (h.m.leAll (i := 0) rfl)) _ h338 _ h.startAll
                    refine q_callX hX h rfl rfl rfl (by decide) Try.func25 rfl rfl rfl (fun a w v L1 S1 hR hb1 h => ?_)
                    obtain ⟨rfl, rfl, _⟩ := hR
                    refine hK _ _ (fun _ _ => HS.ext hb1) ?_
                    replace HS := HS.ext hb1
                    clear hK
                    refine d_takeP h (fun _ => HS) HN 27 rfl (by kernel_rfl) (by kernel_rfl) (by kernel_rfl) (by decide) (by rw [g_want h rfl rfl rfl rfl hB20]; rfl) rfl (by decide) (fun w' => x_neqB h.k rfl Try.underlying4 rfl rfl) (fun a h => ?_)
                    refine d_takeP h (fun _ => HS) HN 28 rfl (by kernel_rfl) (by kernel_rfl) (by kernel_rfl) (by decide) rfl rfl (by decide) (fun w' => x_pick (v := .bool z335) (u' := undef) h.k rfl rfl (fun hh => absurd (hB20.symm.trans hh) (by decide)) (fun _ => by rw [← Option.some.inj hz336]; rfl)) (fun a h => ?_)
                    refine d_done (by kernel_rfl) (HE _ _ ?_) _
                    refine e_thenN ?_
                    have h := h.pick [0] (by decide) rfl
                    exact h.has (by exact ⟨rfl, rfl, rfl, rfl, trivial⟩)
              · refine d_takeP h (fun _ => HS) HN 7 rfl (by kernel_rfl) (by kernel_rfl) (by kernel_rfl) (by decide) (by rw [g_want h rfl rfl rfl rfl hB6]; rfl) rfl (by decide) (fun w' => x_move h.k _ rfl rfl) (fun a h => ?_)
                refine d_takeP h (fun _ => HS) HN 8 rfl (by kernel_rfl) (by kernel_rfl) (by kernel_rfl) (by decide) (by rw [g_want h rfl rfl rfl rfl hB6]; rfl) rfl (by decide) (fun w' => x_len h.k rfl Try.underlying22 rfl) (fun a h => ?_)
                refine d_takeP h (fun _ => HS) HN 9 rfl (by kernel_rfl) (by kernel_rfl) (by kernel_rfl) (by decide) (by rw [g_want h rfl rfl rfl rfl hB6]; rfl) rfl (by decide) (fun w' => x_move h.k _ rfl rfl) (fun a h => ?_)
                refine d_takeP h (fun _ => HS) HN 10 rfl (by kernel_rfl) (by kernel_rfl) (by kernel_rfl) (by decide) (by rw [g_want h rfl rfl rfl rfl hB6]; rfl) rfl (by decide) (fun w' => x_len h.k rfl Try.underlying22 rfl) (fun a h => ?_)
                refine d_takeP h (fun _ => HS) HN 11 rfl (by kernel_rfl) (by kernel_rfl) (by kernel_rfl) (by decide) (by rw [g_want h rfl rfl rfl rfl hB6]; rfl) rfl (by decide) (fun w' => x_bin h.k rfl rfl rfl ib_neq) (fun a h => ?_)
                refine d_takeP h (fun _ => HS) HN 12 rfl (by kernel_rfl) (by kernel_rfl) (by kernel_rfl) (by decide) rfl rfl (by decide) (fun w' => x_pick (v := .bool (((decide (x286.2 ≠ 0)) || (decide (x306.2 ≠ 0))) || (decide ((x286.1.length : Int) ≠ (a1.length : Int))))) (u' := undef) h.k rfl rfl (fun hh => absurd (hB6.symm.trans hh) (by decide)) (fun _ => by rw [hB6]; first | rfl | simp [ev, List.lookup])) (fun a h => ?_)
                refine d_takeP h (fun _ => HS) HN 13 rfl (by kernel_rfl) (by kernel_rfl) (by kernel_rfl) (by decide) rfl rfl (by decide) (fun w' => x_move h.k _ rfl rfl) (fun a h => ?_)
                refine d_split (t := 112) h rfl (fun hB13 => ?_) (fun hB13 => ?_)
                · rw [if_pos hB13] at hz321
                  refine d_takeNP h (fun _ => HS) HN 14 rfl (by kernel_rfl) (by kernel_rfl) (by kernel_rfl) (by decide) (by rw [g_want h rfl rfl rfl rfl hB13]; rfl) rfl (by decide) (fun a h => ?_)
                  refine d_takeNP h (fun _ => HS) HN 15 rfl (by kernel_rfl) (by kernel_rfl) (by kernel_rfl) (by decide) (by rw [g_want h rfl rfl rfl rfl hB13]; rfl) rfl (by decide) (fun a h => ?_)
                  refine d_takeNP h (fun _ => HS) HN 16 rfl (by kernel_rfl) (by kernel_rfl) (by kernel_rfl) (by decide) (by rw [g_want h rfl rfl rfl rfl hB13]; rfl) rfl (by decide) (fun a h => ?_)
                  refine d_takeNP h (fun _ => HS) HN 17 rfl (by kernel_rfl) (by kernel_rfl) (by kernel_rfl) (by decide) (by rw [g_want h rfl rfl rfl rfl hB13]; rfl) rfl (by decide) (fun a h => ?_)
                  refine d_takeNP h (fun _ => HS) HN 18 rfl (by kernel_rfl) (by kernel_rfl) (by kernel_rfl) (by decide) (by rw [g_want h rfl rfl rfl rfl hB13]; rfl) rfl (by decide) (fun a h => ?_)
                  refine d_takeP h (fun _ => HS) HN 19 rfl (by kernel_rfl) (by kernel_rfl) (by kernel_rfl) (by decide) rfl rfl (by decide) (fun w' => x_pick (v := .bool z320) (u' := undef) h.k rfl rfl (fun _ => by rw [← Option.some.inj hz321]; rfl) (fun hh => absurd (hB13.symm.trans hh) (by decide))) (fun a h => ?_)
                  refine d_takeP h (fun _ => HS) HN 20 rfl (by kernel_rfl) (by kernel_rfl) (by kernel_rfl) (by decide) rfl rfl (by decide) (fun w' => x_move h.k _ rfl rfl) (fun a h => ?_)
                  refine d_split (t := 119) h rfl (fun hB20 => ?_) (fun hB20 => ?_)
                  · rw [if_pos hB20] at hz336
                    refine d_takeNP h (fun _ => HS) HN 21 rfl (by kernel_rfl) (by kernel_rfl) (by kernel_rfl) (by decide) (by rw [g_want h rfl rfl rfl rfl hB20]; rfl) rfl (by decide) (fun a h => ?_)
                    refine d_takeNP h (fun _ => HS) HN 22 rfl (by kernel_rfl) (by kernel_rfl) (by kernel_rfl) (by decide) (by rw [g_want h rfl rfl rfl rfl hB20]; rfl) rfl (by decide) (fun a h => ?_)
                    refine d_takeNP h (fun _ => HS) HN 23 rfl (by kernel_rfl) (by kernel_rfl) (by kernel_rfl) (by decide) (by rw [g_want h rfl rfl rfl rfl hB20]; rfl) rfl (by decide) (fun a h => ?_)
                    refine d_takeNP h (fun _ => HS) HN 24 rfl (by kernel_rfl) (by kernel_rfl) (by kernel_rfl) (by decide) (by rw [g_want h rfl rfl rfl rfl hB20]; rfl) rfl (by decide) (fun a h => ?_)
                    refine d_takeNP h (fun _ => HS) HN 25 rfl (by kernel_rfl) (by kernel_rfl) (by kernel_rfl) (by decide) (by rw [g_want h rfl rfl rfl rfl hB20]; rfl) rfl (by decide) (fun a h => ?_)
                    refine d_takeNP h (fun _ => HS) HN 26 rfl (by kernel_rfl) (by kernel_rfl) (by kernel_rfl) (by decide) (by rw [g_want h rfl rfl rfl rfl hB20]; rfl) rfl (by decide) (fun a h => ?_)
                    refine d_takeNP h (fun _ => HS) HN 27 rfl (by kernel_rfl) (by kernel_rfl) (by kernel_rfl) (by decide) (by rw [g_want h rfl rfl rfl rfl hB20]; rfl) rfl (by decide) (fun a h => ?_)
                    refine d_takeP h (fun _ => HS) HN 28 rfl (by kernel_rfl) (by kernel_rfl) (by kernel_rfl) (by decide) rfl rfl (by decide) (fun w' => x_pick (v := .bool z335) (u' := undef) h.k rfl rfl (fun _ => by rw [← Option.some.inj hz336]; rfl) (fun hh => absurd (hB20.symm.trans hh) (by decide))) (fun a h => ?_)
                    refine d_done (by kernel_rfl) (HE _ _ ?_) _
                    refine e_thenN ?_
                    have h := h.pick [0] (by decide) rfl
                    exact h.has (by exact ⟨rfl, rfl, rfl, rfl, trivial⟩)
                  · rw [if_neg (by rw [hB20]; decide)] at hz336
                    obtain ⟨x337, h338, hz336⟩ := bsome hz336
                    obtain ⟨m340, h341, hz336⟩ := bsome hz336
                    obtain ⟨x344, h345, hz336⟩ := bsome hz336
                    refine d_takeP h (fun _ => HS) HN 21 rfl (by kernel_rfl) (by kernel_rfl) (by kernel_rfl) (by decide) (by rw [g_want h rfl rfl rfl rfl hB20]; rfl) rfl (by decide) (fun w' => x_move h.k _ rfl rfl) (fun a h => ?_)
                    refine d_takeP h (fun _ => HS) HN 22 rfl (by kernel_rfl) (by kernel_rfl) (by kernel_rfl) (by decide) (by rw [g_want h rfl rfl rfl rfl hB20]; rfl) rfl (by decide) (fun w' => x_move h.k _ rfl rfl) (fun a h => ?_)
                    obtain ⟨hi342, hm343⟩ := ix_some h341
                    refine d_takeP h (fun _ => HS) HN 24 rfl (by kernel_rfl) (by kernel_rfl) (by kernel_rfl) (by decide) (by rw [g_want h rfl rfl rfl rfl hB20]; rfl) rfl (by decide) (fun w' => x_iaddrA h.k rfl Try.underlying53 sz_uint8 rfl rfl hi342 hm343 rfl) (fun a h => ?_)
                    obtain ⟨u346, hv347, hu348⟩ := ((hs1.mono (((((le24.trans le32).trans le223).trans le283).trans le291).trans le311))).cell rfl h345
                    cases hu348
                    refine d_takeY h HS HN 25 rfl (by kernel_rfl) (by kernel_rfl) (by kernel_rfl) (by kernel_rfl) (by kernel_rfl) (by rw [g_want h rfl rfl rfl rfl hB20]; rfl) rfl (by decide) (fun w' hw => x_ld h.k rfl Try.underlying5 rfl rfl ((hw.cell (i := 1) rfl _).trans (by rw [Nat.zero_add, Nat.mul_one]; exact hv347))) (fun a h => ?_)
                    refine d_takeP h (fun _ => HS) HN 26 rfl (by kernel_rfl) (by kernel_rfl) (by kernel_rfl) (by decide) (by rw [g_want h rfl rfl rfl rfl hB20]; rfl) rfl (by decide) (fun w' => x_bin h.k rfl rfl rfl ib_eql) (fun a h => ?_)
                    refine d_alone 23 rfl (by kernel_rfl) (fun K hK => ?_)
                    refine g_yes (j := 20) (t := 119) h rfl rfl rfl rfl hB20 ?_
                    have hX := chatelaineref01_Same_ok Fu (S0 := snapAll _) A224 c225 x218.1 ((hs226.mono ((le283.trans le291).trans le311)).mono (h.m.leAll (i := 0) rfl)) A292 c293 x286.1 ((hs294.mono le311).mono (h.m.leAll (i := 0) rfl)) _ h338 _ h.startAll
                    refine q_callX hX h rfl rfl rfl (by decide) Try.func25 rfl rfl rfl (fun a w v L1 S1 hR hb1 h => ?_)
                    obtain ⟨rfl, rfl, _⟩ := hR
                    refine hK _ _ (fun _ _ => HS.ext hb1) ?_
                    replace HS := HS.ext hb1
                    clear hK
                    refine d_takeP h (fun _ => HS) HN 27 rfl (by kernel_rfl) (by kernel_rfl) (by kernel_rfl) (by decide) (by rw [g_want h rfl rfl rfl rfl hB20]; rfl) rfl (by decide) (fun w' => x_neqB h.k rfl Try.underlying4 rfl rfl) (fun a h => ?_)
                    refine d_takeP h (fun _ => HS) HN 28 rfl (by kernel_rfl) (by kernel_rfl) (by kernel_rfl) (by decide) rfl rfl (by decide) (fun w' => x_pick (v := .bool z335) (u' := undef) h.k rfl rfl (fun hh => absurd (hB20.symm.trans hh) (by decide)) (fun _ => by rw [← Option.some.inj hz336]; rfl)) (fun a h => ?_)
                    refine d_done (by kernel_rfl) (HE _ _ ?_) _
                    refine e_thenN ?_
                    have h := h.pick [0] (by decide) rfl
                    exact h.has (by exact ⟨rfl, rfl, rfl, rfl, trivial⟩)
                · rw [if_neg (by rw [hB13]; decide)] at hz321
                  obtain ⟨x322, h323, hz321⟩ := bsome hz321
                  obtain ⟨x332, h333, hz321⟩ := bsome hz321
                  refine d_takeP h (fun _ => HS) HN 14 rfl (by kernel_rfl) (by kernel_rfl) (by kernel_rfl) (by decide) (by rw [g_want h rfl rfl rfl rfl hB13]; rfl) rfl (by decide) (fun w' => x_move h.k _ rfl rfl) (fun a h => ?_)
                  refine d_takeP h (fun _ => HS) HN 15 rfl (by kernel_rfl) (by kernel_rfl) (by kernel_rfl) (by decide) (by rw [g_want h rfl rfl rfl rfl hB13]; rfl) rfl (by decide) (fun w' => x_move h.k _ rfl rfl) (fun a h => ?_)
                  obtain ⟨m324, n325, hi326, hi327, hm328, hm329, hr330⟩ := sub_some h323
                  have hs331 := slS.sub ((hs226.mono ((le283.trans le291).trans le311))) hm328 hm329 (Nat.le_trans hm329 ((hs226.mono ((le283.trans le291).trans le311))).1) (Nat.le_refl _) hr330
                  refine d_takeP h (fun _ => HS) HN 16 rfl (by kernel_rfl) (by kernel_rfl) (by kernel_rfl) (by decide) (by rw [g_want h rfl rfl rfl rfl hB13]; rfl) rfl (by decide) (fun w' => x_sliceE h.k rfl Try.underlying22 sz_uint8 rfl c225 hr330 (bd_none (by omega)) (bd_some rfl hi327) (bd_none rfl) (by intro hh; cases hh) hm328 hm329 (Nat.le_trans hm329 ((hs226.mono ((le283.trans le291).trans le311))).1) (Nat.le_refl _)) (fun a h => ?_)
                  refine d_alone 17 rfl (by kernel_rfl) (fun K hK => ?_)
                  refine g_yes (j := 13) (t := 112) h rfl rfl rfl rfl hB13 ?_
                  have hX := chatelaineref01_Same_ok Fu (S0 := snapAll _) A312 c313 x306.1 (hs314.mono (h.m.leAll (i := 0) rfl)) (sA A224 c225 m324 1) (c225 - m324) x322 (hs331.mono (h.m.leAll (i := 0) rfl)) _ h333 _ h.startAll
                  refine q_callX hX h rfl rfl rfl (by decide) Try.func25 rfl rfl rfl (fun a w v L1 S1 hR hb1 h => ?_)
                  obtain ⟨rfl, rfl, _⟩ := hR
                  refine hK _ _ (fun _ _ => HS.ext hb1) ?_
                  replace HS := HS.ext hb1
                  clear hK
                  refine d_takeP h (fun _ => HS) HN 18 rfl (by kernel_rfl) (by kernel_rfl) (by kernel_rfl) (by decide) (by rw [g_want h rfl rfl rfl rfl hB13]; rfl) rfl (by decide) (fun w' => x_not h.k rfl rfl) (fun a h => ?_)
                  refine d_takeP h (fun _ => HS) HN 19 rfl (by kernel_rfl) (by kernel_rfl) (by kernel_rfl) (by decide) rfl rfl (by decide) (fun w' => x_pick (v := .bool z320) (u' := undef) h.k rfl rfl (fun hh => absurd (hB13.symm.trans hh) (by decide)) (fun _ => by rw [← Option.some.inj hz321]; rfl)) (fun a h => ?_)
                  refine d_takeP h (fun _ => HS) HN 20 rfl (by kernel_rfl) (by kernel_rfl) (by kernel_rfl) (by decide) rfl rfl (by decide) (fun w' => x_move h.k _ rfl rfl) (fun a h => ?_)
                  refine d_split (t := 119) h rfl (fun hB20 => ?_) (fun hB20 => ?_)
                  · rw [if_pos hB20] at hz336
                    refine d_takeNP h (fun _ => HS) HN 21 rfl (by kernel_rfl) (by kernel_rfl) (by kernel_rfl) (by decide) (by rw [g_want h rfl rfl rfl rfl hB20]; rfl) rfl (by decide) (fun a h => ?_)
                    refine d_takeNP h (fun _ => HS) HN 22 rfl (by kernel_rfl) (by kernel_rfl) (by kernel_rfl) (by decide) (by rw [g_want h rfl rfl rfl rfl hB20]; rfl) rfl (by decide) (fun a h => ?_)
                    refine d_takeNP h (fun _ => HS) HN 23 rfl (by kernel_rfl) (by kernel_rfl) (by kernel_rfl) (by decide) (by rw [g_want h rfl rfl rfl rfl hB20]; rfl) rfl (by decide) (fun a h => ?_)
                    refine d_takeNP h (fun _ => HS) HN 24 rfl (by kernel_rfl) (by kernel_rfl) (by kernel_rfl) (by decide) (by rw [g_want h rfl rfl rfl rfl hB20]; rfl) rfl (by decide) (fun a h => ?_)
                    refine d_takeNP h (fun _ => HS) HN 25 rfl (by kernel_rfl) (by kernel_rfl) (by kernel_rfl) (by decide) (by rw [g_want h rfl rfl rfl rfl hB20]; rfl) rfl (by decide) (fun a h => ?_)
                    refine d_takeNP h (fun _ => HS) HN 26 rfl (by kernel_rfl) (by kernel_rfl) (by kernel_rfl) (by decide) (by rw [g_want h rfl rfl rfl rfl hB20]; rfl) rfl (by decide) (fun a h => ?_)
                    refine d_takeNP h (fun _ => HS) HN 27 rfl (by kernel_rfl) (by kernel_rfl) (by kernel_rfl) (by decide) (by rw [g_want h rfl rfl rfl rfl hB20]; rfl) rfl (by decide) (fun a h => ?_)
                    refine d_takeP h (fun _ => HS) HN 28 rfl (by kernel_rfl) (by kernel_rfl) (by kernel_rfl) (by decide) rfl rfl (by decide) (fun w' => x_pick (v := .bool z335) (u' := undef) h.k rfl rfl (fun _ => by rw [← Option.some.inj hz336]; rfl) (fun hh => absurd (hB20.symm.trans hh) (by decide))) (fun a h => ?_)
                    refine d_done (by kernel_rfl) (HE _ _ ?_) _
                    refine e_thenN ?_
                    have h := h.pick [0] (by decide) rfl
                    exact h.has (by exact ⟨rfl, rfl, rfl, rfl, trivial⟩)
                  · rw [if_neg (by rw [hB20]; decide)] at hz336
                    obtain ⟨x337, h338, hz336⟩ := bsome hz336
                    obtain ⟨m340, h341, hz336⟩ := bsome hz336
                    obtain ⟨x344, h345, hz336⟩ := bsome hz336
                    refine d_takeP h (fun _ => HS) HN 21 rfl (by kernel_rfl) (by kernel_rfl) (by kernel_rfl) (by decide) (by rw [g_want h rfl rfl rfl rfl hB20]; rfl) rfl (by decide) (fun w' => x_move h.k _ rfl rfl) (fun a h => ?_)
                    refine d_takeP h (fun _ => HS) HN 22 rfl (by kernel_rfl) (by kernel_rfl) (by kernel_rfl) (by decide) (by rw [g_want h rfl rfl rfl rfl hB20]; rfl) rfl (by decide) (fun w' => x_move h.k _ rfl rfl) (fun a h => ?_)
                    obtain ⟨hi342, hm343⟩ := ix_some h341
                    refine d_takeP h (fun _ => HS) HN 24 rfl (by kernel_rfl) (by kernel_rfl) (by kernel_rfl) (by decide) (by rw [g_want h rfl rfl rfl rfl hB20]; rfl) rfl (by decide) (fun w' => x_iaddrA h.k rfl Try.underlying53 sz_uint8 rfl rfl hi342 hm343 rfl) (fun a h => ?_)
                    obtain ⟨u346, hv347, hu348⟩ := ((hs1.mono (((((le24.trans le32).trans le223).trans le283).trans le291).trans le311))).cell rfl h345
                    cases hu348
                    refine d_takeY h HS HN 25 rfl (by kernel_rfl) (by kernel_rfl) (by kernel_rfl) (by kernel_rfl) (by kernel_rfl) (by rw [g_want h rfl rfl rfl rfl hB20]; rfl) rfl (by decide) (fun w' hw => x_ld h.k rfl Try.underlying5 rfl rfl ((hw.cell (i := 1) rfl _).trans (by rw [Nat.zero_add, Nat.mul_one]; exact hv347))) (fun a h => ?_)
                    refine d_takeP h (fun _ => HS) HN 26 rfl (by kernel_rfl) (by kernel_rfl) (by kernel_rfl) (by decide) (by rw [g_want h rfl rfl rfl rfl hB20]; rfl) rfl (by decide) (fun w' => x_bin h.k rfl rfl rfl ib_eql) (fun a h => ?_)
                    refine d_alone 23 rfl (by kernel_rfl) (fun K hK => ?_)
                    refine g_yes (j := 20) (t := 119) h rfl rfl rfl rfl hB20 ?_
                    have hX := chatelaineref01_Same_ok Fu (S0 := snapAll _) A224 c225 x218.1 ((hs226.mono ((le283.trans le291).trans le311)).mono (h.m.leAll (i := 0) rfl)) A292 c293 x286.1 ((hs294.mono le311).mono (h.m.leAll (i := 0) rfl)) _ h338 _ h.startAll
                    refine q_callX hX h rfl rfl rfl (by decide) Try.func25 rfl rfl rfl (fun a w v L1 S1 hR hb1 h => ?_)
                    obtain ⟨rfl, rfl, _⟩ := hR
                    refine hK _ _ (fun _ _ => HS.ext hb1) ?_
                    replace HS := HS.ext hb1
                    clear hK
                    refine d_takeP h (fun _ => HS) HN 27 rfl (by kernel_rfl) (by kernel_rfl) (by kernel_rfl) (by decide) (by rw [g_want h rfl rfl rfl rfl hB20]; rfl) rfl (by decide) (fun w' => x_neqB h.k rfl Try.underlying4 rfl rfl) (fun a h => ?_)
                    refine d_takeP h (fun _ => HS) HN 28 rfl (by kernel_rfl) (by kernel_rfl) (by kernel_rfl) (by decide) rfl rfl (by decide) (fun w' => x_pick (v := .bool z335) (u' := undef) h.k rfl rfl (fun hh => absurd (hB20.symm.trans hh) (by decide)) (fun _ => by rw [← Option.some.inj hz336]; rfl)) (fun a h => ?_)
                    refine d_done (by kernel_rfl) (HE _ _ ?_) _
                    refine e_thenN ?_
                    have h := h.pick [0] (by decide) rfl
                    exact h.has (by exact ⟨rfl, rfl, rfl, rfl, trivial⟩)
          refine e_thenN ?_
          refine c_cond h rfl (fun hb => ?_) (fun hb => ?_)
          · rw [if_pos hb] at hf
            refine c_rs ?_ -- region 15
            refine s_assign h rfl _ rfl rfl (by decide) rfl (fun a h => ?_)
            refine l_end ?_
            refine wp_ret ?_
            refine e_thenR ?_
            rw [← Option.some.inj hf]
            exact r_ret1 h rfl (rv_tmp h rfl) ⟨_, [], _, rfl, ⟨rfl, rfl, trivial⟩, rfl, up310, h.m⟩
          · rw [if_neg (by rw [hb]; decide)] at hf
            refine wp_skip ?_
            refine e_thenN ?_
            refine c_rs ?_ -- region 16
            refine s_move h rfl _ rfl rfl (by decide) rfl (fun a h => ?_)
            refine s_x h rfl rfl (by decide) (x_bin h.k rfl rfl rfl (ib_quow (by decide))) (fun a h => ?_)
            refine s_x h rfl rfl (by decide) (x_bin h.k rfl rfl rfl (ib_mul rfl)) (fun a h => ?_)
            refine s_assign h rfl _ rfl rfl (by decide) rfl (fun a h => ?_)
            refine l_end ?_
            refine wp_seq ?_
            -- region 17 draws
            obtain ⟨x349, h350, hf⟩ := bsome hf
            obtain ⟨x359, h360, hf⟩ := bsome hf
            obtain ⟨x369, h370, hf⟩ := bsome hf
            obtain ⟨z372, hz373, hf⟩ := bsome hf
            refine c_fin (fun a w => St 149 w0 (ownL ([] ++ [.sn S0])) [(6, .bool z372)] [.sn S309] a w) ?_ (fun a w h => ?_)
            · refine d_start h (Mem _ _ _) 19 19 rfl (by kernel_rfl) (fun _ _ _ _ _ h => h) (fun _ h => h) (fun Q a w HE HN h HS => ?_)
              refine d_takeP h (fun _ => HS) HN 0 rfl (by kernel_rfl) (by kernel_rfl) (by kernel_rfl) (by decide) rfl rfl (by decide) (fun w' => x_move h.k _ rfl rfl) (fun a h => ?_)
              refine d_takeP h (fun _ => HS) HN 1 rfl (by kernel_rfl) (by kernel_rfl) (by kernel_rfl) (by decide) rfl rfl (by decide) (fun w' => x_move h.k _ rfl rfl) (fun a h => ?_)
              obtain ⟨m351, n352, hi353, hi354, hm355, hm356, hr357⟩ := sub_some h350
              have hs358 := slS.sub ((hs226.mono ((le283.trans le291).trans le311))) hm355 hm356 (Nat.le_trans hm356 ((hs226.mono ((le283.trans le291).trans le311))).1) (Nat.le_refl _) hr357
              refine d_takeP h (fun _ => HS) HN 2 rfl (by kernel_rfl) (by kernel_rfl) (by kernel_rfl) (by decide) rfl rfl (by decide) (fun w' => x_sliceE h.k rfl Try.underlying22 sz_uint8 rfl c225 hr357 (bd_none (by omega)) (bd_some rfl hi354) (bd_none rfl) (by intro hh; cases hh) hm355 hm356 (Nat.le_trans hm356 ((hs226.mono ((le283.trans le291).trans le311))).1) (Nat.le_refl _)) (fun a h => ?_)
              refine d_takeP h (fun _ => HS) HN 3 rfl (by kernel_rfl) (by kernel_rfl) (by kernel_rfl) (by decide) rfl rfl (by decide) (fun w' => x_move h.k _ rfl rfl) (fun a h => ?_)
              refine d_takeP h (fun _ => HS) HN 4 rfl (by kernel_rfl) (by kernel_rfl) (by kernel_rfl) (by decide) rfl rfl (by decide) (fun w' => x_move h.k _ rfl rfl) (fun a h => ?_)
              obtain ⟨m361, n362, hi363, hi364, hm365, hm366, hr367⟩ := sub_some h360
              have hs368 := slS.sub ((hs294.mono le311)) hm365 hm366 (Nat.le_trans hm366 ((hs294.mono le311)).1) (Nat.le_refl _) hr367
              refine d_takeP h (fun _ => HS) HN 5 rfl (by kernel_rfl) (by kernel_rfl) (by kernel_rfl) (by decide) rfl rfl (by decide) (fun w' => x_sliceE h.k rfl Try.underlying22 sz_uint8 rfl c293 hr367 (bd_none (by omega)) (bd_some rfl hi364) (bd_none rfl) (by intro hh; cases hh) hm365 hm366 (Nat.le_trans hm366 ((hs294.mono le311)).1) (Nat.le_refl _)) (fun a h => ?_)
              refine d_alone 6 rfl (by kernel_rfl) (fun K hK => ?_)
              have hX := chatelaineref01_Same_ok Fu (S0 := snapAll _) (sA A224 c225 m351 1) (c225 - m351) x349 (hs358.mono (h.m.leAll (i := 0) rfl)) (sA A292 c293 m361 1) (c293 - m361) x359 (hs368.mono (h.m.leAll (i := 0) rfl)) _ h370 _ h.startAll
              refine q_callX hX h rfl rfl rfl (by decide) Try.func25 rfl rfl rfl (fun a w v L1 S1 hR hb1 h => ?_)
              obtain ⟨rfl, rfl, _⟩ := hR
              refine hK _ _ (fun _ _ => HS.ext hb1) ?_
              replace HS := HS.ext hb1
              clear hK
              refine d_takeP h (fun _ => HS) HN 7 rfl (by kernel_rfl) (by kernel_rfl) (by kernel_rfl) (by decide) rfl rfl (by decide) (fun w' => x_move h.k _ rfl rfl) (fun a h => ?_)
              refine d_split (t := 138) h rfl (fun hB7 => ?_) (fun hB7 => ?_)
              · rw [if_pos hB7] at hz373
                obtain ⟨x374, h375, hz373⟩ := bsome hz373
                obtain ⟨x384, h385, hz373⟩ := bsome hz373
                obtain ⟨x394, h395, hz373⟩ := bsome hz373
                refine d_takeP h (fun _ => HS) HN 8 rfl (by kernel_rfl) (by kernel_rfl) (by kernel_rfl) (by decide) (by rw [g_want h rfl rfl rfl rfl hB7]; rfl) rfl (by decide) (fun w' => x_move h.k _ rfl rfl) (fun a h => ?_)
                refine d_takeP h (fun _ => HS) HN 9 rfl (by kernel_rfl) (by kernel_rfl) (by kernel_rfl) (by decide) (by rw [g_want h rfl rfl rfl rfl hB7]; rfl) rfl (by decide) (fun w' => x_move h.k _ rfl rfl) (fun a h => ?_)
                refine d_takeP h (fun _ => HS) HN 10 rfl (by kernel_rfl) (by kernel_rfl) (by kernel_rfl) (by decide) (by rw [g_want h rfl rfl rfl rfl hB7]; rfl) rfl (by decide) (fun w' => x_bin h.k rfl rfl rfl (ib_add rfl)) (fun a h => ?_)
                obtain ⟨m376, n377, hi378, hi379, hm380, hm381, hr382⟩ := sub_some h375
                have hs383 := slS.sub ((hs226.mono ((le283.trans le291).trans le311))) hm380 hm381 (Nat.le_trans hm381 ((hs226.mono ((le283.trans le291).trans le311))).1) (Nat.le_refl _) hr382
                refine d_takeP h (fun _ => HS) HN 11 rfl (by kernel_rfl) (by kernel_rfl) (by kernel_rfl) (by decide) (by rw [g_want h rfl rfl rfl rfl hB7]; rfl) rfl (by decide) (fun w' => x_sliceE h.k rfl Try.underlying22 sz_uint8 rfl c225 hr382 (bd_some rfl hi378) (bd_none (by omega)) (bd_none rfl) (by intro _; rfl) hm380 hm381 (Nat.le_trans hm381 ((hs226.mono ((le283.trans le291).trans le311))).1) (Nat.le_refl _)) (fun a h => ?_)
                refine d_takeP h (fun _ => HS) HN 12 rfl (by kernel_rfl) (by kernel_rfl) (by kernel_rfl) (by decide) (by rw [g_want h rfl rfl rfl rfl hB7]; rfl) rfl (by decide) (fun w' => x_move h.k _ rfl rfl) (fun a h => ?_)
                refine d_takeP h (fun _ => HS) HN 13 rfl (by kernel_rfl) (by kernel_rfl) (by kernel_rfl) (by decide) (by rw [g_want h rfl rfl rfl rfl hB7]; rfl) rfl (by decide) (fun w' => x_move h.k _ rfl rfl) (fun a h => ?_)
                refine d_takeP h (fun _ => HS) HN 14 rfl (by kernel_rfl) (by kernel_rfl) (by kernel_rfl) (by decide) (by rw [g_want h rfl rfl rfl rfl hB7]; rfl) rfl (by decide) (fun w' => x_bin h.k rfl rfl rfl (ib_add rfl)) (fun a h => ?_)
                obtain ⟨m386, n387, hi388, hi389, hm390, hm391, hr392⟩ := sub_some h385
                have hs393 := slS.sub ((hs294.mono le311)) hm390 hm391 (Nat.le_trans hm391 ((hs294.mono le311)).1) (Nat.le_refl _) hr392
                refine d_takeP h (fun _ => HS) HN 15 rfl (by kernel_rfl) (by kernel_rfl) (by kernel_rfl) (by decide) (by rw [g_want h rfl rfl rfl rfl hB7]; rfl) rfl (by decide) (fun w' => x_sliceE h.k rfl Try.underlying22 sz_uint8 rfl c293 hr392 (bd_some rfl hi388) (bd_none (by omega)) (bd_none rfl) (by intro _; rfl) hm390 hm391 (Nat.le_trans hm391 ((hs294.mono le311)).1) (Nat.le_refl _)) (fun a h => ?_)
                refine d_alone 16 rfl (by kernel_rfl) (fun K hK => ?_)
                refine g_yes (j := 7) (t := 138) h rfl rfl rfl rfl hB7 ?_
                have hX := chatelaineref01_Same_ok Fu (S0 := snapAll _) (sA A224 c225 m376 1) (c225 - m376) x374 (hs383.mono (h.m.leAll (i := 0) rfl)) (sA A292 c293 m386 1) (c293 - m386) x384 (hs393.mono (h.m.leAll (i := 0) rfl)) _ h395 _ h.startAll
                refine q_callX hX h rfl rfl rfl (by decide) Try.func25 rfl rfl rfl (fun a w v L1 S1 hR hb1 h => ?_)
                obtain ⟨rfl, rfl, _⟩ := hR
                refine hK _ _ (fun _ _ => HS.ext hb1) ?_
                replace HS := HS.ext hb1
                clear hK
                refine d_takeP h (fun _ => HS) HN 17 rfl (by kernel_rfl) (by kernel_rfl) (by kernel_rfl) (by decide) rfl rfl (by decide) (fun w' => x_pick (v := .bool z372) (u' := undef) h.k rfl rfl (fun _ => by rw [← Option.some.inj hz373]; rfl) (fun hh => absurd (hB7.symm.trans hh) (by decide))) (fun a h => ?_)
                refine d_takeP h (fun _ => HS) HN 18 rfl (by kernel_rfl) (by kernel_rfl) (by kernel_rfl) (by decide) rfl rfl (by decide) (fun w' => x_assign h.k _ rfl rfl) (fun a h => ?_)
                refine d_done (by kernel_rfl) (HE _ _ ?_) _
                refine e_thenN ?_
                exact h.has (by exact ⟨rfl, trivial⟩)
              · rw [if_neg (by rw [hB7]; decide)] at hz373
                refine d_takeNP h (fun _ => HS) HN 8 rfl (by kernel_rfl) (by kernel_rfl) (by kernel_rfl) (by decide) (by rw [g_want h rfl rfl rfl rfl hB7]; rfl) rfl (by decide) (fun a h => ?_)
                refine d_takeNP h (fun _ => HS) HN 9 rfl (by kernel_rfl) (by kernel_rfl) (by kernel_rfl) (by decide) (by rw [g_want h rfl rfl rfl rfl hB7]; rfl) rfl (by decide) (fun a h => ?_)
                refine d_takeNP h (fun _ => HS) HN 10 rfl (by kernel_rfl) (by kernel_rfl) (by kernel_rfl) (by decide) (by rw [g_want h rfl rfl rfl rfl hB7]; rfl) rfl (by decide) (fun a h => ?_)
                refine d_takeNP h (fun _ => HS) HN 11 rfl (by kernel_rfl) (by kernel_rfl) (by kernel_rfl) (by decide) (by rw [g_want h rfl rfl rfl rfl hB7]; rfl) rfl (by decide) (fun a h => ?_)
                refine d_takeNP h (fun _ => HS) HN 12 rfl (by kernel_rfl) (by kernel_rfl) (by kernel_rfl) (by decide) (by rw [g_want h rfl rfl rfl rfl hB7]; rfl) rfl (by decide) (fun a h => ?_)
                refine d_takeNP h (fun _ => HS) HN 13 rfl (by kernel_rfl) (by kernel_rfl) (by kernel_rfl) (by decide) (by rw [g_want h rfl rfl rfl rfl hB7]; rfl) rfl (by decide) (fun a h => ?_)
                refine d_takeNP h (fun _ => HS) HN 14 rfl (by kernel_rfl) (by kernel_rfl) (by kernel_rfl) (by decide) (by rw [g_want h rfl rfl rfl rfl hB7]; rfl) rfl (by decide) (fun a h => ?_)
                refine d_takeNP h (fun _ => HS) HN 15 rfl (by kernel_rfl) (by kernel_rfl) (by kernel_rfl) (by decide) (by rw [g_want h rfl rfl rfl rfl hB7]; rfl) rfl (by decide) (fun a h => ?_)
                refine d_takeNP h (fun _ => HS) HN 16 rfl (by kernel_rfl) (by kernel_rfl) (by kernel_rfl) (by decide) (by rw [g_want h rfl rfl rfl rfl hB7]; rfl) rfl (by decide) (fun a h => ?_)
                refine d_takeP h (fun _ => HS) HN 17 rfl (by kernel_rfl) (by kernel_rfl) (by kernel_rfl) (by decide) rfl rfl (by decide) (fun w' => x_pick (v := .bool z372) (u' := undef) h.k rfl rfl (fun hh => absurd (hB7.symm.trans hh) (by decide)) (fun _ => by rw [← Option.some.inj hz373]; rfl)) (fun a h => ?_)
                refine d_takeP h (fun _ => HS) HN 18 rfl (by kernel_rfl) (by kernel_rfl) (by kernel_rfl) (by decide) rfl rfl (by decide) (fun w' => x_assign h.k _ rfl rfl) (fun a h => ?_)
                refine d_done (by kernel_rfl) (HE _ _ ?_) _
                refine e_thenN ?_
                exact h.has (by exact ⟨rfl, trivial⟩)
            refine e_thenN ?_
            refine wp_ret ?_
            rw [← Option.some.inj hf]
            exact r_ret1 h rfl (rv_tmp h rfl) ⟨_, [], _, rfl, ⟨rfl, rfl, trivial⟩, rfl, up310, h.m⟩
end Go.Proofs.Ytoimllmmlbehgaa
