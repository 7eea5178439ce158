/- Al: Go functions as plain functions, and that they are so (written by xt.py). -/
import Derived.Test.YtoimllmmlbehgaaAe
import Derived.Test.YtoimllmmlbehgaaAr
set_option linter.unusedVariables false
set_option linter.unusedSimpArgs false
namespace Go.Proofs.Ytoimllmmlbehgaa
open Go.RowKit
def chatelainelaw04_awake_l0 (Fu : Nat) : Nat → Int → (List UInt8) → (List UInt8) → Option ((List UInt8) × (List UInt8))
  | 0, _, _, _ => none
  | k + 1, x5, x7, x11 => if x5 < 16 then ((ix 16 x5).bind fun m25 => (ix 16 x5).bind fun m32 => chatelainelaw04_awake_l0 Fu k (w64 (x5 + 1)) (x7.set m25 (i8 x5)) (x11.set m32 (i8 (w64 (17 * x5))))) else (some (x7, x11))
def chatelainelaw04_awake (Fu : Nat) : Option Bool :=
  (chatelainelaw04_awake_l0 Fu Fu 0 (List.replicate 16 ((0 : UInt8) : UInt8)) (List.replicate 16 ((0 : UInt8) : UInt8))).bind fun (x15, x19) => (bnd 16 0 (16 : Int)).bind fun y39 => (aes_New Fu ((x15.take y39.2).drop y39.1)).bind fun x54 => (match x54 with | .inl x60 => (if x60 ≠ 0 then (some false) else ((aes_Cipher_Encrypt_nil0 Fu x19).bind fun x62 => (ix 16 0).bind fun m71 => (x62[m71]?).bind fun x75 => (if (x75.toNat : Int) = 105 then (ix 16 1).bind fun m83 => (x62[m83]?).bind fun x87 => some (decide ((x87.toNat : Int) = 196)) else some false).bind fun z81 => (if z81 = true then (ix 16 2).bind fun m95 => (x62[m95]?).bind fun x99 => some (decide ((x99.toNat : Int) = 224)) else some false).bind fun z93 => (if z93 = true then (ix 16 3).bind fun m107 => (x62[m107]?).bind fun x111 => some (decide ((x111.toNat : Int) = 216)) else some false).bind fun z105 => some z105)) | .inr x116 => (if x116.2 ≠ 0 then (some false) else ((aes_Cipher_Encrypt Fu x116.1 x19).bind fun x120 => (ix 16 0).bind fun m129 => (x120[m129]?).bind fun x133 => (if (x133.toNat : Int) = 105 then (ix 16 1).bind fun m141 => (x120[m141]?).bind fun x145 => some (decide ((x145.toNat : Int) = 196)) else some false).bind fun z139 => (if z139 = true then (ix 16 2).bind fun m153 => (x120[m153]?).bind fun x157 => some (decide ((x157.toNat : Int) = 224)) else some false).bind fun z151 => (if z151 = true then (ix 16 3).bind fun m165 => (x120[m165]?).bind fun x169 => some (decide ((x169.toNat : Int) = 216)) else some false).bind fun z163 => some z163)))
set_option maxRecDepth 100000 in
set_option maxHeartbeats 2000000 in
theorem chatelainelaw04_awake_ok (Fu : Nat) {S0 : Snap}  (r : Bool) (hf : chatelainelaw04_awake Fu = some r) (w0 : World) (hm : Mem w0 (ownL ([] ++ [.sn S0])) ([] ++ [.sn S0]) w0) :
    Calls Try.prog 13 #[] w0 (Ret w0 S0 [] (fun v L1 S1 => v = .bool r ∧ L1 = [] ∧ True)) := by
  unfold chatelainelaw04_awake at hf
  refine c_enterM Try.func13 rfl 48 rfl (by simp) _ hm _ rfl (fun a h => ?_)
  refine c_rs ?_ -- region 0
  refine s_assign h rfl _ rfl rfl (by decide) rfl (fun a h => ?_)
  refine l_end ?_
  refine c_rs ?_ -- region 1
  refine s_alloc h rfl rfl rfl (by decide) zi_A16_uint8 rfl (fun a w g1 h => ?_)
  refine s_alloc h rfl rfl rfl (by decide) zi_A16_uint8 rfl (fun a w g2 h => ?_)
  refine l_end ?_
  refine wp_seq ?_
  refine c_rs ?_ -- region 2
  refine s_move h rfl _ rfl rfl (by decide) rfl (fun a h => ?_)
  refine l_end ?_
  obtain ⟨o3, hl4, hf⟩ := bsome hf
  refine c_fin (fun a w => ∃ (x15 : List UInt8), ∃ (k16 : List Value), ∃ (x19 : List UInt8), ∃ (k20 : List Value), (x15, x19) = o3 ∧ reps ty8 S0 k16 x15 ∧ x15.length = 16 ∧ reps ty8 S0 k20 x19 ∧ x19.length = 16 ∧ St 48 w0 (ownL ([] ++ [.sn S0])) [(1, .pointer (some ⟨g1, 0, none⟩)), (2, .pointer (some ⟨g2, 0, none⟩))] [.box g1 23 k16, .box g2 23 k20, .sn S0] a w) ?_ ?_
  · refine wp_block ?_
    have h := h.pick [1, 0, 2] (by decide) rfl
    refine c_loop (fun m24 a w => ∃ (x5 : Int), ∃ (x7 : List UInt8), ∃ (k8 : List Value), ∃ (x11 : List UInt8), ∃ (k12 : List Value), chatelainelaw04_awake_l0 Fu m24 x5 x7 x11 = some o3 ∧ r64 x5 ∧ reps ty8 S0 k8 x7 ∧ x7.length = 16 ∧ reps ty8 S0 k12 x11 ∧ x11.length = 16 ∧ St 48 w0 (ownL ([] ++ [.sn S0])) [(1, .pointer (some ⟨g1, 0, none⟩)), (2, .pointer (some ⟨g2, 0, none⟩)), (7, .int .i64 x5)] [.box g1 23 k8, .box g2 23 k12, .sn S0] a w) Fu ⟨0, (List.replicate 16 ((0 : UInt8) : UInt8)), (List.replicate 16 (.int .u8 0)), (List.replicate 16 ((0 : UInt8) : UInt8)), (List.replicate 16 (.int .u8 0)), hl4, (show r64 0 from ⟨by decide, by decide⟩), (repsRep1 (T := ty8) (S := S0) (x := ((0 : UInt8) : UInt8)) rfl), (by simp), (repsRep1 (T := ty8) (S := S0) (x := ((0 : UInt8) : UInt8)) rfl), (by simp), h.has (by exact ⟨rfl, rfl, rfl, trivial⟩)⟩ (fun m24 a w hI => ?_)
    obtain ⟨x5, x7, k8, x11, k12, hl23, hr6, hs9, hl10, hs13, hl14, h⟩ := hI
    obtain _ | m24 := m24
    · rw [chatelainelaw04_awake_l0] at hl23; cases hl23
    rw [chatelainelaw04_awake_l0] at hl23
    refine c_rs ?_ -- region 3
    refine s_x h rfl rfl (by decide) (x_bin h.k rfl rfl rfl ib_lss) (fun a h => ?_)
    refine l_end ?_
    refine c_cs h rfl (fun hb => ?_) (fun hb => ?_)
    · rw [if_pos (of_decide_eq_true hb)] at hl23
      refine wp_skip ?_
      refine e_thenN ?_
      refine wp_seq ?_
      refine wp_block ?_
      refine c_rs ?_ -- region 4
      refine s_move h rfl _ rfl rfl (by decide) rfl (fun a h => ?_)
      refine s_assign h rfl _ rfl rfl (by decide) rfl (fun a h => ?_)
      refine l_end ?_
      refine c_rs ?_ -- region 5
      refine s_move h rfl _ rfl rfl (by decide) rfl (fun a h => ?_)
      refine s_move h rfl _ rfl rfl (by decide) rfl (fun a h => ?_)
      refine s_x h rfl rfl (by decide) (x_convE h.k rfl Try.underlying3 Try.underlying5 rfl (i8_wrap _).symm) (fun a h => ?_)
      obtain ⟨m25, h26, hl23⟩ := bsome hl23
      obtain ⟨hi27, hm28⟩ := ix_some h26
      refine s_x h rfl rfl (by decide) (x_iaddrA h.k rfl Try.underlying23 sz_uint8 rfl rfl hi27 hm28 rfl) (fun a h => ?_)
      refine q_setBox (T := ty8) (q := i8 x5) h rfl rfl rfl sz_uint8 rfl rfl 0 rfl rfl hs9 rfl (by first | omega | (simp_all; done)) (fun a w cs29 hq30 h => ?_)
      have hl31 : (x7.set m25 (i8 x5)).length = 16 := by rw [List.length_set]; exact hl10
      refine l_end ?_
      refine c_r ?_ -- region 6
      refine s_move h rfl _ rfl rfl (by decide) rfl (fun a h => ?_)
      refine s_move h rfl _ rfl rfl (by decide) rfl (fun a h => ?_)
      refine s_x h rfl rfl (by decide) (x_bin h.k rfl rfl rfl (ib_mul rfl)) (fun a h => ?_)
      refine s_x h rfl rfl (by decide) (x_convE h.k rfl Try.underlying3 Try.underlying5 rfl (i8_wrap _).symm) (fun a h => ?_)
      obtain ⟨m32, h33, hl23⟩ := bsome hl23
      obtain ⟨hi34, hm35⟩ := ix_some h33
      refine s_x h rfl rfl (by decide) (x_iaddrA h.k rfl Try.underlying23 sz_uint8 rfl rfl hi34 hm35 rfl) (fun a h => ?_)
      refine q_setBox (T := ty8) (q := i8 (w64 (17 * x5))) h rfl rfl rfl sz_uint8 rfl rfl 1 rfl rfl hs13 rfl (by first | omega | (simp_all; done)) (fun a w cs36 hq37 h => ?_)
      have hl38 : (x11.set m32 (i8 (w64 (17 * x5)))).length = 16 := by rw [List.length_set]; exact hl14
      refine l_nil ?_
      refine e_blkN ?_
      refine e_thenN ?_
      refine c_r ?_ -- region 7
      refine s_x h rfl rfl (by decide) (x_bin h.k rfl rfl rfl (ib_add rfl)) (fun a h => ?_)
      refine s_move h rfl _ rfl rfl (by decide) rfl (fun a h => ?_)
      refine l_nil ?_
      exact e_thenN ⟨m24, Nat.lt_succ_self _, w64 (x5 + 1), (x7.set m25 (i8 x5)), cs29, (x11.set m32 (i8 (w64 (17 * x5)))), cs36, hl23, (w64_r _), hq30, hl31, hq37, hl38, h.has (by exact ⟨rfl, rfl, rfl, trivial⟩)⟩
    · rw [if_neg (of_decide_eq_false hb)] at hl23
      refine wp_exit ?_
      refine e_thenX ?_
      refine e_thenX ?_
      refine e_blkX ?_
      refine e_thenN ?_
      exact ⟨x7, k8, x11, k12, (Option.some.inj hl23), hs9, hl10, hs13, hl14, h.has (by exact ⟨rfl, rfl, trivial⟩)⟩
  · rintro a w ⟨x15, k16, x19, k20, rfl, hs17, hl18, hs21, hl22, h⟩
    try dsimp only at hf
    refine e_thenN ?_
    refine c_rs ?_ -- region 8
    obtain ⟨y39, h40, hf⟩ := bsome hf
    obtain ⟨hi41, hi42, hm43, hm44⟩ := bnd_some h40
    obtain ⟨n45, hn46⟩ : ∃ n, y39.2 - y39.1 = n := ⟨_, rfl⟩
    refine s_x h rfl rfl (by decide) (x_viewB h.k rfl Try.underlying23 sz_uint8 rfl (bd_none (by omega)) (bd_none (by omega)) hm43 hm44 hn46) (fun a h => ?_)
    have h := h.pick [0, 2, 1] (by decide) rfl
    obtain ⟨S48, le49, up50, hc51, h⟩ := q_freezeBox h (Up.refl _ _ _)
    obtain rfl : n45 = ((x15.take y39.2).drop y39.1).length := cut_len (by have := hm44; have := hl18; omega) hn46
    have hs52 := slS_vA (T := ty8) hc51 (hs17.mono le49) rfl hl18 (by decide) hm43 hm44
    have hf53 : 16 - y39.1 ≤ ((x15.take y39.2).drop y39.1).length := by have := hl18; have := hi42; simp only [List.length_drop, List.length_take]; omega
    obtain ⟨x54, h55, hf⟩ := bsome hf
    have hX := aes_New_ok Fu (S0 := S48) (vA g1 16 y39.1) (16 - y39.1) ((x15.take y39.2).drop y39.1) hs52 _ h55 _ (h.sub (Ls := []))
    refine q_callY (Ls := []) hX h up50 rfl rfl rfl (by decide) Try.func14 rfl rfl rfl (fun a w v L1 S57 hR le59 up58 h => ?_)
    rcases hR with hR | hR
    · obtain ⟨x60, rfl, hR⟩ := hR
      dsimp only at hf
      obtain ⟨rfl, rfl, hr61, _⟩ := hR
      refine s_move h rfl _ rfl rfl (by decide) rfl (fun a h => ?_)
      refine s_x h rfl rfl (by decide) (x_ext h.k rfl rfl rfl) (fun a h => ?_)
      refine s_x h rfl rfl (by decide) (x_ext h.k rfl rfl rfl) (fun a h => ?_)
      refine s_assign h rfl _ rfl rfl (by decide) rfl (fun a h => ?_)
      refine s_assign h rfl _ rfl rfl (by decide) rfl (fun a h => ?_)
      refine l_end ?_
      refine wp_seq ?_
      refine c_rs ?_ -- region 9
      refine s_move h rfl _ rfl rfl (by decide) rfl (fun a h => ?_)
      refine s_x h rfl rfl (by decide) (x_bin h.k rfl rfl rfl ib_neq) (fun a h => ?_)
      refine l_end ?_
      refine c_cond h rfl (fun hb => ?_) (fun hb => ?_)
      · rw [if_pos (of_decide_eq_true hb)] at hf
        refine c_rs ?_ -- region 10
        refine s_assign h rfl _ rfl rfl (by decide) rfl (fun a h => ?_)
        refine l_end ?_
        refine wp_ret ?_
        refine e_thenR ?_
        rw [← Option.some.inj hf]
        exact r_ret1 h rfl (rv_tmp h rfl) ⟨_, [], _, rfl, ⟨rfl, rfl, trivial⟩, rfl, up58, (h.m.pick [0] _ (by decide) rfl)⟩
      · rw [if_neg (of_decide_eq_false hb)] at hf
        refine wp_skip ?_
        refine e_thenN ?_
        refine c_rs ?_ -- region 11
        refine s_move h rfl _ rfl rfl (by decide) rfl (fun a h => ?_)
        refine s_x h rfl rfl (by decide) (x_ldR h.k rfl ag_A16_uint8 rfl k20 (((hs21.mono (le49.trans le59))).len.trans (by rw [hl22]; rfl)) (h.m.range0 (i := 1) rfl)) (fun a h => ?_)
        obtain ⟨x62, h63, hf⟩ := bsome hf
        have hX := aes_Cipher_Encrypt_nil0_ok Fu (S0 := snapAll _) k20 x19 ((tyA 16 ty8).mono (h.m.leAll (i := 0) rfl) (show (tyA 16 ty8).rep S57 k20 x19 from ⟨(hs21.mono (le49.trans le59)), hl22⟩)) _ h63 _ h.startAll
        refine q_callX hX h rfl rfl rfl (by decide) Try.func15 rfl rfl rfl (fun a w v L1 S1 hR hb1 h => ?_)
        obtain ⟨k65, rfl, rfl, hv66, _⟩ := hR
        obtain ⟨hs67, hl68⟩ := hv66
        have hq69 := hs67.fl (S' := S57) fl_8
        refine s_alloc h rfl rfl rfl (by decide) zi_A16_uint8 rfl (fun a w g70 h => ?_)
        refine s_stW h rfl rfl rfl ag_A16_uint8 rfl (es := k65) rfl ((hq69).len.trans (by rw [hl68]; rfl)) (hq69).one 0 rfl (by first | rfl | simp_all) (fun a w h => ?_)
        refine l_end ?_
        refine c_rs ?_ -- region 12
        obtain ⟨m71, h72, hf⟩ := bsome hf
        obtain ⟨hi73, hm74⟩ := ix_some h72
        refine s_x h rfl rfl (by decide) (x_iaddrA h.k rfl Try.underlying23 sz_uint8 rfl rfl hi73 hm74 rfl) (fun a h => ?_)
        obtain ⟨x75, h76, hf⟩ := bsome hf
        obtain ⟨u77, hv78, hu79⟩ := (hq69).cell rfl h76
        cases hu79
        refine s_x h rfl rfl (by decide) (x_ld h.k rfl Try.underlying5 rfl rfl ((h.m.cell (i := 0) rfl _).trans (by rw [Nat.zero_add, Nat.mul_one]; exact hv78))) (fun a h => ?_)
        refine s_x h rfl rfl (by decide) (x_bin h.k rfl rfl rfl ib_eql) (fun a h => ?_)
        refine s_move h rfl _ rfl rfl (by decide) rfl (fun a h => ?_)
        obtain ⟨z81, hz80, hf⟩ := bsome hf
        refine q_grp h 4 (t := 33) 37 z81 rfl (fun hB3 => ?_) (fun hB3 => ?_) (fun a w h => ?_)
        · rw [if_pos (of_decide_eq_true hB3)] at hz80
          refine g_yes h rfl rfl rfl rfl hB3 ?_
          obtain ⟨m83, h84, hz80⟩ := bsome hz80
          obtain ⟨hi85, hm86⟩ := ix_some h84
          refine s_x h rfl rfl (by decide) (x_iaddrA h.k rfl Try.underlying23 sz_uint8 rfl rfl hi85 hm86 rfl) (fun a h => ?_)
          refine g_yes h rfl rfl rfl rfl hB3 ?_
          obtain ⟨x87, h88, hz80⟩ := bsome hz80
          obtain ⟨u89, hv90, hu91⟩ := (hq69).cell rfl h88
          cases hu91
          refine s_x h rfl rfl (by decide) (x_ld h.k rfl Try.underlying5 rfl rfl ((h.m.cell (i := 0) rfl _).trans (by rw [Nat.zero_add, Nat.mul_one]; exact hv90))) (fun a h => ?_)
          refine g_yes h rfl rfl rfl rfl hB3 ?_
          refine s_x h rfl rfl (by decide) (x_bin h.k rfl rfl rfl ib_eql) (fun a h => ?_)
          refine s_x h rfl rfl (by decide) (x_pick (u' := undef) h.k rfl rfl (fun _ => rfl) (fun hh => absurd (hB3.symm.trans hh) (by decide))) (fun a h => ?_)
          exact (h.mid 3 rfl).val (by rw [Option.some.inj hz80])
        · refine g_no h rfl rfl rfl rfl hB3 rfl (by decide) (fun a h => ?_)
          refine g_no h rfl rfl rfl rfl hB3 rfl (by decide) (fun a h => ?_)
          refine g_no h rfl rfl rfl rfl hB3 rfl (by decide) (fun a h => ?_)
          rw [if_neg (of_decide_eq_false hB3)] at hz80
          refine s_x h rfl rfl (by decide) (x_pick (u' := undef) h.k rfl rfl (fun hh => absurd (hB3.symm.trans hh) (by decide)) (fun _ => rfl)) (fun a h => ?_)
          exact (h.mid 3 rfl).val (by rw [Option.some.inj hz80])
        refine s_move h rfl _ rfl rfl (by decide) rfl (fun a h => ?_)
        obtain ⟨z93, hz92, hf⟩ := bsome hf
        refine q_grp h 4 (t := 38) 42 z93 rfl (fun hB8 => ?_) (fun hB8 => ?_) (fun a w h => ?_)
        · rw [if_pos hB8] at hz92
          refine g_yes h rfl rfl rfl rfl hB8 ?_
          obtain ⟨m95, h96, hz92⟩ := bsome hz92
          obtain ⟨hi97, hm98⟩ := ix_some h96
          refine s_x h rfl rfl (by decide) (x_iaddrA h.k rfl Try.underlying23 sz_uint8 rfl rfl hi97 hm98 rfl) (fun a h => ?_)
          refine g_yes h rfl rfl rfl rfl hB8 ?_
          obtain ⟨x99, h100, hz92⟩ := bsome hz92
          obtain ⟨u101, hv102, hu103⟩ := (hq69).cell rfl h100
          cases hu103
          refine s_x h rfl rfl (by decide) (x_ld h.k rfl Try.underlying5 rfl rfl ((h.m.cell (i := 0) rfl _).trans (by rw [Nat.zero_add, Nat.mul_one]; exact hv102))) (fun a h => ?_)
          refine g_yes h rfl rfl rfl rfl hB8 ?_
          refine s_x h rfl rfl (by decide) (x_bin h.k rfl rfl rfl ib_eql) (fun a h => ?_)
          refine s_x h rfl rfl (by decide) (x_pick (u' := undef) h.k rfl rfl (fun _ => rfl) (fun hh => absurd (hB8.symm.trans hh) (by decide))) (fun a h => ?_)
          exact (h.mid 3 rfl).val (by rw [Option.some.inj hz92])
        · refine g_no h rfl rfl rfl rfl hB8 rfl (by decide) (fun a h => ?_)
          refine g_no h rfl rfl rfl rfl hB8 rfl (by decide) (fun a h => ?_)
          refine g_no h rfl rfl rfl rfl hB8 rfl (by decide) (fun a h => ?_)
          rw [if_neg (by rw [hB8]; decide)] at hz92
          refine s_x h rfl rfl (by decide) (x_pick (u' := undef) h.k rfl rfl (fun hh => absurd (hB8.symm.trans hh) (by decide)) (fun _ => rfl)) (fun a h => ?_)
          exact (h.mid 3 rfl).val (by rw [Option.some.inj hz92])
        refine s_move h rfl _ rfl rfl (by decide) rfl (fun a h => ?_)
        obtain ⟨z105, hz104, hf⟩ := bsome hf
        refine q_grp h 4 (t := 43) 47 z105 rfl (fun hB13 => ?_) (fun hB13 => ?_) (fun a w h => ?_)
        · rw [if_pos hB13] at hz104
          refine g_yes h rfl rfl rfl rfl hB13 ?_
          obtain ⟨m107, h108, hz104⟩ := bsome hz104
          obtain ⟨hi109, hm110⟩ := ix_some h108
          refine s_x h rfl rfl (by decide) (x_iaddrA h.k rfl Try.underlying23 sz_uint8 rfl rfl hi109 hm110 rfl) (fun a h => ?_)
          refine g_yes h rfl rfl rfl rfl hB13 ?_
          obtain ⟨x111, h112, hz104⟩ := bsome hz104
          obtain ⟨u113, hv114, hu115⟩ := (hq69).cell rfl h112
          cases hu115
          refine s_x h rfl rfl (by decide) (x_ld h.k rfl Try.underlying5 rfl rfl ((h.m.cell (i := 0) rfl _).trans (by rw [Nat.zero_add, Nat.mul_one]; exact hv114))) (fun a h => ?_)
          refine g_yes h rfl rfl rfl rfl hB13 ?_
          refine s_x h rfl rfl (by decide) (x_bin h.k rfl rfl rfl ib_eql) (fun a h => ?_)
          refine s_x h rfl rfl (by decide) (x_pick (u' := undef) h.k rfl rfl (fun _ => rfl) (fun hh => absurd (hB13.symm.trans hh) (by decide))) (fun a h => ?_)
          exact (h.mid 3 rfl).val (by rw [Option.some.inj hz104])
        · refine g_no h rfl rfl rfl rfl hB13 rfl (by decide) (fun a h => ?_)
          refine g_no h rfl rfl rfl rfl hB13 rfl (by decide) (fun a h => ?_)
          refine g_no h rfl rfl rfl rfl hB13 rfl (by decide) (fun a h => ?_)
          rw [if_neg (by rw [hB13]; decide)] at hz104
          refine s_x h rfl rfl (by decide) (x_pick (u' := undef) h.k rfl rfl (fun hh => absurd (hB13.symm.trans hh) (by decide)) (fun _ => rfl)) (fun a h => ?_)
          exact (h.mid 3 rfl).val (by rw [Option.some.inj hz104])
        refine s_assign h rfl _ rfl rfl (by decide) rfl (fun a h => ?_)
        refine l_end ?_
        refine wp_ret ?_
        rw [← Option.some.inj hf]
        exact r_ret1 h rfl (rv_tmp h rfl) ⟨_, [], _, rfl, ⟨rfl, rfl, trivial⟩, rfl, up58, (h.m.pick [1] _ (by decide) rfl)⟩
    · obtain ⟨x116, rfl, hR⟩ := hR
      dsimp only at hf
      obtain ⟨g117, rfl, rfl, hp118, hr119, _⟩ := hR
      refine s_move h rfl _ rfl rfl (by decide) rfl (fun a h => ?_)
      refine s_x h rfl rfl (by decide) (x_ext h.k rfl rfl rfl) (fun a h => ?_)
      refine s_x h rfl rfl (by decide) (x_ext h.k rfl rfl rfl) (fun a h => ?_)
      refine s_assign h rfl _ rfl rfl (by decide) rfl (fun a h => ?_)
      refine s_assign h rfl _ rfl rfl (by decide) rfl (fun a h => ?_)
      refine l_end ?_
      refine wp_seq ?_
      refine c_rs ?_ -- region 9
      refine s_move h rfl _ rfl rfl (by decide) rfl (fun a h => ?_)
      refine s_x h rfl rfl (by decide) (x_bin h.k rfl rfl rfl ib_neq) (fun a h => ?_)
      refine l_end ?_
      refine c_cond h rfl (fun hb => ?_) (fun hb => ?_)
      · rw [if_pos (of_decide_eq_true hb)] at hf
        refine c_rs ?_ -- region 10
        refine s_assign h rfl _ rfl rfl (by decide) rfl (fun a h => ?_)
        refine l_end ?_
        refine wp_ret ?_
        refine e_thenR ?_
        rw [← Option.some.inj hf]
        exact r_ret1 h rfl (rv_tmp h rfl) ⟨_, [], _, rfl, ⟨rfl, rfl, trivial⟩, rfl, up58, (h.m.pick [0] _ (by decide) rfl)⟩
      · rw [if_neg (of_decide_eq_false hb)] at hf
        refine wp_skip ?_
        refine e_thenN ?_
        refine c_rs ?_ -- region 11
        refine s_move h rfl _ rfl rfl (by decide) rfl (fun a h => ?_)
        refine s_x h rfl rfl (by decide) (x_ldR h.k rfl ag_A16_uint8 rfl k20 (((hs21.mono (le49.trans le59))).len.trans (by rw [hl22]; rfl)) (h.m.range0 (i := 1) rfl)) (fun a h => ?_)
        obtain ⟨x120, h121, hf⟩ := bsome hf
        have hX := aes_Cipher_Encrypt_ok Fu (S0 := snapAll _) g117 x116.1 (hp118.mono (h.m.leAll (i := 0) rfl)) k20 x19 ((tyA 16 ty8).mono (h.m.leAll (i := 0) rfl) (show (tyA 16 ty8).rep S57 k20 x19 from ⟨(hs21.mono (le49.trans le59)), hl22⟩)) _ h121 _ h.startAll
        refine q_callX hX h rfl rfl rfl (by decide) Try.func15 rfl rfl rfl (fun a w v L1 S1 hR hb1 h => ?_)
        obtain ⟨k123, rfl, rfl, hv124, _⟩ := hR
        obtain ⟨hs125, hl126⟩ := hv124
        have hq127 := hs125.fl (S' := S57) fl_8
        refine s_alloc h rfl rfl rfl (by decide) zi_A16_uint8 rfl (fun a w g128 h => ?_)
        refine s_stW h rfl rfl rfl ag_A16_uint8 rfl (es := k123) rfl ((hq127).len.trans (by rw [hl126]; rfl)) (hq127).one 0 rfl (by first | rfl | simp_all) (fun a w h => ?_)
        refine l_end ?_
        refine c_rs ?_ -- region 12
        obtain ⟨m129, h130, hf⟩ := bsome hf
        obtain ⟨hi131, hm132⟩ := ix_some h130
        refine s_x h rfl rfl (by decide) (x_iaddrA h.k rfl Try.underlying23 sz_uint8 rfl rfl hi131 hm132 rfl) (fun a h => ?_)
        obtain ⟨x133, h134, hf⟩ := bsome hf
        obtain ⟨u135, hv136, hu137⟩ := (hq127).cell rfl h134
        cases hu137
        refine s_x h rfl rfl (by decide) (x_ld h.k rfl Try.underlying5 rfl rfl ((h.m.cell (i := 0) rfl _).trans (by rw [Nat.zero_add, Nat.mul_one]; exact hv136))) (fun a h => ?_)
        refine s_x h rfl rfl (by decide) (x_bin h.k rfl rfl rfl ib_eql) (fun a h => ?_)
        refine s_move h rfl _ rfl rfl (by decide) rfl (fun a h => ?_)
        obtain ⟨z139, hz138, hf⟩ := bsome hf
        refine q_grp h 4 (t := 33) 37 z139 rfl (fun hB3 => ?_) (fun hB3 => ?_) (fun a w h => ?_)
        · rw [if_pos (of_decide_eq_true hB3)] at hz138
          refine g_yes h rfl rfl rfl rfl hB3 ?_
          obtain ⟨m141, h142, hz138⟩ := bsome hz138
          obtain ⟨hi143, hm144⟩ := ix_some h142
          refine s_x h rfl rfl (by decide) (x_iaddrA h.k rfl Try.underlying23 sz_uint8 rfl rfl hi143 hm144 rfl) (fun a h => ?_)
          refine g_yes h rfl rfl rfl rfl hB3 ?_
          obtain ⟨x145, h146, hz138⟩ := bsome hz138
          obtain ⟨u147, hv148, hu149⟩ := (hq127).cell rfl h146
          cases hu149
          refine s_x h rfl rfl (by decide) (x_ld h.k rfl Try.underlying5 rfl rfl ((h.m.cell (i := 0) rfl _).trans (by rw [Nat.zero_add, Nat.mul_one]; exact hv148))) (fun a h => ?_)
          refine g_yes h rfl rfl rfl rfl hB3 ?_
          refine s_x h rfl rfl (by decide) (x_bin h.k rfl rfl rfl ib_eql) (fun a h => ?_)
          refine s_x h rfl rfl (by decide) (x_pick (u' := undef) h.k rfl rfl (fun _ => rfl) (fun hh => absurd (hB3.symm.trans hh) (by decide))) (fun a h => ?_)
          exact (h.mid 3 rfl).val (by rw [Option.some.inj hz138])
        · refine g_no h rfl rfl rfl rfl hB3 rfl (by decide) (fun a h => ?_)
          refine g_no h rfl rfl rfl rfl hB3 rfl (by decide) (fun a h => ?_)
          refine g_no h rfl rfl rfl rfl hB3 rfl (by decide) (fun a h => ?_)
          rw [if_neg (of_decide_eq_false hB3)] at hz138
          refine s_x h rfl rfl (by decide) (x_pick (u' := undef) h.k rfl rfl (fun hh => absurd (hB3.symm.trans hh) (by decide)) (fun _ => rfl)) (fun a h => ?_)
          exact (h.mid 3 rfl).val (by rw [Option.some.inj hz138])
        refine s_move h rfl _ rfl rfl (by decide) rfl (fun a h => ?_)
        obtain ⟨z151, hz150, hf⟩ := bsome hf
        refine q_grp h 4 (t := 38) 42 z151 rfl (fun hB8 => ?_) (fun hB8 => ?_) (fun a w h => ?_)
        · rw [if_pos hB8] at hz150
          refine g_yes h rfl rfl rfl rfl hB8 ?_
          obtain ⟨m153, h154, hz150⟩ := bsome hz150
          obtain ⟨hi155, hm156⟩ := ix_some h154
          refine s_x h rfl rfl (by decide) (x_iaddrA h.k rfl Try.underlying23 sz_uint8 rfl rfl hi155 hm156 rfl) (fun a h => ?_)
          refine g_yes h rfl rfl rfl rfl hB8 ?_
          obtain ⟨x157, h158, hz150⟩ := bsome hz150
          obtain ⟨u159, hv160, hu161⟩ := (hq127).cell rfl h158
          cases hu161
          refine s_x h rfl rfl (by decide) (x_ld h.k rfl Try.underlying5 rfl rfl ((h.m.cell (i := 0) rfl _).trans (by rw [Nat.zero_add, Nat.mul_one]; exact hv160))) (fun a h => ?_)
          refine g_yes h rfl rfl rfl rfl hB8 ?_
          refine s_x h rfl rfl (by decide) (x_bin h.k rfl rfl rfl ib_eql) (fun a h => ?_)
          refine s_x h rfl rfl (by decide) (x_pick (u' := undef) h.k rfl rfl (fun _ => rfl) (fun hh => absurd (hB8.symm.trans hh) (by decide))) (fun a h => ?_)
          exact (h.mid 3 rfl).val (by rw [Option.some.inj hz150])
        · refine g_no h rfl rfl rfl rfl hB8 rfl (by decide) (fun a h => ?_)
          refine g_no h rfl rfl rfl rfl hB8 rfl (by decide) (fun a h => ?_)
          refine g_no h rfl rfl rfl rfl hB8 rfl (by decide) (fun a h => ?_)
          rw [if_neg (by rw [hB8]; decide)] at hz150
          refine s_x h rfl rfl (by decide) (x_pick (u' := undef) h.k rfl rfl (fun hh => absurd (hB8.symm.trans hh) (by decide)) (fun _ => rfl)) (fun a h => ?_)
          exact (h.mid 3 rfl).val (by rw [Option.some.inj hz150])
        refine s_move h rfl _ rfl rfl (by decide) rfl (fun a h => ?_)
        obtain ⟨z163, hz162, hf⟩ := bsome hf
        refine q_grp h 4 (t := 43) 47 z163 rfl (fun hB13 => ?_) (fun hB13 => ?_) (fun a w h => ?_)
        · rw [if_pos hB13] at hz162
          refine g_yes h rfl rfl rfl rfl hB13 ?_
          obtain ⟨m165, h166, hz162⟩ := bsome hz162
          obtain ⟨hi167, hm168⟩ := ix_some h166
          refine s_x h rfl rfl (by decide) (x_iaddrA h.k rfl Try.underlying23 sz_uint8 rfl rfl hi167 hm168 rfl) (fun a h => ?_)
          refine g_yes h rfl rfl rfl rfl hB13 ?_
          obtain ⟨x169, h170, hz162⟩ := bsome hz162
          obtain ⟨u171, hv172, hu173⟩ := (hq127).cell rfl h170
          cases hu173
          refine s_x h rfl rfl (by decide) (x_ld h.k rfl Try.underlying5 rfl rfl ((h.m.cell (i := 0) rfl _).trans (by rw [Nat.zero_add, Nat.mul_one]; exact hv172))) (fun a h => ?_)
          refine g_yes h rfl rfl rfl rfl hB13 ?_
          refine s_x h rfl rfl (by decide) (x_bin h.k rfl rfl rfl ib_eql) (fun a h => ?_)
          refine s_x h rfl rfl (by decide) (x_pick (u' := undef) h.k rfl rfl (fun _ => rfl) (fun hh => absurd (hB13.symm.trans hh) (by decide))) (fun a h => ?_)
          exact (h.mid 3 rfl).val (by rw [Option.some.inj hz162])
        · refine g_no h rfl rfl rfl rfl hB13 rfl (by decide) (fun a h => ?_)
          refine g_no h rfl rfl rfl rfl hB13 rfl (by decide) (fun a h => ?_)
          refine g_no h rfl rfl rfl rfl hB13 rfl (by decide) (fun a h => ?_)
          rw [if_neg (by rw [hB13]; decide)] at hz162
          refine s_x h rfl rfl (by decide) (x_pick (u' := undef) h.k rfl rfl (fun hh => absurd (hB13.symm.trans hh) (by decide)) (fun _ => rfl)) (fun a h => ?_)
          exact (h.mid 3 rfl).val (by rw [Option.some.inj hz162])
        refine s_assign h rfl _ rfl rfl (by decide) rfl (fun a h => ?_)
        refine l_end ?_
        refine wp_ret ?_
        rw [← Option.some.inj hf]
        exact r_ret1 h rfl (rv_tmp h rfl) ⟨_, [], _, rfl, ⟨rfl, rfl, trivial⟩, rfl, up58, (h.m.pick [1] _ (by decide) rfl)⟩
theorem gda_A16_uint8 : Try.prog.eqGuardType Try.prog.depth 23 = false := by kernel_rfl
def chatelainelaw04_AesKeys_l0 (Fu : Nat) (x12 : (List UInt32) × Int) (x61 : (Int × (List Int) × (List Int))) : Nat → Int → Option (Sum Bool Unit)
  | 0, _ => none
  | k + 1, x107 => if x107 < (x12.1.length : Int) then ((idx x12.1 x107).bind fun x111 => (sub x61.2.1 (w64 (4 * x107)) (w64 ((w64 (4 * x107)) + 4))).bind fun x136 => (idx x136 0).bind fun x146 => (idx x136 1).bind fun x160 => (idx x136 2).bind fun x174 => (idx x136 3).bind fun x188 => if (x111.toNat : Int) ≠ w64 ((w64 ((w64 ((w64 (16777216 * x146)) + (w64 (65536 * x160)))) + (w64 (256 * x174)))) + x188) then (some (.inl false)) else (chatelainelaw04_AesKeys_l0 Fu x12 x61 k (w64 (x107 + 1)))) else (some (.inr ()))
def chatelainelaw04_AesKeys_l1 (Fu : Nat) (x207 : (List UInt32) × Int) (x231 : (Int × (List Int) × (List Int))) : Nat → Int → Option (Sum Bool Unit)
  | 0, _ => none
  | k + 1, x277 => if x277 < (x207.1.length : Int) then ((idx x207.1 x277).bind fun x281 => (sub x231.2.1 (w64 (4 * x277)) (w64 ((w64 (4 * x277)) + 4))).bind fun x306 => (idx x306 0).bind fun x316 => (idx x306 1).bind fun x330 => (idx x306 2).bind fun x344 => (idx x306 3).bind fun x358 => if (x281.toNat : Int) ≠ w64 ((w64 ((w64 ((w64 (16777216 * x316)) + (w64 (65536 * x330)))) + (w64 (256 * x344)))) + x358) then (some (.inl false)) else (chatelainelaw04_AesKeys_l1 Fu x207 x231 k (w64 (x277 + 1)))) else (some (.inr ()))
def chatelainelaw04_AesKeys (Fu : Nat) (a0 : List UInt8) : Option Bool :=
  (chatelainelaw04_awake Fu).bind fun x1 => if (!x1) = true then (some false) else (if 100 < (a0.length : Int) then (some true) else ((aes_New Fu a0).bind fun x4 => (match x4 with | .inl x10 => ((aes_Words Fu a0).bind fun x12 => if ((decide ((a0.length : Int) ≠ 16)) && (decide ((a0.length : Int) ≠ 32))) = true then ((if (((decide (x10 = 20)) && (decide (x12.2 = 20))) && (decide ((x12.1.length : Int) = 0))) = true then (aes_Cipher_Rounds_nil0 Fu).bind fun x33 => some (decide (x33 = 0)) else some false).bind fun z31 => (if z31 = true then (aes_Cipher_Encrypt_nil0 Fu ([(1 : UInt8), (0 : UInt8), (0 : UInt8), (0 : UInt8), (0 : UInt8), (0 : UInt8), (0 : UInt8), (0 : UInt8), (0 : UInt8), (0 : UInt8), (0 : UInt8), (0 : UInt8), (0 : UInt8), (0 : UInt8), (0 : UInt8), (0 : UInt8)])).bind fun x41 => some (decide (x41 = (List.replicate 16 ((0 : UInt8) : UInt8)))) else some false).bind fun z38 => (if z38 = true then (aes_Cipher_Decrypt_nil0 Fu ([(1 : UInt8), (0 : UInt8), (0 : UInt8), (0 : UInt8), (0 : UInt8), (0 : UInt8), (0 : UInt8), (0 : UInt8), (0 : UInt8), (0 : UInt8), (0 : UInt8), (0 : UInt8), (0 : UInt8), (0 : UInt8), (0 : UInt8), (0 : UInt8)])).bind fun x53 => some (decide (x53 = (List.replicate 16 ((0 : UInt8) : UInt8)))) else some false).bind fun z50 => some z50) else ((chatelaineref04_Make Fu a0).bind fun x61 => (if ((decide (x10 ≠ 0)) || (decide (x12.2 ≠ 0))) = true then some true else (aes_Cipher_Rounds_nil0 Fu).bind fun x73 => some (decide (x73 ≠ x61.1))).bind fun z71 => if (z71 || (decide (w64 (4 * (x12.1.length : Int)) ≠ (x61.2.1.length : Int)))) = true then (some false) else ((chatelainelaw04_AesKeys_l0 Fu x12 x61 Fu 0).bind fun o => match o with | .inl r202 => some r202 | .inr _ => some true))) | .inr x203 => ((aes_Words Fu a0).bind fun x207 => if ((decide ((a0.length : Int) ≠ 16)) && (decide ((a0.length : Int) ≠ 32))) = true then (some false) else ((chatelaineref04_Make Fu a0).bind fun x231 => (if ((decide (x203.2 ≠ 0)) || (decide (x207.2 ≠ 0))) = true then some true else (aes_Cipher_Rounds Fu x203.1).bind fun x243 => some (decide (x243 ≠ x231.1))).bind fun z241 => if (z241 || (decide (w64 (4 * (x207.1.length : Int)) ≠ (x231.2.1.length : Int)))) = true then (some false) else ((chatelainelaw04_AesKeys_l1 Fu x207 x231 Fu 0).bind fun o => match o with | .inl r372 => some r372 | .inr _ => some true))))))
set_option maxRecDepth 100000 in
set_option maxHeartbeats 2000000 in
theorem chatelainelaw04_AesKeys_ok (Fu : Nat) {S0 : Snap} (Aa0 : Option Addr) (ca0 : Nat) (a0 : List UInt8) (hsa0 : slS ty8 S0 Aa0 ca0 a0) (r : Bool) (hf : chatelainelaw04_AesKeys Fu a0 = some r) (w0 : World) (hm : Mem w0 (ownL ([] ++ [.sn S0])) ([] ++ [.sn S0]) w0) :
    Calls Try.prog 5 #[.slice Aa0 a0.length ca0] w0 (Ret w0 S0 [] (fun v L1 S1 => v = .bool r ∧ L1 = [] ∧ True)) := by
  unfold chatelainelaw04_AesKeys at hf
  refine c_enterM Try.func5 rfl 135 rfl (by simp) _ hm _ rfl (fun a h => ?_)
  refine c_rs ?_ -- region 0
  refine s_assign h rfl _ rfl rfl (by decide) rfl (fun a h => ?_)
  refine l_end ?_
  refine wp_seq ?_
  refine c_rs ?_ -- region 1
  obtain ⟨x1, h2, hf⟩ := bsome hf
  have hX := chatelainelaw04_awake_ok Fu (S0 := snapAll _)  _ h2 _ h.startAll
  refine q_callX hX h rfl rfl rfl (by decide) Try.func13 rfl rfl rfl (fun a w v L1 S1 hR hb1 h => ?_)
  obtain ⟨rfl, rfl, _⟩ := hR
  refine s_x h rfl rfl (by decide) (x_not h.k rfl rfl) (fun a h => ?_)
  refine l_end ?_
  refine c_cond h rfl (fun hb => ?_) (fun hb => ?_)
  · rw [if_pos hb] at hf
    refine c_rs ?_ -- region 2
    refine s_assign h rfl _ rfl rfl (by decide) rfl (fun a h => ?_)
    refine l_end ?_
    refine wp_ret ?_
    refine e_thenR ?_
    rw [← Option.some.inj hf]
    exact r_ret1 h rfl (rv_tmp h rfl) ⟨_, [], _, rfl, ⟨rfl, rfl, trivial⟩, rfl, (Up.refl _ _ _), h.m⟩
  · rw [if_neg (by rw [hb]; decide)] at hf
    refine wp_skip ?_
    refine e_thenN ?_
    refine wp_seq ?_
    refine c_rs ?_ -- region 3
    refine s_move h rfl _ rfl rfl (by decide) rfl (fun a h => ?_)
    refine s_x h rfl rfl (by decide) (x_len h.k rfl Try.underlying22 rfl) (fun a h => ?_)
    refine s_x h rfl rfl (by decide) (x_bin h.k rfl rfl rfl ib_gtr) (fun a h => ?_)
    refine l_end ?_
    refine c_cond h rfl (fun hb => ?_) (fun hb => ?_)
    · rw [if_pos (of_decide_eq_true hb)] at hf
      refine c_rs ?_ -- region 4
      refine s_assign h rfl _ rfl rfl (by decide) rfl (fun a h => ?_)
      refine l_end ?_
      refine wp_ret ?_
      refine e_thenR ?_
      rw [← Option.some.inj hf]
      exact r_ret1 h rfl (rv_tmp h rfl) ⟨_, [], _, rfl, ⟨rfl, rfl, trivial⟩, rfl, (Up.refl _ _ _), h.m⟩
    · rw [if_neg (of_decide_eq_false hb)] at hf
      refine wp_skip ?_
      refine e_thenN ?_
      refine c_rs ?_ -- region 5
      refine s_move h rfl _ rfl rfl (by decide) rfl (fun a h => ?_)
      obtain ⟨x4, h5, hf⟩ := bsome hf
      have hX := aes_New_ok Fu (S0 := S0) Aa0 ca0 a0 hsa0 _ h5 _ (h.sub (Ls := []))
      refine q_callY (Ls := []) hX h (Up.refl _ _ _) rfl rfl rfl (by decide) Try.func14 rfl rfl rfl (fun a w v L1 S7 hR le9 up8 h => ?_)
      rcases hR with hR | hR
      · obtain ⟨x10, rfl, hR⟩ := hR
        dsimp only at hf
        obtain ⟨rfl, rfl, hr11, _⟩ := hR
        refine s_move h rfl _ rfl rfl (by decide) rfl (fun a h => ?_)
        refine s_x h rfl rfl (by decide) (x_ext h.k rfl rfl rfl) (fun a h => ?_)
        refine s_x h rfl rfl (by decide) (x_ext h.k rfl rfl rfl) (fun a h => ?_)
        refine s_assign h rfl _ rfl rfl (by decide) rfl (fun a h => ?_)
        refine s_assign h rfl _ rfl rfl (by decide) rfl (fun a h => ?_)
        refine l_end ?_
        refine c_rs ?_ -- region 6
        refine s_move h rfl _ rfl rfl (by decide) rfl (fun a h => ?_)
        obtain ⟨x12, h13, hf⟩ := bsome hf
        have hX := aes_Words_ok Fu (S0 := S7) Aa0 ca0 a0 (hsa0.mono le9) _ h13 _ (h.sub (Ls := []))
        refine q_callY (Ls := []) hX h up8 rfl rfl rfl (by decide) Try.func19 rfl rfl rfl (fun a w v L1 S15 hR le17 up16 h => ?_)
        obtain ⟨A18, c19, rfl, rfl, hs20, hr21, _⟩ := hR
        refine s_move h rfl _ rfl rfl (by decide) rfl (fun a h => ?_)
        refine s_x h rfl rfl (by decide) (x_ext h.k rfl rfl rfl) (fun a h => ?_)
        refine s_x h rfl rfl (by decide) (x_ext h.k rfl rfl rfl) (fun a h => ?_)
        refine s_assign h rfl _ rfl rfl (by decide) rfl (fun a h => ?_)
        refine s_assign h rfl _ rfl rfl (by decide) rfl (fun a h => ?_)
        refine l_end ?_
        refine wp_seq ?_
        refine c_rs ?_ -- region 7
        refine s_move h rfl _ rfl rfl (by decide) rfl (fun a h => ?_)
        refine s_x h rfl rfl (by decide) (x_len h.k rfl Try.underlying22 rfl) (fun a h => ?_)
        refine s_x h rfl rfl (by decide) (x_bin h.k rfl rfl rfl ib_neq) (fun a h => ?_)
        refine s_move h rfl _ rfl rfl (by decide) rfl (fun a h => ?_)
        refine q_grp h 4 (t := 29) 33 ((decide ((a0.length : Int) ≠ 16)) && (decide ((a0.length : Int) ≠ 32))) rfl (fun hB3 => ?_) (fun hB3 => ?_) (fun a w h => ?_)
        · refine g_yes h rfl rfl rfl rfl hB3 ?_
          refine s_move h rfl _ rfl rfl (by decide) rfl (fun a h => ?_)
          refine g_yes h rfl rfl rfl rfl hB3 ?_
          refine s_x h rfl rfl (by decide) (x_len h.k rfl Try.underlying22 rfl) (fun a h => ?_)
          refine g_yes h rfl rfl rfl rfl hB3 ?_
          refine s_x h rfl rfl (by decide) (x_bin h.k rfl rfl rfl ib_neq) (fun a h => ?_)
          refine s_x h rfl rfl (by decide) (x_pick (u' := undef) h.k rfl rfl (fun _ => rfl) (fun hh => absurd (hB3.symm.trans hh) (by decide))) (fun a h => ?_)
          exact (h.mid 3 rfl).val (by first | rfl | (rw [hB3]; first | rfl | simp))
        · refine g_no h rfl rfl rfl rfl hB3 rfl (by decide) (fun a h => ?_)
          refine g_no h rfl rfl rfl rfl hB3 rfl (by decide) (fun a h => ?_)
          refine g_no h rfl rfl rfl rfl hB3 rfl (by decide) (fun a h => ?_)
          refine s_x h rfl rfl (by decide) (x_pick (u' := undef) h.k rfl rfl (fun hh => absurd (hB3.symm.trans hh) (by decide)) (fun _ => rfl)) (fun a h => ?_)
          exact (h.mid 3 rfl).val (by first | rfl | (rw [hB3]; first | rfl | simp))
        refine l_end ?_
        refine c_cond h rfl (fun hb => ?_) (fun hb => ?_)
        · rw [if_pos hb] at hf
          refine c_rs ?_ -- region 8
          refine s_move h rfl _ rfl rfl (by decide) rfl (fun a h => ?_)
          refine s_x h rfl rfl (by decide) (x_eql_nn h.k rfl Try.underlying25 rfl rfl) (fun a h => ?_)
          refine s_move h rfl _ rfl rfl (by decide) rfl (fun a h => ?_)
          refine q_grp h 3 (t := 36) 39 (decide (x10 = 20)) rfl (fun hB2 => ?_) (fun hB2 => ?_) (fun a w h => ?_)
          · refine g_yes h rfl rfl rfl rfl hB2 ?_
            refine s_move h rfl _ rfl rfl (by decide) rfl (fun a h => ?_)
            refine g_yes h rfl rfl rfl rfl hB2 ?_
            refine s_x h rfl rfl (by decide) (x_bin h.k rfl rfl rfl ib_eql) (fun a h => ?_)
            refine s_x h rfl rfl (by decide) (x_pick (u' := undef) h.k rfl rfl (fun _ => rfl) (fun hh => absurd (hB2.symm.trans hh) (by decide))) (fun a h => ?_)
            exact (h.mid 2 rfl).val (by first | rfl | (rw [hB2]; first | rfl | simp))
          · exact absurd hB2 (by decide)
          refine s_move h rfl _ rfl rfl (by decide) rfl (fun a h => ?_)
          refine q_grp h 3 (t := 40) 43 ((decide (x10 = 20)) && (decide (x12.2 = 20))) rfl (fun hB6 => ?_) (fun hB6 => ?_) (fun a w h => ?_)
          · refine g_yes h rfl rfl rfl rfl hB6 ?_
            refine s_move h rfl _ rfl rfl (by decide) rfl (fun a h => ?_)
            refine g_yes h rfl rfl rfl rfl hB6 ?_
            refine s_x h rfl rfl (by decide) (x_bin h.k rfl rfl rfl ib_eql) (fun a h => ?_)
            refine s_x h rfl rfl (by decide) (x_pick (u' := undef) h.k rfl rfl (fun _ => rfl) (fun hh => absurd (hB6.symm.trans hh) (by decide))) (fun a h => ?_)
            exact (h.mid 2 rfl).val (by first | rfl | (rw [hB6]; first | rfl | simp))
          · refine g_no h rfl rfl rfl rfl hB6 rfl (by decide) (fun a h => ?_)
            refine g_no h rfl rfl rfl rfl hB6 rfl (by decide) (fun a h => ?_)
            refine s_x h rfl rfl (by decide) (x_pick (u' := undef) h.k rfl rfl (fun hh => absurd (hB6.symm.trans hh) (by decide)) (fun _ => rfl)) (fun a h => ?_)
            exact (h.mid 2 rfl).val (by first | rfl | (rw [hB6]; first | rfl | simp))
          refine s_move h rfl _ rfl rfl (by decide) rfl (fun a h => ?_)
          refine q_grp h 4 (t := 44) 48 (((decide (x10 = 20)) && (decide (x12.2 = 20))) && (decide ((x12.1.length : Int) = 0))) rfl (fun hB10 => ?_) (fun hB10 => ?_) (fun a w h => ?_)
          · refine g_yes h rfl rfl rfl rfl hB10 ?_
            refine s_move h rfl _ rfl rfl (by decide) rfl (fun a h => ?_)
            refine g_yes h rfl rfl rfl rfl hB10 ?_
            refine s_x h rfl rfl (by decide) (x_len h.k rfl Try.underlying34 rfl) (fun a h => ?_)
            refine g_yes h rfl rfl rfl rfl hB10 ?_
            refine s_x h rfl rfl (by decide) (x_bin h.k rfl rfl rfl ib_eql) (fun a h => ?_)
            refine s_x h rfl rfl (by decide) (x_pick (u' := undef) h.k rfl rfl (fun _ => rfl) (fun hh => absurd (hB10.symm.trans hh) (by decide))) (fun a h => ?_)
            exact (h.mid 3 rfl).val (by first | rfl | (rw [hB10]; first | rfl | simp))
          · refine g_no h rfl rfl rfl rfl hB10 rfl (by decide) (fun a h => ?_)
            refine g_no h rfl rfl rfl rfl hB10 rfl (by decide) (fun a h => ?_)
            refine g_no h rfl rfl rfl rfl hB10 rfl (by decide) (fun a h => ?_)
            refine s_x h rfl rfl (by decide) (x_pick (u' := undef) h.k rfl rfl (fun hh => absurd (hB10.symm.trans hh) (by decide)) (fun _ => rfl)) (fun a h => ?_)
            exact (h.mid 3 rfl).val (by first | rfl | (rw [hB10]; first | rfl | simp))
          refine s_move h rfl _ rfl rfl (by decide) rfl (fun a h => ?_)
          obtain ⟨z31, hz30, hf⟩ := bsome hf
          refine q_grp h 4 (t := 49) 53 z31 rfl (fun hB15 => ?_) (fun hB15 => ?_) (fun a w h => ?_)
          · rw [if_pos hB15] at hz30
            refine g_yes h rfl rfl rfl rfl hB15 ?_
            refine s_move h rfl _ rfl rfl (by decide) rfl (fun a h => ?_)
            refine g_yes h rfl rfl rfl rfl hB15 ?_
            obtain ⟨x33, h34, hz30⟩ := bsome hz30
            have hX := aes_Cipher_Rounds_nil0_ok Fu (S0 := snapAll _)  _ h34 _ h.startAll
            refine q_callX hX h rfl rfl rfl (by decide) Try.func20 rfl rfl rfl (fun a w v L1 S1 hR hb1 h => ?_)
            obtain ⟨rfl, rfl, hr36, _⟩ := hR
            refine g_yes h rfl rfl rfl rfl hB15 ?_
            refine s_x h rfl rfl (by decide) (x_bin h.k rfl rfl rfl ib_eql) (fun a h => ?_)
            refine s_x h rfl rfl (by decide) (x_pick (u' := undef) h.k rfl rfl (fun _ => rfl) (fun hh => absurd (hB15.symm.trans hh) (by decide))) (fun a h => ?_)
            exact (h.mid 3 rfl).val (by rw [Option.some.inj hz30])
          · refine g_no h rfl rfl rfl rfl hB15 rfl (by decide) (fun a h => ?_)
            refine g_no h rfl rfl rfl rfl hB15 rfl (by decide) (fun a h => ?_)
            refine g_no h rfl rfl rfl rfl hB15 rfl (by decide) (fun a h => ?_)
            rw [if_neg (by rw [hB15]; decide)] at hz30
            refine s_x h rfl rfl (by decide) (x_pick (u' := undef) h.k rfl rfl (fun hh => absurd (hB15.symm.trans hh) (by decide)) (fun _ => rfl)) (fun a h => ?_)
            exact (h.mid 3 rfl).val (by rw [Option.some.inj hz30])
          refine s_move h rfl _ rfl rfl (by decide) rfl (fun a h => ?_)
          obtain ⟨z38, hz37, hf⟩ := bsome hf
          refine q_grp h 6 (t := 54) 60 z38 rfl (fun hB20 => ?_) (fun hB20 => ?_) (fun a w h => ?_)
          · rw [if_pos hB20] at hz37
            refine g_yes h rfl rfl rfl rfl hB20 ?_
            refine s_move h rfl _ rfl rfl (by decide) rfl (fun a h => ?_)
            refine g_yes h rfl rfl rfl rfl hB20 ?_
            have hq40 : reps ty8 S15 [.int .u8 1, .int .u8 0, .int .u8 0, .int .u8 0, .int .u8 0, .int .u8 0, .int .u8 0, .int .u8 0, .int .u8 0, .int .u8 0, .int .u8 0, .int .u8 0, .int .u8 0, .int .u8 0, .int .u8 0, .int .u8 0] [(1 : UInt8), (0 : UInt8), (0 : UInt8), (0 : UInt8), (0 : UInt8), (0 : UInt8), (0 : UInt8), (0 : UInt8), (0 : UInt8), (0 : UInt8), (0 : UInt8), (0 : UInt8), (0 : UInt8), (0 : UInt8), (0 : UInt8), (0 : UInt8)] := ⟨[.int .u8 1], _, rfl, rfl, ⟨[.int .u8 0], _, rfl, rfl, ⟨[.int .u8 0], _, rfl, rfl, ⟨[.int .u8 0], _, rfl, rfl, ⟨[.int .u8 0], _, rfl, rfl, ⟨[.int .u8 0], _, rfl, rfl, ⟨[.int .u8 0], _, rfl, rfl, ⟨[.int .u8 0], _, rfl, rfl, ⟨[.int .u8 0], _, rfl, rfl, ⟨[.int .u8 0], _, rfl, rfl, ⟨[.int .u8 0], _, rfl, rfl, ⟨[.int .u8 0], _, rfl, rfl, ⟨[.int .u8 0], _, rfl, rfl, ⟨[.int .u8 0], _, rfl, rfl, ⟨[.int .u8 0], _, rfl, rfl, ⟨[.int .u8 0], _, rfl, rfl, rfl⟩⟩⟩⟩⟩⟩⟩⟩⟩⟩⟩⟩⟩⟩⟩⟩
            refine s_x h rfl rfl (by decide) (x_build h.k rfl [(0, .int .u8 1)] rfl [.int .u8 1, .int .u8 0, .int .u8 0, .int .u8 0, .int .u8 0, .int .u8 0, .int .u8 0, .int .u8 0, .int .u8 0, .int .u8 0, .int .u8 0, .int .u8 0, .int .u8 0, .int .u8 0, .int .u8 0, .int .u8 0] (by kernel_rfl)) (fun a h => ?_)
            refine g_yes h rfl rfl rfl rfl hB20 ?_
            obtain ⟨x41, h42, hz37⟩ := bsome hz37
            have hX := aes_Cipher_Encrypt_nil0_ok Fu (S0 := snapAll _) ([.int .u8 1, .int .u8 0, .int .u8 0, .int .u8 0, .int .u8 0, .int .u8 0, .int .u8 0, .int .u8 0, .int .u8 0, .int .u8 0, .int .u8 0, .int .u8 0, .int .u8 0, .int .u8 0, .int .u8 0, .int .u8 0]) ([(1 : UInt8), (0 : UInt8), (0 : UInt8), (0 : UInt8), (0 : UInt8), (0 : UInt8), (0 : UInt8), (0 : UInt8), (0 : UInt8), (0 : UInt8), (0 : UInt8), (0 : UInt8), (0 : UInt8), (0 : UInt8), (0 : UInt8), (0 : UInt8)]) ((tyA 16 ty8).mono (h.m.leAll (i := 0) rfl) (show (tyA 16 ty8).rep S15 ([.int .u8 1, .int .u8 0, .int .u8 0, .int .u8 0, .int .u8 0, .int .u8 0, .int .u8 0, .int .u8 0, .int .u8 0, .int .u8 0, .int .u8 0, .int .u8 0, .int .u8 0, .int .u8 0, .int .u8 0, .int .u8 0]) ([(1 : UInt8), (0 : UInt8), (0 : UInt8), (0 : UInt8), (0 : UInt8), (0 : UInt8), (0 : UInt8), (0 : UInt8), (0 : UInt8), (0 : UInt8), (0 : UInt8), (0 : UInt8), (0 : UInt8), (0 : UInt8), (0 : UInt8), (0 : UInt8)]) from ⟨hq40, rfl⟩)) _ h42 _ h.startAll
            refine q_callX hX h rfl rfl rfl (by decide) Try.func15 rfl rfl rfl (fun a w v L1 S1 hR hb1 h => ?_)
            obtain ⟨k44, rfl, rfl, hv45, _⟩ := hR
            obtain ⟨hs46, hl47⟩ := hv45
            have hq48 := hs46.fl (S' := S15) fl_8
            refine g_yes h rfl rfl rfl rfl hB20 ?_
            refine s_x h rfl rfl (by decide) (x_build h.k rfl [] rfl (List.replicate 16 (.int .u8 0)) (by kernel_rfl)) (fun a h => ?_)
            refine g_yes h rfl rfl rfl rfl hB20 ?_
            refine s_x h rfl rfl (by decide) (x_eqlA8 (X := k44) (Y := (List.replicate 16 (.int .u8 0))) h.k rfl Try.underlying23 Try.underlying5 sz_uint8 gda_A16_uint8 rfl rfl hq48 (repsRep1 (T := ty8) (S := S15) (x := ((0 : UInt8) : UInt8)) rfl) hl47 (by simp)) (fun a h => ?_)
            refine s_x h rfl rfl (by decide) (x_pick (u' := undef) h.k rfl rfl (fun _ => rfl) (fun hh => absurd (hB20.symm.trans hh) (by decide))) (fun a h => ?_)
            exact (h.mid 5 rfl).val (by rw [Option.some.inj hz37])
          · refine g_no h rfl rfl rfl rfl hB20 rfl (by decide) (fun a h => ?_)
            refine g_no h rfl rfl rfl rfl hB20 rfl (by decide) (fun a h => ?_)
            refine g_no h rfl rfl rfl rfl hB20 rfl (by decide) (fun a h => ?_)
            refine g_no h rfl rfl rfl rfl hB20 rfl (by decide) (fun a h => ?_)
            refine g_no h rfl rfl rfl rfl hB20 rfl (by decide) (fun a h => ?_)
            rw [if_neg (by rw [hB20]; decide)] at hz37
            refine s_x h rfl rfl (by decide) (x_pick (u' := undef) h.k rfl rfl (fun hh => absurd (hB20.symm.trans hh) (by decide)) (fun _ => rfl)) (fun a h => ?_)
            exact (h.mid 5 rfl).val (by rw [Option.some.inj hz37])
          refine s_move h rfl _ rfl rfl (by decide) rfl (fun a h => ?_)
          obtain ⟨z50, hz49, hf⟩ := bsome hf
          refine q_grp h 6 (t := 61) 67 z50 rfl (fun hB27 => ?_) (fun hB27 => ?_) (fun a w h => ?_)
          · rw [if_pos hB27] at hz49
            refine g_yes h rfl rfl rfl rfl hB27 ?_
            refine s_move h rfl _ rfl rfl (by decide) rfl (fun a h => ?_)
            refine g_yes h rfl rfl rfl rfl hB27 ?_
            have hq52 : reps ty8 S15 [.int .u8 1, .int .u8 0, .int .u8 0, .int .u8 0, .int .u8 0, .int .u8 0, .int .u8 0, .int .u8 0, .int .u8 0, .int .u8 0, .int .u8 0, .int .u8 0, .int .u8 0, .int .u8 0, .int .u8 0, .int .u8 0] [(1 : UInt8), (0 : UInt8), (0 : UInt8), (0 : UInt8), (0 : UInt8), (0 : UInt8), (0 : UInt8), (0 : UInt8), (0 : UInt8), (0 : UInt8), (0 : UInt8), (0 : UInt8), (0 : UInt8), (0 : UInt8), (0 : UInt8), (0 : UInt8)] := ⟨[.int .u8 1], _, rfl, rfl, ⟨[.int .u8 0], _, rfl, rfl, ⟨[.int .u8 0], _, rfl, rfl, ⟨[.int .u8 0], _, rfl, rfl, ⟨[.int .u8 0], _, rfl, rfl, ⟨[.int .u8 0], _, rfl, rfl, ⟨[.int .u8 0], _, rfl, rfl, ⟨[.int .u8 0], _, rfl, rfl, ⟨[.int .u8 0], _, rfl, rfl, ⟨[.int .u8 0], _, rfl, rfl, ⟨[.int .u8 0], _, rfl, rfl, ⟨[.int .u8 0], _, rfl, rfl, ⟨[.int .u8 0], _, rfl, rfl, ⟨[.int .u8 0], _, rfl, rfl, ⟨[.int .u8 0], _, rfl, rfl, ⟨[.int .u8 0], _, rfl, rfl, rfl⟩⟩⟩⟩⟩⟩⟩⟩⟩⟩⟩⟩⟩⟩⟩⟩
            refine s_x h rfl rfl (by decide) (x_build h.k rfl [(0, .int .u8 1)] rfl [.int .u8 1, .int .u8 0, .int .u8 0, .int .u8 0, .int .u8 0, .int .u8 0, .int .u8 0, .int .u8 0, .int .u8 0, .int .u8 0, .int .u8 0, .int .u8 0, .int .u8 0, .int .u8 0, .int .u8 0, .int .u8 0] (by kernel_rfl)) (fun a h => ?_)
            refine g_yes h rfl rfl rfl rfl hB27 ?_
            obtain ⟨x53, h54, hz49⟩ := bsome hz49
            have hX := aes_Cipher_Decrypt_nil0_ok Fu (S0 := snapAll _) ([.int .u8 1, .int .u8 0, .int .u8 0, .int .u8 0, .int .u8 0, .int .u8 0, .int .u8 0, .int .u8 0, .int .u8 0, .int .u8 0, .int .u8 0, .int .u8 0, .int .u8 0, .int .u8 0, .int .u8 0, .int .u8 0]) ([(1 : UInt8), (0 : UInt8), (0 : UInt8), (0 : UInt8), (0 : UInt8), (0 : UInt8), (0 : UInt8), (0 : UInt8), (0 : UInt8), (0 : UInt8), (0 : UInt8), (0 : UInt8), (0 : UInt8), (0 : UInt8), (0 : UInt8), (0 : UInt8)]) ((tyA 16 ty8).mono (h.m.leAll (i := 0) rfl) (show (tyA 16 ty8).rep S15 ([.int .u8 1, .int .u8 0, .int .u8 0, .int .u8 0, .int .u8 0, .int .u8 0, .int .u8 0, .int .u8 0, .int .u8 0, .int .u8 0, .int .u8 0, .int .u8 0, .int .u8 0, .int .u8 0, .int .u8 0, .int .u8 0]) ([(1 : UInt8), (0 : UInt8), (0 : UInt8), (0 : UInt8), (0 : UInt8), (0 : UInt8), (0 : UInt8), (0 : UInt8), (0 : UInt8), (0 : UInt8), (0 : UInt8), (0 : UInt8), (0 : UInt8), (0 : UInt8), (0 : UInt8), (0 : UInt8)]) from ⟨hq52, rfl⟩)) _ h54 _ h.startAll
            refine q_callX hX h rfl rfl rfl (by decide) Try.func18 rfl rfl rfl (fun a w v L1 S1 hR hb1 h => ?_)
            obtain ⟨k56, rfl, rfl, hv57, _⟩ := hR
            obtain ⟨hs58, hl59⟩ := hv57
            have hq60 := hs58.fl (S' := S15) fl_8
            refine g_yes h rfl rfl rfl rfl hB27 ?_
            refine s_x h rfl rfl (by decide) (x_build h.k rfl [] rfl (List.replicate 16 (.int .u8 0)) (by kernel_rfl)) (fun a h => ?_)
            refine g_yes h rfl rfl rfl rfl hB27 ?_
            refine s_x h rfl rfl (by decide) (x_eqlA8 (X := k56) (Y := (List.replicate 16 (.int .u8 0))) h.k rfl Try.underlying23 Try.underlying5 sz_uint8 gda_A16_uint8 rfl rfl hq60 (repsRep1 (T := ty8) (S := S15) (x := ((0 : UInt8) : UInt8)) rfl) hl59 (by simp)) (fun a h => ?_)
            refine s_x h rfl rfl (by decide) (x_pick (u' := undef) h.k rfl rfl (fun _ => rfl) (fun hh => absurd (hB27.symm.trans hh) (by decide))) (fun a h => ?_)
            exact (h.mid 5 rfl).val (by rw [Option.some.inj hz49])
          · refine g_no h rfl rfl rfl rfl hB27 rfl (by decide) (fun a h => ?_)
            refine g_no h rfl rfl rfl rfl hB27 rfl (by decide) (fun a h => ?_)
            refine g_no h rfl rfl rfl rfl hB27 rfl (by decide) (fun a h => ?_)
            refine g_no h rfl rfl rfl rfl hB27 rfl (by decide) (fun a h => ?_)
            refine g_no h rfl rfl rfl rfl hB27 rfl (by decide) (fun a h => ?_)
            rw [if_neg (by rw [hB27]; decide)] at hz49
            refine s_x h rfl rfl (by decide) (x_pick (u' := undef) h.k rfl rfl (fun hh => absurd (hB27.symm.trans hh) (by decide)) (fun _ => rfl)) (fun a h => ?_)
            exact (h.mid 5 rfl).val (by rw [Option.some.inj hz49])
          refine s_assign h rfl _ rfl rfl (by decide) rfl (fun a h => ?_)
          refine l_end ?_
          refine wp_ret ?_
          refine e_thenR ?_
          rw [← Option.some.inj hf]
          exact r_ret1 h rfl (rv_tmp h rfl) ⟨_, [], _, rfl, ⟨rfl, rfl, trivial⟩, rfl, up16, h.m⟩
        · rw [if_neg (by rw [hb]; decide)] at hf
          refine wp_skip ?_
          refine e_thenN ?_
          refine c_rs ?_ -- region 9
          refine s_move h rfl _ rfl rfl (by decide) rfl (fun a h => ?_)
          obtain ⟨x61, h62, hf⟩ := bsome hf
          have hX := chatelaineref04_Make_ok Fu (S0 := S15) Aa0 ca0 a0 (hsa0.mono (le9.trans le17)) _ h62 _ (h.sub (Ls := []))
          refine q_callY (Ls := []) hX h up16 rfl rfl rfl (by decide) Try.func16 rfl rfl rfl (fun a w v L1 S64 hR le66 up65 h => ?_)
          obtain ⟨g67, rfl, rfl, hp68, _⟩ := hR
          refine s_assign h rfl _ rfl rfl (by decide) rfl (fun a h => ?_)
          refine l_end ?_
          refine wp_seq ?_
          refine wp_seq ?_
          -- region 10 draws
          obtain ⟨z71, hz72, hf⟩ := bsome hf
          refine c_fin (fun a w => St 135 w0 (ownL ([] ++ [.sn S0])) [(5, .slice A18 x12.1.length c19), (7, .pointer (some ⟨g67, 0, none⟩)), (95, .bool (z71 || (decide (w64 (4 * (x12.1.length : Int)) ≠ (x61.2.1.length : Int)))))] [.sn S64] a w) ?_ (fun a w h => ?_)
          · refine d_start h (Mem _ _ _) 26 26 rfl (by kernel_rfl) (fun _ _ _ _ _ h => h) (fun _ h => h) (fun Q a w HE HN h HS => ?_)
            refine d_takeP h (fun _ => HS) HN 0 rfl (by kernel_rfl) (by kernel_rfl) (by kernel_rfl) (by decide) rfl rfl (by decide) (fun w' => x_move h.k _ rfl rfl) (fun a h => ?_)
            refine d_takeP h (fun _ => HS) HN 1 rfl (by kernel_rfl) (by kernel_rfl) (by kernel_rfl) (by decide) rfl rfl (by decide) (fun w' => x_bin h.k rfl rfl rfl ib_neq) (fun a h => ?_)
            refine d_takeP h (fun _ => HS) HN 2 rfl (by kernel_rfl) (by kernel_rfl) (by kernel_rfl) (by decide) rfl rfl (by decide) (fun w' => x_move h.k _ rfl rfl) (fun a h => ?_)
            refine d_split (t := 72) h rfl (fun hB2 => ?_) (fun hB2 => ?_)
            · refine d_takeNP h (fun _ => HS) HN 3 rfl (by kernel_rfl) (by kernel_rfl) (by kernel_rfl) (by decide) (by rw [g_want h rfl rfl rfl rfl hB2]; rfl) rfl (by decide) (fun a h => ?_)
              refine d_takeNP h (fun _ => HS) HN 4 rfl (by kernel_rfl) (by kernel_rfl) (by kernel_rfl) (by decide) (by rw [g_want h rfl rfl rfl rfl hB2]; rfl) rfl (by decide) (fun a h => ?_)
              refine d_takeP h (fun _ => HS) HN 5 rfl (by kernel_rfl) (by kernel_rfl) (by kernel_rfl) (by decide) rfl rfl (by decide) (fun w' => x_pick (v := .bool ((decide (x10 ≠ 0)) || (decide (x12.2 ≠ 0)))) (u' := undef) h.k rfl rfl (fun _ => by rw [hB2]; first | rfl | simp [ev, List.lookup]) (fun hh => absurd (hB2.symm.trans hh) (by decide))) (fun a h => ?_)
              refine d_takeP h (fun _ => HS) HN 6 rfl (by kernel_rfl) (by kernel_rfl) (by kernel_rfl) (by decide) rfl rfl (by decide) (fun w' => x_move h.k _ rfl rfl) (fun a h => ?_)
              refine d_split (t := 76) h rfl (fun hB6 => ?_) (fun hB6 => ?_)
              · rw [if_pos hB6] at hz72
                refine d_takeNP h (fun _ => HS) HN 7 rfl (by kernel_rfl) (by kernel_rfl) (by kernel_rfl) (by decide) (by rw [g_want h rfl rfl rfl rfl hB6]; rfl) rfl (by decide) (fun a h => ?_)
                refine d_takeNP h (fun _ => HS) HN 8 rfl (by kernel_rfl) (by kernel_rfl) (by kernel_rfl) (by decide) (by rw [g_want h rfl rfl rfl rfl hB6]; rfl) rfl (by decide) (fun a h => ?_)
                refine d_takeNP h (fun _ => HS) HN 9 rfl (by kernel_rfl) (by kernel_rfl) (by kernel_rfl) (by decide) (by rw [g_want h rfl rfl rfl rfl hB6]; rfl) rfl (by decide) (fun a h => ?_)
                refine d_takeNP h (fun _ => HS) HN 10 rfl (by kernel_rfl) (by kernel_rfl) (by kernel_rfl) (by decide) (by rw [g_want h rfl rfl rfl rfl hB6]; rfl) rfl (by decide) (fun a h => ?_)
                refine d_takeNP h (fun _ => HS) HN 11 rfl (by kernel_rfl) (by kernel_rfl) (by kernel_rfl) (by decide) (by rw [g_want h rfl rfl rfl rfl hB6]; rfl) rfl (by decide) (fun a h => ?_)
                refine d_takeNP h (fun _ => HS) HN 12 rfl (by kernel_rfl) (by kernel_rfl) (by kernel_rfl) (by decide) (by rw [g_want h rfl rfl rfl rfl hB6]; rfl) rfl (by decide) (fun a h => ?_)
                refine d_takeNP h (fun _ => HS) HN 13 rfl (by kernel_rfl) (by kernel_rfl) (by kernel_rfl) (by decide) (by rw [g_want h rfl rfl rfl rfl hB6]; rfl) rfl (by decide) (fun a h => ?_)
                refine d_takeP h (fun _ => HS) HN 14 rfl (by kernel_rfl) (by kernel_rfl) (by kernel_rfl) (by decide) rfl rfl (by decide) (fun w' => x_pick (v := .bool z71) (u' := undef) h.k rfl rfl (fun _ => by rw [← Option.some.inj hz72]; rfl) (fun hh => absurd (hB6.symm.trans hh) (by decide))) (fun a h => ?_)
                refine d_takeP h (fun _ => HS) HN 15 rfl (by kernel_rfl) (by kernel_rfl) (by kernel_rfl) (by decide) rfl rfl (by decide) (fun w' => x_move h.k _ rfl rfl) (fun a h => ?_)
                refine d_split (t := 85) h rfl (fun hB15 => ?_) (fun hB15 => ?_)
                · refine d_takeNP h (fun _ => HS) HN 16 rfl (by kernel_rfl) (by kernel_rfl) (by kernel_rfl) (by decide) (by rw [g_want h rfl rfl rfl rfl hB15]; rfl) rfl (by decide) (fun a h => ?_)
                  refine d_takeNP h (fun _ => HS) HN 17 rfl (by kernel_rfl) (by kernel_rfl) (by kernel_rfl) (by decide) (by rw [g_want h rfl rfl rfl rfl hB15]; rfl) rfl (by decide) (fun a h => ?_)
                  refine d_takeNP h (fun _ => HS) HN 18 rfl (by kernel_rfl) (by kernel_rfl) (by kernel_rfl) (by decide) (by rw [g_want h rfl rfl rfl rfl hB15]; rfl) rfl (by decide) (fun a h => ?_)
                  refine d_takeNP h (fun _ => HS) HN 19 rfl (by kernel_rfl) (by kernel_rfl) (by kernel_rfl) (by decide) (by rw [g_want h rfl rfl rfl rfl hB15]; rfl) rfl (by decide) (fun a h => ?_)
                  refine d_takeNP h (fun _ => HS) HN 20 rfl (by kernel_rfl) (by kernel_rfl) (by kernel_rfl) (by decide) (by rw [g_want h rfl rfl rfl rfl hB15]; rfl) rfl (by decide) (fun a h => ?_)
                  refine d_takeNP h (fun _ => HS) HN 21 rfl (by kernel_rfl) (by kernel_rfl) (by kernel_rfl) (by decide) (by rw [g_want h rfl rfl rfl rfl hB15]; rfl) rfl (by decide) (fun a h => ?_)
                  refine d_takeNP h (fun _ => HS) HN 22 rfl (by kernel_rfl) (by kernel_rfl) (by kernel_rfl) (by decide) (by rw [g_want h rfl rfl rfl rfl hB15]; rfl) rfl (by decide) (fun a h => ?_)
                  refine d_takeNP h (fun _ => HS) HN 23 rfl (by kernel_rfl) (by kernel_rfl) (by kernel_rfl) (by decide) (by rw [g_want h rfl rfl rfl rfl hB15]; rfl) rfl (by decide) (fun a h => ?_)
                  refine d_takeNP h (fun _ => HS) HN 24 rfl (by kernel_rfl) (by kernel_rfl) (by kernel_rfl) (by decide) (by rw [g_want h rfl rfl rfl rfl hB15]; rfl) rfl (by decide) (fun a h => ?_)
                  refine d_takeP h (fun _ => HS) HN 25 rfl (by kernel_rfl) (by kernel_rfl) (by kernel_rfl) (by decide) rfl rfl (by decide) (fun w' => x_pick (v := .bool (z71 || (decide (w64 (4 * (x12.1.length : Int)) ≠ (x61.2.1.length : Int))))) (u' := undef) h.k rfl rfl (fun _ => by rw [hB15]; first | rfl | simp [ev, List.lookup]) (fun hh => absurd (hB15.symm.trans hh) (by decide))) (fun a h => ?_)
                  refine d_done (by kernel_rfl) (HE _ _ ?_) _
                  refine e_thenN ?_
                  exact h.has (by exact ⟨rfl, rfl, rfl, trivial⟩)
                · refine d_takeP h (fun _ => HS) HN 16 rfl (by kernel_rfl) (by kernel_rfl) (by kernel_rfl) (by decide) (by rw [g_want h rfl rfl rfl rfl hB15]; rfl) rfl (by decide) (fun w' => x_move h.k _ rfl rfl) (fun a h => ?_)
                  refine d_takeP h (fun _ => HS) HN 17 rfl (by kernel_rfl) (by kernel_rfl) (by kernel_rfl) (by decide) (by rw [g_want h rfl rfl rfl rfl hB15]; rfl) rfl (by decide) (fun w' => x_len h.k rfl Try.underlying34 rfl) (fun a h => ?_)
                  refine d_takeP h (fun _ => HS) HN 18 rfl (by kernel_rfl) (by kernel_rfl) (by kernel_rfl) (by decide) (by rw [g_want h rfl rfl rfl rfl hB15]; rfl) rfl (by decide) (fun w' => x_bin h.k rfl rfl rfl (ib_mul rfl)) (fun a h => ?_)
                  refine d_takeP h (fun _ => HS) HN 19 rfl (by kernel_rfl) (by kernel_rfl) (by kernel_rfl) (by decide) (by rw [g_want h rfl rfl rfl rfl hB15]; rfl) rfl (by decide) (fun w' => x_move h.k _ rfl rfl) (fun a h => ?_)
                  obtain ⟨k92, hc93, ⟨k94, k95, rfl, ⟨rfl, hr96⟩, ⟨k97, k98, rfl, ⟨A99, c100, rfl, hs101⟩, ⟨A102, c103, rfl, hs104⟩⟩⟩⟩ := id hp68
                  refine d_takeP h (fun _ => HS) HN 20 rfl (by kernel_rfl) (by kernel_rfl) (by kernel_rfl) (by decide) (by rw [g_want h rfl rfl rfl rfl hB15]; rfl) rfl (by decide) (fun w' => x_nil h.k rfl rfl) (fun a h => ?_)
                  refine d_takeP h (fun _ => HS) HN 21 rfl (by kernel_rfl) (by kernel_rfl) (by kernel_rfl) (by decide) (by rw [g_want h rfl rfl rfl rfl hB15]; rfl) rfl (by decide) (fun w' => x_faddr h.k rfl Try.underlying40 rfl sz_Sint rfl) (fun a h => ?_)
                  refine d_takeY h HS HN 22 rfl (by kernel_rfl) (by kernel_rfl) (by kernel_rfl) (by kernel_rfl) (by kernel_rfl) (by rw [g_want h rfl rfl rfl rfl hB15]; rfl) rfl (by decide) (fun w' hw => x_ld h.k rfl Try.underlying38 rfl rfl (hc93 _ (hw.snOK (i := 0) rfl) 1 _ rfl)) (fun a h => ?_)
                  refine d_takeP h (fun _ => HS) HN 23 rfl (by kernel_rfl) (by kernel_rfl) (by kernel_rfl) (by decide) (by rw [g_want h rfl rfl rfl rfl hB15]; rfl) rfl (by decide) (fun w' => x_len h.k rfl Try.underlying38 rfl) (fun a h => ?_)
                  refine d_takeP h (fun _ => HS) HN 24 rfl (by kernel_rfl) (by kernel_rfl) (by kernel_rfl) (by decide) (by rw [g_want h rfl rfl rfl rfl hB15]; rfl) rfl (by decide) (fun w' => x_bin h.k rfl rfl rfl ib_neq) (fun a h => ?_)
                  refine d_takeP h (fun _ => HS) HN 25 rfl (by kernel_rfl) (by kernel_rfl) (by kernel_rfl) (by decide) rfl rfl (by decide) (fun w' => x_pick (v := .bool (z71 || (decide (w64 (4 * (x12.1.length : Int)) ≠ (x61.2.1.length : Int))))) (u' := undef) h.k rfl rfl (fun hh => absurd (hB15.symm.trans hh) (by decide)) (fun _ => by rw [hB15]; first | rfl | simp [ev, List.lookup])) (fun a h => ?_)
                  refine d_done (by kernel_rfl) (HE _ _ ?_) _
                  refine e_thenN ?_
                  exact h.has (by exact ⟨rfl, rfl, rfl, trivial⟩)
              · rw [if_neg (by rw [hB6]; decide)] at hz72
                obtain ⟨x73, h74, hz72⟩ := bsome hz72
                refine d_takeP h (fun _ => HS) HN 7 rfl (by kernel_rfl) (by kernel_rfl) (by kernel_rfl) (by decide) (by rw [g_want h rfl rfl rfl rfl hB6]; rfl) rfl (by decide) (fun w' => x_move h.k _ rfl rfl) (fun a h => ?_)
                refine d_takeP h (fun _ => HS) HN 9 rfl (by kernel_rfl) (by kernel_rfl) (by kernel_rfl) (by decide) (by rw [g_want h rfl rfl rfl rfl hB6]; rfl) rfl (by decide) (fun w' => x_move h.k _ rfl rfl) (fun a h => ?_)
                obtain ⟨k77, hc78, ⟨k79, k80, rfl, ⟨rfl, hr81⟩, ⟨k82, k83, rfl, ⟨A84, c85, rfl, hs86⟩, ⟨A87, c88, rfl, hs89⟩⟩⟩⟩ := id hp68
                refine d_takeP h (fun _ => HS) HN 10 rfl (by kernel_rfl) (by kernel_rfl) (by kernel_rfl) (by decide) (by rw [g_want h rfl rfl rfl rfl hB6]; rfl) rfl (by decide) (fun w' => x_nil h.k rfl rfl) (fun a h => ?_)
                refine d_takeP h (fun _ => HS) HN 11 rfl (by kernel_rfl) (by kernel_rfl) (by kernel_rfl) (by decide) (by rw [g_want h rfl rfl rfl rfl hB6]; rfl) rfl (by decide) (fun w' => x_faddr h.k rfl Try.underlying40 rfl sz_int rfl) (fun a h => ?_)
                refine d_takeY h HS HN 12 rfl (by kernel_rfl) (by kernel_rfl) (by kernel_rfl) (by kernel_rfl) (by kernel_rfl) (by rw [g_want h rfl rfl rfl rfl hB6]; rfl) rfl (by decide) (fun w' hw => x_ld h.k rfl Try.underlying3 rfl rfl (hc78 _ (hw.snOK (i := 0) rfl) 0 _ rfl)) (fun a h => ?_)
                refine d_alone 8 rfl (by kernel_rfl) (fun K hK => ?_)
                refine g_yes (j := 6) (t := 76) h rfl rfl rfl rfl hB6 ?_
                have hX := aes_Cipher_Rounds_nil0_ok Fu (S0 := snapAll _)  _ h74 _ h.startAll
                refine q_callX hX h rfl rfl rfl (by decide) Try.func20 rfl rfl rfl (fun a w v L1 S1 hR hb1 h => ?_)
                obtain ⟨rfl, rfl, hr76, _⟩ := hR
                refine hK _ _ (fun _ _ => HS.ext hb1) ?_
                replace HS := HS.ext hb1
                clear hK
                refine d_takeP h (fun _ => HS) HN 13 rfl (by kernel_rfl) (by kernel_rfl) (by kernel_rfl) (by decide) (by rw [g_want h rfl rfl rfl rfl hB6]; rfl) rfl (by decide) (fun w' => x_bin h.k rfl rfl rfl ib_neq) (fun a h => ?_)
                refine d_takeP h (fun _ => HS) HN 14 rfl (by kernel_rfl) (by kernel_rfl) (by kernel_rfl) (by decide) rfl rfl (by decide) (fun w' => x_pick (v := .bool z71) (u' := undef) h.k rfl rfl (fun hh => absurd (hB6.symm.trans hh) (by decide)) (fun _ => by rw [← Option.some.inj hz72]; rfl)) (fun a h => ?_)
                refine d_takeP h (fun _ => HS) HN 15 rfl (by kernel_rfl) (by kernel_rfl) (by kernel_rfl) (by decide) rfl rfl (by decide) (fun w' => x_move h.k _ rfl rfl) (fun a h => ?_)
                refine d_split (t := 85) h rfl (fun hB15 => ?_) (fun hB15 => ?_)
                · refine d_takeNP h (fun _ => HS) HN 16 rfl (by kernel_rfl) (by kernel_rfl) (by kernel_rfl) (by decide) (by rw [g_want h rfl rfl rfl rfl hB15]; rfl) rfl (by decide) (fun a h => ?_)
                  refine d_takeNP h (fun _ => HS) HN 17 rfl (by kernel_rfl) (by kernel_rfl) (by kernel_rfl) (by decide) (by rw [g_want h rfl rfl rfl rfl hB15]; rfl) rfl (by decide) (fun a h => ?_)
                  refine d_takeNP h (fun _ => HS) HN 18 rfl (by kernel_rfl) (by kernel_rfl) (by kernel_rfl) (by decide) (by rw [g_want h rfl rfl rfl rfl hB15]; rfl) rfl (by decide) (fun a h => ?_)
                  refine d_takeNP h (fun _ => HS) HN 19 rfl (by kernel_rfl) (by kernel_rfl) (by kernel_rfl) (by decide) (by rw [g_want h rfl rfl rfl rfl hB15]; rfl) rfl (by decide) (fun a h => ?_)
                  refine d_takeNP h (fun _ => HS) HN 20 rfl (by kernel_rfl) (by kernel_rfl) (by kernel_rfl) (by decide) (by rw [g_want h rfl rfl rfl rfl hB15]; rfl) rfl (by decide) (fun a h => ?_)
                  refine d_takeNP h (fun _ => HS) HN 21 rfl (by kernel_rfl) (by kernel_rfl) (by kernel_rfl) (by decide) (by rw [g_want h rfl rfl rfl rfl hB15]; rfl) rfl (by decide) (fun a h => ?_)
                  refine d_takeNP h (fun _ => HS) HN 22 rfl (by kernel_rfl) (by kernel_rfl) (by kernel_rfl) (by decide) (by rw [g_want h rfl rfl rfl rfl hB15]; rfl) rfl (by decide) (fun a h => ?_)
                  refine d_takeNP h (fun _ => HS) HN 23 rfl (by kernel_rfl) (by kernel_rfl) (by kernel_rfl) (by decide) (by rw [g_want h rfl rfl rfl rfl hB15]; rfl) rfl (by decide) (fun a h => ?_)
                  refine d_takeNP h (fun _ => HS) HN 24 rfl (by kernel_rfl) (by kernel_rfl) (by kernel_rfl) (by decide) (by rw [g_want h rfl rfl rfl rfl hB15]; rfl) rfl (by decide) (fun a h => ?_)
                  refine d_takeP h (fun _ => HS) HN 25 rfl (by kernel_rfl) (by kernel_rfl) (by kernel_rfl) (by decide) rfl rfl (by decide) (fun w' => x_pick (v := .bool (z71 || (decide (w64 (4 * (x12.1.length : Int)) ≠ (x61.2.1.length : Int))))) (u' := undef) h.k rfl rfl (fun _ => by rw [hB15]; first | rfl | simp [ev, List.lookup]) (fun hh => absurd (hB15.symm.trans hh) (by decide))) (fun a h => ?_)
                  refine d_done (by kernel_rfl) (HE _ _ ?_) _
                  refine e_thenN ?_
                  exact h.has (by exact ⟨rfl, rfl, rfl, trivial⟩)
                · refine d_takeP h (fun _ => HS) HN 16 rfl (by kernel_rfl) (by kernel_rfl) (by kernel_rfl) (by decide) (by rw [g_want h rfl rfl rfl rfl hB15]; rfl) rfl (by decide) (fun w' => x_move h.k _ rfl rfl) (fun a h => ?_)
                  refine d_takeP h (fun _ => HS) HN 17 rfl (by kernel_rfl) (by kernel_rfl) (by kernel_rfl) (by decide) (by rw [g_want h rfl rfl rfl rfl hB15]; rfl) rfl (by decide) (fun w' => x_len h.k rfl Try.underlying34 rfl) (fun a h => ?_)
                  refine d_takeP h (fun _ => HS) HN 18 rfl (by kernel_rfl) (by kernel_rfl) (by kernel_rfl) (by decide) (by rw [g_want h rfl rfl rfl rfl hB15]; rfl) rfl (by decide) (fun w' => x_bin h.k rfl rfl rfl (ib_mul rfl)) (fun a h => ?_)
                  refine d_takeP h (fun _ => HS) HN 19 rfl (by kernel_rfl) (by kernel_rfl) (by kernel_rfl) (by decide) (by rw [g_want h rfl rfl rfl rfl hB15]; rfl) rfl (by decide) (fun w' => x_move h.k _ rfl rfl) (fun a h => ?_)
                  obtain ⟨k92, hc93, ⟨k94, k95, rfl, ⟨rfl, hr96⟩, ⟨k97, k98, rfl, ⟨A99, c100, rfl, hs101⟩, ⟨A102, c103, rfl, hs104⟩⟩⟩⟩ := id hp68
                  refine d_takeP h (fun _ => HS) HN 20 rfl (by kernel_rfl) (by kernel_rfl) (by kernel_rfl) (by decide) (by rw [g_want h rfl rfl rfl rfl hB15]; rfl) rfl (by decide) (fun w' => x_nil h.k rfl rfl) (fun a h => ?_)
                  refine d_takeP h (fun _ => HS) HN 21 rfl (by kernel_rfl) (by kernel_rfl) (by kernel_rfl) (by decide) (by rw [g_want h rfl rfl rfl rfl hB15]; rfl) rfl (by decide) (fun w' => x_faddr h.k rfl Try.underlying40 rfl sz_Sint rfl) (fun a h => ?_)
                  refine d_takeY h HS HN 22 rfl (by kernel_rfl) (by kernel_rfl) (by kernel_rfl) (by kernel_rfl) (by kernel_rfl) (by rw [g_want h rfl rfl rfl rfl hB15]; rfl) rfl (by decide) (fun w' hw => x_ld h.k rfl Try.underlying38 rfl rfl (hc93 _ (hw.snOK (i := 0) rfl) 1 _ rfl)) (fun a h => ?_)
                  refine d_takeP h (fun _ => HS) HN 23 rfl (by kernel_rfl) (by kernel_rfl) (by kernel_rfl) (by decide) (by rw [g_want h rfl rfl rfl rfl hB15]; rfl) rfl (by decide) (fun w' => x_len h.k rfl Try.underlying38 rfl) (fun a h => ?_)
                  refine d_takeP h (fun _ => HS) HN 24 rfl (by kernel_rfl) (by kernel_rfl) (by kernel_rfl) (by decide) (by rw [g_want h rfl rfl rfl rfl hB15]; rfl) rfl (by decide) (fun w' => x_bin h.k rfl rfl rfl ib_neq) (fun a h => ?_)
                  refine d_takeP h (fun _ => HS) HN 25 rfl (by kernel_rfl) (by kernel_rfl) (by kernel_rfl) (by decide) rfl rfl (by decide) (fun w' => x_pick (v := .bool (z71 || (decide (w64 (4 * (x12.1.length : Int)) ≠ (x61.2.1.length : Int))))) (u' := undef) h.k rfl rfl (fun hh => absurd (hB15.symm.trans hh) (by decide)) (fun _ => by rw [hB15]; first | rfl | simp [ev, List.lookup])) (fun a h => ?_)
                  refine d_done (by kernel_rfl) (HE _ _ ?_) _
                  refine e_thenN ?_
                  exact h.has (by exact ⟨rfl, rfl, rfl, trivial⟩)
            · refine d_takeP h (fun _ => HS) HN 3 rfl (by kernel_rfl) (by kernel_rfl) (by kernel_rfl) (by decide) (by rw [g_want h rfl rfl rfl rfl hB2]; rfl) rfl (by decide) (fun w' => x_move h.k _ rfl rfl) (fun a h => ?_)
              refine d_takeP h (fun _ => HS) HN 4 rfl (by kernel_rfl) (by kernel_rfl) (by kernel_rfl) (by decide) (by rw [g_want h rfl rfl rfl rfl hB2]; rfl) rfl (by decide) (fun w' => x_bin h.k rfl rfl rfl ib_neq) (fun a h => ?_)
              refine d_takeP h (fun _ => HS) HN 5 rfl (by kernel_rfl) (by kernel_rfl) (by kernel_rfl) (by decide) rfl rfl (by decide) (fun w' => x_pick (v := .bool ((decide (x10 ≠ 0)) || (decide (x12.2 ≠ 0)))) (u' := undef) h.k rfl rfl (fun hh => absurd (hB2.symm.trans hh) (by decide)) (fun _ => by rw [hB2]; first | rfl | simp [ev, List.lookup])) (fun a h => ?_)
              refine d_takeP h (fun _ => HS) HN 6 rfl (by kernel_rfl) (by kernel_rfl) (by kernel_rfl) (by decide) rfl rfl (by decide) (fun w' => x_move h.k _ rfl rfl) (fun a h => ?_)
              refine d_split (t := 76) h rfl (fun hB6 => ?_) (fun hB6 => ?_)
              · rw [if_pos hB6] at hz72
                refine d_takeNP h (fun _ => HS) HN 7 rfl (by kernel_rfl) (by kernel_rfl) (by kernel_rfl) (by decide) (by rw [g_want h rfl rfl rfl rfl hB6]; rfl) rfl (by decide) (fun a h => ?_)
                refine d_takeNP h (fun _ => HS) HN 8 rfl (by kernel_rfl) (by kernel_rfl) (by kernel_rfl) (by decide) (by rw [g_want h rfl rfl rfl rfl hB6]; rfl) rfl (by decide) (fun a h => ?_)
                refine d_takeNP h (fun _ => HS) HN 9 rfl (by kernel_rfl) (by kernel_rfl) (by kernel_rfl) (by decide) (by rw [g_want h rfl rfl rfl rfl hB6]; rfl) rfl (by decide) (fun a h => ?_)
                refine d_takeNP h (fun _ => HS) HN 10 rfl (by kernel_rfl) (by kernel_rfl) (by kernel_rfl) (by decide) (by rw [g_want h rfl rfl rfl rfl hB6]; rfl) rfl (by decide) (fun a h => ?_)
                refine d_takeNP h (fun _ => HS) HN 11 rfl (by kernel_rfl) (by kernel_rfl) (by kernel_rfl) (by decide) (by rw [g_want h rfl rfl rfl rfl hB6]; rfl) rfl (by decide) (fun a h => ?_)
                refine d_takeNP h (fun _ => HS) HN 12 rfl (by kernel_rfl) (by kernel_rfl) (by kernel_rfl) (by decide) (by rw [g_want h rfl rfl rfl rfl hB6]; rfl) rfl (by decide) (fun a h => ?_)
                refine d_takeNP h (fun _ => HS) HN 13 rfl (by kernel_rfl) (by kernel_rfl) (by kernel_rfl) (by decide) (by rw [g_want h rfl rfl rfl rfl hB6]; rfl) rfl (by decide) (fun a h => ?_)
                refine d_takeP h (fun _ => HS) HN 14 rfl (by kernel_rfl) (by kernel_rfl) (by kernel_rfl) (by decide) rfl rfl (by decide) (fun w' => x_pick (v := .bool z71) (u' := undef) h.k rfl rfl (fun _ => by rw [← Option.some.inj hz72]; rfl) (fun hh => absurd (hB6.symm.trans hh) (by decide))) (fun a h => ?_)
                refine d_takeP h (fun _ => HS) HN 15 rfl (by kernel_rfl) (by kernel_rfl) (by kernel_rfl) (by decide) rfl rfl (by decide) (fun w' => x_move h.k _ rfl rfl) (fun a h => ?_)
                refine d_split (t := 85) h rfl (fun hB15 => ?_) (fun hB15 => ?_)
                · refine d_takeNP h (fun _ => HS) HN 16 rfl (by kernel_rfl) (by kernel_rfl) (by kernel_rfl) (by decide) (by rw [g_want h rfl rfl rfl rfl hB15]; rfl) rfl (by decide) (fun a h => ?_)
                  refine d_takeNP h (fun _ => HS) HN 17 rfl (by kernel_rfl) (by kernel_rfl) (by kernel_rfl) (by decide) (by rw [g_want h rfl rfl rfl rfl hB15]; rfl) rfl (by decide) (fun a h => ?_)
                  refine d_takeNP h (fun _ => HS) HN 18 rfl (by kernel_rfl) (by kernel_rfl) (by kernel_rfl) (by decide) (by rw [g_want h rfl rfl rfl rfl hB15]; rfl) rfl (by decide) (fun a h => ?_)
                  refine d_takeNP h (fun _ => HS) HN 19 rfl (by kernel_rfl) (by kernel_rfl) (by kernel_rfl) (by decide) (by rw [g_want h rfl rfl rfl rfl hB15]; rfl) rfl (by decide) (fun a h => ?_)
                  refine d_takeNP h (fun _ => HS) HN 20 rfl (by kernel_rfl) (by kernel_rfl) (by kernel_rfl) (by decide) (by rw [g_want h rfl rfl rfl rfl hB15]; rfl) rfl (by decide) (fun a h => ?_)
                  refine d_takeNP h (fun _ => HS) HN 21 rfl (by kernel_rfl) (by kernel_rfl) (by kernel_rfl) (by decide) (by rw [g_want h rfl rfl rfl rfl hB15]; rfl) rfl (by decide) (fun a h => ?_)
                  refine d_takeNP h (fun _ => HS) HN 22 rfl (by kernel_rfl) (by kernel_rfl) (by kernel_rfl) (by decide) (by rw [g_want h rfl rfl rfl rfl hB15]; rfl) rfl (by decide) (fun a h => ?_)
                  refine d_takeNP h (fun _ => HS) HN 23 rfl (by kernel_rfl) (by kernel_rfl) (by kernel_rfl) (by decide) (by rw [g_want h rfl rfl rfl rfl hB15]; rfl) rfl (by decide) (fun a h => ?_)
                  refine d_takeNP h (fun _ => HS) HN 24 rfl (by kernel_rfl) (by kernel_rfl) (by kernel_rfl) (by decide) (by rw [g_want h rfl rfl rfl rfl hB15]; rfl) rfl (by decide) (fun a h => ?_)
                  refine d_takeP h (fun _ => HS) HN 25 rfl (by kernel_rfl) (by kernel_rfl) (by kernel_rfl) (by decide) rfl rfl (by decide) (fun w' => x_pick (v := .bool (z71 || (decide (w64 (4 * (x12.1.length : Int)) ≠ (x61.2.1.length : Int))))) (u' := undef) h.k rfl rfl (fun _ => by rw [hB15]; first | rfl | simp [ev, List.lookup]) (fun hh => absurd (hB15.symm.trans hh) (by decide))) (fun a h => ?_)
                  refine d_done (by kernel_rfl) (HE _ _ ?_) _
                  refine e_thenN ?_
                  exact h.has (by exact ⟨rfl, rfl, rfl, trivial⟩)
                · refine d_takeP h (fun _ => HS) HN 16 rfl (by kernel_rfl) (by kernel_rfl) (by kernel_rfl) (by decide) (by rw [g_want h rfl rfl rfl rfl hB15]; rfl) rfl (by decide) (fun w' => x_move h.k _ rfl rfl) (fun a h => ?_)
                  refine d_takeP h (fun _ => HS) HN 17 rfl (by kernel_rfl) (by kernel_rfl) (by kernel_rfl) (by decide) (by rw [g_want h rfl rfl rfl rfl hB15]; rfl) rfl (by decide) (fun w' => x_len h.k rfl Try.underlying34 rfl) (fun a h => ?_)
                  refine d_takeP h (fun _ => HS) HN 18 rfl (by kernel_rfl) (by kernel_rfl) (by kernel_rfl) (by decide) (by rw [g_want h rfl rfl rfl rfl hB15]; rfl) rfl (by decide) (fun w' => x_bin h.k rfl rfl rfl (ib_mul rfl)) (fun a h => ?_)
                  refine d_takeP h (fun _ => HS) HN 19 rfl (by kernel_rfl) (by kernel_rfl) (by kernel_rfl) (by decide) (by rw [g_want h rfl rfl rfl rfl hB15]; rfl) rfl (by decide) (fun w' => x_move h.k _ rfl rfl) (fun a h => ?_)
                  obtain ⟨k92, hc93, ⟨k94, k95, rfl, ⟨rfl, hr96⟩, ⟨k97, k98, rfl, ⟨A99, c100, rfl, hs101⟩, ⟨A102, c103, rfl, hs104⟩⟩⟩⟩ := id hp68
                  refine d_takeP h (fun _ => HS) HN 20 rfl (by kernel_rfl) (by kernel_rfl) (by kernel_rfl) (by decide) (by rw [g_want h rfl rfl rfl rfl hB15]; rfl) rfl (by decide) (fun w' => x_nil h.k rfl rfl) (fun a h => ?_)
                  refine d_takeP h (fun _ => HS) HN 21 rfl (by kernel_rfl) (by kernel_rfl) (by kernel_rfl) (by decide) (by rw [g_want h rfl rfl rfl rfl hB15]; rfl) rfl (by decide) (fun w' => x_faddr h.k rfl Try.underlying40 rfl sz_Sint rfl) (fun a h => ?_)
                  refine d_takeY h HS HN 22 rfl (by kernel_rfl) (by kernel_rfl) (by kernel_rfl) (by kernel_rfl) (by kernel_rfl) (by rw [g_want h rfl rfl rfl rfl hB15]; rfl) rfl (by decide) (fun w' hw => x_ld h.k rfl Try.underlying38 rfl rfl (hc93 _ (hw.snOK (i := 0) rfl) 1 _ rfl)) (fun a h => ?_)
                  refine d_takeP h (fun _ => HS) HN 23 rfl (by kernel_rfl) (by kernel_rfl) (by kernel_rfl) (by decide) (by rw [g_want h rfl rfl rfl rfl hB15]; rfl) rfl (by decide) (fun w' => x_len h.k rfl Try.underlying38 rfl) (fun a h => ?_)
                  refine d_takeP h (fun _ => HS) HN 24 rfl (by kernel_rfl) (by kernel_rfl) (by kernel_rfl) (by decide) (by rw [g_want h rfl rfl rfl rfl hB15]; rfl) rfl (by decide) (fun w' => x_bin h.k rfl rfl rfl ib_neq) (fun a h => ?_)
                  refine d_takeP h (fun _ => HS) HN 25 rfl (by kernel_rfl) (by kernel_rfl) (by kernel_rfl) (by decide) rfl rfl (by decide) (fun w' => x_pick (v := .bool (z71 || (decide (w64 (4 * (x12.1.length : Int)) ≠ (x61.2.1.length : Int))))) (u' := undef) h.k rfl rfl (fun hh => absurd (hB15.symm.trans hh) (by decide)) (fun _ => by rw [hB15]; first | rfl | simp [ev, List.lookup])) (fun a h => ?_)
                  refine d_done (by kernel_rfl) (HE _ _ ?_) _
                  refine e_thenN ?_
                  exact h.has (by exact ⟨rfl, rfl, rfl, trivial⟩)
              · rw [if_neg (by rw [hB6]; decide)] at hz72
                obtain ⟨x73, h74, hz72⟩ := bsome hz72
                refine d_takeP h (fun _ => HS) HN 7 rfl (by kernel_rfl) (by kernel_rfl) (by kernel_rfl) (by decide) (by rw [g_want h rfl rfl rfl rfl hB6]; rfl) rfl (by decide) (fun w' => x_move h.k _ rfl rfl) (fun a h => ?_)
                refine d_takeP h (fun _ => HS) HN 9 rfl (by kernel_rfl) (by kernel_rfl) (by kernel_rfl) (by decide) (by rw [g_want h rfl rfl rfl rfl hB6]; rfl) rfl (by decide) (fun w' => x_move h.k _ rfl rfl) (fun a h => ?_)
                obtain ⟨k77, hc78, ⟨k79, k80, rfl, ⟨rfl, hr81⟩, ⟨k82, k83, rfl, ⟨A84, c85, rfl, hs86⟩, ⟨A87, c88, rfl, hs89⟩⟩⟩⟩ := id hp68
                refine d_takeP h (fun _ => HS) HN 10 rfl (by kernel_rfl) (by kernel_rfl) (by kernel_rfl) (by decide) (by rw [g_want h rfl rfl rfl rfl hB6]; rfl) rfl (by decide) (fun w' => x_nil h.k rfl rfl) (fun a h => ?_)
                refine d_takeP h (fun _ => HS) HN 11 rfl (by kernel_rfl) (by kernel_rfl) (by kernel_rfl) (by decide) (by rw [g_want h rfl rfl rfl rfl hB6]; rfl) rfl (by decide) (fun w' => x_faddr h.k rfl Try.underlying40 rfl sz_int rfl) (fun a h => ?_)
                refine d_takeY h HS HN 12 rfl (by kernel_rfl) (by kernel_rfl) (by kernel_rfl) (by kernel_rfl) (by kernel_rfl) (by rw [g_want h rfl rfl rfl rfl hB6]; rfl) rfl (by decide) (fun w' hw => x_ld h.k rfl Try.underlying3 rfl rfl (hc78 _ (hw.snOK (i := 0) rfl) 0 _ rfl)) (fun a h => ?_)
                refine d_alone 8 rfl (by kernel_rfl) (fun K hK => ?_)
                refine g_yes (j := 6) (t := 76) h rfl rfl rfl rfl hB6 ?_
                have hX := aes_Cipher_Rounds_nil0_ok Fu (S0 := snapAll _)  _ h74 _ h.startAll
                refine q_callX hX h rfl rfl rfl (by decide) Try.func20 rfl rfl rfl (fun a w v L1 S1 hR hb1 h => ?_)
                obtain ⟨rfl, rfl, hr76, _⟩ := hR
                refine hK _ _ (fun _ _ => HS.ext hb1) ?_
                replace HS := HS.ext hb1
                clear hK
                refine d_takeP h (fun _ => HS) HN 13 rfl (by kernel_rfl) (by kernel_rfl) (by kernel_rfl) (by decide) (by rw [g_want h rfl rfl rfl rfl hB6]; rfl) rfl (by decide) (fun w' => x_bin h.k rfl rfl rfl ib_neq) (fun a h => ?_)
                refine d_takeP h (fun _ => HS) HN 14 rfl (by kernel_rfl) (by kernel_rfl) (by kernel_rfl) (by decide) rfl rfl (by decide) (fun w' => x_pick (v := .bool z71) (u' := undef) h.k rfl rfl (fun hh => absurd (hB6.symm.trans hh) (by decide)) (fun _ => by rw [← Option.some.inj hz72]; rfl)) (fun a h => ?_)
                refine d_takeP h (fun _ => HS) HN 15 rfl (by kernel_rfl) (by kernel_rfl) (by kernel_rfl) (by decide) rfl rfl (by decide) (fun w' => x_move h.k _ rfl rfl) (fun a h => ?_)
                refine d_split (t := 85) h rfl (fun hB15 => ?_) (fun hB15 => ?_)
                · refine d_takeNP h (fun _ => HS) HN 16 rfl (by kernel_rfl) (by kernel_rfl) (by kernel_rfl) (by decide) (by rw [g_want h rfl rfl rfl rfl hB15]; rfl) rfl (by decide) (fun a h => ?_)
                  refine d_takeNP h (fun _ => HS) HN 17 rfl (by kernel_rfl) (by kernel_rfl) (by kernel_rfl) (by decide) (by rw [g_want h rfl rfl rfl rfl hB15]; rfl) rfl (by decide) (fun a h => ?_)
                  refine d_takeNP h (fun _ => HS) HN 18 rfl (by kernel_rfl) (by kernel_rfl) (by kernel_rfl) (by decide) (by rw [g_want h rfl rfl rfl rfl hB15]; rfl) rfl (by decide) (fun a h => ?_)
                  refine d_takeNP h (fun _ => HS) HN 19 rfl (by kernel_rfl) (by kernel_rfl) (by kernel_rfl) (by decide) (by rw [g_want h rfl rfl rfl rfl hB15]; rfl) rfl (by decide) (fun a h => ?_)
                  refine d_takeNP h (fun _ => HS) HN 20 rfl (by kernel_rfl) (by kernel_rfl) (by kernel_rfl) (by decide) (by rw [g_want h rfl rfl rfl rfl hB15]; rfl) rfl (by decide) (fun a h => ?_)
                  refine d_takeNP h (fun _ => HS) HN 21 rfl (by kernel_rfl) (by kernel_rfl) (by kernel_rfl) (by decide) (by rw [g_want h rfl rfl rfl rfl hB15]; rfl) rfl (by decide) (fun a h => ?_)
                  refine d_takeNP h (fun _ => HS) HN 22 rfl (by kernel_rfl) (by kernel_rfl) (by kernel_rfl) (by decide) (by rw [g_want h rfl rfl rfl rfl hB15]; rfl) rfl (by decide) (fun a h => ?_)
                  refine d_takeNP h (fun _ => HS) HN 23 rfl (by kernel_rfl) (by kernel_rfl) (by kernel_rfl) (by decide) (by rw [g_want h rfl rfl rfl rfl hB15]; rfl) rfl (by decide) (fun a h => ?_)
                  refine d_takeNP h (fun _ => HS) HN 24 rfl (by kernel_rfl) (by kernel_rfl) (by kernel_rfl) (by decide) (by rw [g_want h rfl rfl rfl rfl hB15]; rfl) rfl (by decide) (fun a h => ?_)
                  refine d_takeP h (fun _ => HS) HN 25 rfl (by kernel_rfl) (by kernel_rfl) (by kernel_rfl) (by decide) rfl rfl (by decide) (fun w' => x_pick (v := .bool (z71 || (decide (w64 (4 * (x12.1.length : Int)) ≠ (x61.2.1.length : Int))))) (u' := undef) h.k rfl rfl (fun _ => by rw [hB15]; first | rfl | simp [ev, List.lookup]) (fun hh => absurd (hB15.symm.trans hh) (by decide))) (fun a h => ?_)
                  refine d_done (by kernel_rfl) (HE _ _ ?_) _
                  refine e_thenN ?_
                  exact h.has (by exact ⟨rfl, rfl, rfl, trivial⟩)
                · refine d_takeP h (fun _ => HS) HN 16 rfl (by kernel_rfl) (by kernel_rfl) (by kernel_rfl) (by decide) (by rw [g_want h rfl rfl rfl rfl hB15]; rfl) rfl (by decide) (fun w' => x_move h.k _ rfl rfl) (fun a h => ?_)
                  refine d_takeP h (fun _ => HS) HN 17 rfl (by kernel_rfl) (by kernel_rfl) (by kernel_rfl) (by decide) (by rw [g_want h rfl rfl rfl rfl hB15]; rfl) rfl (by decide) (fun w' => x_len h.k rfl Try.underlying34 rfl) (fun a h => ?_)
                  refine d_takeP h (fun _ => HS) HN 18 rfl (by kernel_rfl) (by kernel_rfl) (by kernel_rfl) (by decide) (by rw [g_want h rfl rfl rfl rfl hB15]; rfl) rfl (by decide) (fun w' => x_bin h.k rfl rfl rfl (ib_mul rfl)) (fun a h => ?_)
                  refine d_takeP h (fun _ => HS) HN 19 rfl (by kernel_rfl) (by kernel_rfl) (by kernel_rfl) (by decide) (by rw [g_want h rfl rfl rfl rfl hB15]; rfl) rfl (by decide) (fun w' => x_move h.k _ rfl rfl) (fun a h => ?_)
                  obtain ⟨k92, hc93, ⟨k94, k95, rfl, ⟨rfl, hr96⟩, ⟨k97, k98, rfl, ⟨A99, c100, rfl, hs101⟩, ⟨A102, c103, rfl, hs104⟩⟩⟩⟩ := id hp68
                  refine d_takeP h (fun _ => HS) HN 20 rfl (by kernel_rfl) (by kernel_rfl) (by kernel_rfl) (by decide) (by rw [g_want h rfl rfl rfl rfl hB15]; rfl) rfl (by decide) (fun w' => x_nil h.k rfl rfl) (fun a h => ?_)
                  refine d_takeP h (fun _ => HS) HN 21 rfl (by kernel_rfl) (by kernel_rfl) (by kernel_rfl) (by decide) (by rw [g_want h rfl rfl rfl rfl hB15]; rfl) rfl (by decide) (fun w' => x_faddr h.k rfl Try.underlying40 rfl sz_Sint rfl) (fun a h => ?_)
                  refine d_takeY h HS HN 22 rfl (by kernel_rfl) (by kernel_rfl) (by kernel_rfl) (by kernel_rfl) (by kernel_rfl) (by rw [g_want h rfl rfl rfl rfl hB15]; rfl) rfl (by decide) (fun w' hw => x_ld h.k rfl Try.underlying38 rfl rfl (hc93 _ (hw.snOK (i := 0) rfl) 1 _ rfl)) (fun a h => ?_)
                  refine d_takeP h (fun _ => HS) HN 23 rfl (by kernel_rfl) (by kernel_rfl) (by kernel_rfl) (by decide) (by rw [g_want h rfl rfl rfl rfl hB15]; rfl) rfl (by decide) (fun w' => x_len h.k rfl Try.underlying38 rfl) (fun a h => ?_)
                  refine d_takeP h (fun _ => HS) HN 24 rfl (by kernel_rfl) (by kernel_rfl) (by kernel_rfl) (by decide) (by rw [g_want h rfl rfl rfl rfl hB15]; rfl) rfl (by decide) (fun w' => x_bin h.k rfl rfl rfl ib_neq) (fun a h => ?_)
                  refine d_takeP h (fun _ => HS) HN 25 rfl (by kernel_rfl) (by kernel_rfl) (by kernel_rfl) (by decide) rfl rfl (by decide) (fun w' => x_pick (v := .bool (z71 || (decide (w64 (4 * (x12.1.length : Int)) ≠ (x61.2.1.length : Int))))) (u' := undef) h.k rfl rfl (fun hh => absurd (hB15.symm.trans hh) (by decide)) (fun _ => by rw [hB15]; first | rfl | simp [ev, List.lookup])) (fun a h => ?_)
                  refine d_done (by kernel_rfl) (HE _ _ ?_) _
                  refine e_thenN ?_
                  exact h.has (by exact ⟨rfl, rfl, rfl, trivial⟩)
          refine e_thenN ?_
          refine c_cond h rfl (fun hb => ?_) (fun hb => ?_)
          · rw [if_pos hb] at hf
            refine c_rs ?_ -- region 11
            refine s_assign h rfl _ rfl rfl (by decide) rfl (fun a h => ?_)
            refine l_end ?_
            refine wp_ret ?_
            refine e_thenR ?_
            rw [← Option.some.inj hf]
            exact r_ret1 h rfl (rv_tmp h rfl) ⟨_, [], _, rfl, ⟨rfl, rfl, trivial⟩, rfl, up65, h.m⟩
          · rw [if_neg (by rw [hb]; decide)] at hf
            refine wp_skip ?_
            refine e_thenN ?_
            refine wp_seq ?_
            refine c_rs ?_ -- region 12
            refine s_move h rfl _ rfl rfl (by decide) rfl (fun a h => ?_)
            refine s_x h rfl rfl (by decide) (x_len h.k rfl Try.underlying34 rfl) (fun a h => ?_)
            refine s_move h rfl _ rfl rfl (by decide) rfl (fun a h => ?_)
            refine l_end ?_
            obtain ⟨o105, hl106, hf⟩ := bsome hf
            refine c_fin (fun a w => (.inr ()) = o105 ∧ St 135 w0 (ownL ([] ++ [.sn S0])) [] [.sn S64] a w) ?_ ?_
            · refine wp_block ?_
              refine c_loop (fun m110 a w => ∃ (x107 : Int), chatelainelaw04_AesKeys_l0 Fu x12 x61 m110 x107 = some o105 ∧ r64 x107 ∧ St 135 w0 (ownL ([] ++ [.sn S0])) [(7, .pointer (some ⟨g67, 0, none⟩)), (96, .slice A18 x12.1.length c19), (97, .int .i64 (x12.1.length : Int)), (98, .int .i64 x107)] [.sn S64] a w) Fu ⟨0, hl106, (show r64 0 from ⟨by decide, by decide⟩), h.has (by exact ⟨rfl, rfl, rfl, rfl, trivial⟩)⟩ (fun m110 a w hI => ?_)
              obtain ⟨x107, hl109, hr108, h⟩ := hI
              obtain _ | m110 := m110
              · rw [chatelainelaw04_AesKeys_l0] at hl109; cases hl109
              rw [chatelainelaw04_AesKeys_l0] at hl109
              refine c_rs ?_ -- region 13
              refine s_x h rfl rfl (by decide) (x_bin h.k rfl rfl rfl ib_lss) (fun a h => ?_)
              refine l_end ?_
              refine c_cs h rfl (fun hb => ?_) (fun hb => ?_)
              · rw [if_pos (of_decide_eq_true hb)] at hl109
                refine wp_skip ?_
                refine e_thenN ?_
                refine wp_seq ?_
                refine wp_block ?_
                refine c_rs ?_ -- region 14
                refine s_move h rfl _ rfl rfl (by decide) rfl (fun a h => ?_)
                obtain ⟨x111, h115, hl109⟩ := bsome hl109
                obtain ⟨m112, hi116, hm117, hx118⟩ := idx_some h115
                obtain ⟨b113, off114, k119, hA120, hu121, hc122⟩ := ((hs20.mono le66)).at1 rfl hx118 (h.m.snOK (i := 0) rfl)
                cases hu121
                refine s_x h rfl rfl (by decide) (x_iaddrE h.k rfl Try.underlying34 sz_uint32 hA120 rfl rfl hi116 hm117) (fun a h => ?_)
                refine s_x h rfl rfl (by decide) (x_ld h.k rfl Try.underlying41 rfl rfl (hc122 _ (h.m.snOK (i := 0) rfl))) (fun a h => ?_)
                refine s_assign h rfl _ rfl rfl (by decide) rfl (fun a h => ?_)
                refine s_assign h rfl _ rfl rfl (by decide) rfl (fun a h => ?_)
                refine l_end ?_
                refine c_rs ?_ -- region 15
                refine s_move h rfl _ rfl rfl (by decide) rfl (fun a h => ?_)
                obtain ⟨k123, hc124, ⟨k125, k126, rfl, ⟨rfl, hr127⟩, ⟨k128, k129, rfl, ⟨A130, c131, rfl, hs132⟩, ⟨A133, c134, rfl, hs135⟩⟩⟩⟩ := id hp68
                refine s_x h rfl rfl (by decide) (x_nil h.k rfl rfl) (fun a h => ?_)
                refine s_x h rfl rfl (by decide) (x_faddr h.k rfl Try.underlying40 rfl sz_Sint rfl) (fun a h => ?_)
                refine s_x h rfl rfl (by decide) (x_ld h.k rfl Try.underlying38 rfl rfl (hc124 _ (h.m.snOK (i := 0) rfl) 1 _ rfl)) (fun a h => ?_)
                refine s_move h rfl _ rfl rfl (by decide) rfl (fun a h => ?_)
                refine s_x h rfl rfl (by decide) (x_bin h.k rfl rfl rfl (ib_mul rfl)) (fun a h => ?_)
                refine s_move h rfl _ rfl rfl (by decide) rfl (fun a h => ?_)
                refine s_x h rfl rfl (by decide) (x_bin h.k rfl rfl rfl (ib_mul rfl)) (fun a h => ?_)
                refine s_x h rfl rfl (by decide) (x_bin h.k rfl rfl rfl (ib_add rfl)) (fun a h => ?_)
                obtain ⟨x136, h137, hl109⟩ := bsome hl109
                obtain ⟨m138, n139, hi140, hi141, hm142, hm143, hr144⟩ := sub_some h137
                have hs145 := slS.sub (hs132) hm142 hm143 (Nat.le_trans hm143 (hs132).1) (Nat.le_refl _) hr144
                refine s_x h rfl rfl (by decide) (x_sliceE h.k rfl Try.underlying38 sz_int rfl c131 hr144 (bd_some rfl hi140) (bd_some rfl hi141) (bd_none rfl) (by intro hh; cases hh) hm142 hm143 (Nat.le_trans hm143 (hs132).1) (Nat.le_refl _)) (fun a h => ?_)
                refine s_assign h rfl _ rfl rfl (by decide) rfl (fun a h => ?_)
                refine l_end ?_
                refine wp_seq ?_
                -- region 16 draws
                obtain ⟨x146, h150, hl109⟩ := bsome hl109
                obtain ⟨x160, h164, hl109⟩ := bsome hl109
                obtain ⟨x174, h178, hl109⟩ := bsome hl109
                obtain ⟨x188, h192, hl109⟩ := bsome hl109
                refine d_start h (Mem _ _ _) 21 21 rfl (by kernel_rfl) (fun _ _ _ _ _ h => h) (fun _ h => h) (fun Q a w HE HN h HS => ?_)
                refine d_takeP h (fun _ => HS) HN 0 rfl (by kernel_rfl) (by kernel_rfl) (by kernel_rfl) (by decide) rfl rfl (by decide) (fun w' => x_move h.k _ rfl rfl) (fun a h => ?_)
                refine d_takeP h (fun _ => HS) HN 1 rfl (by kernel_rfl) (by kernel_rfl) (by kernel_rfl) (by decide) rfl rfl (by decide) (fun w' => x_convE h.k rfl Try.underlying41 Try.underlying3 rfl (nw64 (u32_r _))) (fun a h => ?_)
                refine d_takeP h (fun _ => HS) HN 2 rfl (by kernel_rfl) (by kernel_rfl) (by kernel_rfl) (by decide) rfl rfl (by decide) (fun w' => x_move h.k _ rfl rfl) (fun a h => ?_)
                obtain ⟨m147, hi151, hm152, hx153⟩ := idx_some h150
                obtain ⟨b148, off149, k154, hA155, hu156, hc157⟩ := (hs145).at1 rfl hx153 (h.m.snOK (i := 0) rfl)
                obtain ⟨e159, hr158⟩ := hu156
                cases e159
                refine d_takeP h (fun _ => HS) HN 3 rfl (by kernel_rfl) (by kernel_rfl) (by kernel_rfl) (by decide) rfl rfl (by decide) (fun w' => x_iaddrE h.k rfl Try.underlying38 sz_int hA155 rfl rfl hi151 hm152) (fun a h => ?_)
                refine d_take h HS HN 4 rfl (by kernel_rfl) (by kernel_rfl) (by kernel_rfl) (by kernel_rfl) (by kernel_rfl) rfl rfl (by decide) (fun w' hw => x_ld h.k rfl Try.underlying3 rfl rfl (hc157 _ (hw.snOK (i := 0) rfl))) (fun a h => ?_)
                refine d_takeP h (fun _ => HS) HN 5 rfl (by kernel_rfl) (by kernel_rfl) (by kernel_rfl) (by decide) rfl rfl (by decide) (fun w' => x_bin h.k rfl rfl rfl (ib_mul rfl)) (fun a h => ?_)
                refine d_takeP h (fun _ => HS) HN 6 rfl (by kernel_rfl) (by kernel_rfl) (by kernel_rfl) (by decide) rfl rfl (by decide) (fun w' => x_move h.k _ rfl rfl) (fun a h => ?_)
                obtain ⟨m161, hi165, hm166, hx167⟩ := idx_some h164
                obtain ⟨b162, off163, k168, hA169, hu170, hc171⟩ := (hs145).at1 rfl hx167 (h.m.snOK (i := 0) rfl)
                obtain ⟨e173, hr172⟩ := hu170
                cases e173
                refine d_takeP h (fun _ => HS) HN 7 rfl (by kernel_rfl) (by kernel_rfl) (by kernel_rfl) (by decide) rfl rfl (by decide) (fun w' => x_iaddrE h.k rfl Try.underlying38 sz_int hA169 rfl rfl hi165 hm166) (fun a h => ?_)
                refine d_take h HS HN 8 rfl (by kernel_rfl) (by kernel_rfl) (by kernel_rfl) (by kernel_rfl) (by kernel_rfl) rfl rfl (by decide) (fun w' hw => x_ld h.k rfl Try.underlying3 rfl rfl (hc171 _ (hw.snOK (i := 0) rfl))) (fun a h => ?_)
                refine d_takeP h (fun _ => HS) HN 9 rfl (by kernel_rfl) (by kernel_rfl) (by kernel_rfl) (by decide) rfl rfl (by decide) (fun w' => x_bin h.k rfl rfl rfl (ib_mul rfl)) (fun a h => ?_)
                refine d_takeP h (fun _ => HS) HN 10 rfl (by kernel_rfl) (by kernel_rfl) (by kernel_rfl) (by decide) rfl rfl (by decide) (fun w' => x_bin h.k rfl rfl rfl (ib_add rfl)) (fun a h => ?_)
                refine d_takeP h (fun _ => HS) HN 11 rfl (by kernel_rfl) (by kernel_rfl) (by kernel_rfl) (by decide) rfl rfl (by decide) (fun w' => x_move h.k _ rfl rfl) (fun a h => ?_)
                obtain ⟨m175, hi179, hm180, hx181⟩ := idx_some h178
                obtain ⟨b176, off177, k182, hA183, hu184, hc185⟩ := (hs145).at1 rfl hx181 (h.m.snOK (i := 0) rfl)
                obtain ⟨e187, hr186⟩ := hu184
                cases e187
                refine d_takeP h (fun _ => HS) HN 12 rfl (by kernel_rfl) (by kernel_rfl) (by kernel_rfl) (by decide) rfl rfl (by decide) (fun w' => x_iaddrE h.k rfl Try.underlying38 sz_int hA183 rfl rfl hi179 hm180) (fun a h => ?_)
                refine d_take h HS HN 13 rfl (by kernel_rfl) (by kernel_rfl) (by kernel_rfl) (by kernel_rfl) (by kernel_rfl) rfl rfl (by decide) (fun w' hw => x_ld h.k rfl Try.underlying3 rfl rfl (hc185 _ (hw.snOK (i := 0) rfl))) (fun a h => ?_)
                refine d_takeP h (fun _ => HS) HN 14 rfl (by kernel_rfl) (by kernel_rfl) (by kernel_rfl) (by decide) rfl rfl (by decide) (fun w' => x_bin h.k rfl rfl rfl (ib_mul rfl)) (fun a h => ?_)
                refine d_takeP h (fun _ => HS) HN 15 rfl (by kernel_rfl) (by kernel_rfl) (by kernel_rfl) (by decide) rfl rfl (by decide) (fun w' => x_bin h.k rfl rfl rfl (ib_add rfl)) (fun a h => ?_)
                refine d_takeP h (fun _ => HS) HN 16 rfl (by kernel_rfl) (by kernel_rfl) (by kernel_rfl) (by decide) rfl rfl (by decide) (fun w' => x_move h.k _ rfl rfl) (fun a h => ?_)
                obtain ⟨m189, hi193, hm194, hx195⟩ := idx_some h192
                obtain ⟨b190, off191, k196, hA197, hu198, hc199⟩ := (hs145).at1 rfl hx195 (h.m.snOK (i := 0) rfl)
                obtain ⟨e201, hr200⟩ := hu198
                cases e201
                refine d_takeP h (fun _ => HS) HN 17 rfl (by kernel_rfl) (by kernel_rfl) (by kernel_rfl) (by decide) rfl rfl (by decide) (fun w' => x_iaddrE h.k rfl Try.underlying38 sz_int hA197 rfl rfl hi193 hm194) (fun a h => ?_)
                refine d_take h HS HN 18 rfl (by kernel_rfl) (by kernel_rfl) (by kernel_rfl) (by kernel_rfl) (by kernel_rfl) rfl rfl (by decide) (fun w' hw => x_ld h.k rfl Try.underlying3 rfl rfl (hc199 _ (hw.snOK (i := 0) rfl))) (fun a h => ?_)
                refine d_takeP h (fun _ => HS) HN 19 rfl (by kernel_rfl) (by kernel_rfl) (by kernel_rfl) (by decide) rfl rfl (by decide) (fun w' => x_bin h.k rfl rfl rfl (ib_add rfl)) (fun a h => ?_)
                refine d_takeP h (fun _ => HS) HN 20 rfl (by kernel_rfl) (by kernel_rfl) (by kernel_rfl) (by decide) rfl rfl (by decide) (fun w' => x_bin h.k rfl rfl rfl ib_neq) (fun a h => ?_)
                refine d_done (by kernel_rfl) (HE _ _ ?_) _
                refine e_thenN ?_
                refine c_cond h rfl (fun hb => ?_) (fun hb => ?_)
                · rw [if_pos (of_decide_eq_true hb)] at hl109
                  refine c_rs ?_ -- region 17
                  refine s_assign h rfl _ rfl rfl (by decide) rfl (fun a h => ?_)
                  refine l_end ?_
                  refine wp_ret ?_
                  refine e_blkR ?_
                  refine e_thenR ?_
                  refine e_thenR ?_
                  refine e_blkR ?_
                  refine e_thenR ?_
                  cases hl109
                  try dsimp only at hf
                  refine e_thenR ?_
                  rw [← Option.some.inj hf]
                  exact r_ret1 h rfl (rv_tmp h rfl) ⟨_, [], _, rfl, ⟨rfl, rfl, trivial⟩, rfl, up65, h.m⟩
                · rw [if_neg (of_decide_eq_false hb)] at hl109
                  refine wp_skip ?_
                  refine e_blkN ?_
                  refine e_thenN ?_
                  refine c_r ?_ -- region 18
                  refine s_x h rfl rfl (by decide) (x_bin h.k rfl rfl rfl (ib_add rfl)) (fun a h => ?_)
                  refine s_move h rfl _ rfl rfl (by decide) rfl (fun a h => ?_)
                  refine l_nil ?_
                  exact e_thenN ⟨m110, Nat.lt_succ_self _, w64 (x107 + 1), hl109, (w64_r _), h.has (by exact ⟨rfl, rfl, rfl, rfl, trivial⟩)⟩
              · rw [if_neg (of_decide_eq_false hb)] at hl109
                refine wp_exit ?_
                refine e_thenX ?_
                refine e_thenX ?_
                refine e_blkX ?_
                refine e_thenN ?_
                exact ⟨(Option.some.inj hl109), h.has trivial⟩
            · rintro a w ⟨rfl, h⟩
              try dsimp only at hf
              refine e_thenN ?_
              refine c_rs ?_ -- region 19
              refine s_assign h rfl _ rfl rfl (by decide) rfl (fun a h => ?_)
              refine l_end ?_
              refine wp_ret ?_
              rw [← Option.some.inj hf]
              exact r_ret1 h rfl (rv_tmp h rfl) ⟨_, [], _, rfl, ⟨rfl, rfl, trivial⟩, rfl, up65, h.m⟩
      · obtain ⟨x203, rfl, hR⟩ := hR
        dsimp only at hf
        obtain ⟨g204, rfl, rfl, hp205, hr206, _⟩ := hR
        refine s_move h rfl _ rfl rfl (by decide) rfl (fun a h => ?_)
        refine s_x h rfl rfl (by decide) (x_ext h.k rfl rfl rfl) (fun a h => ?_)
        refine s_x h rfl rfl (by decide) (x_ext h.k rfl rfl rfl) (fun a h => ?_)
        refine s_assign h rfl _ rfl rfl (by decide) rfl (fun a h => ?_)
        refine s_assign h rfl _ rfl rfl (by decide) rfl (fun a h => ?_)
        refine l_end ?_
        refine c_rs ?_ -- region 6
        refine s_move h rfl _ rfl rfl (by decide) rfl (fun a h => ?_)
        obtain ⟨x207, h208, hf⟩ := bsome hf
        have hX := aes_Words_ok Fu (S0 := S7) Aa0 ca0 a0 (hsa0.mono le9) _ h208 _ (h.sub (Ls := []))
        refine q_callY (Ls := []) hX h up8 rfl rfl rfl (by decide) Try.func19 rfl rfl rfl (fun a w v L1 S210 hR le212 up211 h => ?_)
        obtain ⟨A213, c214, rfl, rfl, hs215, hr216, _⟩ := hR
        refine s_move h rfl _ rfl rfl (by decide) rfl (fun a h => ?_)
        refine s_x h rfl rfl (by decide) (x_ext h.k rfl rfl rfl) (fun a h => ?_)
        refine s_x h rfl rfl (by decide) (x_ext h.k rfl rfl rfl) (fun a h => ?_)
        refine s_assign h rfl _ rfl rfl (by decide) rfl (fun a h => ?_)
        refine s_assign h rfl _ rfl rfl (by decide) rfl (fun a h => ?_)
        refine l_end ?_
        refine wp_seq ?_
        refine c_rs ?_ -- region 7
        refine s_move h rfl _ rfl rfl (by decide) rfl (fun a h => ?_)
        refine s_x h rfl rfl (by decide) (x_len h.k rfl Try.underlying22 rfl) (fun a h => ?_)
        refine s_x h rfl rfl (by decide) (x_bin h.k rfl rfl rfl ib_neq) (fun a h => ?_)
        refine s_move h rfl _ rfl rfl (by decide) rfl (fun a h => ?_)
        refine q_grp h 4 (t := 29) 33 ((decide ((a0.length : Int) ≠ 16)) && (decide ((a0.length : Int) ≠ 32))) rfl (fun hB3 => ?_) (fun hB3 => ?_) (fun a w h => ?_)
        · refine g_yes h rfl rfl rfl rfl hB3 ?_
          refine s_move h rfl _ rfl rfl (by decide) rfl (fun a h => ?_)
          refine g_yes h rfl rfl rfl rfl hB3 ?_
          refine s_x h rfl rfl (by decide) (x_len h.k rfl Try.underlying22 rfl) (fun a h => ?_)
          refine g_yes h rfl rfl rfl rfl hB3 ?_
          refine s_x h rfl rfl (by decide) (x_bin h.k rfl rfl rfl ib_neq) (fun a h => ?_)
          refine s_x h rfl rfl (by decide) (x_pick (u' := undef) h.k rfl rfl (fun _ => rfl) (fun hh => absurd (hB3.symm.trans hh) (by decide))) (fun a h => ?_)
          exact (h.mid 3 rfl).val (by first | rfl | (rw [hB3]; first | rfl | simp))
        · refine g_no h rfl rfl rfl rfl hB3 rfl (by decide) (fun a h => ?_)
          refine g_no h rfl rfl rfl rfl hB3 rfl (by decide) (fun a h => ?_)
          refine g_no h rfl rfl rfl rfl hB3 rfl (by decide) (fun a h => ?_)
          refine s_x h rfl rfl (by decide) (x_pick (u' := undef) h.k rfl rfl (fun hh => absurd (hB3.symm.trans hh) (by decide)) (fun _ => rfl)) (fun a h => ?_)
          exact (h.mid 3 rfl).val (by first | rfl | (rw [hB3]; first | rfl | simp))
        refine l_end ?_
        refine c_cond h rfl (fun hb => ?_) (fun hb => ?_)
        · rw [if_pos hb] at hf
          refine c_rs ?_ -- region 8
          refine s_move h rfl _ rfl rfl (by decide) rfl (fun a h => ?_)
          refine s_x h rfl rfl (by decide) (x_eql_pn h.k rfl Try.underlying25 rfl rfl) (fun a h => ?_)
          refine s_move h rfl _ rfl rfl (by decide) rfl (fun a h => ?_)
          refine q_grp h 3 (t := 36) 39 false rfl (fun hB2 => ?_) (fun hB2 => ?_) (fun a w h => ?_)
          · exact absurd hB2 (by decide)
          · refine g_no h rfl rfl rfl rfl hB2 rfl (by decide) (fun a h => ?_)
            refine g_no h rfl rfl rfl rfl hB2 rfl (by decide) (fun a h => ?_)
            refine s_x h rfl rfl (by decide) (x_pick (u' := undef) h.k rfl rfl (fun hh => absurd (hB2.symm.trans hh) (by decide)) (fun _ => rfl)) (fun a h => ?_)
            exact (h.mid 2 rfl).val (by first | rfl | (rw [hB2]; first | rfl | simp))
          refine s_move h rfl _ rfl rfl (by decide) rfl (fun a h => ?_)
          refine q_grp h 3 (t := 40) 43 false rfl (fun hB6 => ?_) (fun hB6 => ?_) (fun a w h => ?_)
          · exact absurd hB6 (by decide)
          · refine g_no h rfl rfl rfl rfl hB6 rfl (by decide) (fun a h => ?_)
            refine g_no h rfl rfl rfl rfl hB6 rfl (by decide) (fun a h => ?_)
            refine s_x h rfl rfl (by decide) (x_pick (u' := undef) h.k rfl rfl (fun hh => absurd (hB6.symm.trans hh) (by decide)) (fun _ => rfl)) (fun a h => ?_)
            exact (h.mid 2 rfl).val (by first | rfl | (rw [hB6]; first | rfl | simp))
          refine s_move h rfl _ rfl rfl (by decide) rfl (fun a h => ?_)
          refine q_grp h 4 (t := 44) 48 false rfl (fun hB10 => ?_) (fun hB10 => ?_) (fun a w h => ?_)
          · exact absurd hB10 (by decide)
          · refine g_no h rfl rfl rfl rfl hB10 rfl (by decide) (fun a h => ?_)
            refine g_no h rfl rfl rfl rfl hB10 rfl (by decide) (fun a h => ?_)
            refine g_no h rfl rfl rfl rfl hB10 rfl (by decide) (fun a h => ?_)
            refine s_x h rfl rfl (by decide) (x_pick (u' := undef) h.k rfl rfl (fun hh => absurd (hB10.symm.trans hh) (by decide)) (fun _ => rfl)) (fun a h => ?_)
            exact (h.mid 3 rfl).val (by first | rfl | (rw [hB10]; first | rfl | simp))
          refine s_move h rfl _ rfl rfl (by decide) rfl (fun a h => ?_)
          refine q_grp h 4 (t := 49) 53 false rfl (fun hB15 => ?_) (fun hB15 => ?_) (fun a w h => ?_)
          · exact absurd hB15 (by decide)
          · refine g_no h rfl rfl rfl rfl hB15 rfl (by decide) (fun a h => ?_)
            refine g_no h rfl rfl rfl rfl hB15 rfl (by decide) (fun a h => ?_)
            refine g_no h rfl rfl rfl rfl hB15 rfl (by decide) (fun a h => ?_)
            refine s_x h rfl rfl (by decide) (x_pick (u' := undef) h.k rfl rfl (fun hh => absurd (hB15.symm.trans hh) (by decide)) (fun _ => rfl)) (fun a h => ?_)
            exact (h.mid 3 rfl).val (by first | rfl | (rw [hB15]; first | rfl | simp))
          refine s_move h rfl _ rfl rfl (by decide) rfl (fun a h => ?_)
          refine q_grp h 6 (t := 54) 60 false rfl (fun hB20 => ?_) (fun hB20 => ?_) (fun a w h => ?_)
          · exact absurd hB20 (by decide)
          · refine g_no h rfl rfl rfl rfl hB20 rfl (by decide) (fun a h => ?_)
            refine g_no h rfl rfl rfl rfl hB20 rfl (by decide) (fun a h => ?_)
            refine g_no h rfl rfl rfl rfl hB20 rfl (by decide) (fun a h => ?_)
            refine g_no h rfl rfl rfl rfl hB20 rfl (by decide) (fun a h => ?_)
            refine g_no h rfl rfl rfl rfl hB20 rfl (by decide) (fun a h => ?_)
            refine s_x h rfl rfl (by decide) (x_pick (u' := undef) h.k rfl rfl (fun hh => absurd (hB20.symm.trans hh) (by decide)) (fun _ => rfl)) (fun a h => ?_)
            exact (h.mid 5 rfl).val (by first | rfl | (rw [hB20]; first | rfl | simp))
          refine s_move h rfl _ rfl rfl (by decide) rfl (fun a h => ?_)
          refine q_grp h 6 (t := 61) 67 false rfl (fun hB27 => ?_) (fun hB27 => ?_) (fun a w h => ?_)
          · exact absurd hB27 (by decide)
          · refine g_no h rfl rfl rfl rfl hB27 rfl (by decide) (fun a h => ?_)
            refine g_no h rfl rfl rfl rfl hB27 rfl (by decide) (fun a h => ?_)
            refine g_no h rfl rfl rfl rfl hB27 rfl (by decide) (fun a h => ?_)
            refine g_no h rfl rfl rfl rfl hB27 rfl (by decide) (fun a h => ?_)
            refine g_no h rfl rfl rfl rfl hB27 rfl (by decide) (fun a h => ?_)
            refine s_x h rfl rfl (by decide) (x_pick (u' := undef) h.k rfl rfl (fun hh => absurd (hB27.symm.trans hh) (by decide)) (fun _ => rfl)) (fun a h => ?_)
            exact (h.mid 5 rfl).val (by first | rfl | (rw [hB27]; first | rfl | simp))
          refine s_assign h rfl _ rfl rfl (by decide) rfl (fun a h => ?_)
          refine l_end ?_
          refine wp_ret ?_
          refine e_thenR ?_
          rw [← Option.some.inj hf]
          exact r_ret1 h rfl (rv_tmp h rfl) ⟨_, [], _, rfl, ⟨rfl, rfl, trivial⟩, rfl, up211, h.m⟩
        · rw [if_neg (by rw [hb]; decide)] at hf
          refine wp_skip ?_
          refine e_thenN ?_
          refine c_rs ?_ -- region 9
          refine s_move h rfl _ rfl rfl (by decide) rfl (fun a h => ?_)
          obtain ⟨x231, h232, hf⟩ := bsome hf
          have hX := chatelaineref04_Make_ok Fu (S0 := S210) Aa0 ca0 a0 (hsa0.mono (le9.trans le212)) _ h232 _ (h.sub (Ls := []))
          refine q_callY (Ls := []) hX h up211 rfl rfl rfl (by decide) Try.func16 rfl rfl rfl (fun a w v L1 S234 hR le236 up235 h => ?_)
          obtain ⟨g237, rfl, rfl, hp238, _⟩ := hR
          refine s_assign h rfl _ rfl rfl (by decide) rfl (fun a h => ?_)
          refine l_end ?_
          refine wp_seq ?_
          refine wp_seq ?_
          -- region 10 draws
          obtain ⟨z241, hz242, hf⟩ := bsome hf
          refine c_fin (fun a w => St 135 w0 (ownL ([] ++ [.sn S0])) [(5, .slice A213 x207.1.length c214), (7, .pointer (some ⟨g237, 0, none⟩)), (95, .bool (z241 || (decide (w64 (4 * (x207.1.length : Int)) ≠ (x231.2.1.length : Int)))))] [.sn S234] a w) ?_ (fun a w h => ?_)
          · refine d_start h (Mem _ _ _) 26 26 rfl (by kernel_rfl) (fun _ _ _ _ _ h => h) (fun _ h => h) (fun Q a w HE HN h HS => ?_)
            refine d_takeP h (fun _ => HS) HN 0 rfl (by kernel_rfl) (by kernel_rfl) (by kernel_rfl) (by decide) rfl rfl (by decide) (fun w' => x_move h.k _ rfl rfl) (fun a h => ?_)
            refine d_takeP h (fun _ => HS) HN 1 rfl (by kernel_rfl) (by kernel_rfl) (by kernel_rfl) (by decide) rfl rfl (by decide) (fun w' => x_bin h.k rfl rfl rfl ib_neq) (fun a h => ?_)
            refine d_takeP h (fun _ => HS) HN 2 rfl (by kernel_rfl) (by kernel_rfl) (by kernel_rfl) (by decide) rfl rfl (by decide) (fun w' => x_move h.k _ rfl rfl) (fun a h => ?_)
            refine d_split (t := 72) h rfl (fun hB2 => ?_) (fun hB2 => ?_)
            · refine d_takeNP h (fun _ => HS) HN 3 rfl (by kernel_rfl) (by kernel_rfl) (by kernel_rfl) (by decide) (by rw [g_want h rfl rfl rfl rfl hB2]; rfl) rfl (by decide) (fun a h => ?_)
              refine d_takeNP h (fun _ => HS) HN 4 rfl (by kernel_rfl) (by kernel_rfl) (by kernel_rfl) (by decide) (by rw [g_want h rfl rfl rfl rfl hB2]; rfl) rfl (by decide) (fun a h => ?_)
              refine d_takeP h (fun _ => HS) HN 5 rfl (by kernel_rfl) (by kernel_rfl) (by kernel_rfl) (by decide) rfl rfl (by decide) (fun w' => x_pick (v := .bool ((decide (x203.2 ≠ 0)) || (decide (x207.2 ≠ 0)))) (u' := undef) h.k rfl rfl (fun _ => by rw [hB2]; first | rfl | simp [ev, List.lookup]) (fun hh => absurd (hB2.symm.trans hh) (by decide))) (fun a h => ?_)
              refine d_takeP h (fun _ => HS) HN 6 rfl (by kernel_rfl) (by kernel_rfl) (by kernel_rfl) (by decide) rfl rfl (by decide) (fun w' => x_move h.k _ rfl rfl) (fun a h => ?_)
              refine d_split (t := 76) h rfl (fun hB6 => ?_) (fun hB6 => ?_)
              · rw [if_pos hB6] at hz242
                refine d_takeNP h (fun _ => HS) HN 7 rfl (by kernel_rfl) (by kernel_rfl) (by kernel_rfl) (by decide) (by rw [g_want h rfl rfl rfl rfl hB6]; rfl) rfl (by decide) (fun a h => ?_)
                refine d_takeNP h (fun _ => HS) HN 8 rfl (by kernel_rfl) (by kernel_rfl) (by kernel_rfl) (by decide) (by rw [g_want h rfl rfl rfl rfl hB6]; rfl) rfl (by decide) (fun a h => ?_)
                refine d_takeNP h (fun _ => HS) HN 9 rfl (by kernel_rfl) (by kernel_rfl) (by kernel_rfl) (by decide) (by rw [g_want h rfl rfl rfl rfl hB6]; rfl) rfl (by decide) (fun a h => ?_)
                refine d_takeNP h (fun _ => HS) HN 10 rfl (by kernel_rfl) (by kernel_rfl) (by kernel_rfl) (by decide) (by rw [g_want h rfl rfl rfl rfl hB6]; rfl) rfl (by decide) (fun a h => ?_)
                refine d_takeNP h (fun _ => HS) HN 11 rfl (by kernel_rfl) (by kernel_rfl) (by kernel_rfl) (by decide) (by rw [g_want h rfl rfl rfl rfl hB6]; rfl) rfl (by decide) (fun a h => ?_)
                refine d_takeNP h (fun _ => HS) HN 12 rfl (by kernel_rfl) (by kernel_rfl) (by kernel_rfl) (by decide) (by rw [g_want h rfl rfl rfl rfl hB6]; rfl) rfl (by decide) (fun a h => ?_)
                refine d_takeNP h (fun _ => HS) HN 13 rfl (by kernel_rfl) (by kernel_rfl) (by kernel_rfl) (by decide) (by rw [g_want h rfl rfl rfl rfl hB6]; rfl) rfl (by decide) (fun a h => ?_)
                refine d_takeP h (fun _ => HS) HN 14 rfl (by kernel_rfl) (by kernel_rfl) (by kernel_rfl) (by decide) rfl rfl (by decide) (fun w' => x_pick (v := .bool z241) (u' := undef) h.k rfl rfl (fun _ => by rw [← Option.some.inj hz242]; rfl) (fun hh => absurd (hB6.symm.trans hh) (by decide))) (fun a h => ?_)
                refine d_takeP h (fun _ => HS) HN 15 rfl (by kernel_rfl) (by kernel_rfl) (by kernel_rfl) (by decide) rfl rfl (by decide) (fun w' => x_move h.k _ rfl rfl) (fun a h => ?_)
                refine d_split (t := 85) h rfl (fun hB15 => ?_) (fun hB15 => ?_)
                · refine d_takeNP h (fun _ => HS) HN 16 rfl (by kernel_rfl) (by kernel_rfl) (by kernel_rfl) (by decide) (by rw [g_want h rfl rfl rfl rfl hB15]; rfl) rfl (by decide) (fun a h => ?_)
                  refine d_takeNP h (fun _ => HS) HN 17 rfl (by kernel_rfl) (by kernel_rfl) (by kernel_rfl) (by decide) (by rw [g_want h rfl rfl rfl rfl hB15]; rfl) rfl (by decide) (fun a h => ?_)
                  refine d_takeNP h (fun _ => HS) HN 18 rfl (by kernel_rfl) (by kernel_rfl) (by kernel_rfl) (by decide) (by rw [g_want h rfl rfl rfl rfl hB15]; rfl) rfl (by decide) (fun a h => ?_)
                  refine d_takeNP h (fun _ => HS) HN 19 rfl (by kernel_rfl) (by kernel_rfl) (by kernel_rfl) (by decide) (by rw [g_want h rfl rfl rfl rfl hB15]; rfl) rfl (by decide) (fun a h => ?_)
                  refine d_takeNP h (fun _ => HS) HN 20 rfl (by kernel_rfl) (by kernel_rfl) (by kernel_rfl) (by decide) (by rw [g_want h rfl rfl rfl rfl hB15]; rfl) rfl (by decide) (fun a h => ?_)
                  refine d_takeNP h (fun _ => HS) HN 21 rfl (by kernel_rfl) (by kernel_rfl) (by kernel_rfl) (by decide) (by rw [g_want h rfl rfl rfl rfl hB15]; rfl) rfl (by decide) (fun a h => ?_)
                  refine d_takeNP h (fun _ => HS) HN 22 rfl (by kernel_rfl) (by kernel_rfl) (by kernel_rfl) (by decide) (by rw [g_want h rfl rfl rfl rfl hB15]; rfl) rfl (by decide) (fun a h => ?_)
                  refine d_takeNP h (fun _ => HS) HN 23 rfl (by kernel_rfl) (by kernel_rfl) (by kernel_rfl) (by decide) (by rw [g_want h rfl rfl rfl rfl hB15]; rfl) rfl (by decide) (fun a h => ?_)
                  refine d_takeNP h (fun _ => HS) HN 24 rfl (by kernel_rfl) (by kernel_rfl) (by kernel_rfl) (by decide) (by rw [g_want h rfl rfl rfl rfl hB15]; rfl) rfl (by decide) (fun a h => ?_)
                  refine d_takeP h (fun _ => HS) HN 25 rfl (by kernel_rfl) (by kernel_rfl) (by kernel_rfl) (by decide) rfl rfl (by decide) (fun w' => x_pick (v := .bool (z241 || (decide (w64 (4 * (x207.1.length : Int)) ≠ (x231.2.1.length : Int))))) (u' := undef) h.k rfl rfl (fun _ => by rw [hB15]; first | rfl | simp [ev, List.lookup]) (fun hh => absurd (hB15.symm.trans hh) (by decide))) (fun a h => ?_)
                  refine d_done (by kernel_rfl) (HE _ _ ?_) _
                  refine e_thenN ?_
                  exact h.has (by exact ⟨rfl, rfl, rfl, trivial⟩)
                · refine d_takeP h (fun _ => HS) HN 16 rfl (by kernel_rfl) (by kernel_rfl) (by kernel_rfl) (by decide) (by rw [g_want h rfl rfl rfl rfl hB15]; rfl) rfl (by decide) (fun w' => x_move h.k _ rfl rfl) (fun a h => ?_)
                  refine d_takeP h (fun _ => HS) HN 17 rfl (by kernel_rfl) (by kernel_rfl) (by kernel_rfl) (by decide) (by rw [g_want h rfl rfl rfl rfl hB15]; rfl) rfl (by decide) (fun w' => x_len h.k rfl Try.underlying34 rfl) (fun a h => ?_)
                  refine d_takeP h (fun _ => HS) HN 18 rfl (by kernel_rfl) (by kernel_rfl) (by kernel_rfl) (by decide) (by rw [g_want h rfl rfl rfl rfl hB15]; rfl) rfl (by decide) (fun w' => x_bin h.k rfl rfl rfl (ib_mul rfl)) (fun a h => ?_)
                  refine d_takeP h (fun _ => HS) HN 19 rfl (by kernel_rfl) (by kernel_rfl) (by kernel_rfl) (by decide) (by rw [g_want h rfl rfl rfl rfl hB15]; rfl) rfl (by decide) (fun w' => x_move h.k _ rfl rfl) (fun a h => ?_)
                  obtain ⟨k262, hc263, ⟨k264, k265, rfl, ⟨rfl, hr266⟩, ⟨k267, k268, rfl, ⟨A269, c270, rfl, hs271⟩, ⟨A272, c273, rfl, hs274⟩⟩⟩⟩ := id hp238
                  refine d_takeP h (fun _ => HS) HN 20 rfl (by kernel_rfl) (by kernel_rfl) (by kernel_rfl) (by decide) (by rw [g_want h rfl rfl rfl rfl hB15]; rfl) rfl (by decide) (fun w' => x_nil h.k rfl rfl) (fun a h => ?_)
                  refine d_takeP h (fun _ => HS) HN 21 rfl (by kernel_rfl) (by kernel_rfl) (by kernel_rfl) (by decide) (by rw [g_want h rfl rfl rfl rfl hB15]; rfl) rfl (by decide) (fun w' => x_faddr h.k rfl Try.underlying40 rfl sz_Sint rfl) (fun a h => ?_)
                  refine d_takeY h HS HN 22 rfl (by kernel_rfl) (by kernel_rfl) (by kernel_rfl) (by kernel_rfl) (by kernel_rfl) (by rw [g_want h rfl rfl rfl rfl hB15]; rfl) rfl (by decide) (fun w' hw => x_ld h.k rfl Try.underlying38 rfl rfl (hc263 _ (hw.snOK (i := 0) rfl) 1 _ rfl)) (fun a h => ?_)
                  refine d_takeP h (fun _ => HS) HN 23 rfl (by kernel_rfl) (by kernel_rfl) (by kernel_rfl) (by decide) (by rw [g_want h rfl rfl rfl rfl hB15]; rfl) rfl (by decide) (fun w' => x_len h.k rfl Try.underlying38 rfl) (fun a h => ?_)
                  refine d_takeP h (fun _ => HS) HN 24 rfl (by kernel_rfl) (by kernel_rfl) (by kernel_rfl) (by decide) (by rw [g_want h rfl rfl rfl rfl hB15]; rfl) rfl (by decide) (fun w' => x_bin h.k rfl rfl rfl ib_neq) (fun a h => ?_)
                  refine d_takeP h (fun _ => HS) HN 25 rfl (by kernel_rfl) (by kernel_rfl) (by kernel_rfl) (by decide) rfl rfl (by decide) (fun w' => x_pick (v := .bool (z241 || (decide (w64 (4 * (x207.1.length : Int)) ≠ (x231.2.1.length : Int))))) (u' := undef) h.k rfl rfl (fun hh => absurd (hB15.symm.trans hh) (by decide)) (fun _ => by rw [hB15]; first | rfl | simp [ev, List.lookup])) (fun a h => ?_)
                  refine d_done (by kernel_rfl) (HE _ _ ?_) _
                  refine e_thenN ?_
                  exact h.has (by exact ⟨rfl, rfl, rfl, trivial⟩)
              · rw [if_neg (by rw [hB6]; decide)] at hz242
                obtain ⟨x243, h244, hz242⟩ := bsome hz242
                refine d_takeP h (fun _ => HS) HN 7 rfl (by kernel_rfl) (by kernel_rfl) (by kernel_rfl) (by decide) (by rw [g_want h rfl rfl rfl rfl hB6]; rfl) rfl (by decide) (fun w' => x_move h.k _ rfl rfl) (fun a h => ?_)
                refine d_takeP h (fun _ => HS) HN 9 rfl (by kernel_rfl) (by kernel_rfl) (by kernel_rfl) (by decide) (by rw [g_want h rfl rfl rfl rfl hB6]; rfl) rfl (by decide) (fun w' => x_move h.k _ rfl rfl) (fun a h => ?_)
                obtain ⟨k247, hc248, ⟨k249, k250, rfl, ⟨rfl, hr251⟩, ⟨k252, k253, rfl, ⟨A254, c255, rfl, hs256⟩, ⟨A257, c258, rfl, hs259⟩⟩⟩⟩ := id hp238
                refine d_takeP h (fun _ => HS) HN 10 rfl (by kernel_rfl) (by kernel_rfl) (by kernel_rfl) (by decide) (by rw [g_want h rfl rfl rfl rfl hB6]; rfl) rfl (by decide) (fun w' => x_nil h.k rfl rfl) (fun a h => ?_)
                refine d_takeP h (fun _ => HS) HN 11 rfl (by kernel_rfl) (by kernel_rfl) (by kernel_rfl) (by decide) (by rw [g_want h rfl rfl rfl rfl hB6]; rfl) rfl (by decide) (fun w' => x_faddr h.k rfl Try.underlying40 rfl sz_int rfl) (fun a h => ?_)
                refine d_takeY h HS HN 12 rfl (by kernel_rfl) (by kernel_rfl) (by kernel_rfl) (by kernel_rfl) (by kernel_rfl) (by rw [g_want h rfl rfl rfl rfl hB6]; rfl) rfl (by decide) (fun w' hw => x_ld h.k rfl Try.underlying3 rfl rfl (hc248 _ (hw.snOK (i := 0) rfl) 0 _ rfl)) (fun a h => ?_)
                refine d_alone 8 rfl (by kernel_rfl) (fun K hK => ?_)
                refine g_yes (j := 6) (t := 76) h rfl rfl rfl rfl hB6 ?_
                have hX := aes_Cipher_Rounds_ok Fu (S0 := snapAll _) g204 x203.1 ((hp205.mono (le212.trans le236)).mono (h.m.leAll (i := 0) rfl)) _ h244 _ h.startAll
                refine q_callX hX h rfl rfl rfl (by decide) Try.func20 rfl rfl rfl (fun a w v L1 S1 hR hb1 h => ?_)
                obtain ⟨rfl, rfl, hr246, _⟩ := hR
                refine hK _ _ (fun _ _ => HS.ext hb1) ?_
                replace HS := HS.ext hb1
                clear hK
                refine d_takeP h (fun _ => HS) HN 13 rfl (by kernel_rfl) (by kernel_rfl) (by kernel_rfl) (by decide) (by rw [g_want h rfl rfl rfl rfl hB6]; rfl) rfl (by decide) (fun w' => x_bin h.k rfl rfl rfl ib_neq) (fun a h => ?_)
                refine d_takeP h (fun _ => HS) HN 14 rfl (by kernel_rfl) (by kernel_rfl) (by kernel_rfl) (by decide) rfl rfl (by decide) (fun w' => x_pick (v := .bool z241) (u' := undef) h.k rfl rfl (fun hh => absurd (hB6.symm.trans hh) (by decide)) (fun _ => by rw [← Option.some.inj hz242]; rfl)) (fun a h => ?_)
                refine d_takeP h (fun _ => HS) HN 15 rfl (by kernel_rfl) (by kernel_rfl) (by kernel_rfl) (by decide) rfl rfl (by decide) (fun w' => x_move h.k _ rfl rfl) (fun a h => ?_)
                refine d_split (t := 85) h rfl (fun hB15 => ?_) (fun hB15 => ?_)
                · refine d_takeNP h (fun _ => HS) HN 16 rfl (by kernel_rfl) (by kernel_rfl) (by kernel_rfl) (by decide) (by rw [g_want h rfl rfl rfl rfl hB15]; rfl) rfl (by decide) (fun a h => ?_)
                  refine d_takeNP h (fun _ => HS) HN 17 rfl (by kernel_rfl) (by kernel_rfl) (by kernel_rfl) (by decide) (by rw [g_want h rfl rfl rfl rfl hB15]; rfl) rfl (by decide) (fun a h => ?_)
                  refine d_takeNP h (fun _ => HS) HN 18 rfl (by kernel_rfl) (by kernel_rfl) (by kernel_rfl) (by decide) (by rw [g_want h rfl rfl rfl rfl hB15]; rfl) rfl (by decide) (fun a h => ?_)
                  refine d_takeNP h (fun _ => HS) HN 19 rfl (by kernel_rfl) (by kernel_rfl) (by kernel_rfl) (by decide) (by rw [g_want h rfl rfl rfl rfl hB15]; rfl) rfl (by decide) (fun a h => ?_)
                  refine d_takeNP h (fun _ => HS) HN 20 rfl (by kernel_rfl) (by kernel_rfl) (by kernel_rfl) (by decide) (by rw [g_want h rfl rfl rfl rfl hB15]; rfl) rfl (by decide) (fun a h => ?_)
                  refine d_takeNP h (fun _ => HS) HN 21 rfl (by kernel_rfl) (by kernel_rfl) (by kernel_rfl) (by decide) (by rw [g_want h rfl rfl rfl rfl hB15]; rfl) rfl (by decide) (fun a h => ?_)
                  refine d_takeNP h (fun _ => HS) HN 22 rfl (by kernel_rfl) (by kernel_rfl) (by kernel_rfl) (by decide) (by rw [g_want h rfl rfl rfl rfl hB15]; rfl) rfl (by decide) (fun a h => ?_)
                  refine d_takeNP h (fun _ => HS) HN 23 rfl (by kernel_rfl) (by kernel_rfl) (by kernel_rfl) (by decide) (by rw [g_want h rfl rfl rfl rfl hB15]; rfl) rfl (by decide) (fun a h => ?_)
                  refine d_takeNP h (fun _ => HS) HN 24 rfl (by kernel_rfl) (by kernel_rfl) (by kernel_rfl) (by decide) (by rw [g_want h rfl rfl rfl rfl hB15]; rfl) rfl (by decide) (fun a h => ?_)
                  refine d_takeP h (fun _ => HS) HN 25 rfl (by kernel_rfl) (by kernel_rfl) (by kernel_rfl) (by decide) rfl rfl (by decide) (fun w' => x_pick (v := .bool (z241 || (decide (w64 (4 * (x207.1.length : Int)) ≠ (x231.2.1.length : Int))))) (u' := undef) h.k rfl rfl (fun _ => by rw [hB15]; first | rfl | simp [ev, List.lookup]) (fun hh => absurd (hB15.symm.trans hh) (by decide))) (fun a h => ?_)
                  refine d_done (by kernel_rfl) (HE _ _ ?_) _
                  refine e_thenN ?_
                  exact h.has (by exact ⟨rfl, rfl, rfl, trivial⟩)
                · refine d_takeP h (fun _ => HS) HN 16 rfl (by kernel_rfl) (by kernel_rfl) (by kernel_rfl) (by decide) (by rw [g_want h rfl rfl rfl rfl hB15]; rfl) rfl (by decide) (fun w' => x_move h.k _ rfl rfl) (fun a h => ?_)
                  refine d_takeP h (fun _ => HS) HN 17 rfl (by kernel_rfl) (by kernel_rfl) (by kernel_rfl) (by decide) (by rw [g_want h rfl rfl rfl rfl hB15]; rfl) rfl (by decide) (fun w' => x_len h.k rfl Try.underlying34 rfl) (fun a h => ?_)
                  refine d_takeP h (fun _ => HS) HN 18 rfl (by kernel_rfl) (by kernel_rfl) (by kernel_rfl) (by decide) (by rw [g_want h rfl rfl rfl rfl hB15]; rfl) rfl (by decide) (fun w' => x_bin h.k rfl rfl rfl (ib_mul rfl)) (fun a h => ?_)
                  refine d_takeP h (fun _ => HS) HN 19 rfl (by kernel_rfl) (by kernel_rfl) (by kernel_rfl) (by decide) (by rw [g_want h rfl rfl rfl rfl hB15]; rfl) rfl (by decide) (fun w' => x_move h.k _ rfl rfl) (fun a h => ?_)
                  obtain ⟨k262, hc263, ⟨k264, k265, rfl, ⟨rfl, hr266⟩, ⟨k267, k268, rfl, ⟨A269, c270, rfl, hs271⟩, ⟨A272, c273, rfl, hs274⟩⟩⟩⟩ := id hp238
                  refine d_takeP h (fun _ => HS) HN 20 rfl (by kernel_rfl) (by kernel_rfl) (by kernel_rfl) (by decide) (by rw [g_want h rfl rfl rfl rfl hB15]; rfl) rfl (by decide) (fun w' => x_nil h.k rfl rfl) (fun a h => ?_)
                  refine d_takeP h (fun _ => HS) HN 21 rfl (by kernel_rfl) (by kernel_rfl) (by kernel_rfl) (by decide) (by rw [g_want h rfl rfl rfl rfl hB15]; rfl) rfl (by decide) (fun w' => x_faddr h.k rfl Try.underlying40 rfl sz_Sint rfl) (fun a h => ?_)
                  refine d_takeY h HS HN 22 rfl (by kernel_rfl) (by kernel_rfl) (by kernel_rfl) (by kernel_rfl) (by kernel_rfl) (by rw [g_want h rfl rfl rfl rfl hB15]; rfl) rfl (by decide) (fun w' hw => x_ld h.k rfl Try.underlying38 rfl rfl (hc263 _ (hw.snOK (i := 0) rfl) 1 _ rfl)) (fun a h => ?_)
                  refine d_takeP h (fun _ => HS) HN 23 rfl (by kernel_rfl) (by kernel_rfl) (by kernel_rfl) (by decide) (by rw [g_want h rfl rfl rfl rfl hB15]; rfl) rfl (by decide) (fun w' => x_len h.k rfl Try.underlying38 rfl) (fun a h => ?_)
                  refine d_takeP h (fun _ => HS) HN 24 rfl (by kernel_rfl) (by kernel_rfl) (by kernel_rfl) (by decide) (by rw [g_want h rfl rfl rfl rfl hB15]; rfl) rfl (by decide) (fun w' => x_bin h.k rfl rfl rfl ib_neq) (fun a h => ?_)
                  refine d_takeP h (fun _ => HS) HN 25 rfl (by kernel_rfl) (by kernel_rfl) (by kernel_rfl) (by decide) rfl rfl (by decide) (fun w' => x_pick (v := .bool (z241 || (decide (w64 (4 * (x207.1.length : Int)) ≠ (x231.2.1.length : Int))))) (u' := undef) h.k rfl rfl (fun hh => absurd (hB15.symm.trans hh) (by decide)) (fun _ => by rw [hB15]; first | rfl | simp [ev, List.lookup])) (fun a h => ?_)
                  refine d_done (by kernel_rfl) (HE _ _ ?_) _
                  refine e_thenN ?_
                  exact h.has (by exact ⟨rfl, rfl, rfl, trivial⟩)
            · refine d_takeP h (fun _ => HS) HN 3 rfl (by kernel_rfl) (by kernel_rfl) (by kernel_rfl) (by decide) (by rw [g_want h rfl rfl rfl rfl hB2]; rfl) rfl (by decide) (fun w' => x_move h.k _ rfl rfl) (fun a h => ?_)
              refine d_takeP h (fun _ => HS) HN 4 rfl (by kernel_rfl) (by kernel_rfl) (by kernel_rfl) (by decide) (by rw [g_want h rfl rfl rfl rfl hB2]; rfl) rfl (by decide) (fun w' => x_bin h.k rfl rfl rfl ib_neq) (fun a h => ?_)
              refine d_takeP h (fun _ => HS) HN 5 rfl (by kernel_rfl) (by kernel_rfl) (by kernel_rfl) (by decide) rfl rfl (by decide) (fun w' => x_pick (v := .bool ((decide (x203.2 ≠ 0)) || (decide (x207.2 ≠ 0)))) (u' := undef) h.k rfl rfl (fun hh => absurd (hB2.symm.trans hh) (by decide)) (fun _ => by rw [hB2]; first | rfl | simp [ev, List.lookup])) (fun a h => ?_)
              refine d_takeP h (fun _ => HS) HN 6 rfl (by kernel_rfl) (by kernel_rfl) (by kernel_rfl) (by decide) rfl rfl (by decide) (fun w' => x_move h.k _ rfl rfl) (fun a h => ?_)
              refine d_split (t := 76) h rfl (fun hB6 => ?_) (fun hB6 => ?_)
              · rw [if_pos hB6] at hz242
                refine d_takeNP h (fun _ => HS) HN 7 rfl (by kernel_rfl) (by kernel_rfl) (by kernel_rfl) (by decide) (by rw [g_want h rfl rfl rfl rfl hB6]; rfl) rfl (by decide) (fun a h => ?_)
                refine d_takeNP h (fun _ => HS) HN 8 rfl (by kernel_rfl) (by kernel_rfl) (by kernel_rfl) (by decide) (by rw [g_want h rfl rfl rfl rfl hB6]; rfl) rfl (by decide) (fun a h => ?_)
                refine d_takeNP h (fun _ => HS) HN 9 rfl (by kernel_rfl) (by kernel_rfl) (by kernel_rfl) (by decide) (by rw [g_want h rfl rfl rfl rfl hB6]; rfl) rfl (by decide) (fun a h => ?_)
                refine d_takeNP h (fun _ => HS) HN 10 rfl (by kernel_rfl) (by kernel_rfl) (by kernel_rfl) (by decide) (by rw [g_want h rfl rfl rfl rfl hB6]; rfl) rfl (by decide) (fun a h => ?_)
                refine d_takeNP h (fun _ => HS) HN 11 rfl (by kernel_rfl) (by kernel_rfl) (by kernel_rfl) (by decide) (by rw [g_want h rfl rfl rfl rfl hB6]; rfl) rfl (by decide) (fun a h => ?_)
                refine d_takeNP h (fun _ => HS) HN 12 rfl (by kernel_rfl) (by kernel_rfl) (by kernel_rfl) (by decide) (by rw [g_want h rfl rfl rfl rfl hB6]; rfl) rfl (by decide) (fun a h => ?_)
                refine d_takeNP h (fun _ => HS) HN 13 rfl (by kernel_rfl) (by kernel_rfl) (by kernel_rfl) (by decide) (by rw [g_want h rfl rfl rfl rfl hB6]; rfl) rfl (by decide) (fun a h => ?_)
                refine d_takeP h (fun _ => HS) HN 14 rfl (by kernel_rfl) (by kernel_rfl) (by kernel_rfl) (by decide) rfl rfl (by decide) (fun w' => x_pick (v := .bool z241) (u' := undef) h.k rfl rfl (fun _ => by rw [← Option.some.inj hz242]; rfl) (fun hh => absurd (hB6.symm.trans hh) (by decide))) (fun a h => ?_)
                refine d_takeP h (fun _ => HS) HN 15 rfl (by kernel_rfl) (by kernel_rfl) (by kernel_rfl) (by decide) rfl rfl (by decide) (fun w' => x_move h.k _ rfl rfl) (fun a h => ?_)
                refine d_split (t := 85) h rfl (fun hB15 => ?_) (fun hB15 => ?_)
                · refine d_takeNP h (fun _ => HS) HN 16 rfl (by kernel_rfl) (by kernel_rfl) (by kernel_rfl) (by decide) (by rw [g_want h rfl rfl rfl rfl hB15]; rfl) rfl (by decide) (fun a h => ?_)
                  refine d_takeNP h (fun _ => HS) HN 17 rfl (by kernel_rfl) (by kernel_rfl) (by kernel_rfl) (by decide) (by rw [g_want h rfl rfl rfl rfl hB15]; rfl) rfl (by decide) (fun a h => ?_)
                  refine d_takeNP h (fun _ => HS) HN 18 rfl (by kernel_rfl) (by kernel_rfl) (by kernel_rfl) (by decide) (by rw [g_want h rfl rfl rfl rfl hB15]; rfl) rfl (by decide) (fun a h => ?_)
                  refine d_takeNP h (fun _ => HS) HN 19 rfl (by kernel_rfl) (by kernel_rfl) (by kernel_rfl) (by decide) (by rw [g_want h rfl rfl rfl rfl hB15]; rfl) rfl (by decide) (fun a h => ?_)
                  refine d_takeNP h (fun _ => HS) HN 20 rfl (by kernel_rfl) (by kernel_rfl) (by kernel_rfl) (by decide) (by rw [g_want h rfl rfl rfl rfl hB15]; rfl) rfl (by decide) (fun a h => ?_)
                  refine d_takeNP h (fun _ => HS) HN 21 rfl (by kernel_rfl) (by kernel_rfl) (by kernel_rfl) (by decide) (by rw [g_want h rfl rfl rfl rfl hB15]; rfl) rfl (by decide) (fun a h => ?_)
                  refine d_takeNP h (fun _ => HS) HN 22 rfl (by kernel_rfl) (by kernel_rfl) (by kernel_rfl) (by decide) (by rw [g_want h rfl rfl rfl rfl hB15]; rfl) rfl (by decide) (fun a h => ?_)
                  refine d_takeNP h (fun _ => HS) HN 23 rfl (by kernel_rfl) (by kernel_rfl) (by kernel_rfl) (by decide) (by rw [g_want h rfl rfl rfl rfl hB15]; rfl) rfl (by decide) (fun a h => ?_)
                  refine d_takeNP h (fun _ => HS) HN 24 rfl (by kernel_rfl) (by kernel_rfl) (by kernel_rfl) (by decide) (by rw [g_want h rfl rfl rfl rfl hB15]; rfl) rfl (by decide) (fun a h => ?_)
                  refine d_takeP h (fun _ => HS) HN 25 rfl (by kernel_rfl) (by kernel_rfl) (by kernel_rfl) (by decide) rfl rfl (by decide) (fun w' => x_pick (v := .bool (z241 || (decide (w64 (4 * (x207.1.length : Int)) ≠ (x231.2.1.length : Int))))) (u' := undef) h.k rfl rfl (fun _ => by rw [hB15]; first | rfl | simp [ev, List.lookup]) (fun hh => absurd (hB15.symm.trans hh) (by decide))) (fun a h => ?_)
                  refine d_done (by kernel_rfl) (HE _ _ ?_) _
                  refine e_thenN ?_
                  exact h.has (by exact ⟨rfl, rfl, rfl, trivial⟩)
                · refine d_takeP h (fun _ => HS) HN 16 rfl (by kernel_rfl) (by kernel_rfl) (by kernel_rfl) (by decide) (by rw [g_want h rfl rfl rfl rfl hB15]; rfl) rfl (by decide) (fun w' => x_move h.k _ rfl rfl) (fun a h => ?_)
                  refine d_takeP h (fun _ => HS) HN 17 rfl (by kernel_rfl) (by kernel_rfl) (by kernel_rfl) (by decide) (by rw [g_want h rfl rfl rfl rfl hB15]; rfl) rfl (by decide) (fun w' => x_len h.k rfl Try.underlying34 rfl) (fun a h => ?_)
                  refine d_takeP h (fun _ => HS) HN 18 rfl (by kernel_rfl) (by kernel_rfl) (by kernel_rfl) (by decide) (by rw [g_want h rfl rfl rfl rfl hB15]; rfl) rfl (by decide) (fun w' => x_bin h.k rfl rfl rfl (ib_mul rfl)) (fun a h => ?_)
                  refine d_takeP h (fun _ => HS) HN 19 rfl (by kernel_rfl) (by kernel_rfl) (by kernel_rfl) (by decide) (by rw [g_want h rfl rfl rfl rfl hB15]; rfl) rfl (by decide) (fun w' => x_move h.k _ rfl rfl) (fun a h => ?_)
                  obtain ⟨k262, hc263, ⟨k264, k265, rfl, ⟨rfl, hr266⟩, ⟨k267, k268, rfl, ⟨A269, c270, rfl, hs271⟩, ⟨A272, c273, rfl, hs274⟩⟩⟩⟩ := id hp238
                  refine d_takeP h (fun _ => HS) HN 20 rfl (by kernel_rfl) (by kernel_rfl) (by kernel_rfl) (by decide) (by rw [g_want h rfl rfl rfl rfl hB15]; rfl) rfl (by decide) (fun w' => x_nil h.k rfl rfl) (fun a h => ?_)
                  refine d_takeP h (fun _ => HS) HN 21 rfl (by kernel_rfl) (by kernel_rfl) (by kernel_rfl) (by decide) (by rw [g_want h rfl rfl rfl rfl hB15]; rfl) rfl (by decide) (fun w' => x_faddr h.k rfl Try.underlying40 rfl sz_Sint rfl) (fun a h => ?_)
                  refine d_takeY h HS HN 22 rfl (by kernel_rfl) (by kernel_rfl) (by kernel_rfl) (by kernel_rfl) (by kernel_rfl) (by rw [g_want h rfl rfl rfl rfl hB15]; rfl) rfl (by decide) (fun w' hw => x_ld h.k rfl Try.underlying38 rfl rfl (hc263 _ (hw.snOK (i := 0) rfl) 1 _ rfl)) (fun a h => ?_)
                  refine d_takeP h (fun _ => HS) HN 23 rfl (by kernel_rfl) (by kernel_rfl) (by kernel_rfl) (by decide) (by rw [g_want h rfl rfl rfl rfl hB15]; rfl) rfl (by decide) (fun w' => x_len h.k rfl Try.underlying38 rfl) (fun a h => ?_)
                  refine d_takeP h (fun _ => HS) HN 24 rfl (by kernel_rfl) (by kernel_rfl) (by kernel_rfl) (by decide) (by rw [g_want h rfl rfl rfl rfl hB15]; rfl) rfl (by decide) (fun w' => x_bin h.k rfl rfl rfl ib_neq) (fun a h => ?_)
                  refine d_takeP h (fun _ => HS) HN 25 rfl (by kernel_rfl) (by kernel_rfl) (by kernel_rfl) (by decide) rfl rfl (by decide) (fun w' => x_pick (v := .bool (z241 || (decide (w64 (4 * (x207.1.length : Int)) ≠ (x231.2.1.length : Int))))) (u' := undef) h.k rfl rfl (fun hh => absurd (hB15.symm.trans hh) (by decide)) (fun _ => by rw [hB15]; first | rfl | simp [ev, List.lookup])) (fun a h => ?_)
                  refine d_done (by kernel_rfl) (HE _ _ ?_) _
                  refine e_thenN ?_
                  exact h.has (by exact ⟨rfl, rfl, rfl, trivial⟩)
              · rw [if_neg (by rw [hB6]; decide)] at hz242
                obtain ⟨x243, h244, hz242⟩ := bsome hz242
                refine d_takeP h (fun _ => HS) HN 7 rfl (by kernel_rfl) (by kernel_rfl) (by kernel_rfl) (by decide) (by rw [g_want h rfl rfl rfl rfl hB6]; rfl) rfl (by decide) (fun w' => x_move h.k _ rfl rfl) (fun a h => ?_)
                refine d_takeP h (fun _ => HS) HN 9 rfl (by kernel_rfl) (by kernel_rfl) (by kernel_rfl) (by decide) (by rw [g_want h rfl rfl rfl rfl hB6]; rfl) rfl (by decide) (fun w' => x_move h.k _ rfl rfl) (fun a h => ?_)
                obtain ⟨k247, hc248, ⟨k249, k250, rfl, ⟨rfl, hr251⟩, ⟨k252, k253, rfl, ⟨A254, c255, rfl, hs256⟩, ⟨A257, c258, rfl, hs259⟩⟩⟩⟩ := id hp238
                refine d_takeP h (fun _ => HS) HN 10 rfl (by kernel_rfl) (by kernel_rfl) (by kernel_rfl) (by decide) (by rw [g_want h rfl rfl rfl rfl hB6]; rfl) rfl (by decide) (fun w' => x_nil h.k rfl rfl) (fun a h => ?_)
                refine d_takeP h (fun _ => HS) HN 11 rfl (by kernel_rfl) (by kernel_rfl) (by kernel_rfl) (by decide) (by rw [g_want h rfl rfl rfl rfl hB6]; rfl) rfl (by decide) (fun w' => x_faddr h.k rfl Try.underlying40 rfl sz_int rfl) (fun a h => ?_)
                refine d_takeY h HS HN 12 rfl (by kernel_rfl) (by kernel_rfl) (by kernel_rfl) (by kernel_rfl) (by kernel_rfl) (by rw [g_want h rfl rfl rfl rfl hB6]; rfl) rfl (by decide) (fun w' hw => x_ld h.k rfl Try.underlying3 rfl rfl (hc248 _ (hw.snOK (i := 0) rfl) 0 _ rfl)) (fun a h => ?_)
                refine d_alone 8 rfl (by kernel_rfl) (fun K hK => ?_)
                refine g_yes (j := 6) (t := 76) h rfl rfl rfl rfl hB6 ?_
                have hX := aes_Cipher_Rounds_ok Fu (S0 := snapAll _) g204 x203.1 ((hp205.mono (le212.trans le236)).mono (h.m.leAll (i := 0) rfl)) _ h244 _ h.startAll
                refine q_callX hX h rfl rfl rfl (by decide) Try.func20 rfl rfl rfl (fun a w v L1 S1 hR hb1 h => ?_)
                obtain ⟨rfl, rfl, hr246, _⟩ := hR
                refine hK _ _ (fun _ _ => HS.ext hb1) ?_
                replace HS := HS.ext hb1
                clear hK
                refine d_takeP h (fun _ => HS) HN 13 rfl (by kernel_rfl) (by kernel_rfl) (by kernel_rfl) (by decide) (by rw [g_want h rfl rfl rfl rfl hB6]; rfl) rfl (by decide) (fun w' => x_bin h.k rfl rfl rfl ib_neq) (fun a h => ?_)
                refine d_takeP h (fun _ => HS) HN 14 rfl (by kernel_rfl) (by kernel_rfl) (by kernel_rfl) (by decide) rfl rfl (by decide) (fun w' => x_pick (v := .bool z241) (u' := undef) h.k rfl rfl (fun hh => absurd (hB6.symm.trans hh) (by decide)) (fun _ => by rw [← Option.some.inj hz242]; rfl)) (fun a h => ?_)
                refine d_takeP h (fun _ => HS) HN 15 rfl (by kernel_rfl) (by kernel_rfl) (by kernel_rfl) (by decide) rfl rfl (by decide) (fun w' => x_move h.k _ rfl rfl) (fun a h => ?_)
                refine d_split (t := 85) h rfl (fun hB15 => ?_) (fun hB15 => ?_)
                · refine d_takeNP h (fun _ => HS) HN 16 rfl (by kernel_rfl) (by kernel_rfl) (by kernel_rfl) (by decide) (by rw [g_want h rfl rfl rfl rfl hB15]; rfl) rfl (by decide) (fun a h => ?_)
                  refine d_takeNP h (fun _ => HS) HN 17 rfl (by kernel_rfl) (by kernel_rfl) (by kernel_rfl) (by decide) (by rw [g_want h rfl rfl rfl rfl hB15]; rfl) rfl (by decide) (fun a h => ?_)
                  refine d_takeNP h (fun _ => HS) HN 18 rfl (by kernel_rfl) (by kernel_rfl) (by kernel_rfl) (by decide) (by rw [g_want h rfl rfl rfl rfl hB15]; rfl) rfl (by decide) (fun a h => ?_)
                  refine d_takeNP h (fun _ => HS) HN 19 rfl (by kernel_rfl) (by kernel_rfl) (by kernel_rfl) (by decide) (by rw [g_want h rfl rfl rfl rfl hB15]; rfl) rfl (by decide) (fun a h => ?_)
                  refine d_takeNP h (fun _ => HS) HN 20 rfl (by kernel_rfl) (by kernel_rfl) (by kernel_rfl) (by decide) (by rw [g_want h rfl rfl rfl rfl hB15]; rfl) rfl (by decide) (fun a h => ?_)
                  refine d_takeNP h (fun _ => HS) HN 21 rfl (by kernel_rfl) (by kernel_rfl) (by kernel_rfl) (by decide) (by rw [g_want h rfl rfl rfl rfl hB15]; rfl) rfl (by decide) (fun a h => ?_)
                  refine d_takeNP h (fun _ => HS) HN 22 rfl (by kernel_rfl) (by kernel_rfl) (by kernel_rfl) (by decide) (by rw [g_want h rfl rfl rfl rfl hB15]; rfl) rfl (by decide) (fun a h => ?_)
                  refine d_takeNP h (fun _ => HS) HN 23 rfl (by kernel_rfl) (by kernel_rfl) (by kernel_rfl) (by decide) (by rw [g_want h rfl rfl rfl rfl hB15]; rfl) rfl (by decide) (fun a h => ?_)
                  refine d_takeNP h (fun _ => HS) HN 24 rfl (by kernel_rfl) (by kernel_rfl) (by kernel_rfl) (by decide) (by rw [g_want h rfl rfl rfl rfl hB15]; rfl) rfl (by decide) (fun a h => ?_)
                  refine d_takeP h (fun _ => HS) HN 25 rfl (by kernel_rfl) (by kernel_rfl) (by kernel_rfl) (by decide) rfl rfl (by decide) (fun w' => x_pick (v := .bool (z241 || (decide (w64 (4 * (x207.1.length : Int)) ≠ (x231.2.1.length : Int))))) (u' := undef) h.k rfl rfl (fun _ => by rw [hB15]; first | rfl | simp [ev, List.lookup]) (fun hh => absurd (hB15.symm.trans hh) (by decide))) (fun a h => ?_)
                  refine d_done (by kernel_rfl) (HE _ _ ?_) _
                  refine e_thenN ?_
                  exact h.has (by exact ⟨rfl, rfl, rfl, trivial⟩)
                · refine d_takeP h (fun _ => HS) HN 16 rfl (by kernel_rfl) (by kernel_rfl) (by kernel_rfl) (by decide) (by rw [g_want h rfl rfl rfl rfl hB15]; rfl) rfl (by decide) (fun w' => x_move h.k _ rfl rfl) (fun a h => ?_)
                  refine d_takeP h (fun _ => HS) HN 17 rfl (by kernel_rfl) (by kernel_rfl) (by kernel_rfl) (by decide) (by rw [g_want h rfl rfl rfl rfl hB15]; rfl) rfl (by decide) (fun w' => x_len h.k rfl Try.underlying34 rfl) (fun a h => ?_)
                  refine d_takeP h (fun _ => HS) HN 18 rfl (by kernel_rfl) (by kernel_rfl) (by kernel_rfl) (by decide) (by rw [g_want h rfl rfl rfl rfl hB15]; rfl) rfl (by decide) (fun w' => x_bin h.k rfl rfl rfl (ib_mul rfl)) (fun a h => ?_)
                  refine d_takeP h (fun _ => HS) HN 19 rfl (by kernel_rfl) (by kernel_rfl) (by kernel_rfl) (by decide) (by rw [g_want h rfl rfl rfl rfl hB15]; rfl) rfl (by decide) (fun w' => x_move h.k _ rfl rfl) (fun a h => ?_)
                  obtain ⟨k262, hc263, ⟨k264, k265, rfl, ⟨rfl, hr266⟩, ⟨k267, k268, rfl, ⟨A269, c270, rfl, hs271⟩, ⟨A272, c273, rfl, hs274⟩⟩⟩⟩ := id hp238
                  refine d_takeP h (fun _ => HS) HN 20 rfl (by kernel_rfl) (by kernel_rfl) (by kernel_rfl) (by decide) (by rw [g_want h rfl rfl rfl rfl hB15]; rfl) rfl (by decide) (fun w' => x_nil h.k rfl rfl) (fun a h => ?_)
                  refine d_takeP h (fun _ => HS) HN 21 rfl (by kernel_rfl) (by kernel_rfl) (by kernel_rfl) (by decide) (by rw [g_want h rfl rfl rfl rfl hB15]; rfl) rfl (by decide) (fun w' => x_faddr h.k rfl Try.underlying40 rfl sz_Sint rfl) (fun a h => ?_)
                  refine d_takeY h HS HN 22 rfl (by kernel_rfl) (by kernel_rfl) (by kernel_rfl) (by kernel_rfl) (by kernel_rfl) (by rw [g_want h rfl rfl rfl rfl hB15]; rfl) rfl (by decide) (fun w' hw => x_ld h.k rfl Try.underlying38 rfl rfl (hc263 _ (hw.snOK (i := 0) rfl) 1 _ rfl)) (fun a h => ?_)
                  refine d_takeP h (fun _ => HS) HN 23 rfl (by kernel_rfl) (by kernel_rfl) (by kernel_rfl) (by decide) (by rw [g_want h rfl rfl rfl rfl hB15]; rfl) rfl (by decide) (fun w' => x_len h.k rfl Try.underlying38 rfl) (fun a h => ?_)
                  refine d_takeP h (fun _ => HS) HN 24 rfl (by kernel_rfl) (by kernel_rfl) (by kernel_rfl) (by decide) (by rw [g_want h rfl rfl rfl rfl hB15]; rfl) rfl (by decide) (fun w' => x_bin h.k rfl rfl rfl ib_neq) (fun a h => ?_)
                  refine d_takeP h (fun _ => HS) HN 25 rfl (by kernel_rfl) (by kernel_rfl) (by kernel_rfl) (by decide) rfl rfl (by decide) (fun w' => x_pick (v := .bool (z241 || (decide (w64 (4 * (x207.1.length : Int)) ≠ (x231.2.1.length : Int))))) (u' := undef) h.k rfl rfl (fun hh => absurd (hB15.symm.trans hh) (by decide)) (fun _ => by rw [hB15]; first | rfl | simp [ev, List.lookup])) (fun a h => ?_)
                  refine d_done (by kernel_rfl) (HE _ _ ?_) _
                  refine e_thenN ?_
                  exact h.has (by exact ⟨rfl, rfl, rfl, trivial⟩)
          refine e_thenN ?_
          refine c_cond h rfl (fun hb => ?_) (fun hb => ?_)
          · rw [if_pos hb] at hf
            refine c_rs ?_ -- region 11
            refine s_assign h rfl _ rfl rfl (by decide) rfl (fun a h => ?_)
            refine l_end ?_
            refine wp_ret ?_
            refine e_thenR ?_
            rw [← Option.some.inj hf]
            exact r_ret1 h rfl (rv_tmp h rfl) ⟨_, [], _, rfl, ⟨rfl, rfl, trivial⟩, rfl, up235, h.m⟩
          · rw [if_neg (by rw [hb]; decide)] at hf
            refine wp_skip ?_
            refine e_thenN ?_
            refine wp_seq ?_
            refine c_rs ?_ -- region 12
            refine s_move h rfl _ rfl rfl (by decide) rfl (fun a h => ?_)
            refine s_x h rfl rfl (by decide) (x_len h.k rfl Try.underlying34 rfl) (fun a h => ?_)
            refine s_move h rfl _ rfl rfl (by decide) rfl (fun a h => ?_)
            refine l_end ?_
            obtain ⟨o275, hl276, hf⟩ := bsome hf
            refine c_fin (fun a w => (.inr ()) = o275 ∧ St 135 w0 (ownL ([] ++ [.sn S0])) [] [.sn S234] a w) ?_ ?_
            · refine wp_block ?_
              refine c_loop (fun m280 a w => ∃ (x277 : Int), chatelainelaw04_AesKeys_l1 Fu x207 x231 m280 x277 = some o275 ∧ r64 x277 ∧ St 135 w0 (ownL ([] ++ [.sn S0])) [(7, .pointer (some ⟨g237, 0, none⟩)), (96, .slice A213 x207.1.length c214), (97, .int .i64 (x207.1.length : Int)), (98, .int .i64 x277)] [.sn S234] a w) Fu ⟨0, hl276, (show r64 0 from ⟨by decide, by decide⟩), h.has (by exact ⟨rfl, rfl, rfl, rfl, trivial⟩)⟩ (fun m280 a w hI => ?_)
              obtain ⟨x277, hl279, hr278, h⟩ := hI
              obtain _ | m280 := m280
              · rw [chatelainelaw04_AesKeys_l1] at hl279; cases hl279
              rw [chatelainelaw04_AesKeys_l1] at hl279
              refine c_rs ?_ -- region 13
              refine s_x h rfl rfl (by decide) (x_bin h.k rfl rfl rfl ib_lss) (fun a h => ?_)
              refine l_end ?_
              refine c_cs h rfl (fun hb => ?_) (fun hb => ?_)
              · rw [if_pos (of_decide_eq_true hb)] at hl279
                refine wp_skip ?_
                refine e_thenN ?_
                refine wp_seq ?_
                refine wp_block ?_
                refine c_rs ?_ -- region 14
                refine s_move h rfl _ rfl rfl (by decide) rfl (fun a h => ?_)
                obtain ⟨x281, h285, hl279⟩ := bsome hl279
                obtain ⟨m282, hi286, hm287, hx288⟩ := idx_some h285
                obtain ⟨b283, off284, k289, hA290, hu291, hc292⟩ := ((hs215.mono le236)).at1 rfl hx288 (h.m.snOK (i := 0) rfl)
                cases hu291
                refine s_x h rfl rfl (by decide) (x_iaddrE h.k rfl Try.underlying34 sz_uint32 hA290 rfl rfl hi286 hm287) (fun a h => ?_)
                refine s_x h rfl rfl (by decide) (x_ld h.k rfl Try.underlying41 rfl rfl (hc292 _ (h.m.snOK (i := 0) rfl))) (fun a h => ?_)
                refine s_assign h rfl _ rfl rfl (by decide) rfl (fun a h => ?_)
                refine s_assign h rfl _ rfl rfl (by decide) rfl (fun a h => ?_)
                refine l_end ?_
                refine c_rs ?_ -- region 15
                refine s_move h rfl _ rfl rfl (by decide) rfl (fun a h => ?_)
                obtain ⟨k293, hc294, ⟨k295, k296, rfl, ⟨rfl, hr297⟩, ⟨k298, k299, rfl, ⟨A300, c301, rfl, hs302⟩, ⟨A303, c304, rfl, hs305⟩⟩⟩⟩ := id hp238
                refine s_x h rfl rfl (by decide) (x_nil h.k rfl rfl) (fun a h => ?_)
                refine s_x h rfl rfl (by decide) (x_faddr h.k rfl Try.underlying40 rfl sz_Sint rfl) (fun a h => ?_)
                refine s_x h rfl rfl (by decide) (x_ld h.k rfl Try.underlying38 rfl rfl (hc294 _ (h.m.snOK (i := 0) rfl) 1 _ rfl)) (fun a h => ?_)
                refine s_move h rfl _ rfl rfl (by decide) rfl (fun a h => ?_)
                refine s_x h rfl rfl (by decide) (x_bin h.k rfl rfl rfl (ib_mul rfl)) (fun a h => ?_)
                refine s_move h rfl _ rfl rfl (by decide) rfl (fun a h => ?_)
                refine s_x h rfl rfl (by decide) (x_bin h.k rfl rfl rfl (ib_mul rfl)) (fun a h => ?_)
                refine s_x h rfl rfl (by decide) (x_bin h.k rfl rfl rfl (ib_add rfl)) (fun a h => ?_)
                obtain ⟨x306, h307, hl279⟩ := bsome hl279
                obtain ⟨m308, n309, hi310, hi311, hm312, hm313, hr314⟩ := sub_some h307
                have hs315 := slS.sub (hs302) hm312 hm313 (Nat.le_trans hm313 (hs302).1) (Nat.le_refl _) hr314
                refine s_x h rfl rfl (by decide) (x_sliceE h.k rfl Try.underlying38 sz_int rfl c301 hr314 (bd_some rfl hi310) (bd_some rfl hi311) (bd_none rfl) (by intro hh; cases hh) hm312 hm313 (Nat.le_trans hm313 (hs302).1) (Nat.le_refl _)) (fun a h => ?_)
                refine s_assign h rfl _ rfl rfl (by decide) rfl (fun a h => ?_)
                refine l_end ?_
                refine wp_seq ?_
                -- region 16 draws
                obtain ⟨x316, h320, hl279⟩ := bsome hl279
                obtain ⟨x330, h334, hl279⟩ := bsome hl279
                obtain ⟨x344, h348, hl279⟩ := bsome hl279
                obtain ⟨x358, h362, hl279⟩ := bsome hl279
                refine d_start h (Mem _ _ _) 21 21 rfl (by kernel_rfl) (fun _ _ _ _ _ h => h) (fun _ h => h) (fun Q a w HE HN h HS => ?_)
                refine d_takeP h (fun _ => HS) HN 0 rfl (by kernel_rfl) (by kernel_rfl) (by kernel_rfl) (by decide) rfl rfl (by decide) (fun w' => x_move h.k _ rfl rfl) (fun a h => ?_)
                refine d_takeP h (fun _ => HS) HN 1 rfl (by kernel_rfl) (by kernel_rfl) (by kernel_rfl) (by decide) rfl rfl (by decide) (fun w' => x_convE h.k rfl Try.underlying41 Try.underlying3 rfl (nw64 (u32_r _))) (fun a h => ?_)
                refine d_takeP h (fun _ => HS) HN 2 rfl (by kernel_rfl) (by kernel_rfl) (by kernel_rfl) (by decide) rfl rfl (by decide) (fun w' => x_move h.k _ rfl rfl) (fun a h => ?_)
                obtain ⟨m317, hi321, hm322, hx323⟩ := idx_some h320
                obtain ⟨b318, off319, k324, hA325, hu326, hc327⟩ := (hs315).at1 rfl hx323 (h.m.snOK (i := 0) rfl)
                obtain ⟨e329, hr328⟩ := hu326
                cases e329
                refine d_takeP h (fun _ => HS) HN 3 rfl (by kernel_rfl) (by kernel_rfl) (by kernel_rfl) (by decide) rfl rfl (by decide) (fun w' => x_iaddrE h.k rfl Try.underlying38 sz_int hA325 rfl rfl hi321 hm322) (fun a h => ?_)
                refine d_take h HS HN 4 rfl (by kernel_rfl) (by kernel_rfl) (by kernel_rfl) (by kernel_rfl) (by kernel_rfl) rfl rfl (by decide) (fun w' hw => x_ld h.k rfl Try.underlying3 rfl rfl (hc327 _ (hw.snOK (i := 0) rfl))) (fun a h => ?_)
                refine d_takeP h (fun _ => HS) HN 5 rfl (by kernel_rfl) (by kernel_rfl) (by kernel_rfl) (by decide) rfl rfl (by decide) (fun w' => x_bin h.k rfl rfl rfl (ib_mul rfl)) (fun a h => ?_)
                refine d_takeP h (fun _ => HS) HN 6 rfl (by kernel_rfl) (by kernel_rfl) (by kernel_rfl) (by decide) rfl rfl (by decide) (fun w' => x_move h.k _ rfl rfl) (fun a h => ?_)
                obtain ⟨m331, hi335, hm336, hx337⟩ := idx_some h334
                obtain ⟨b332, off333, k338, hA339, hu340, hc341⟩ := (hs315).at1 rfl hx337 (h.m.snOK (i := 0) rfl)
                obtain ⟨e343, hr342⟩ := hu340
                cases e343
                refine d_takeP h (fun _ => HS) HN 7 rfl (by kernel_rfl) (by kernel_rfl) (by kernel_rfl) (by decide) rfl rfl (by decide) (fun w' => x_iaddrE h.k rfl Try.underlying38 sz_int hA339 rfl rfl hi335 hm336) (fun a h => ?_)
                refine d_take h HS HN 8 rfl (by kernel_rfl) (by kernel_rfl) (by kernel_rfl) (by kernel_rfl) (by kernel_rfl) rfl rfl (by decide) (fun w' hw => x_ld h.k rfl Try.underlying3 rfl rfl (hc341 _ (hw.snOK (i := 0) rfl))) (fun a h => ?_)
                refine d_takeP h (fun _ => HS) HN 9 rfl (by kernel_rfl) (by kernel_rfl) (by kernel_rfl) (by decide) rfl rfl (by decide) (fun w' => x_bin h.k rfl rfl rfl (ib_mul rfl)) (fun a h => ?_)
                refine d_takeP h (fun _ => HS) HN 10 rfl (by kernel_rfl) (by kernel_rfl) (by kernel_rfl) (by decide) rfl rfl (by decide) (fun w' => x_bin h.k rfl rfl rfl (ib_add rfl)) (fun a h => ?_)
                refine d_takeP h (fun _ => HS) HN 11 rfl (by kernel_rfl) (by kernel_rfl) (by kernel_rfl) (by decide) rfl rfl (by decide) (fun w' => x_move h.k _ rfl rfl) (fun a h => ?_)
                obtain ⟨m345, hi349, hm350, hx351⟩ := idx_some h348
                obtain ⟨b346, off347, k352, hA353, hu354, hc355⟩ := (hs315).at1 rfl hx351 (h.m.snOK (i := 0) rfl)
                obtain ⟨e357, hr356⟩ := hu354
                cases e357
                refine d_takeP h (fun _ => HS) HN 12 rfl (by kernel_rfl) (by kernel_rfl) (by kernel_rfl) (by decide) rfl rfl (by decide) (fun w' => x_iaddrE h.k rfl Try.underlying38 sz_int hA353 rfl rfl hi349 hm350) (fun a h => ?_)
                refine d_take h HS HN 13 rfl (by kernel_rfl) (by kernel_rfl) (by kernel_rfl) (by kernel_rfl) (by kernel_rfl) rfl rfl (by decide) (fun w' hw => x_ld h.k rfl Try.underlying3 rfl rfl (hc355 _ (hw.snOK (i := 0) rfl))) (fun a h => ?_)
                refine d_takeP h (fun _ => HS) HN 14 rfl (by kernel_rfl) (by kernel_rfl) (by kernel_rfl) (by decide) rfl rfl (by decide) (fun w' => x_bin h.k rfl rfl rfl (ib_mul rfl)) (fun a h => ?_)
                refine d_takeP h (fun _ => HS) HN 15 rfl (by kernel_rfl) (by kernel_rfl) (by kernel_rfl) (by decide) rfl rfl (by decide) (fun w' => x_bin h.k rfl rfl rfl (ib_add rfl)) (fun a h => ?_)
                refine d_takeP h (fun _ => HS) HN 16 rfl (by kernel_rfl) (by kernel_rfl) (by kernel_rfl) (by decide) rfl rfl (by decide) (fun w' => x_move h.k _ rfl rfl) (fun a h => ?_)
                obtain ⟨m359, hi363, hm364, hx365⟩ := idx_some h362
                obtain ⟨b360, off361, k366, hA367, hu368, hc369⟩ := (hs315).at1 rfl hx365 (h.m.snOK (i := 0) rfl)
                obtain ⟨e371, hr370⟩ := hu368
                cases e371
                refine d_takeP h (fun _ => HS) HN 17 rfl (by kernel_rfl) (by kernel_rfl) (by kernel_rfl) (by decide) rfl rfl (by decide) (fun w' => x_iaddrE h.k rfl Try.underlying38 sz_int hA367 rfl rfl hi363 hm364) (fun a h => ?_)
                refine d_take h HS HN 18 rfl (by kernel_rfl) (by kernel_rfl) (by kernel_rfl) (by kernel_rfl) (by kernel_rfl) rfl rfl (by decide) (fun w' hw => x_ld h.k rfl Try.underlying3 rfl rfl (hc369 _ (hw.snOK (i := 0) rfl))) (fun a h => ?_)
                refine d_takeP h (fun _ => HS) HN 19 rfl (by kernel_rfl) (by kernel_rfl) (by kernel_rfl) (by decide) rfl rfl (by decide) (fun w' => x_bin h.k rfl rfl rfl (ib_add rfl)) (fun a h => ?_)
                refine d_takeP h (fun _ => HS) HN 20 rfl (by kernel_rfl) (by kernel_rfl) (by kernel_rfl) (by decide) rfl rfl (by decide) (fun w' => x_bin h.k rfl rfl rfl ib_neq) (fun a h => ?_)
                refine d_done (by kernel_rfl) (HE _ _ ?_) _
                refine e_thenN ?_
                refine c_cond h rfl (fun hb => ?_) (fun hb => ?_)
                · rw [if_pos (of_decide_eq_true hb)] at hl279
                  refine c_rs ?_ -- region 17
                  refine s_assign h rfl _ rfl rfl (by decide) rfl (fun a h => ?_)
                  refine l_end ?_
                  refine wp_ret ?_
                  refine e_blkR ?_
                  refine e_thenR ?_
                  refine e_thenR ?_
                  refine e_blkR ?_
                  refine e_thenR ?_
                  cases hl279
                  try dsimp only at hf
                  refine e_thenR ?_
                  rw [← Option.some.inj hf]
                  exact r_ret1 h rfl (rv_tmp h rfl) ⟨_, [], _, rfl, ⟨rfl, rfl, trivial⟩, rfl, up235, h.m⟩
                · rw [if_neg (of_decide_eq_false hb)] at hl279
                  refine wp_skip ?_
                  refine e_blkN ?_
                  refine e_thenN ?_
                  refine c_r ?_ -- region 18
                  refine s_x h rfl rfl (by decide) (x_bin h.k rfl rfl rfl (ib_add rfl)) (fun a h => ?_)
                  refine s_move h rfl _ rfl rfl (by decide) rfl (fun a h => ?_)
                  refine l_nil ?_
                  exact e_thenN ⟨m280, Nat.lt_succ_self _, w64 (x277 + 1), hl279, (w64_r _), h.has (by exact ⟨rfl, rfl, rfl, rfl, trivial⟩)⟩
              · rw [if_neg (of_decide_eq_false hb)] at hl279
                refine wp_exit ?_
                refine e_thenX ?_
                refine e_thenX ?_
                refine e_blkX ?_
                refine e_thenN ?_
                exact ⟨(Option.some.inj hl279), h.has trivial⟩
            · rintro a w ⟨rfl, h⟩
              try dsimp only at hf
              refine e_thenN ?_
              refine c_rs ?_ -- region 19
              refine s_assign h rfl _ rfl rfl (by decide) rfl (fun a h => ?_)
              refine l_end ?_
              refine wp_ret ?_
              rw [← Option.some.inj hf]
              exact r_ret1 h rfl (rv_tmp h rfl) ⟨_, [], _, rfl, ⟨rfl, rfl, trivial⟩, rfl, up235, h.m⟩
def chatelainelaw04_AesBlocks (Fu : Nat) (a0 : List UInt8) (a1 : List UInt8) : Option Bool :=
  (chatelainelaw04_awake Fu).bind fun x4 => if (!x4) = true then (some false) else (if ((decide ((a0.length : Int) ≠ 16)) && (decide ((a0.length : Int) ≠ 32))) = true then (some true) else ((aes_New Fu a0).bind fun x9 => (match x9 with | .inl x15 => (if x15 ≠ 0 then (some false) else ((aes_Cipher_Encrypt_nil0 Fu a1).bind fun x17 => (chatelaineref04_Make Fu a0).bind fun x26 => (chatelaineref04_Key_Encrypt Fu x26 a1).bind fun x34 => (if x17 = x34 then (aes_Cipher_Decrypt_nil0 Fu x17).bind fun x44 => some (decide (x44 = a1)) else some false).bind fun z42 => some z42)) | .inr x55 => (if x55.2 ≠ 0 then (some false) else ((aes_Cipher_Encrypt Fu x55.1 a1).bind fun x59 => (chatelaineref04_Make Fu a0).bind fun x68 => (chatelaineref04_Key_Encrypt Fu x68 a1).bind fun x76 => (if x59 = x76 then (aes_Cipher_Decrypt Fu x55.1 x59).bind fun x86 => some (decide (x86 = a1)) else some false).bind fun z84 => some z84)))))
set_option maxRecDepth 100000 in
set_option maxHeartbeats 2000000 in
theorem chatelainelaw04_AesBlocks_ok (Fu : Nat) {S0 : Snap} (Aa0 : Option Addr) (ca0 : Nat) (a0 : List UInt8) (hsa0 : slS ty8 S0 Aa0 ca0 a0) (csa1 : List Value) (a1 : List UInt8) (hsa1 : (tyA 16 ty8).rep S0 csa1 a1) (r : Bool) (hf : chatelainelaw04_AesBlocks Fu a0 a1 = some r) (w0 : World) (hm : Mem w0 (ownL ([] ++ [.sn S0])) ([] ++ [.sn S0]) w0) :
    Calls Try.prog 3 #[.slice Aa0 a0.length ca0, .agg csa1.toArray] w0 (Ret w0 S0 [] (fun v L1 S1 => v = .bool r ∧ L1 = [] ∧ True)) := by
  unfold chatelainelaw04_AesBlocks at hf
  obtain ⟨hs1, hl2⟩ := hsa1
  refine c_enterM Try.func3 rfl 41 rfl (by simp) _ hm _ rfl (fun a h => ?_)
  refine c_rs ?_ -- region 0
  refine s_box h rfl rfl rfl (by decide) rfl (cs := csa1) (by rfl) (fun a w g3 h => ?_)
  refine s_assign h rfl _ rfl rfl (by decide) rfl (fun a h => ?_)
  refine l_end ?_
  refine wp_seq ?_
  refine c_rs ?_ -- region 1
  obtain ⟨x4, h5, hf⟩ := bsome hf
  have hX := chatelainelaw04_awake_ok Fu (S0 := snapAll _)  _ h5 _ h.startAll
  refine q_callX hX h rfl rfl rfl (by decide) Try.func13 rfl rfl rfl (fun a w v L1 S1 hR hb1 h => ?_)
  obtain ⟨rfl, rfl, _⟩ := hR
  refine s_x h rfl rfl (by decide) (x_not h.k rfl rfl) (fun a h => ?_)
  refine l_end ?_
  refine c_cond h rfl (fun hb => ?_) (fun hb => ?_)
  · rw [if_pos hb] at hf
    refine c_rs ?_ -- region 2
    refine s_assign h rfl _ rfl rfl (by decide) rfl (fun a h => ?_)
    refine l_end ?_
    refine wp_ret ?_
    refine e_thenR ?_
    rw [← Option.some.inj hf]
    exact r_ret1 h rfl (rv_tmp h rfl) ⟨_, [], _, rfl, ⟨rfl, rfl, trivial⟩, rfl, (Up.refl _ _ _), (h.m.pick [1] _ (by decide) rfl)⟩
  · rw [if_neg (by rw [hb]; decide)] at hf
    refine wp_skip ?_
    refine e_thenN ?_
    refine wp_seq ?_
    refine c_rs ?_ -- region 3
    refine s_move h rfl _ rfl rfl (by decide) rfl (fun a h => ?_)
    refine s_x h rfl rfl (by decide) (x_len h.k rfl Try.underlying22 rfl) (fun a h => ?_)
    refine s_x h rfl rfl (by decide) (x_bin h.k rfl rfl rfl ib_neq) (fun a h => ?_)
    refine s_move h rfl _ rfl rfl (by decide) rfl (fun a h => ?_)
    refine q_grp h 4 (t := 13) 17 ((decide ((a0.length : Int) ≠ 16)) && (decide ((a0.length : Int) ≠ 32))) rfl (fun hB3 => ?_) (fun hB3 => ?_) (fun a w h => ?_)
    · refine g_yes h rfl rfl rfl rfl hB3 ?_
      refine s_move h rfl _ rfl rfl (by decide) rfl (fun a h => ?_)
      refine g_yes h rfl rfl rfl rfl hB3 ?_
      refine s_x h rfl rfl (by decide) (x_len h.k rfl Try.underlying22 rfl) (fun a h => ?_)
      refine g_yes h rfl rfl rfl rfl hB3 ?_
      refine s_x h rfl rfl (by decide) (x_bin h.k rfl rfl rfl ib_neq) (fun a h => ?_)
      refine s_x h rfl rfl (by decide) (x_pick (u' := undef) h.k rfl rfl (fun _ => rfl) (fun hh => absurd (hB3.symm.trans hh) (by decide))) (fun a h => ?_)
      exact (h.mid 3 rfl).val (by first | rfl | (rw [hB3]; first | rfl | simp))
    · refine g_no h rfl rfl rfl rfl hB3 rfl (by decide) (fun a h => ?_)
      refine g_no h rfl rfl rfl rfl hB3 rfl (by decide) (fun a h => ?_)
      refine g_no h rfl rfl rfl rfl hB3 rfl (by decide) (fun a h => ?_)
      refine s_x h rfl rfl (by decide) (x_pick (u' := undef) h.k rfl rfl (fun hh => absurd (hB3.symm.trans hh) (by decide)) (fun _ => rfl)) (fun a h => ?_)
      exact (h.mid 3 rfl).val (by first | rfl | (rw [hB3]; first | rfl | simp))
    refine l_end ?_
    refine c_cond h rfl (fun hb => ?_) (fun hb => ?_)
    · rw [if_pos hb] at hf
      refine c_rs ?_ -- region 4
      refine s_assign h rfl _ rfl rfl (by decide) rfl (fun a h => ?_)
      refine l_end ?_
      refine wp_ret ?_
      refine e_thenR ?_
      rw [← Option.some.inj hf]
      exact r_ret1 h rfl (rv_tmp h rfl) ⟨_, [], _, rfl, ⟨rfl, rfl, trivial⟩, rfl, (Up.refl _ _ _), (h.m.pick [1] _ (by decide) rfl)⟩
    · rw [if_neg (by rw [hb]; decide)] at hf
      refine wp_skip ?_
      refine e_thenN ?_
      refine c_rs ?_ -- region 5
      refine s_move h rfl _ rfl rfl (by decide) rfl (fun a h => ?_)
      obtain ⟨x9, h10, hf⟩ := bsome hf
      have h := h.pick [1, 0] (by decide) rfl
      have hX := aes_New_ok Fu (S0 := S0) Aa0 ca0 a0 hsa0 _ h10 _ (h.sub (Ls := []))
      refine q_callY (Ls := []) hX h (Up.refl _ _ _) rfl rfl rfl (by decide) Try.func14 rfl rfl rfl (fun a w v L1 S12 hR le14 up13 h => ?_)
      rcases hR with hR | hR
      · obtain ⟨x15, rfl, hR⟩ := hR
        dsimp only at hf
        obtain ⟨rfl, rfl, hr16, _⟩ := hR
        refine s_move h rfl _ rfl rfl (by decide) rfl (fun a h => ?_)
        refine s_x h rfl rfl (by decide) (x_ext h.k rfl rfl rfl) (fun a h => ?_)
        refine s_x h rfl rfl (by decide) (x_ext h.k rfl rfl rfl) (fun a h => ?_)
        refine s_assign h rfl _ rfl rfl (by decide) rfl (fun a h => ?_)
        refine s_assign h rfl _ rfl rfl (by decide) rfl (fun a h => ?_)
        refine l_end ?_
        refine wp_seq ?_
        refine c_rs ?_ -- region 6
        refine s_move h rfl _ rfl rfl (by decide) rfl (fun a h => ?_)
        refine s_x h rfl rfl (by decide) (x_bin h.k rfl rfl rfl ib_neq) (fun a h => ?_)
        refine l_end ?_
        refine c_cond h rfl (fun hb => ?_) (fun hb => ?_)
        · rw [if_pos (of_decide_eq_true hb)] at hf
          refine c_rs ?_ -- region 7
          refine s_assign h rfl _ rfl rfl (by decide) rfl (fun a h => ?_)
          refine l_end ?_
          refine wp_ret ?_
          refine e_thenR ?_
          rw [← Option.some.inj hf]
          exact r_ret1 h rfl (rv_tmp h rfl) ⟨_, [], _, rfl, ⟨rfl, rfl, trivial⟩, rfl, up13, (h.m.pick [0] _ (by decide) rfl)⟩
        · rw [if_neg (of_decide_eq_false hb)] at hf
          refine wp_skip ?_
          refine e_thenN ?_
          refine c_rs ?_ -- region 8
          refine s_move h rfl _ rfl rfl (by decide) rfl (fun a h => ?_)
          refine s_x h rfl rfl (by decide) (x_ldR h.k rfl ag_A16_uint8 rfl csa1 (((hs1.mono le14)).len.trans (by rw [hl2]; rfl)) (h.m.range0 (i := 1) rfl)) (fun a h => ?_)
          obtain ⟨x17, h18, hf⟩ := bsome hf
          have hX := aes_Cipher_Encrypt_nil0_ok Fu (S0 := snapAll _) csa1 a1 ((tyA 16 ty8).mono (h.m.leAll (i := 0) rfl) (show (tyA 16 ty8).rep S12 csa1 a1 from ⟨(hs1.mono le14), hl2⟩)) _ h18 _ h.startAll
          refine q_callX hX h rfl rfl rfl (by decide) Try.func15 rfl rfl rfl (fun a w v L1 S1 hR hb1 h => ?_)
          obtain ⟨k20, rfl, rfl, hv21, _⟩ := hR
          obtain ⟨hs22, hl23⟩ := hv21
          have hq24 := hs22.fl (S' := S12) fl_8
          refine s_alloc h rfl rfl rfl (by decide) zi_A16_uint8 rfl (fun a w g25 h => ?_)
          refine s_stW h rfl rfl rfl ag_A16_uint8 rfl (es := k20) rfl ((hq24).len.trans (by rw [hl23]; rfl)) (hq24).one 0 rfl (by first | rfl | simp_all) (fun a w h => ?_)
          refine l_end ?_
          refine wp_seq ?_
          -- region 9 draws
          obtain ⟨x26, h27, hf⟩ := bsome hf
          obtain ⟨x34, h35, hf⟩ := bsome hf
          obtain ⟨z42, hz43, hf⟩ := bsome hf
          refine c_fin (fun a w => ∃ (S52 : Snap), Snap.le S12 S52 ∧ Up (ownL ([] ++ [.sn S0])) w0 S0 S52 ∧ St 41 w0 (ownL ([] ++ [.sn S0])) [(4, .bool z42)] [.sn S52] a w) ?_ (fun a w h => ?_)
          · refine d_start h (Mem _ _ _) 14 14 rfl (by kernel_rfl) (fun _ _ _ _ _ h => h) (fun _ h => h) (fun Q a w HE HN h HS => ?_)
            refine d_take h HS HN 0 rfl (by kernel_rfl) (by kernel_rfl) (by kernel_rfl) (by kernel_rfl) (by kernel_rfl) rfl rfl (by decide) (fun w' hw => x_ldR h.k rfl ag_A16_uint8 rfl k20 ((hq24).len.trans (by rw [hl23]; rfl)) (hw.range0 (i := 0) rfl)) (fun a h => ?_)
            refine d_takeP h (fun _ => HS) HN 1 rfl (by kernel_rfl) (by kernel_rfl) (by kernel_rfl) (by decide) rfl rfl (by decide) (fun w' => x_move h.k _ rfl rfl) (fun a h => ?_)
            refine d_take h HS HN 3 rfl (by kernel_rfl) (by kernel_rfl) (by kernel_rfl) (by kernel_rfl) (by kernel_rfl) rfl rfl (by decide) (fun w' hw => x_ldR h.k rfl ag_A16_uint8 rfl csa1 (((hs1.mono le14)).len.trans (by rw [hl2]; rfl)) (hw.range0 (i := 2) rfl)) (fun a h => ?_)
            refine d_alone 2 rfl (by kernel_rfl) (fun K hK => ?_)
            have h := h.pick [1, 0, 2] (by decide) rfl
            have hX := chatelaineref04_Make_ok Fu (S0 := S12) Aa0 ca0 a0 (hsa0.mono le14) _ h27 _ (h.sub (Ls := []))
            refine q_callY (Ls := []) hX h up13 rfl rfl rfl (by decide) Try.func16 rfl rfl rfl (fun a w v L1 S29 hR le31 up30 h => ?_)
            obtain ⟨g32, rfl, rfl, hp33, _⟩ := hR
            replace HS := (h.m.pick [1, 0, 2] [.box g25 23 k20, .sn S29, .box g3 23 csa1] (by decide) rfl).snLe 1 rfl le31
            refine hK _ _ (fun _ _ => HS) ?_
            clear hK
            refine d_alone 4 rfl (by kernel_rfl) (fun K hK => ?_)
            have hX := chatelaineref04_Key_Encrypt_ok Fu (S0 := snapAll _) g32 x26 (hp33.mono (h.m.leAll (i := 0) rfl)) csa1 a1 ((tyA 16 ty8).mono (h.m.leAll (i := 0) rfl) (show (tyA 16 ty8).rep S29 csa1 a1 from ⟨(hs1.mono (le14.trans le31)), hl2⟩)) _ h35 _ h.startAll
            refine q_callX hX h rfl rfl rfl (by decide) Try.func17 rfl rfl rfl (fun a w v L1 S1 hR hb1 h => ?_)
            obtain ⟨k37, rfl, rfl, hv38, _⟩ := hR
            obtain ⟨hs39, hl40⟩ := hv38
            have hq41 := hs39.fl (S' := S29) fl_8
            refine hK _ _ (fun _ _ => HS.ext hb1) ?_
            replace HS := HS.ext hb1
            clear hK
            refine d_takeP h (fun _ => HS) HN 5 rfl (by kernel_rfl) (by kernel_rfl) (by kernel_rfl) (by decide) rfl rfl (by decide) (fun w' => x_eqlA8 (X := k20) (Y := k37) h.k rfl Try.underlying23 Try.underlying5 sz_uint8 gda_A16_uint8 rfl rfl (hq24.mono le31) hq41 hl23 hl40) (fun a h => ?_)
            refine d_takeP h (fun _ => HS) HN 6 rfl (by kernel_rfl) (by kernel_rfl) (by kernel_rfl) (by decide) rfl rfl (by decide) (fun w' => x_move h.k _ rfl rfl) (fun a h => ?_)
            refine d_split (t := 34) h rfl (fun hB6 => ?_) (fun hB6 => ?_)
            · rw [if_pos (of_decide_eq_true hB6)] at hz43
              obtain ⟨x44, h45, hz43⟩ := bsome hz43
              refine d_takeP h (fun _ => HS) HN 7 rfl (by kernel_rfl) (by kernel_rfl) (by kernel_rfl) (by decide) (by rw [g_want h rfl rfl rfl rfl hB6]; rfl) rfl (by decide) (fun w' => x_move h.k _ rfl rfl) (fun a h => ?_)
              refine d_takeY h HS HN 8 rfl (by kernel_rfl) (by kernel_rfl) (by kernel_rfl) (by kernel_rfl) (by kernel_rfl) (by rw [g_want h rfl rfl rfl rfl hB6]; rfl) rfl (by decide) (fun w' hw => x_ldR h.k rfl ag_A16_uint8 rfl k20 (((hq24.mono le31)).len.trans (by rw [hl23]; rfl)) (hw.range0 (i := 0) rfl)) (fun a h => ?_)
              refine d_takeY h HS HN 10 rfl (by kernel_rfl) (by kernel_rfl) (by kernel_rfl) (by kernel_rfl) (by kernel_rfl) (by rw [g_want h rfl rfl rfl rfl hB6]; rfl) rfl (by decide) (fun w' hw => x_ldR h.k rfl ag_A16_uint8 rfl csa1 (((hs1.mono (le14.trans le31))).len.trans (by rw [hl2]; rfl)) (hw.range0 (i := 2) rfl)) (fun a h => ?_)
              refine d_alone 9 rfl (by kernel_rfl) (fun K hK => ?_)
              refine g_yes (j := 6) (t := 34) h rfl rfl rfl rfl hB6 ?_
              have hX := aes_Cipher_Decrypt_nil0_ok Fu (S0 := snapAll _) k20 x17 ((tyA 16 ty8).mono (h.m.leAll (i := 0) rfl) (show (tyA 16 ty8).rep S29 k20 x17 from ⟨(hq24.mono le31), hl23⟩)) _ h45 _ h.startAll
              refine q_callX hX h rfl rfl rfl (by decide) Try.func18 rfl rfl rfl (fun a w v L1 S1 hR hb1 h => ?_)
              obtain ⟨k47, rfl, rfl, hv48, _⟩ := hR
              obtain ⟨hs49, hl50⟩ := hv48
              have hq51 := hs49.fl (S' := S29) fl_8
              refine hK _ _ (fun _ _ => HS.ext hb1) ?_
              replace HS := HS.ext hb1
              clear hK
              refine d_takeP h (fun _ => HS) HN 11 rfl (by kernel_rfl) (by kernel_rfl) (by kernel_rfl) (by decide) (by rw [g_want h rfl rfl rfl rfl hB6]; rfl) rfl (by decide) (fun w' => x_eqlA8 (X := k47) (Y := csa1) h.k rfl Try.underlying23 Try.underlying5 sz_uint8 gda_A16_uint8 rfl rfl hq51 (hs1.mono (le14.trans le31)) hl50 hl2) (fun a h => ?_)
              refine d_takeP h (fun _ => HS) HN 12 rfl (by kernel_rfl) (by kernel_rfl) (by kernel_rfl) (by decide) rfl rfl (by decide) (fun w' => x_pick (v := .bool z42) (u' := undef) h.k rfl rfl (fun _ => by rw [← Option.some.inj hz43]; rfl) (fun hh => absurd (hB6.symm.trans hh) (by decide))) (fun a h => ?_)
              refine d_takeP h (fun _ => HS) HN 13 rfl (by kernel_rfl) (by kernel_rfl) (by kernel_rfl) (by decide) rfl rfl (by decide) (fun w' => x_assign h.k _ rfl rfl) (fun a h => ?_)
              refine d_done (by kernel_rfl) (HE _ _ ?_) _
              refine e_thenN ?_
              have h := h.pick [0] (by decide) rfl
              exact ⟨S29, le31, up30, h.has (by exact ⟨rfl, trivial⟩)⟩
            · rw [if_neg (of_decide_eq_false hB6)] at hz43
              refine d_takeNP h (fun _ => HS) HN 7 rfl (by kernel_rfl) (by kernel_rfl) (by kernel_rfl) (by decide) (by rw [g_want h rfl rfl rfl rfl hB6]; rfl) rfl (by decide) (fun a h => ?_)
              refine d_takeNP h (fun _ => HS) HN 8 rfl (by kernel_rfl) (by kernel_rfl) (by kernel_rfl) (by decide) (by rw [g_want h rfl rfl rfl rfl hB6]; rfl) rfl (by decide) (fun a h => ?_)
              refine d_takeNP h (fun _ => HS) HN 9 rfl (by kernel_rfl) (by kernel_rfl) (by kernel_rfl) (by decide) (by rw [g_want h rfl rfl rfl rfl hB6]; rfl) rfl (by decide) (fun a h => ?_)
              refine d_takeNP h (fun _ => HS) HN 10 rfl (by kernel_rfl) (by kernel_rfl) (by kernel_rfl) (by decide) (by rw [g_want h rfl rfl rfl rfl hB6]; rfl) rfl (by decide) (fun a h => ?_)
              refine d_takeNP h (fun _ => HS) HN 11 rfl (by kernel_rfl) (by kernel_rfl) (by kernel_rfl) (by decide) (by rw [g_want h rfl rfl rfl rfl hB6]; rfl) rfl (by decide) (fun a h => ?_)
              refine d_takeP h (fun _ => HS) HN 12 rfl (by kernel_rfl) (by kernel_rfl) (by kernel_rfl) (by decide) rfl rfl (by decide) (fun w' => x_pick (v := .bool z42) (u' := undef) h.k rfl rfl (fun hh => absurd (hB6.symm.trans hh) (by decide)) (fun _ => by rw [← Option.some.inj hz43]; rfl)) (fun a h => ?_)
              refine d_takeP h (fun _ => HS) HN 13 rfl (by kernel_rfl) (by kernel_rfl) (by kernel_rfl) (by decide) rfl rfl (by decide) (fun w' => x_assign h.k _ rfl rfl) (fun a h => ?_)
              refine d_done (by kernel_rfl) (HE _ _ ?_) _
              refine e_thenN ?_
              have h := h.pick [0] (by decide) rfl
              exact ⟨S29, le31, up30, h.has (by exact ⟨rfl, trivial⟩)⟩
          obtain ⟨S52, le53, up54, h⟩ := h
          refine e_thenN ?_
          refine wp_ret ?_
          rw [← Option.some.inj hf]
          exact r_ret1 h rfl (rv_tmp h rfl) ⟨_, [], _, rfl, ⟨rfl, rfl, trivial⟩, rfl, up54, h.m⟩
      · obtain ⟨x55, rfl, hR⟩ := hR
        dsimp only at hf
        obtain ⟨g56, rfl, rfl, hp57, hr58, _⟩ := hR
        refine s_move h rfl _ rfl rfl (by decide) rfl (fun a h => ?_)
        refine s_x h rfl rfl (by decide) (x_ext h.k rfl rfl rfl) (fun a h => ?_)
        refine s_x h rfl rfl (by decide) (x_ext h.k rfl rfl rfl) (fun a h => ?_)
        refine s_assign h rfl _ rfl rfl (by decide) rfl (fun a h => ?_)
        refine s_assign h rfl _ rfl rfl (by decide) rfl (fun a h => ?_)
        refine l_end ?_
        refine wp_seq ?_
        refine c_rs ?_ -- region 6
        refine s_move h rfl _ rfl rfl (by decide) rfl (fun a h => ?_)
        refine s_x h rfl rfl (by decide) (x_bin h.k rfl rfl rfl ib_neq) (fun a h => ?_)
        refine l_end ?_
        refine c_cond h rfl (fun hb => ?_) (fun hb => ?_)
        · rw [if_pos (of_decide_eq_true hb)] at hf
          refine c_rs ?_ -- region 7
          refine s_assign h rfl _ rfl rfl (by decide) rfl (fun a h => ?_)
          refine l_end ?_
          refine wp_ret ?_
          refine e_thenR ?_
          rw [← Option.some.inj hf]
          exact r_ret1 h rfl (rv_tmp h rfl) ⟨_, [], _, rfl, ⟨rfl, rfl, trivial⟩, rfl, up13, (h.m.pick [0] _ (by decide) rfl)⟩
        · rw [if_neg (of_decide_eq_false hb)] at hf
          refine wp_skip ?_
          refine e_thenN ?_
          refine c_rs ?_ -- region 8
          refine s_move h rfl _ rfl rfl (by decide) rfl (fun a h => ?_)
          refine s_x h rfl rfl (by decide) (x_ldR h.k rfl ag_A16_uint8 rfl csa1 (((hs1.mono le14)).len.trans (by rw [hl2]; rfl)) (h.m.range0 (i := 1) rfl)) (fun a h => ?_)
          obtain ⟨x59, h60, hf⟩ := bsome hf
          have hX := aes_Cipher_Encrypt_ok Fu (S0 := snapAll _) g56 x55.1 (hp57.mono (h.m.leAll (i := 0) rfl)) csa1 a1 ((tyA 16 ty8).mono (h.m.leAll (i := 0) rfl) (show (tyA 16 ty8).rep S12 csa1 a1 from ⟨(hs1.mono le14), hl2⟩)) _ h60 _ h.startAll
          refine q_callX hX h rfl rfl rfl (by decide) Try.func15 rfl rfl rfl (fun a w v L1 S1 hR hb1 h => ?_)
          obtain ⟨k62, rfl, rfl, hv63, _⟩ := hR
          obtain ⟨hs64, hl65⟩ := hv63
          have hq66 := hs64.fl (S' := S12) fl_8
          refine s_alloc h rfl rfl rfl (by decide) zi_A16_uint8 rfl (fun a w g67 h => ?_)
          refine s_stW h rfl rfl rfl ag_A16_uint8 rfl (es := k62) rfl ((hq66).len.trans (by rw [hl65]; rfl)) (hq66).one 0 rfl (by first | rfl | simp_all) (fun a w h => ?_)
          refine l_end ?_
          refine wp_seq ?_
          -- region 9 draws
          obtain ⟨x68, h69, hf⟩ := bsome hf
          obtain ⟨x76, h77, hf⟩ := bsome hf
          obtain ⟨z84, hz85, hf⟩ := bsome hf
          refine c_fin (fun a w => ∃ (S94 : Snap), Snap.le S12 S94 ∧ Up (ownL ([] ++ [.sn S0])) w0 S0 S94 ∧ St 41 w0 (ownL ([] ++ [.sn S0])) [(4, .bool z84)] [.sn S94] a w) ?_ (fun a w h => ?_)
          · refine d_start h (Mem _ _ _) 14 14 rfl (by kernel_rfl) (fun _ _ _ _ _ h => h) (fun _ h => h) (fun Q a w HE HN h HS => ?_)
            refine d_take h HS HN 0 rfl (by kernel_rfl) (by kernel_rfl) (by kernel_rfl) (by kernel_rfl) (by kernel_rfl) rfl rfl (by decide) (fun w' hw => x_ldR h.k rfl ag_A16_uint8 rfl k62 ((hq66).len.trans (by rw [hl65]; rfl)) (hw.range0 (i := 0) rfl)) (fun a h => ?_)
            refine d_takeP h (fun _ => HS) HN 1 rfl (by kernel_rfl) (by kernel_rfl) (by kernel_rfl) (by decide) rfl rfl (by decide) (fun w' => x_move h.k _ rfl rfl) (fun a h => ?_)
            refine d_take h HS HN 3 rfl (by kernel_rfl) (by kernel_rfl) (by kernel_rfl) (by kernel_rfl) (by kernel_rfl) rfl rfl (by decide) (fun w' hw => x_ldR h.k rfl ag_A16_uint8 rfl csa1 (((hs1.mono le14)).len.trans (by rw [hl2]; rfl)) (hw.range0 (i := 2) rfl)) (fun a h => ?_)
            refine d_alone 2 rfl (by kernel_rfl) (fun K hK => ?_)
            have h := h.pick [1, 0, 2] (by decide) rfl
            have hX := chatelaineref04_Make_ok Fu (S0 := S12) Aa0 ca0 a0 (hsa0.mono le14) _ h69 _ (h.sub (Ls := []))
            refine q_callY (Ls := []) hX h up13 rfl rfl rfl (by decide) Try.func16 rfl rfl rfl (fun a w v L1 S71 hR le73 up72 h => ?_)
            obtain ⟨g74, rfl, rfl, hp75, _⟩ := hR
            replace HS := (h.m.pick [1, 0, 2] [.box g67 23 k62, .sn S71, .box g3 23 csa1] (by decide) rfl).snLe 1 rfl le73
            refine hK _ _ (fun _ _ => HS) ?_
            clear hK
            refine d_alone 4 rfl (by kernel_rfl) (fun K hK => ?_)
            have hX := chatelaineref04_Key_Encrypt_ok Fu (S0 := snapAll _) g74 x68 (hp75.mono (h.m.leAll (i := 0) rfl)) csa1 a1 ((tyA 16 ty8).mono (h.m.leAll (i := 0) rfl) (show (tyA 16 ty8).rep S71 csa1 a1 from ⟨(hs1.mono (le14.trans le73)), hl2⟩)) _ h77 _ h.startAll
            refine q_callX hX h rfl rfl rfl (by decide) Try.func17 rfl rfl rfl (fun a w v L1 S1 hR hb1 h => ?_)
            obtain ⟨k79, rfl, rfl, hv80, _⟩ := hR
            obtain ⟨hs81, hl82⟩ := hv80
            have hq83 := hs81.fl (S' := S71) fl_8
            refine hK _ _ (fun _ _ => HS.ext hb1) ?_
            replace HS := HS.ext hb1
            clear hK
            refine d_takeP h (fun _ => HS) HN 5 rfl (by kernel_rfl) (by kernel_rfl) (by kernel_rfl) (by decide) rfl rfl (by decide) (fun w' => x_eqlA8 (X := k62) (Y := k79) h.k rfl Try.underlying23 Try.underlying5 sz_uint8 gda_A16_uint8 rfl rfl (hq66.mono le73) hq83 hl65 hl82) (fun a h => ?_)
            refine d_takeP h (fun _ => HS) HN 6 rfl (by kernel_rfl) (by kernel_rfl) (by kernel_rfl) (by decide) rfl rfl (by decide) (fun w' => x_move h.k _ rfl rfl) (fun a h => ?_)
            refine d_split (t := 34) h rfl (fun hB6 => ?_) (fun hB6 => ?_)
            · rw [if_pos (of_decide_eq_true hB6)] at hz85
              obtain ⟨x86, h87, hz85⟩ := bsome hz85
              refine d_takeP h (fun _ => HS) HN 7 rfl (by kernel_rfl) (by kernel_rfl) (by kernel_rfl) (by decide) (by rw [g_want h rfl rfl rfl rfl hB6]; rfl) rfl (by decide) (fun w' => x_move h.k _ rfl rfl) (fun a h => ?_)
              refine d_takeY h HS HN 8 rfl (by kernel_rfl) (by kernel_rfl) (by kernel_rfl) (by kernel_rfl) (by kernel_rfl) (by rw [g_want h rfl rfl rfl rfl hB6]; rfl) rfl (by decide) (fun w' hw => x_ldR h.k rfl ag_A16_uint8 rfl k62 (((hq66.mono le73)).len.trans (by rw [hl65]; rfl)) (hw.range0 (i := 0) rfl)) (fun a h => ?_)
              refine d_takeY h HS HN 10 rfl (by kernel_rfl) (by kernel_rfl) (by kernel_rfl) (by kernel_rfl) (by kernel_rfl) (by rw [g_want h rfl rfl rfl rfl hB6]; rfl) rfl (by decide) (fun w' hw => x_ldR h.k rfl ag_A16_uint8 rfl csa1 (((hs1.mono (le14.trans le73))).len.trans (by rw [hl2]; rfl)) (hw.range0 (i := 2) rfl)) (fun a h => ?_)
              refine d_alone 9 rfl (by kernel_rfl) (fun K hK => ?_)
              refine g_yes (j := 6) (t := 34) h rfl rfl rfl rfl hB6 ?_
              have hX := aes_Cipher_Decrypt_ok Fu (S0 := snapAll _) g56 x55.1 ((hp57.mono le73).mono (h.m.leAll (i := 0) rfl)) k62 x59 ((tyA 16 ty8).mono (h.m.leAll (i := 0) rfl) (show (tyA 16 ty8).rep S71 k62 x59 from ⟨(hq66.mono le73), hl65⟩)) _ h87 _ h.startAll
              refine q_callX hX h rfl rfl rfl (by decide) Try.func18 rfl rfl rfl (fun a w v L1 S1 hR hb1 h => ?_)
              obtain ⟨k89, rfl, rfl, hv90, _⟩ := hR
              obtain ⟨hs91, hl92⟩ := hv90
              have hq93 := hs91.fl (S' := S71) fl_8
              refine hK _ _ (fun _ _ => HS.ext hb1) ?_
              replace HS := HS.ext hb1
              clear hK
              refine d_takeP h (fun _ => HS) HN 11 rfl (by kernel_rfl) (by kernel_rfl) (by kernel_rfl) (by decide) (by rw [g_want h rfl rfl rfl rfl hB6]; rfl) rfl (by decide) (fun w' => x_eqlA8 (X := k89) (Y := csa1) h.k rfl Try.underlying23 Try.underlying5 sz_uint8 gda_A16_uint8 rfl rfl hq93 (hs1.mono (le14.trans le73)) hl92 hl2) (fun a h => ?_)
              refine d_takeP h (fun _ => HS) HN 12 rfl (by kernel_rfl) (by kernel_rfl) (by kernel_rfl) (by decide) rfl rfl (by decide) (fun w' => x_pick (v := .bool z84) (u' := undef) h.k rfl rfl (fun _ => by rw [← Option.some.inj hz85]; rfl) (fun hh => absurd (hB6.symm.trans hh) (by decide))) (fun a h => ?_)
              refine d_takeP h (fun _ => HS) HN 13 rfl (by kernel_rfl) (by kernel_rfl) (by kernel_rfl) (by decide) rfl rfl (by decide) (fun w' => x_assign h.k _ rfl rfl) (fun a h => ?_)
              refine d_done (by kernel_rfl) (HE _ _ ?_) _
              refine e_thenN ?_
              have h := h.pick [0] (by decide) rfl
              exact ⟨S71, le73, up72, h.has (by exact ⟨rfl, trivial⟩)⟩
            · rw [if_neg (of_decide_eq_false hB6)] at hz85
              refine d_takeNP h (fun _ => HS) HN 7 rfl (by kernel_rfl) (by kernel_rfl) (by kernel_rfl) (by decide) (by rw [g_want h rfl rfl rfl rfl hB6]; rfl) rfl (by decide) (fun a h => ?_)
              refine d_takeNP h (fun _ => HS) HN 8 rfl (by kernel_rfl) (by kernel_rfl) (by kernel_rfl) (by decide) (by rw [g_want h rfl rfl rfl rfl hB6]; rfl) rfl (by decide) (fun a h => ?_)
              refine d_takeNP h (fun _ => HS) HN 9 rfl (by kernel_rfl) (by kernel_rfl) (by kernel_rfl) (by decide) (by rw [g_want h rfl rfl rfl rfl hB6]; rfl) rfl (by decide) (fun a h => ?_)
              refine d_takeNP h (fun _ => HS) HN 10 rfl (by kernel_rfl) (by kernel_rfl) (by kernel_rfl) (by decide) (by rw [g_want h rfl rfl rfl rfl hB6]; rfl) rfl (by decide) (fun a h => ?_)
              refine d_takeNP h (fun _ => HS) HN 11 rfl (by kernel_rfl) (by kernel_rfl) (by kernel_rfl) (by decide) (by rw [g_want h rfl rfl rfl rfl hB6]; rfl) rfl (by decide) (fun a h => ?_)
              refine d_takeP h (fun _ => HS) HN 12 rfl (by kernel_rfl) (by kernel_rfl) (by kernel_rfl) (by decide) rfl rfl (by decide) (fun w' => x_pick (v := .bool z84) (u' := undef) h.k rfl rfl (fun hh => absurd (hB6.symm.trans hh) (by decide)) (fun _ => by rw [← Option.some.inj hz85]; rfl)) (fun a h => ?_)
              refine d_takeP h (fun _ => HS) HN 13 rfl (by kernel_rfl) (by kernel_rfl) (by kernel_rfl) (by decide) rfl rfl (by decide) (fun w' => x_assign h.k _ rfl rfl) (fun a h => ?_)
              refine d_done (by kernel_rfl) (HE _ _ ?_) _
              refine e_thenN ?_
              have h := h.pick [0] (by decide) rfl
              exact ⟨S71, le73, up72, h.has (by exact ⟨rfl, trivial⟩)⟩
          obtain ⟨S94, le95, up96, h⟩ := h
          refine e_thenN ?_
          refine wp_ret ?_
          rw [← Option.some.inj hf]
          exact r_ret1 h rfl (rv_tmp h rfl) ⟨_, [], _, rfl, ⟨rfl, rfl, trivial⟩, rfl, up96, h.m⟩
def chatelainelaw04_AesBack (Fu : Nat) (a0 : List UInt8) (a1 : List UInt8) (a2 : List UInt8) : Option Bool :=
  (chatelainelaw04_awake Fu).bind fun x7 => if (!x7) = true then (some false) else ((aes_New Fu a0).bind fun x10 => (match x10 with | .inl x16 => (if x16 ≠ 0 then (some ((decide ((a0.length : Int) ≠ 16)) && (decide ((a0.length : Int) ≠ 32)))) else ((aes_Cipher_Encrypt_nil0 Fu a1).bind fun x20 => (aes_Cipher_Encrypt_nil0 Fu a2).bind fun x28 => (aes_Cipher_Decrypt_nil0 Fu a1).bind fun x44 => (aes_Cipher_Encrypt_nil0 Fu x44).bind fun x52 => (if x52 = a1 then (aes_Cipher_Encrypt_nil0 Fu a1).bind fun x62 => (aes_Cipher_Decrypt_nil0 Fu x62).bind fun x70 => some (decide (x70 = a1)) else some false).bind fun z60 => some (z60 && ((decide (a1 = a2)) == (decide (x20 = x28)))))) | .inr x80 => (if x80.2 ≠ 0 then (some ((decide ((a0.length : Int) ≠ 16)) && (decide ((a0.length : Int) ≠ 32)))) else ((aes_Cipher_Encrypt Fu x80.1 a1).bind fun x86 => (aes_Cipher_Encrypt Fu x80.1 a2).bind fun x94 => (aes_Cipher_Decrypt Fu x80.1 a1).bind fun x110 => (aes_Cipher_Encrypt Fu x80.1 x110).bind fun x118 => (if x118 = a1 then (aes_Cipher_Encrypt Fu x80.1 a1).bind fun x128 => (aes_Cipher_Decrypt Fu x80.1 x128).bind fun x136 => some (decide (x136 = a1)) else some false).bind fun z126 => some (z126 && ((decide (a1 = a2)) == (decide (x86 = x94))))))))
set_option maxRecDepth 100000 in
set_option maxHeartbeats 2000000 in
theorem chatelainelaw04_AesBack_ok (Fu : Nat) {S0 : Snap} (Aa0 : Option Addr) (ca0 : Nat) (a0 : List UInt8) (hsa0 : slS ty8 S0 Aa0 ca0 a0) (csa1 : List Value) (a1 : List UInt8) (hsa1 : (tyA 16 ty8).rep S0 csa1 a1) (csa2 : List Value) (a2 : List UInt8) (hsa2 : (tyA 16 ty8).rep S0 csa2 a2) (r : Bool) (hf : chatelainelaw04_AesBack Fu a0 a1 a2 = some r) (w0 : World) (hm : Mem w0 (ownL ([] ++ [.sn S0])) ([] ++ [.sn S0]) w0) :
    Calls Try.prog 4 #[.slice Aa0 a0.length ca0, .agg csa1.toArray, .agg csa2.toArray] w0 (Ret w0 S0 [] (fun v L1 S1 => v = .bool r ∧ L1 = [] ∧ True)) := by
  unfold chatelainelaw04_AesBack at hf
  obtain ⟨hs1, hl2⟩ := hsa1
  obtain ⟨hs3, hl4⟩ := hsa2
  refine c_enterM Try.func4 rfl 59 rfl (by simp) _ hm _ rfl (fun a h => ?_)
  refine c_rs ?_ -- region 0
  refine s_box h rfl rfl rfl (by decide) rfl (cs := csa1) (by rfl) (fun a w g5 h => ?_)
  refine s_box h rfl rfl rfl (by decide) rfl (cs := csa2) (by rfl) (fun a w g6 h => ?_)
  refine s_assign h rfl _ rfl rfl (by decide) rfl (fun a h => ?_)
  refine l_end ?_
  refine wp_seq ?_
  refine c_rs ?_ -- region 1
  obtain ⟨x7, h8, hf⟩ := bsome hf
  have hX := chatelainelaw04_awake_ok Fu (S0 := snapAll _)  _ h8 _ h.startAll
  refine q_callX hX h rfl rfl rfl (by decide) Try.func13 rfl rfl rfl (fun a w v L1 S1 hR hb1 h => ?_)
  obtain ⟨rfl, rfl, _⟩ := hR
  refine s_x h rfl rfl (by decide) (x_not h.k rfl rfl) (fun a h => ?_)
  refine l_end ?_
  refine c_cond h rfl (fun hb => ?_) (fun hb => ?_)
  · rw [if_pos hb] at hf
    refine c_rs ?_ -- region 2
    refine s_assign h rfl _ rfl rfl (by decide) rfl (fun a h => ?_)
    refine l_end ?_
    refine wp_ret ?_
    refine e_thenR ?_
    rw [← Option.some.inj hf]
    exact r_ret1 h rfl (rv_tmp h rfl) ⟨_, [], _, rfl, ⟨rfl, rfl, trivial⟩, rfl, (Up.refl _ _ _), (h.m.pick [2] _ (by decide) rfl)⟩
  · rw [if_neg (by rw [hb]; decide)] at hf
    refine wp_skip ?_
    refine e_thenN ?_
    refine c_rs ?_ -- region 3
    refine s_move h rfl _ rfl rfl (by decide) rfl (fun a h => ?_)
    obtain ⟨x10, h11, hf⟩ := bsome hf
    have h := h.pick [2, 0, 1] (by decide) rfl
    have hX := aes_New_ok Fu (S0 := S0) Aa0 ca0 a0 hsa0 _ h11 _ (h.sub (Ls := []))
    refine q_callY (Ls := []) hX h (Up.refl _ _ _) rfl rfl rfl (by decide) Try.func14 rfl rfl rfl (fun a w v L1 S13 hR le15 up14 h => ?_)
    rcases hR with hR | hR
    · obtain ⟨x16, rfl, hR⟩ := hR
      dsimp only at hf
      obtain ⟨rfl, rfl, hr17, _⟩ := hR
      refine s_move h rfl _ rfl rfl (by decide) rfl (fun a h => ?_)
      refine s_x h rfl rfl (by decide) (x_ext h.k rfl rfl rfl) (fun a h => ?_)
      refine s_x h rfl rfl (by decide) (x_ext h.k rfl rfl rfl) (fun a h => ?_)
      refine s_assign h rfl _ rfl rfl (by decide) rfl (fun a h => ?_)
      refine s_assign h rfl _ rfl rfl (by decide) rfl (fun a h => ?_)
      refine l_end ?_
      refine wp_seq ?_
      refine c_rs ?_ -- region 4
      refine s_move h rfl _ rfl rfl (by decide) rfl (fun a h => ?_)
      refine s_x h rfl rfl (by decide) (x_bin h.k rfl rfl rfl ib_neq) (fun a h => ?_)
      refine l_end ?_
      refine c_cond h rfl (fun hb => ?_) (fun hb => ?_)
      · rw [if_pos (of_decide_eq_true hb)] at hf
        refine c_rs ?_ -- region 5
        refine s_move h rfl _ rfl rfl (by decide) rfl (fun a h => ?_)
        refine s_x h rfl rfl (by decide) (x_len h.k rfl Try.underlying22 rfl) (fun a h => ?_)
        refine s_x h rfl rfl (by decide) (x_bin h.k rfl rfl rfl ib_neq) (fun a h => ?_)
        refine s_move h rfl _ rfl rfl (by decide) rfl (fun a h => ?_)
        refine q_grp h 4 (t := 23) 27 ((decide ((a0.length : Int) ≠ 16)) && (decide ((a0.length : Int) ≠ 32))) rfl (fun hB3 => ?_) (fun hB3 => ?_) (fun a w h => ?_)
        · refine g_yes h rfl rfl rfl rfl hB3 ?_
          refine s_move h rfl _ rfl rfl (by decide) rfl (fun a h => ?_)
          refine g_yes h rfl rfl rfl rfl hB3 ?_
          refine s_x h rfl rfl (by decide) (x_len h.k rfl Try.underlying22 rfl) (fun a h => ?_)
          refine g_yes h rfl rfl rfl rfl hB3 ?_
          refine s_x h rfl rfl (by decide) (x_bin h.k rfl rfl rfl ib_neq) (fun a h => ?_)
          refine s_x h rfl rfl (by decide) (x_pick (u' := undef) h.k rfl rfl (fun _ => rfl) (fun hh => absurd (hB3.symm.trans hh) (by decide))) (fun a h => ?_)
          exact (h.mid 3 rfl).val (by first | rfl | (rw [hB3]; first | rfl | simp))
        · refine g_no h rfl rfl rfl rfl hB3 rfl (by decide) (fun a h => ?_)
          refine g_no h rfl rfl rfl rfl hB3 rfl (by decide) (fun a h => ?_)
          refine g_no h rfl rfl rfl rfl hB3 rfl (by decide) (fun a h => ?_)
          refine s_x h rfl rfl (by decide) (x_pick (u' := undef) h.k rfl rfl (fun hh => absurd (hB3.symm.trans hh) (by decide)) (fun _ => rfl)) (fun a h => ?_)
          exact (h.mid 3 rfl).val (by first | rfl | (rw [hB3]; first | rfl | simp))
        refine s_assign h rfl _ rfl rfl (by decide) rfl (fun a h => ?_)
        refine l_end ?_
        refine wp_ret ?_
        refine e_thenR ?_
        obtain rfl := Option.some.inj hf
        exact r_ret1 h rfl (rv_tmp h rfl) ⟨_, [], _, rfl, ⟨rfl, rfl, trivial⟩, rfl, up14, (h.m.pick [0] _ (by decide) rfl)⟩
      · rw [if_neg (of_decide_eq_false hb)] at hf
        refine wp_skip ?_
        refine e_thenN ?_
        refine wp_seq ?_
        -- region 6 draws
        obtain ⟨x20, h21, hf⟩ := bsome hf
        obtain ⟨x28, h29, hf⟩ := bsome hf
        refine c_fin (fun a w => ∃ (g36 : Nat), ∃ (k38 : List Value), ∃ (g37 : Nat), ∃ (k41 : List Value), reps ty8 S13 k38 x20 ∧ x20.length = 16 ∧ reps ty8 S13 k41 x28 ∧ x28.length = 16 ∧ St 59 w0 (ownL ([] ++ [.sn S0])) [(4, .pointer (some ⟨g5, 0, none⟩)), (5, .pointer (some ⟨g6, 0, none⟩)), (7, .pointer none), (9, .pointer (some ⟨g36, 0, none⟩)), (10, .pointer (some ⟨g37, 0, none⟩))] [.box g5 23 csa1, .box g6 23 csa2, .box g36 23 k38, .box g37 23 k41, .sn S13] a w) ?_ (fun a w h => ?_)
        · refine d_start h (Mem _ _ _) 10 10 rfl (by kernel_rfl) (fun _ _ _ _ _ h => h) (fun _ h => h.pick [0, 1, 2] [.sn S13, .box g6 23 csa2, .box g5 23 csa1] (by decide) rfl) (fun Q a w HE HN h HS => ?_)
          refine d_takeP h (fun _ => HS) HN 0 rfl (by kernel_rfl) (by kernel_rfl) (by kernel_rfl) (by decide) rfl rfl (by decide) (fun w' => x_move h.k _ rfl rfl) (fun a h => ?_)
          refine d_take h HS HN 1 rfl (by kernel_rfl) (by kernel_rfl) (by kernel_rfl) (by kernel_rfl) (by kernel_rfl) rfl rfl (by decide) (fun w' hw => x_ldR h.k rfl ag_A16_uint8 rfl csa1 (((hs1.mono le15)).len.trans (by rw [hl2]; rfl)) (hw.range0 (i := 2) rfl)) (fun a h => ?_)
          refine d_takeP h (fun _ => HS) HN 3 rfl (by kernel_rfl) (by kernel_rfl) (by kernel_rfl) (by decide) rfl rfl (by decide) (fun w' => x_move h.k _ rfl rfl) (fun a h => ?_)
          refine d_take h HS HN 4 rfl (by kernel_rfl) (by kernel_rfl) (by kernel_rfl) (by kernel_rfl) (by kernel_rfl) rfl rfl (by decide) (fun w' hw => x_ldR h.k rfl ag_A16_uint8 rfl csa2 (((hs3.mono le15)).len.trans (by rw [hl4]; rfl)) (hw.range0 (i := 1) rfl)) (fun a h => ?_)
          refine d_three 2 6 7 (by kernel_rfl) (d_one 2 rfl _ (fun K hK => ?_)) (d_one 6 rfl _ (fun K hK => ?_)) (d_one 7 rfl _ (fun K hK => ?_))
          · have hX := aes_Cipher_Encrypt_nil0_ok Fu (S0 := snapAll _) csa1 a1 ((tyA 16 ty8).mono (h.m.leAll (i := 0) rfl) (show (tyA 16 ty8).rep S13 csa1 a1 from ⟨(hs1.mono le15), hl2⟩)) _ h21 _ h.startAll
            refine q_callX hX h rfl rfl rfl (by decide) Try.func15 rfl rfl rfl (fun a w v L1 S1 hR hb1 h => ?_)
            obtain ⟨k23, rfl, rfl, hv24, _⟩ := hR
            obtain ⟨hs25, hl26⟩ := hv24
            have hq27 := hs25.fl (S' := S13) fl_8
            replace HS := h.m.pick [0, 1, 2] [.sn S13, .box g6 23 csa2, .box g5 23 csa1] (by decide) rfl
            refine hK _ _ ⟨fun _ _ => HS, ?_⟩
            clear hK
            refine d_three 5 6 7 (by kernel_rfl) (d_one 5 rfl _ (fun K hK => ?_)) (d_one 6 rfl _ (fun K hK => ?_)) (d_one 7 rfl _ (fun K hK => ?_))
            · have hX := aes_Cipher_Encrypt_nil0_ok Fu (S0 := snapAll _) csa2 a2 ((tyA 16 ty8).mono (h.m.leAll (i := 0) rfl) (show (tyA 16 ty8).rep S13 csa2 a2 from ⟨(hs3.mono le15), hl4⟩)) _ h29 _ h.startAll
              refine q_callX hX h rfl rfl rfl (by decide) Try.func15 rfl rfl rfl (fun a w v L1 S1 hR hb1 h => ?_)
              obtain ⟨k31, rfl, rfl, hv32, _⟩ := hR
              obtain ⟨hs33, hl34⟩ := hv32
              have hq35 := hs33.fl (S' := S13) fl_8
              replace HS := h.m.pick [0, 1, 2] [.sn S13, .box g6 23 csa2, .box g5 23 csa1] (by decide) rfl
              refine hK _ _ ⟨fun _ _ => HS, ?_⟩
              clear hK
              refine d_two 6 7 (by kernel_rfl) (d_one 6 rfl _ (fun K hK => ?_)) (d_one 7 rfl _ (fun K hK => ?_))
              · refine s_alloc h rfl rfl rfl (by decide) zi_A16_uint8 rfl (fun a w g36 h => ?_)
                replace HS := h.m.pick [1, 2, 3] [.sn S13, .box g6 23 csa2, .box g5 23 csa1] (by decide) rfl
                refine hK _ _ ⟨fun _ _ => HS, ?_⟩
                clear hK
                refine d_alone 7 rfl (by kernel_rfl) (fun K hK => ?_)
                refine s_alloc h rfl rfl rfl (by decide) zi_A16_uint8 rfl (fun a w g37 h => ?_)
                replace HS := h.m.pick [2, 3, 4] [.sn S13, .box g6 23 csa2, .box g5 23 csa1] (by decide) rfl
                refine hK _ _ (fun _ _ => HS) ?_
                clear hK
                refine d_alone 8 rfl (by kernel_rfl) (fun K hK => ?_)
                refine s_stW h rfl rfl rfl ag_A16_uint8 rfl (es := k23) rfl ((hq27).len.trans (by rw [hl26]; rfl)) (hq27).one 1 rfl (by first | rfl | simp_all) (fun a w h => ?_)
                replace HS := h.m.pick [2, 3, 4] [.sn S13, .box g6 23 csa2, .box g5 23 csa1] (by decide) rfl
                refine hK _ _ (fun _ _ => HS) ?_
                clear hK
                refine d_alone 9 rfl (by kernel_rfl) (fun K hK => ?_)
                refine s_stW h rfl rfl rfl ag_A16_uint8 rfl (es := k31) rfl ((hq35).len.trans (by rw [hl34]; rfl)) (hq35).one 0 rfl (by first | rfl | simp_all) (fun a w h => ?_)
                replace HS := h.m.pick [2, 3, 4] [.sn S13, .box g6 23 csa2, .box g5 23 csa1] (by decide) rfl
                refine hK _ _ (fun _ _ => HS) ?_
                clear hK
                refine d_done (by kernel_rfl) (HE _ _ ?_) _
                refine e_thenN ?_
                have h := h.pick [4, 3, 1, 0, 2] (by decide) rfl
                exact ⟨g36, k23, g37, k31, hq27, hl26, hq35, hl34, h.has (by exact ⟨rfl, rfl, rfl, rfl, rfl, trivial⟩)⟩
              · refine s_alloc h rfl rfl rfl (by decide) zi_A16_uint8 rfl (fun a w g37 h => ?_)
                replace HS := h.m.pick [1, 2, 3] [.sn S13, .box g6 23 csa2, .box g5 23 csa1] (by decide) rfl
                refine hK _ _ ⟨fun _ _ => HS, ?_⟩
                clear hK
                refine d_alone 6 rfl (by kernel_rfl) (fun K hK => ?_)
                refine s_alloc h rfl rfl rfl (by decide) zi_A16_uint8 rfl (fun a w g36 h => ?_)
                replace HS := h.m.pick [2, 3, 4] [.sn S13, .box g6 23 csa2, .box g5 23 csa1] (by decide) rfl
                refine hK _ _ (fun _ _ => HS) ?_
                clear hK
                refine d_alone 8 rfl (by kernel_rfl) (fun K hK => ?_)
                refine s_stW h rfl rfl rfl ag_A16_uint8 rfl (es := k23) rfl ((hq27).len.trans (by rw [hl26]; rfl)) (hq27).one 0 rfl (by first | rfl | simp_all) (fun a w h => ?_)
                replace HS := h.m.pick [2, 3, 4] [.sn S13, .box g6 23 csa2, .box g5 23 csa1] (by decide) rfl
                refine hK _ _ (fun _ _ => HS) ?_
                clear hK
                refine d_alone 9 rfl (by kernel_rfl) (fun K hK => ?_)
                refine s_stW h rfl rfl rfl ag_A16_uint8 rfl (es := k31) rfl ((hq35).len.trans (by rw [hl34]; rfl)) (hq35).one 1 rfl (by first | rfl | simp_all) (fun a w h => ?_)
                replace HS := h.m.pick [2, 3, 4] [.sn S13, .box g6 23 csa2, .box g5 23 csa1] (by decide) rfl
                refine hK _ _ (fun _ _ => HS) ?_
                clear hK
                refine d_done (by kernel_rfl) (HE _ _ ?_) _
                refine e_thenN ?_
                have h := h.pick [4, 3, 0, 1, 2] (by decide) rfl
                exact ⟨g36, k23, g37, k31, hq27, hl26, hq35, hl34, h.has (by exact ⟨rfl, rfl, rfl, rfl, rfl, trivial⟩)⟩
            · refine s_alloc h rfl rfl rfl (by decide) zi_A16_uint8 rfl (fun a w g36 h => ?_)
              replace HS := h.m.pick [1, 2, 3] [.sn S13, .box g6 23 csa2, .box g5 23 csa1] (by decide) rfl
              refine hK _ _ ⟨fun _ _ => HS, ?_⟩
              clear hK
              refine d_two 5 7 (by kernel_rfl) (d_one 5 rfl _ (fun K hK => ?_)) (d_one 7 rfl _ (fun K hK => ?_))
              · have hX := aes_Cipher_Encrypt_nil0_ok Fu (S0 := snapAll _) csa2 a2 ((tyA 16 ty8).mono (h.m.leAll (i := 1) rfl) (show (tyA 16 ty8).rep S13 csa2 a2 from ⟨(hs3.mono le15), hl4⟩)) _ h29 _ h.startAll
                refine q_callX hX h rfl rfl rfl (by decide) Try.func15 rfl rfl rfl (fun a w v L1 S1 hR hb1 h => ?_)
                obtain ⟨k31, rfl, rfl, hv32, _⟩ := hR
                obtain ⟨hs33, hl34⟩ := hv32
                have hq35 := hs33.fl (S' := S13) fl_8
                replace HS := h.m.pick [1, 2, 3] [.sn S13, .box g6 23 csa2, .box g5 23 csa1] (by decide) rfl
                refine hK _ _ ⟨fun _ _ => HS, ?_⟩
                clear hK
                refine d_alone 7 rfl (by kernel_rfl) (fun K hK => ?_)
                refine s_alloc h rfl rfl rfl (by decide) zi_A16_uint8 rfl (fun a w g37 h => ?_)
                replace HS := h.m.pick [2, 3, 4] [.sn S13, .box g6 23 csa2, .box g5 23 csa1] (by decide) rfl
                refine hK _ _ (fun _ _ => HS) ?_
                clear hK
                refine d_alone 8 rfl (by kernel_rfl) (fun K hK => ?_)
                refine s_stW h rfl rfl rfl ag_A16_uint8 rfl (es := k23) rfl ((hq27).len.trans (by rw [hl26]; rfl)) (hq27).one 1 rfl (by first | rfl | simp_all) (fun a w h => ?_)
                replace HS := h.m.pick [2, 3, 4] [.sn S13, .box g6 23 csa2, .box g5 23 csa1] (by decide) rfl
                refine hK _ _ (fun _ _ => HS) ?_
                clear hK
                refine d_alone 9 rfl (by kernel_rfl) (fun K hK => ?_)
                refine s_stW h rfl rfl rfl ag_A16_uint8 rfl (es := k31) rfl ((hq35).len.trans (by rw [hl34]; rfl)) (hq35).one 0 rfl (by first | rfl | simp_all) (fun a w h => ?_)
                replace HS := h.m.pick [2, 3, 4] [.sn S13, .box g6 23 csa2, .box g5 23 csa1] (by decide) rfl
                refine hK _ _ (fun _ _ => HS) ?_
                clear hK
                refine d_done (by kernel_rfl) (HE _ _ ?_) _
                refine e_thenN ?_
                have h := h.pick [4, 3, 1, 0, 2] (by decide) rfl
                exact ⟨g36, k23, g37, k31, hq27, hl26, hq35, hl34, h.has (by exact ⟨rfl, rfl, rfl, rfl, rfl, trivial⟩)⟩
              · refine s_alloc h rfl rfl rfl (by decide) zi_A16_uint8 rfl (fun a w g37 h => ?_)
                replace HS := h.m.pick [2, 3, 4] [.sn S13, .box g6 23 csa2, .box g5 23 csa1] (by decide) rfl
                refine hK _ _ ⟨fun _ _ => HS, ?_⟩
                clear hK
                refine d_alone 5 rfl (by kernel_rfl) (fun K hK => ?_)
                have hX := aes_Cipher_Encrypt_nil0_ok Fu (S0 := snapAll _) csa2 a2 ((tyA 16 ty8).mono (h.m.leAll (i := 2) rfl) (show (tyA 16 ty8).rep S13 csa2 a2 from ⟨(hs3.mono le15), hl4⟩)) _ h29 _ h.startAll
                refine q_callX hX h rfl rfl rfl (by decide) Try.func15 rfl rfl rfl (fun a w v L1 S1 hR hb1 h => ?_)
                obtain ⟨k31, rfl, rfl, hv32, _⟩ := hR
                obtain ⟨hs33, hl34⟩ := hv32
                have hq35 := hs33.fl (S' := S13) fl_8
                replace HS := h.m.pick [2, 3, 4] [.sn S13, .box g6 23 csa2, .box g5 23 csa1] (by decide) rfl
                refine hK _ _ (fun _ _ => HS) ?_
                clear hK
                refine d_alone 8 rfl (by kernel_rfl) (fun K hK => ?_)
                refine s_stW h rfl rfl rfl ag_A16_uint8 rfl (es := k23) rfl ((hq27).len.trans (by rw [hl26]; rfl)) (hq27).one 1 rfl (by first | rfl | simp_all) (fun a w h => ?_)
                replace HS := h.m.pick [2, 3, 4] [.sn S13, .box g6 23 csa2, .box g5 23 csa1] (by decide) rfl
                refine hK _ _ (fun _ _ => HS) ?_
                clear hK
                refine d_alone 9 rfl (by kernel_rfl) (fun K hK => ?_)
                refine s_stW h rfl rfl rfl ag_A16_uint8 rfl (es := k31) rfl ((hq35).len.trans (by rw [hl34]; rfl)) (hq35).one 0 rfl (by first | rfl | simp_all) (fun a w h => ?_)
                replace HS := h.m.pick [2, 3, 4] [.sn S13, .box g6 23 csa2, .box g5 23 csa1] (by decide) rfl
                refine hK _ _ (fun _ _ => HS) ?_
                clear hK
                refine d_done (by kernel_rfl) (HE _ _ ?_) _
                refine e_thenN ?_
                have h := h.pick [4, 3, 1, 0, 2] (by decide) rfl
                exact ⟨g36, k23, g37, k31, hq27, hl26, hq35, hl34, h.has (by exact ⟨rfl, rfl, rfl, rfl, rfl, trivial⟩)⟩
            · refine s_alloc h rfl rfl rfl (by decide) zi_A16_uint8 rfl (fun a w g37 h => ?_)
              replace HS := h.m.pick [1, 2, 3] [.sn S13, .box g6 23 csa2, .box g5 23 csa1] (by decide) rfl
              refine hK _ _ ⟨fun _ _ => HS, ?_⟩
              clear hK
              refine d_two 5 6 (by kernel_rfl) (d_one 5 rfl _ (fun K hK => ?_)) (d_one 6 rfl _ (fun K hK => ?_))
              · have hX := aes_Cipher_Encrypt_nil0_ok Fu (S0 := snapAll _) csa2 a2 ((tyA 16 ty8).mono (h.m.leAll (i := 1) rfl) (show (tyA 16 ty8).rep S13 csa2 a2 from ⟨(hs3.mono le15), hl4⟩)) _ h29 _ h.startAll
                refine q_callX hX h rfl rfl rfl (by decide) Try.func15 rfl rfl rfl (fun a w v L1 S1 hR hb1 h => ?_)
                obtain ⟨k31, rfl, rfl, hv32, _⟩ := hR
                obtain ⟨hs33, hl34⟩ := hv32
                have hq35 := hs33.fl (S' := S13) fl_8
                replace HS := h.m.pick [1, 2, 3] [.sn S13, .box g6 23 csa2, .box g5 23 csa1] (by decide) rfl
                refine hK _ _ ⟨fun _ _ => HS, ?_⟩
                clear hK
                refine d_alone 6 rfl (by kernel_rfl) (fun K hK => ?_)
                refine s_alloc h rfl rfl rfl (by decide) zi_A16_uint8 rfl (fun a w g36 h => ?_)
                replace HS := h.m.pick [2, 3, 4] [.sn S13, .box g6 23 csa2, .box g5 23 csa1] (by decide) rfl
                refine hK _ _ (fun _ _ => HS) ?_
                clear hK
                refine d_alone 8 rfl (by kernel_rfl) (fun K hK => ?_)
                refine s_stW h rfl rfl rfl ag_A16_uint8 rfl (es := k23) rfl ((hq27).len.trans (by rw [hl26]; rfl)) (hq27).one 0 rfl (by first | rfl | simp_all) (fun a w h => ?_)
                replace HS := h.m.pick [2, 3, 4] [.sn S13, .box g6 23 csa2, .box g5 23 csa1] (by decide) rfl
                refine hK _ _ (fun _ _ => HS) ?_
                clear hK
                refine d_alone 9 rfl (by kernel_rfl) (fun K hK => ?_)
                refine s_stW h rfl rfl rfl ag_A16_uint8 rfl (es := k31) rfl ((hq35).len.trans (by rw [hl34]; rfl)) (hq35).one 1 rfl (by first | rfl | simp_all) (fun a w h => ?_)
                replace HS := h.m.pick [2, 3, 4] [.sn S13, .box g6 23 csa2, .box g5 23 csa1] (by decide) rfl
                refine hK _ _ (fun _ _ => HS) ?_
                clear hK
                refine d_done (by kernel_rfl) (HE _ _ ?_) _
                refine e_thenN ?_
                have h := h.pick [4, 3, 0, 1, 2] (by decide) rfl
                exact ⟨g36, k23, g37, k31, hq27, hl26, hq35, hl34, h.has (by exact ⟨rfl, rfl, rfl, rfl, rfl, trivial⟩)⟩
              · refine s_alloc h rfl rfl rfl (by decide) zi_A16_uint8 rfl (fun a w g36 h => ?_)
                replace HS := h.m.pick [2, 3, 4] [.sn S13, .box g6 23 csa2, .box g5 23 csa1] (by decide) rfl
                refine hK _ _ ⟨fun _ _ => HS, ?_⟩
                clear hK
                refine d_alone 5 rfl (by kernel_rfl) (fun K hK => ?_)
                have hX := aes_Cipher_Encrypt_nil0_ok Fu (S0 := snapAll _) csa2 a2 ((tyA 16 ty8).mono (h.m.leAll (i := 2) rfl) (show (tyA 16 ty8).rep S13 csa2 a2 from ⟨(hs3.mono le15), hl4⟩)) _ h29 _ h.startAll
                refine q_callX hX h rfl rfl rfl (by decide) Try.func15 rfl rfl rfl (fun a w v L1 S1 hR hb1 h => ?_)
                obtain ⟨k31, rfl, rfl, hv32, _⟩ := hR
                obtain ⟨hs33, hl34⟩ := hv32
                have hq35 := hs33.fl (S' := S13) fl_8
                replace HS := h.m.pick [2, 3, 4] [.sn S13, .box g6 23 csa2, .box g5 23 csa1] (by decide) rfl
                refine hK _ _ (fun _ _ => HS) ?_
                clear hK
                refine d_alone 8 rfl (by kernel_rfl) (fun K hK => ?_)
                refine s_stW h rfl rfl rfl ag_A16_uint8 rfl (es := k23) rfl ((hq27).len.trans (by rw [hl26]; rfl)) (hq27).one 0 rfl (by first | rfl | simp_all) (fun a w h => ?_)
                replace HS := h.m.pick [2, 3, 4] [.sn S13, .box g6 23 csa2, .box g5 23 csa1] (by decide) rfl
                refine hK _ _ (fun _ _ => HS) ?_
                clear hK
                refine d_alone 9 rfl (by kernel_rfl) (fun K hK => ?_)
                refine s_stW h rfl rfl rfl ag_A16_uint8 rfl (es := k31) rfl ((hq35).len.trans (by rw [hl34]; rfl)) (hq35).one 1 rfl (by first | rfl | simp_all) (fun a w h => ?_)
                replace HS := h.m.pick [2, 3, 4] [.sn S13, .box g6 23 csa2, .box g5 23 csa1] (by decide) rfl
                refine hK _ _ (fun _ _ => HS) ?_
                clear hK
                refine d_done (by kernel_rfl) (HE _ _ ?_) _
                refine e_thenN ?_
                have h := h.pick [4, 3, 0, 1, 2] (by decide) rfl
                exact ⟨g36, k23, g37, k31, hq27, hl26, hq35, hl34, h.has (by exact ⟨rfl, rfl, rfl, rfl, rfl, trivial⟩)⟩
          · refine s_alloc h rfl rfl rfl (by decide) zi_A16_uint8 rfl (fun a w g36 h => ?_)
            replace HS := h.m.pick [1, 2, 3] [.sn S13, .box g6 23 csa2, .box g5 23 csa1] (by decide) rfl
            refine hK _ _ ⟨fun _ _ => HS, ?_⟩
            clear hK
            refine d_two 2 7 (by kernel_rfl) (d_one 2 rfl _ (fun K hK => ?_)) (d_one 7 rfl _ (fun K hK => ?_))
            · have hX := aes_Cipher_Encrypt_nil0_ok Fu (S0 := snapAll _) csa1 a1 ((tyA 16 ty8).mono (h.m.leAll (i := 1) rfl) (show (tyA 16 ty8).rep S13 csa1 a1 from ⟨(hs1.mono le15), hl2⟩)) _ h21 _ h.startAll
              refine q_callX hX h rfl rfl rfl (by decide) Try.func15 rfl rfl rfl (fun a w v L1 S1 hR hb1 h => ?_)
              obtain ⟨k23, rfl, rfl, hv24, _⟩ := hR
              obtain ⟨hs25, hl26⟩ := hv24
              have hq27 := hs25.fl (S' := S13) fl_8
              replace HS := h.m.pick [1, 2, 3] [.sn S13, .box g6 23 csa2, .box g5 23 csa1] (by decide) rfl
              refine hK _ _ ⟨fun _ _ => HS, ?_⟩
              clear hK
              refine d_two 5 7 (by kernel_rfl) (d_one 5 rfl _ (fun K hK => ?_)) (d_one 7 rfl _ (fun K hK => ?_))
              · have hX := aes_Cipher_Encrypt_nil0_ok Fu (S0 := snapAll _) csa2 a2 ((tyA 16 ty8).mono (h.m.leAll (i := 1) rfl) (show (tyA 16 ty8).rep S13 csa2 a2 from ⟨(hs3.mono le15), hl4⟩)) _ h29 _ h.startAll
                refine q_callX hX h rfl rfl rfl (by decide) Try.func15 rfl rfl rfl (fun a w v L1 S1 hR hb1 h => ?_)
                obtain ⟨k31, rfl, rfl, hv32, _⟩ := hR
                obtain ⟨hs33, hl34⟩ := hv32
                have hq35 := hs33.fl (S' := S13) fl_8
                replace HS := h.m.pick [1, 2, 3] [.sn S13, .box g6 23 csa2, .box g5 23 csa1] (by decide) rfl
                refine hK _ _ ⟨fun _ _ => HS, ?_⟩
                clear hK
                refine d_alone 7 rfl (by kernel_rfl) (fun K hK => ?_)
                refine s_alloc h rfl rfl rfl (by decide) zi_A16_uint8 rfl (fun a w g37 h => ?_)
                replace HS := h.m.pick [2, 3, 4] [.sn S13, .box g6 23 csa2, .box g5 23 csa1] (by decide) rfl
                refine hK _ _ (fun _ _ => HS) ?_
                clear hK
                refine d_alone 8 rfl (by kernel_rfl) (fun K hK => ?_)
                refine s_stW h rfl rfl rfl ag_A16_uint8 rfl (es := k23) rfl ((hq27).len.trans (by rw [hl26]; rfl)) (hq27).one 1 rfl (by first | rfl | simp_all) (fun a w h => ?_)
                replace HS := h.m.pick [2, 3, 4] [.sn S13, .box g6 23 csa2, .box g5 23 csa1] (by decide) rfl
                refine hK _ _ (fun _ _ => HS) ?_
                clear hK
                refine d_alone 9 rfl (by kernel_rfl) (fun K hK => ?_)
                refine s_stW h rfl rfl rfl ag_A16_uint8 rfl (es := k31) rfl ((hq35).len.trans (by rw [hl34]; rfl)) (hq35).one 0 rfl (by first | rfl | simp_all) (fun a w h => ?_)
                replace HS := h.m.pick [2, 3, 4] [.sn S13, .box g6 23 csa2, .box g5 23 csa1] (by decide) rfl
                refine hK _ _ (fun _ _ => HS) ?_
                clear hK
                refine d_done (by kernel_rfl) (HE _ _ ?_) _
                refine e_thenN ?_
                have h := h.pick [4, 3, 1, 0, 2] (by decide) rfl
                exact ⟨g36, k23, g37, k31, hq27, hl26, hq35, hl34, h.has (by exact ⟨rfl, rfl, rfl, rfl, rfl, trivial⟩)⟩
              · refine s_alloc h rfl rfl rfl (by decide) zi_A16_uint8 rfl (fun a w g37 h => ?_)
                replace HS := h.m.pick [2, 3, 4] [.sn S13, .box g6 23 csa2, .box g5 23 csa1] (by decide) rfl
                refine hK _ _ ⟨fun _ _ => HS, ?_⟩
                clear hK
                refine d_alone 5 rfl (by kernel_rfl) (fun K hK => ?_)
                have hX := aes_Cipher_Encrypt_nil0_ok Fu (S0 := snapAll _) csa2 a2 ((tyA 16 ty8).mono (h.m.leAll (i := 2) rfl) (show (tyA 16 ty8).rep S13 csa2 a2 from ⟨(hs3.mono le15), hl4⟩)) _ h29 _ h.startAll
                refine q_callX hX h rfl rfl rfl (by decide) Try.func15 rfl rfl rfl (fun a w v L1 S1 hR hb1 h => ?_)
                obtain ⟨k31, rfl, rfl, hv32, _⟩ := hR
                obtain ⟨hs33, hl34⟩ := hv32
                have hq35 := hs33.fl (S' := S13) fl_8
                replace HS := h.m.pick [2, 3, 4] [.sn S13, .box g6 23 csa2, .box g5 23 csa1] (by decide) rfl
                refine hK _ _ (fun _ _ => HS) ?_
                clear hK
                refine d_alone 8 rfl (by kernel_rfl) (fun K hK => ?_)
                refine s_stW h rfl rfl rfl ag_A16_uint8 rfl (es := k23) rfl ((hq27).len.trans (by rw [hl26]; rfl)) (hq27).one 1 rfl (by first | rfl | simp_all) (fun a w h => ?_)
                replace HS := h.m.pick [2, 3, 4] [.sn S13, .box g6 23 csa2, .box g5 23 csa1] (by decide) rfl
                refine hK _ _ (fun _ _ => HS) ?_
                clear hK
                refine d_alone 9 rfl (by kernel_rfl) (fun K hK => ?_)
                refine s_stW h rfl rfl rfl ag_A16_uint8 rfl (es := k31) rfl ((hq35).len.trans (by rw [hl34]; rfl)) (hq35).one 0 rfl (by first | rfl | simp_all) (fun a w h => ?_)
                replace HS := h.m.pick [2, 3, 4] [.sn S13, .box g6 23 csa2, .box g5 23 csa1] (by decide) rfl
                refine hK _ _ (fun _ _ => HS) ?_
                clear hK
                refine d_done (by kernel_rfl) (HE _ _ ?_) _
                refine e_thenN ?_
                have h := h.pick [4, 3, 1, 0, 2] (by decide) rfl
                exact ⟨g36, k23, g37, k31, hq27, hl26, hq35, hl34, h.has (by exact ⟨rfl, rfl, rfl, rfl, rfl, trivial⟩)⟩
            · refine s_alloc h rfl rfl rfl (by decide) zi_A16_uint8 rfl (fun a w g37 h => ?_)
              replace HS := h.m.pick [2, 3, 4] [.sn S13, .box g6 23 csa2, .box g5 23 csa1] (by decide) rfl
              refine hK _ _ ⟨fun _ _ => HS, ?_⟩
              clear hK
              refine d_alone 2 rfl (by kernel_rfl) (fun K hK => ?_)
              have hX := aes_Cipher_Encrypt_nil0_ok Fu (S0 := snapAll _) csa1 a1 ((tyA 16 ty8).mono (h.m.leAll (i := 2) rfl) (show (tyA 16 ty8).rep S13 csa1 a1 from ⟨(hs1.mono le15), hl2⟩)) _ h21 _ h.startAll
              refine q_callX hX h rfl rfl rfl (by decide) Try.func15 rfl rfl rfl (fun a w v L1 S1 hR hb1 h => ?_)
              obtain ⟨k23, rfl, rfl, hv24, _⟩ := hR
              obtain ⟨hs25, hl26⟩ := hv24
              have hq27 := hs25.fl (S' := S13) fl_8
              replace HS := h.m.pick [2, 3, 4] [.sn S13, .box g6 23 csa2, .box g5 23 csa1] (by decide) rfl
              refine hK _ _ (fun _ _ => HS) ?_
              clear hK
              refine d_alone 5 rfl (by kernel_rfl) (fun K hK => ?_)
              have hX := aes_Cipher_Encrypt_nil0_ok Fu (S0 := snapAll _) csa2 a2 ((tyA 16 ty8).mono (h.m.leAll (i := 2) rfl) (show (tyA 16 ty8).rep S13 csa2 a2 from ⟨(hs3.mono le15), hl4⟩)) _ h29 _ h.startAll
              refine q_callX hX h rfl rfl rfl (by decide) Try.func15 rfl rfl rfl (fun a w v L1 S1 hR hb1 h => ?_)
              obtain ⟨k31, rfl, rfl, hv32, _⟩ := hR
              obtain ⟨hs33, hl34⟩ := hv32
              have hq35 := hs33.fl (S' := S13) fl_8
              replace HS := h.m.pick [2, 3, 4] [.sn S13, .box g6 23 csa2, .box g5 23 csa1] (by decide) rfl
              refine hK _ _ (fun _ _ => HS) ?_
              clear hK
              refine d_alone 8 rfl (by kernel_rfl) (fun K hK => ?_)
              refine s_stW h rfl rfl rfl ag_A16_uint8 rfl (es := k23) rfl ((hq27).len.trans (by rw [hl26]; rfl)) (hq27).one 1 rfl (by first | rfl | simp_all) (fun a w h => ?_)
              replace HS := h.m.pick [2, 3, 4] [.sn S13, .box g6 23 csa2, .box g5 23 csa1] (by decide) rfl
              refine hK _ _ (fun _ _ => HS) ?_
              clear hK
              refine d_alone 9 rfl (by kernel_rfl) (fun K hK => ?_)
              refine s_stW h rfl rfl rfl ag_A16_uint8 rfl (es := k31) rfl ((hq35).len.trans (by rw [hl34]; rfl)) (hq35).one 0 rfl (by first | rfl | simp_all) (fun a w h => ?_)
              replace HS := h.m.pick [2, 3, 4] [.sn S13, .box g6 23 csa2, .box g5 23 csa1] (by decide) rfl
              refine hK _ _ (fun _ _ => HS) ?_
              clear hK
              refine d_done (by kernel_rfl) (HE _ _ ?_) _
              refine e_thenN ?_
              have h := h.pick [4, 3, 1, 0, 2] (by decide) rfl
              exact ⟨g36, k23, g37, k31, hq27, hl26, hq35, hl34, h.has (by exact ⟨rfl, rfl, rfl, rfl, rfl, trivial⟩)⟩
          · refine s_alloc h rfl rfl rfl (by decide) zi_A16_uint8 rfl (fun a w g37 h => ?_)
            replace HS := h.m.pick [1, 2, 3] [.sn S13, .box g6 23 csa2, .box g5 23 csa1] (by decide) rfl
            refine hK _ _ ⟨fun _ _ => HS, ?_⟩
            clear hK
            refine d_two 2 6 (by kernel_rfl) (d_one 2 rfl _ (fun K hK => ?_)) (d_one 6 rfl _ (fun K hK => ?_))
            · have hX := aes_Cipher_Encrypt_nil0_ok Fu (S0 := snapAll _) csa1 a1 ((tyA 16 ty8).mono (h.m.leAll (i := 1) rfl) (show (tyA 16 ty8).rep S13 csa1 a1 from ⟨(hs1.mono le15), hl2⟩)) _ h21 _ h.startAll
              refine q_callX hX h rfl rfl rfl (by decide) Try.func15 rfl rfl rfl (fun a w v L1 S1 hR hb1 h => ?_)
              obtain ⟨k23, rfl, rfl, hv24, _⟩ := hR
              obtain ⟨hs25, hl26⟩ := hv24
              have hq27 := hs25.fl (S' := S13) fl_8
              replace HS := h.m.pick [1, 2, 3] [.sn S13, .box g6 23 csa2, .box g5 23 csa1] (by decide) rfl
              refine hK _ _ ⟨fun _ _ => HS, ?_⟩
              clear hK
              refine d_two 5 6 (by kernel_rfl) (d_one 5 rfl _ (fun K hK => ?_)) (d_one 6 rfl _ (fun K hK => ?_))
              · have hX := aes_Cipher_Encrypt_nil0_ok Fu (S0 := snapAll _) csa2 a2 ((tyA 16 ty8).mono (h.m.leAll (i := 1) rfl) (show (tyA 16 ty8).rep S13 csa2 a2 from ⟨(hs3.mono le15), hl4⟩)) _ h29 _ h.startAll
                refine q_callX hX h rfl rfl rfl (by decide) Try.func15 rfl rfl rfl (fun a w v L1 S1 hR hb1 h => ?_)
                obtain ⟨k31, rfl, rfl, hv32, _⟩ := hR
                obtain ⟨hs33, hl34⟩ := hv32
                have hq35 := hs33.fl (S' := S13) fl_8
                replace HS := h.m.pick [1, 2, 3] [.sn S13, .box g6 23 csa2, .box g5 23 csa1] (by decide) rfl
                refine hK _ _ ⟨fun _ _ => HS, ?_⟩
                clear hK
                refine d_alone 6 rfl (by kernel_rfl) (fun K hK => ?_)
                refine s_alloc h rfl rfl rfl (by decide) zi_A16_uint8 rfl (fun a w g36 h => ?_)
                replace HS := h.m.pick [2, 3, 4] [.sn S13, .box g6 23 csa2, .box g5 23 csa1] (by decide) rfl
                refine hK _ _ (fun _ _ => HS) ?_
                clear hK
                refine d_alone 8 rfl (by kernel_rfl) (fun K hK => ?_)
                refine s_stW h rfl rfl rfl ag_A16_uint8 rfl (es := k23) rfl ((hq27).len.trans (by rw [hl26]; rfl)) (hq27).one 0 rfl (by first | rfl | simp_all) (fun a w h => ?_)
                replace HS := h.m.pick [2, 3, 4] [.sn S13, .box g6 23 csa2, .box g5 23 csa1] (by decide) rfl
                refine hK _ _ (fun _ _ => HS) ?_
                clear hK
                refine d_alone 9 rfl (by kernel_rfl) (fun K hK => ?_)
                refine s_stW h rfl rfl rfl ag_A16_uint8 rfl (es := k31) rfl ((hq35).len.trans (by rw [hl34]; rfl)) (hq35).one 1 rfl (by first | rfl | simp_all) (fun a w h => ?_)
                replace HS := h.m.pick [2, 3, 4] [.sn S13, .box g6 23 csa2, .box g5 23 csa1] (by decide) rfl
                refine hK _ _ (fun _ _ => HS) ?_
                clear hK
                refine d_done (by kernel_rfl) (HE _ _ ?_) _
                refine e_thenN ?_
                have h := h.pick [4, 3, 0, 1, 2] (by decide) rfl
                exact ⟨g36, k23, g37, k31, hq27, hl26, hq35, hl34, h.has (by exact ⟨rfl, rfl, rfl, rfl, rfl, trivial⟩)⟩
              · refine s_alloc h rfl rfl rfl (by decide) zi_A16_uint8 rfl (fun a w g36 h => ?_)
                replace HS := h.m.pick [2, 3, 4] [.sn S13, .box g6 23 csa2, .box g5 23 csa1] (by decide) rfl
                refine hK _ _ ⟨fun _ _ => HS, ?_⟩
                clear hK
                refine d_alone 5 rfl (by kernel_rfl) (fun K hK => ?_)
                have hX := aes_Cipher_Encrypt_nil0_ok Fu (S0 := snapAll _) csa2 a2 ((tyA 16 ty8).mono (h.m.leAll (i := 2) rfl) (show (tyA 16 ty8).rep S13 csa2 a2 from ⟨(hs3.mono le15), hl4⟩)) _ h29 _ h.startAll
                refine q_callX hX h rfl rfl rfl (by decide) Try.func15 rfl rfl rfl (fun a w v L1 S1 hR hb1 h => ?_)
                obtain ⟨k31, rfl, rfl, hv32, _⟩ := hR
                obtain ⟨hs33, hl34⟩ := hv32
                have hq35 := hs33.fl (S' := S13) fl_8
                replace HS := h.m.pick [2, 3, 4] [.sn S13, .box g6 23 csa2, .box g5 23 csa1] (by decide) rfl
                refine hK _ _ (fun _ _ => HS) ?_
                clear hK
                refine d_alone 8 rfl (by kernel_rfl) (fun K hK => ?_)
                refine s_stW h rfl rfl rfl ag_A16_uint8 rfl (es := k23) rfl ((hq27).len.trans (by rw [hl26]; rfl)) (hq27).one 0 rfl (by first | rfl | simp_all) (fun a w h => ?_)
                replace HS := h.m.pick [2, 3, 4] [.sn S13, .box g6 23 csa2, .box g5 23 csa1] (by decide) rfl
                refine hK _ _ (fun _ _ => HS) ?_
                clear hK
                refine d_alone 9 rfl (by kernel_rfl) (fun K hK => ?_)
                refine s_stW h rfl rfl rfl ag_A16_uint8 rfl (es := k31) rfl ((hq35).len.trans (by rw [hl34]; rfl)) (hq35).one 1 rfl (by first | rfl | simp_all) (fun a w h => ?_)
                replace HS := h.m.pick [2, 3, 4] [.sn S13, .box g6 23 csa2, .box g5 23 csa1] (by decide) rfl
                refine hK _ _ (fun _ _ => HS) ?_
                clear hK
                refine d_done (by kernel_rfl) (HE _ _ ?_) _
                refine e_thenN ?_
                have h := h.pick [4, 3, 0, 1, 2] (by decide) rfl
                exact ⟨g36, k23, g37, k31, hq27, hl26, hq35, hl34, h.has (by exact ⟨rfl, rfl, rfl, rfl, rfl, trivial⟩)⟩
            · refine s_alloc h rfl rfl rfl (by decide) zi_A16_uint8 rfl (fun a w g36 h => ?_)
              replace HS := h.m.pick [2, 3, 4] [.sn S13, .box g6 23 csa2, .box g5 23 csa1] (by decide) rfl
              refine hK _ _ ⟨fun _ _ => HS, ?_⟩
              clear hK
              refine d_alone 2 rfl (by kernel_rfl) (fun K hK => ?_)
              have hX := aes_Cipher_Encrypt_nil0_ok Fu (S0 := snapAll _) csa1 a1 ((tyA 16 ty8).mono (h.m.leAll (i := 2) rfl) (show (tyA 16 ty8).rep S13 csa1 a1 from ⟨(hs1.mono le15), hl2⟩)) _ h21 _ h.startAll
              refine q_callX hX h rfl rfl rfl (by decide) Try.func15 rfl rfl rfl (fun a w v L1 S1 hR hb1 h => ?_)
              obtain ⟨k23, rfl, rfl, hv24, _⟩ := hR
              obtain ⟨hs25, hl26⟩ := hv24
              have hq27 := hs25.fl (S' := S13) fl_8
              replace HS := h.m.pick [2, 3, 4] [.sn S13, .box g6 23 csa2, .box g5 23 csa1] (by decide) rfl
              refine hK _ _ (fun _ _ => HS) ?_
              clear hK
              refine d_alone 5 rfl (by kernel_rfl) (fun K hK => ?_)
              have hX := aes_Cipher_Encrypt_nil0_ok Fu (S0 := snapAll _) csa2 a2 ((tyA 16 ty8).mono (h.m.leAll (i := 2) rfl) (show (tyA 16 ty8).rep S13 csa2 a2 from ⟨(hs3.mono le15), hl4⟩)) _ h29 _ h.startAll
              refine q_callX hX h rfl rfl rfl (by decide) Try.func15 rfl rfl rfl (fun a w v L1 S1 hR hb1 h => ?_)
              obtain ⟨k31, rfl, rfl, hv32, _⟩ := hR
              obtain ⟨hs33, hl34⟩ := hv32
              have hq35 := hs33.fl (S' := S13) fl_8
              replace HS := h.m.pick [2, 3, 4] [.sn S13, .box g6 23 csa2, .box g5 23 csa1] (by decide) rfl
              refine hK _ _ (fun _ _ => HS) ?_
              clear hK
              refine d_alone 8 rfl (by kernel_rfl) (fun K hK => ?_)
              refine s_stW h rfl rfl rfl ag_A16_uint8 rfl (es := k23) rfl ((hq27).len.trans (by rw [hl26]; rfl)) (hq27).one 0 rfl (by first | rfl | simp_all) (fun a w h => ?_)
              replace HS := h.m.pick [2, 3, 4] [.sn S13, .box g6 23 csa2, .box g5 23 csa1] (by decide) rfl
              refine hK _ _ (fun _ _ => HS) ?_
              clear hK
              refine d_alone 9 rfl (by kernel_rfl) (fun K hK => ?_)
              refine s_stW h rfl rfl rfl ag_A16_uint8 rfl (es := k31) rfl ((hq35).len.trans (by rw [hl34]; rfl)) (hq35).one 1 rfl (by first | rfl | simp_all) (fun a w h => ?_)
              replace HS := h.m.pick [2, 3, 4] [.sn S13, .box g6 23 csa2, .box g5 23 csa1] (by decide) rfl
              refine hK _ _ (fun _ _ => HS) ?_
              clear hK
              refine d_done (by kernel_rfl) (HE _ _ ?_) _
              refine e_thenN ?_
              have h := h.pick [4, 3, 0, 1, 2] (by decide) rfl
              exact ⟨g36, k23, g37, k31, hq27, hl26, hq35, hl34, h.has (by exact ⟨rfl, rfl, rfl, rfl, rfl, trivial⟩)⟩
        obtain ⟨g36, k38, g37, k41, hs39, hl40, hs42, hl43, h⟩ := h
        refine e_thenN ?_
        refine wp_seq ?_
        -- region 7 draws
        obtain ⟨x44, h45, hf⟩ := bsome hf
        obtain ⟨x52, h53, hf⟩ := bsome hf
        obtain ⟨z60, hz61, hf⟩ := bsome hf
        refine c_fin (fun a w => St 59 w0 (ownL ([] ++ [.sn S0])) [(6, .bool (z60 && ((decide (a1 = a2)) == (decide (x20 = x28)))))] [.sn S13] a w) ?_ (fun a w h => ?_)
        · refine d_start h (Mem _ _ _) 26 26 rfl (by kernel_rfl) (fun _ _ _ _ _ h => h) (fun _ h => h) (fun Q a w HE HN h HS => ?_)
          refine d_takeP h (fun _ => HS) HN 0 rfl (by kernel_rfl) (by kernel_rfl) (by kernel_rfl) (by decide) rfl rfl (by decide) (fun w' => x_move h.k _ rfl rfl) (fun a h => ?_)
          refine d_takeP h (fun _ => HS) HN 1 rfl (by kernel_rfl) (by kernel_rfl) (by kernel_rfl) (by decide) rfl rfl (by decide) (fun w' => x_move h.k _ rfl rfl) (fun a h => ?_)
          refine d_take h HS HN 2 rfl (by kernel_rfl) (by kernel_rfl) (by kernel_rfl) (by kernel_rfl) (by kernel_rfl) rfl rfl (by decide) (fun w' hw => x_ldR h.k rfl ag_A16_uint8 rfl csa1 (((hs1.mono le15)).len.trans (by rw [hl2]; rfl)) (hw.range0 (i := 0) rfl)) (fun a h => ?_)
          refine d_take h HS HN 5 rfl (by kernel_rfl) (by kernel_rfl) (by kernel_rfl) (by kernel_rfl) (by kernel_rfl) rfl rfl (by decide) (fun w' hw => x_ldR h.k rfl ag_A16_uint8 rfl csa1 (((hs1.mono le15)).len.trans (by rw [hl2]; rfl)) (hw.range0 (i := 0) rfl)) (fun a h => ?_)
          refine d_alone 3 rfl (by kernel_rfl) (fun K hK => ?_)
          have hX := aes_Cipher_Decrypt_nil0_ok Fu (S0 := snapAll _) csa1 a1 ((tyA 16 ty8).mono (h.m.leAll (i := 4) rfl) (show (tyA 16 ty8).rep S13 csa1 a1 from ⟨(hs1.mono le15), hl2⟩)) _ h45 _ h.startAll
          refine q_callX hX h rfl rfl rfl (by decide) Try.func18 rfl rfl rfl (fun a w v L1 S1 hR hb1 h => ?_)
          obtain ⟨k47, rfl, rfl, hv48, _⟩ := hR
          obtain ⟨hs49, hl50⟩ := hv48
          have hq51 := hs49.fl (S' := S13) fl_8
          refine hK _ _ (fun _ _ => HS.ext hb1) ?_
          replace HS := HS.ext hb1
          clear hK
          refine d_alone 4 rfl (by kernel_rfl) (fun K hK => ?_)
          have hX := aes_Cipher_Encrypt_nil0_ok Fu (S0 := snapAll _) k47 x44 ((tyA 16 ty8).mono (h.m.leAll (i := 4) rfl) (show (tyA 16 ty8).rep S13 k47 x44 from ⟨hq51, hl50⟩)) _ h53 _ h.startAll
          refine q_callX hX h rfl rfl rfl (by decide) Try.func15 rfl rfl rfl (fun a w v L1 S1 hR hb1 h => ?_)
          obtain ⟨k55, rfl, rfl, hv56, _⟩ := hR
          obtain ⟨hs57, hl58⟩ := hv56
          have hq59 := hs57.fl (S' := S13) fl_8
          refine hK _ _ (fun _ _ => HS.ext hb1) ?_
          replace HS := HS.ext hb1
          clear hK
          refine d_takeP h (fun _ => HS) HN 6 rfl (by kernel_rfl) (by kernel_rfl) (by kernel_rfl) (by decide) rfl rfl (by decide) (fun w' => x_eqlA8 (X := k55) (Y := csa1) h.k rfl Try.underlying23 Try.underlying5 sz_uint8 gda_A16_uint8 rfl rfl hq59 (hs1.mono le15) hl58 hl2) (fun a h => ?_)
          refine d_takeP h (fun _ => HS) HN 7 rfl (by kernel_rfl) (by kernel_rfl) (by kernel_rfl) (by decide) rfl rfl (by decide) (fun w' => x_move h.k _ rfl rfl) (fun a h => ?_)
          refine d_split (t := 41) h rfl (fun hB7 => ?_) (fun hB7 => ?_)
          · rw [if_pos (of_decide_eq_true hB7)] at hz61
            obtain ⟨x62, h63, hz61⟩ := bsome hz61
            obtain ⟨x70, h71, hz61⟩ := bsome hz61
            refine d_takeP h (fun _ => HS) HN 8 rfl (by kernel_rfl) (by kernel_rfl) (by kernel_rfl) (by decide) (by rw [g_want h rfl rfl rfl rfl hB7]; rfl) rfl (by decide) (fun w' => x_move h.k _ rfl rfl) (fun a h => ?_)
            refine d_takeP h (fun _ => HS) HN 9 rfl (by kernel_rfl) (by kernel_rfl) (by kernel_rfl) (by decide) (by rw [g_want h rfl rfl rfl rfl hB7]; rfl) rfl (by decide) (fun w' => x_move h.k _ rfl rfl) (fun a h => ?_)
            refine d_takeY h HS HN 10 rfl (by kernel_rfl) (by kernel_rfl) (by kernel_rfl) (by kernel_rfl) (by kernel_rfl) (by rw [g_want h rfl rfl rfl rfl hB7]; rfl) rfl (by decide) (fun w' hw => x_ldR h.k rfl ag_A16_uint8 rfl csa1 (((hs1.mono le15)).len.trans (by rw [hl2]; rfl)) (hw.range0 (i := 0) rfl)) (fun a h => ?_)
            refine d_takeY h HS HN 13 rfl (by kernel_rfl) (by kernel_rfl) (by kernel_rfl) (by kernel_rfl) (by kernel_rfl) (by rw [g_want h rfl rfl rfl rfl hB7]; rfl) rfl (by decide) (fun w' hw => x_ldR h.k rfl ag_A16_uint8 rfl csa1 (((hs1.mono le15)).len.trans (by rw [hl2]; rfl)) (hw.range0 (i := 0) rfl)) (fun a h => ?_)
            refine d_alone 11 rfl (by kernel_rfl) (fun K hK => ?_)
            refine g_yes (j := 7) (t := 41) h rfl rfl rfl rfl hB7 ?_
            have hX := aes_Cipher_Encrypt_nil0_ok Fu (S0 := snapAll _) csa1 a1 ((tyA 16 ty8).mono (h.m.leAll (i := 4) rfl) (show (tyA 16 ty8).rep S13 csa1 a1 from ⟨(hs1.mono le15), hl2⟩)) _ h63 _ h.startAll
            refine q_callX hX h rfl rfl rfl (by decide) Try.func15 rfl rfl rfl (fun a w v L1 S1 hR hb1 h => ?_)
            obtain ⟨k65, rfl, rfl, hv66, _⟩ := hR
            obtain ⟨hs67, hl68⟩ := hv66
            have hq69 := hs67.fl (S' := S13) fl_8
            refine hK _ _ (fun _ _ => HS.ext hb1) ?_
            replace HS := HS.ext hb1
            clear hK
            refine d_alone 12 rfl (by kernel_rfl) (fun K hK => ?_)
            refine g_yes (j := 7) (t := 41) h rfl rfl rfl rfl hB7 ?_
            have hX := aes_Cipher_Decrypt_nil0_ok Fu (S0 := snapAll _) k65 x62 ((tyA 16 ty8).mono (h.m.leAll (i := 4) rfl) (show (tyA 16 ty8).rep S13 k65 x62 from ⟨hq69, hl68⟩)) _ h71 _ h.startAll
            refine q_callX hX h rfl rfl rfl (by decide) Try.func18 rfl rfl rfl (fun a w v L1 S1 hR hb1 h => ?_)
            obtain ⟨k73, rfl, rfl, hv74, _⟩ := hR
            obtain ⟨hs75, hl76⟩ := hv74
            have hq77 := hs75.fl (S' := S13) fl_8
            refine hK _ _ (fun _ _ => HS.ext hb1) ?_
            replace HS := HS.ext hb1
            clear hK
            refine d_takeP h (fun _ => HS) HN 14 rfl (by kernel_rfl) (by kernel_rfl) (by kernel_rfl) (by decide) (by rw [g_want h rfl rfl rfl rfl hB7]; rfl) rfl (by decide) (fun w' => x_eqlA8 (X := k73) (Y := csa1) h.k rfl Try.underlying23 Try.underlying5 sz_uint8 gda_A16_uint8 rfl rfl hq77 (hs1.mono le15) hl76 hl2) (fun a h => ?_)
            refine d_takeP h (fun _ => HS) HN 15 rfl (by kernel_rfl) (by kernel_rfl) (by kernel_rfl) (by decide) rfl rfl (by decide) (fun w' => x_pick (v := .bool z60) (u' := undef) h.k rfl rfl (fun _ => by rw [← Option.some.inj hz61]; rfl) (fun hh => absurd (hB7.symm.trans hh) (by decide))) (fun a h => ?_)
            refine d_takeP h (fun _ => HS) HN 16 rfl (by kernel_rfl) (by kernel_rfl) (by kernel_rfl) (by decide) rfl rfl (by decide) (fun w' => x_move h.k _ rfl rfl) (fun a h => ?_)
            refine d_split (t := 50) h rfl (fun hB16 => ?_) (fun hB16 => ?_)
            · refine d_takeY h HS HN 17 rfl (by kernel_rfl) (by kernel_rfl) (by kernel_rfl) (by kernel_rfl) (by kernel_rfl) (by rw [g_want h rfl rfl rfl rfl hB16]; rfl) rfl (by decide) (fun w' hw => x_ldR h.k rfl ag_A16_uint8 rfl csa1 (((hs1.mono le15)).len.trans (by rw [hl2]; rfl)) (hw.range0 (i := 0) rfl)) (fun a h => ?_)
              refine d_takeY h HS HN 18 rfl (by kernel_rfl) (by kernel_rfl) (by kernel_rfl) (by kernel_rfl) (by kernel_rfl) (by rw [g_want h rfl rfl rfl rfl hB16]; rfl) rfl (by decide) (fun w' hw => x_ldR h.k rfl ag_A16_uint8 rfl csa2 (((hs3.mono le15)).len.trans (by rw [hl4]; rfl)) (hw.range0 (i := 1) rfl)) (fun a h => ?_)
              refine d_takeP h (fun _ => HS) HN 19 rfl (by kernel_rfl) (by kernel_rfl) (by kernel_rfl) (by decide) (by rw [g_want h rfl rfl rfl rfl hB16]; rfl) rfl (by decide) (fun w' => x_eqlA8 (X := csa1) (Y := csa2) h.k rfl Try.underlying23 Try.underlying5 sz_uint8 gda_A16_uint8 rfl rfl (hs1.mono le15) (hs3.mono le15) hl2 hl4) (fun a h => ?_)
              refine d_takeY h HS HN 20 rfl (by kernel_rfl) (by kernel_rfl) (by kernel_rfl) (by kernel_rfl) (by kernel_rfl) (by rw [g_want h rfl rfl rfl rfl hB16]; rfl) rfl (by decide) (fun w' hw => x_ldR h.k rfl ag_A16_uint8 rfl k38 ((hs39).len.trans (by rw [hl40]; rfl)) (hw.range0 (i := 2) rfl)) (fun a h => ?_)
              refine d_takeY h HS HN 21 rfl (by kernel_rfl) (by kernel_rfl) (by kernel_rfl) (by kernel_rfl) (by kernel_rfl) (by rw [g_want h rfl rfl rfl rfl hB16]; rfl) rfl (by decide) (fun w' hw => x_ldR h.k rfl ag_A16_uint8 rfl k41 ((hs42).len.trans (by rw [hl43]; rfl)) (hw.range0 (i := 3) rfl)) (fun a h => ?_)
              refine d_takeP h (fun _ => HS) HN 22 rfl (by kernel_rfl) (by kernel_rfl) (by kernel_rfl) (by decide) (by rw [g_want h rfl rfl rfl rfl hB16]; rfl) rfl (by decide) (fun w' => x_eqlA8 (X := k38) (Y := k41) h.k rfl Try.underlying23 Try.underlying5 sz_uint8 gda_A16_uint8 rfl rfl hs39 hs42 hl40 hl43) (fun a h => ?_)
              refine d_takeP h (fun _ => HS) HN 23 rfl (by kernel_rfl) (by kernel_rfl) (by kernel_rfl) (by decide) (by rw [g_want h rfl rfl rfl rfl hB16]; rfl) rfl (by decide) (fun w' => x_eqlB h.k rfl Try.underlying4 rfl rfl) (fun a h => ?_)
              refine d_takeP h (fun _ => HS) HN 24 rfl (by kernel_rfl) (by kernel_rfl) (by kernel_rfl) (by decide) rfl rfl (by decide) (fun w' => x_pick (v := .bool (z60 && ((decide (a1 = a2)) == (decide (x20 = x28))))) (u' := undef) h.k rfl rfl (fun _ => by rw [hB16]; first | rfl | simp [ev, List.lookup]) (fun hh => absurd (hB16.symm.trans hh) (by decide))) (fun a h => ?_)
              refine d_takeP h (fun _ => HS) HN 25 rfl (by kernel_rfl) (by kernel_rfl) (by kernel_rfl) (by decide) rfl rfl (by decide) (fun w' => x_assign h.k _ rfl rfl) (fun a h => ?_)
              refine d_done (by kernel_rfl) (HE _ _ ?_) _
              refine e_thenN ?_
              have h := h.pick [4] (by decide) rfl
              exact h.has (by exact ⟨rfl, trivial⟩)
            · refine d_takeNP h (fun _ => HS) HN 17 rfl (by kernel_rfl) (by kernel_rfl) (by kernel_rfl) (by decide) (by rw [g_want h rfl rfl rfl rfl hB16]; rfl) rfl (by decide) (fun a h => ?_)
              refine d_takeNP h (fun _ => HS) HN 18 rfl (by kernel_rfl) (by kernel_rfl) (by kernel_rfl) (by decide) (by rw [g_want h rfl rfl rfl rfl hB16]; rfl) rfl (by decide) (fun a h => ?_)
              refine d_takeNP h (fun _ => HS) HN 19 rfl (by kernel_rfl) (by kernel_rfl) (by kernel_rfl) (by decide) (by rw [g_want h rfl rfl rfl rfl hB16]; rfl) rfl (by decide) (fun a h => ?_)
              refine d_takeNP h (fun _ => HS) HN 20 rfl (by kernel_rfl) (by kernel_rfl) (by kernel_rfl) (by decide) (by rw [g_want h rfl rfl rfl rfl hB16]; rfl) rfl (by decide) (fun a h => ?_)
              refine d_takeNP h (fun _ => HS) HN 21 rfl (by kernel_rfl) (by kernel_rfl) (by kernel_rfl) (by decide) (by rw [g_want h rfl rfl rfl rfl hB16]; rfl) rfl (by decide) (fun a h => ?_)
              refine d_takeNP h (fun _ => HS) HN 22 rfl (by kernel_rfl) (by kernel_rfl) (by kernel_rfl) (by decide) (by rw [g_want h rfl rfl rfl rfl hB16]; rfl) rfl (by decide) (fun a h => ?_)
              refine d_takeNP h (fun _ => HS) HN 23 rfl (by kernel_rfl) (by kernel_rfl) (by kernel_rfl) (by decide) (by rw [g_want h rfl rfl rfl rfl hB16]; rfl) rfl (by decide) (fun a h => ?_)
              refine d_takeP h (fun _ => HS) HN 24 rfl (by kernel_rfl) (by kernel_rfl) (by kernel_rfl) (by decide) rfl rfl (by decide) (fun w' => x_pick (v := .bool (z60 && ((decide (a1 = a2)) == (decide (x20 = x28))))) (u' := undef) h.k rfl rfl (fun hh => absurd (hB16.symm.trans hh) (by decide)) (fun _ => by rw [hB16]; first | rfl | simp [ev, List.lookup])) (fun a h => ?_)
              refine d_takeP h (fun _ => HS) HN 25 rfl (by kernel_rfl) (by kernel_rfl) (by kernel_rfl) (by decide) rfl rfl (by decide) (fun w' => x_assign h.k _ rfl rfl) (fun a h => ?_)
              refine d_done (by kernel_rfl) (HE _ _ ?_) _
              refine e_thenN ?_
              have h := h.pick [4] (by decide) rfl
              exact h.has (by exact ⟨rfl, trivial⟩)
          · rw [if_neg (of_decide_eq_false hB7)] at hz61
            refine d_takeNP h (fun _ => HS) HN 8 rfl (by kernel_rfl) (by kernel_rfl) (by kernel_rfl) (by decide) (by rw [g_want h rfl rfl rfl rfl hB7]; rfl) rfl (by decide) (fun a h => ?_)
            refine d_takeNP h (fun _ => HS) HN 9 rfl (by kernel_rfl) (by kernel_rfl) (by kernel_rfl) (by decide) (by rw [g_want h rfl rfl rfl rfl hB7]; rfl) rfl (by decide) (fun a h => ?_)
            refine d_takeNP h (fun _ => HS) HN 10 rfl (by kernel_rfl) (by kernel_rfl) (by kernel_rfl) (by decide) (by rw [g_want h rfl rfl rfl rfl hB7]; rfl) rfl (by decide) (fun a h => ?_)
            refine d_takeNP h (fun _ => HS) HN 11 rfl (by kernel_rfl) (by kernel_rfl) (by kernel_rfl) (by decide) (by rw [g_want h rfl rfl rfl rfl hB7]; rfl) rfl (by decide) (fun a h => ?_)
            refine d_takeNP h (fun _ => HS) HN 12 rfl (by kernel_rfl) (by kernel_rfl) (by kernel_rfl) (by decide) (by rw [g_want h rfl rfl rfl rfl hB7]; rfl) rfl (by decide) (fun a h => ?_)
            refine d_takeNP h (fun _ => HS) HN 13 rfl (by kernel_rfl) (by kernel_rfl) (by kernel_rfl) (by decide) (by rw [g_want h rfl rfl rfl rfl hB7]; rfl) rfl (by decide) (fun a h => ?_)
            refine d_takeNP h (fun _ => HS) HN 14 rfl (by kernel_rfl) (by kernel_rfl) (by kernel_rfl) (by decide) (by rw [g_want h rfl rfl rfl rfl hB7]; rfl) rfl (by decide) (fun a h => ?_)
            refine d_takeP h (fun _ => HS) HN 15 rfl (by kernel_rfl) (by kernel_rfl) (by kernel_rfl) (by decide) rfl rfl (by decide) (fun w' => x_pick (v := .bool z60) (u' := undef) h.k rfl rfl (fun hh => absurd (hB7.symm.trans hh) (by decide)) (fun _ => by rw [← Option.some.inj hz61]; rfl)) (fun a h => ?_)
            refine d_takeP h (fun _ => HS) HN 16 rfl (by kernel_rfl) (by kernel_rfl) (by kernel_rfl) (by decide) rfl rfl (by decide) (fun w' => x_move h.k _ rfl rfl) (fun a h => ?_)
            refine d_split (t := 50) h rfl (fun hB16 => ?_) (fun hB16 => ?_)
            · refine d_takeY h HS HN 17 rfl (by kernel_rfl) (by kernel_rfl) (by kernel_rfl) (by kernel_rfl) (by kernel_rfl) (by rw [g_want h rfl rfl rfl rfl hB16]; rfl) rfl (by decide) (fun w' hw => x_ldR h.k rfl ag_A16_uint8 rfl csa1 (((hs1.mono le15)).len.trans (by rw [hl2]; rfl)) (hw.range0 (i := 0) rfl)) (fun a h => ?_)
              refine d_takeY h HS HN 18 rfl (by kernel_rfl) (by kernel_rfl) (by kernel_rfl) (by kernel_rfl) (by kernel_rfl) (by rw [g_want h rfl rfl rfl rfl hB16]; rfl) rfl (by decide) (fun w' hw => x_ldR h.k rfl ag_A16_uint8 rfl csa2 (((hs3.mono le15)).len.trans (by rw [hl4]; rfl)) (hw.range0 (i := 1) rfl)) (fun a h => ?_)
              refine d_takeP h (fun _ => HS) HN 19 rfl (by kernel_rfl) (by kernel_rfl) (by kernel_rfl) (by decide) (by rw [g_want h rfl rfl rfl rfl hB16]; rfl) rfl (by decide) (fun w' => x_eqlA8 (X := csa1) (Y := csa2) h.k rfl Try.underlying23 Try.underlying5 sz_uint8 gda_A16_uint8 rfl rfl (hs1.mono le15) (hs3.mono le15) hl2 hl4) (fun a h => ?_)
              refine d_takeY h HS HN 20 rfl (by kernel_rfl) (by kernel_rfl) (by kernel_rfl) (by kernel_rfl) (by kernel_rfl) (by rw [g_want h rfl rfl rfl rfl hB16]; rfl) rfl (by decide) (fun w' hw => x_ldR h.k rfl ag_A16_uint8 rfl k38 ((hs39).len.trans (by rw [hl40]; rfl)) (hw.range0 (i := 2) rfl)) (fun a h => ?_)
              refine d_takeY h HS HN 21 rfl (by kernel_rfl) (by kernel_rfl) (by kernel_rfl) (by kernel_rfl) (by kernel_rfl) (by rw [g_want h rfl rfl rfl rfl hB16]; rfl) rfl (by decide) (fun w' hw => x_ldR h.k rfl ag_A16_uint8 rfl k41 ((hs42).len.trans (by rw [hl43]; rfl)) (hw.range0 (i := 3) rfl)) (fun a h => ?_)
              refine d_takeP h (fun _ => HS) HN 22 rfl (by kernel_rfl) (by kernel_rfl) (by kernel_rfl) (by decide) (by rw [g_want h rfl rfl rfl rfl hB16]; rfl) rfl (by decide) (fun w' => x_eqlA8 (X := k38) (Y := k41) h.k rfl Try.underlying23 Try.underlying5 sz_uint8 gda_A16_uint8 rfl rfl hs39 hs42 hl40 hl43) (fun a h => ?_)
              refine d_takeP h (fun _ => HS) HN 23 rfl (by kernel_rfl) (by kernel_rfl) (by kernel_rfl) (by decide) (by rw [g_want h rfl rfl rfl rfl hB16]; rfl) rfl (by decide) (fun w' => x_eqlB h.k rfl Try.underlying4 rfl rfl) (fun a h => ?_)
              refine d_takeP h (fun _ => HS) HN 24 rfl (by kernel_rfl) (by kernel_rfl) (by kernel_rfl) (by decide) rfl rfl (by decide) (fun w' => x_pick (v := .bool (z60 && ((decide (a1 = a2)) == (decide (x20 = x28))))) (u' := undef) h.k rfl rfl (fun _ => by rw [hB16]; first | rfl | simp [ev, List.lookup]) (fun hh => absurd (hB16.symm.trans hh) (by decide))) (fun a h => ?_)
              refine d_takeP h (fun _ => HS) HN 25 rfl (by kernel_rfl) (by kernel_rfl) (by kernel_rfl) (by decide) rfl rfl (by decide) (fun w' => x_assign h.k _ rfl rfl) (fun a h => ?_)
              refine d_done (by kernel_rfl) (HE _ _ ?_) _
              refine e_thenN ?_
              have h := h.pick [4] (by decide) rfl
              exact h.has (by exact ⟨rfl, trivial⟩)
            · refine d_takeNP h (fun _ => HS) HN 17 rfl (by kernel_rfl) (by kernel_rfl) (by kernel_rfl) (by decide) (by rw [g_want h rfl rfl rfl rfl hB16]; rfl) rfl (by decide) (fun a h => ?_)
              refine d_takeNP h (fun _ => HS) HN 18 rfl (by kernel_rfl) (by kernel_rfl) (by kernel_rfl) (by decide) (by rw [g_want h rfl rfl rfl rfl hB16]; rfl) rfl (by decide) (fun a h => ?_)
              refine d_takeNP h (fun _ => HS) HN 19 rfl (by kernel_rfl) (by kernel_rfl) (by kernel_rfl) (by decide) (by rw [g_want h rfl rfl rfl rfl hB16]; rfl) rfl (by decide) (fun a h => ?_)
              refine d_takeNP h (fun _ => HS) HN 20 rfl (by kernel_rfl) (by kernel_rfl) (by kernel_rfl) (by decide) (by rw [g_want h rfl rfl rfl rfl hB16]; rfl) rfl (by decide) (fun a h => ?_)
              refine d_takeNP h (fun _ => HS) HN 21 rfl (by kernel_rfl) (by kernel_rfl) (by kernel_rfl) (by decide) (by rw [g_want h rfl rfl rfl rfl hB16]; rfl) rfl (by decide) (fun a h => ?_)
              refine d_takeNP h (fun _ => HS) HN 22 rfl (by kernel_rfl) (by kernel_rfl) (by kernel_rfl) (by decide) (by rw [g_want h rfl rfl rfl rfl hB16]; rfl) rfl (by decide) (fun a h => ?_)
              refine d_takeNP h (fun _ => HS) HN 23 rfl (by kernel_rfl) (by kernel_rfl) (by kernel_rfl) (by decide) (by rw [g_want h rfl rfl rfl rfl hB16]; rfl) rfl (by decide) (fun a h => ?_)
              refine d_takeP h (fun _ => HS) HN 24 rfl (by kernel_rfl) (by kernel_rfl) (by kernel_rfl) (by decide) rfl rfl (by decide) (fun w' => x_pick (v := .bool (z60 && ((decide (a1 = a2)) == (decide (x20 = x28))))) (u' := undef) h.k rfl rfl (fun hh => absurd (hB16.symm.trans hh) (by decide)) (fun _ => by rw [hB16]; first | rfl | simp [ev, List.lookup])) (fun a h => ?_)
              refine d_takeP h (fun _ => HS) HN 25 rfl (by kernel_rfl) (by kernel_rfl) (by kernel_rfl) (by decide) rfl rfl (by decide) (fun w' => x_assign h.k _ rfl rfl) (fun a h => ?_)
              refine d_done (by kernel_rfl) (HE _ _ ?_) _
              refine e_thenN ?_
              have h := h.pick [4] (by decide) rfl
              exact h.has (by exact ⟨rfl, trivial⟩)
        refine e_thenN ?_
        refine wp_ret ?_
        obtain rfl := Option.some.inj hf
        exact r_ret1 h rfl (rv_tmp h rfl) ⟨_, [], _, rfl, ⟨rfl, rfl, trivial⟩, rfl, up14, h.m⟩
    · obtain ⟨x80, rfl, hR⟩ := hR
      dsimp only at hf
      obtain ⟨g81, rfl, rfl, hp82, hr83, _⟩ := hR
      refine s_move h rfl _ rfl rfl (by decide) rfl (fun a h => ?_)
      refine s_x h rfl rfl (by decide) (x_ext h.k rfl rfl rfl) (fun a h => ?_)
      refine s_x h rfl rfl (by decide) (x_ext h.k rfl rfl rfl) (fun a h => ?_)
      refine s_assign h rfl _ rfl rfl (by decide) rfl (fun a h => ?_)
      refine s_assign h rfl _ rfl rfl (by decide) rfl (fun a h => ?_)
      refine l_end ?_
      refine wp_seq ?_
      refine c_rs ?_ -- region 4
      refine s_move h rfl _ rfl rfl (by decide) rfl (fun a h => ?_)
      refine s_x h rfl rfl (by decide) (x_bin h.k rfl rfl rfl ib_neq) (fun a h => ?_)
      refine l_end ?_
      refine c_cond h rfl (fun hb => ?_) (fun hb => ?_)
      · rw [if_pos (of_decide_eq_true hb)] at hf
        refine c_rs ?_ -- region 5
        refine s_move h rfl _ rfl rfl (by decide) rfl (fun a h => ?_)
        refine s_x h rfl rfl (by decide) (x_len h.k rfl Try.underlying22 rfl) (fun a h => ?_)
        refine s_x h rfl rfl (by decide) (x_bin h.k rfl rfl rfl ib_neq) (fun a h => ?_)
        refine s_move h rfl _ rfl rfl (by decide) rfl (fun a h => ?_)
        refine q_grp h 4 (t := 23) 27 ((decide ((a0.length : Int) ≠ 16)) && (decide ((a0.length : Int) ≠ 32))) rfl (fun hB3 => ?_) (fun hB3 => ?_) (fun a w h => ?_)
        · refine g_yes h rfl rfl rfl rfl hB3 ?_
          refine s_move h rfl _ rfl rfl (by decide) rfl (fun a h => ?_)
          refine g_yes h rfl rfl rfl rfl hB3 ?_
          refine s_x h rfl rfl (by decide) (x_len h.k rfl Try.underlying22 rfl) (fun a h => ?_)
          refine g_yes h rfl rfl rfl rfl hB3 ?_
          refine s_x h rfl rfl (by decide) (x_bin h.k rfl rfl rfl ib_neq) (fun a h => ?_)
          refine s_x h rfl rfl (by decide) (x_pick (u' := undef) h.k rfl rfl (fun _ => rfl) (fun hh => absurd (hB3.symm.trans hh) (by decide))) (fun a h => ?_)
          exact (h.mid 3 rfl).val (by first | rfl | (rw [hB3]; first | rfl | simp))
        · refine g_no h rfl rfl rfl rfl hB3 rfl (by decide) (fun a h => ?_)
          refine g_no h rfl rfl rfl rfl hB3 rfl (by decide) (fun a h => ?_)
          refine g_no h rfl rfl rfl rfl hB3 rfl (by decide) (fun a h => ?_)
          refine s_x h rfl rfl (by decide) (x_pick (u' := undef) h.k rfl rfl (fun hh => absurd (hB3.symm.trans hh) (by decide)) (fun _ => rfl)) (fun a h => ?_)
          exact (h.mid 3 rfl).val (by first | rfl | (rw [hB3]; first | rfl | simp))
        refine s_assign h rfl _ rfl rfl (by decide) rfl (fun a h => ?_)
        refine l_end ?_
        refine wp_ret ?_
        refine e_thenR ?_
        obtain rfl := Option.some.inj hf
        exact r_ret1 h rfl (rv_tmp h rfl) ⟨_, [], _, rfl, ⟨rfl, rfl, trivial⟩, rfl, up14, (h.m.pick [0] _ (by decide) rfl)⟩
      · rw [if_neg (of_decide_eq_false hb)] at hf
        refine wp_skip ?_
        refine e_thenN ?_
        refine wp_seq ?_
        -- region 6 draws
        obtain ⟨x86, h87, hf⟩ := bsome hf
        obtain ⟨x94, h95, hf⟩ := bsome hf
        refine c_fin (fun a w => ∃ (g102 : Nat), ∃ (k104 : List Value), ∃ (g103 : Nat), ∃ (k107 : List Value), reps ty8 S13 k104 x86 ∧ x86.length = 16 ∧ reps ty8 S13 k107 x94 ∧ x94.length = 16 ∧ St 59 w0 (ownL ([] ++ [.sn S0])) [(4, .pointer (some ⟨g5, 0, none⟩)), (5, .pointer (some ⟨g6, 0, none⟩)), (7, .pointer (some ⟨g81, 0, none⟩)), (9, .pointer (some ⟨g102, 0, none⟩)), (10, .pointer (some ⟨g103, 0, none⟩))] [.box g5 23 csa1, .box g6 23 csa2, .box g102 23 k104, .box g103 23 k107, .sn S13] a w) ?_ (fun a w h => ?_)
        · refine d_start h (Mem _ _ _) 10 10 rfl (by kernel_rfl) (fun _ _ _ _ _ h => h) (fun _ h => h.pick [0, 1, 2] [.sn S13, .box g6 23 csa2, .box g5 23 csa1] (by decide) rfl) (fun Q a w HE HN h HS => ?_)
          refine d_takeP h (fun _ => HS) HN 0 rfl (by kernel_rfl) (by kernel_rfl) (by kernel_rfl) (by decide) rfl rfl (by decide) (fun w' => x_move h.k _ rfl rfl) (fun a h => ?_)
          refine d_take h HS HN 1 rfl (by kernel_rfl) (by kernel_rfl) (by kernel_rfl) (by kernel_rfl) (by kernel_rfl) rfl rfl (by decide) (fun w' hw => x_ldR h.k rfl ag_A16_uint8 rfl csa1 (((hs1.mono le15)).len.trans (by rw [hl2]; rfl)) (hw.range0 (i := 2) rfl)) (fun a h => ?_)
          refine d_takeP h (fun _ => HS) HN 3 rfl (by kernel_rfl) (by kernel_rfl) (by kernel_rfl) (by decide) rfl rfl (by decide) (fun w' => x_move h.k _ rfl rfl) (fun a h => ?_)
          refine d_take h HS HN 4 rfl (by kernel_rfl) (by kernel_rfl) (by kernel_rfl) (by kernel_rfl) (by kernel_rfl) rfl rfl (by decide) (fun w' hw => x_ldR h.k rfl ag_A16_uint8 rfl csa2 (((hs3.mono le15)).len.trans (by rw [hl4]; rfl)) (hw.range0 (i := 1) rfl)) (fun a h => ?_)
          refine d_three 2 6 7 (by kernel_rfl) (d_one 2 rfl _ (fun K hK => ?_)) (d_one 6 rfl _ (fun K hK => ?_)) (d_one 7 rfl _ (fun K hK => ?_))
          · have hX := aes_Cipher_Encrypt_ok Fu (S0 := snapAll _) g81 x80.1 (hp82.mono (h.m.leAll (i := 0) rfl)) csa1 a1 ((tyA 16 ty8).mono (h.m.leAll (i := 0) rfl) (show (tyA 16 ty8).rep S13 csa1 a1 from ⟨(hs1.mono le15), hl2⟩)) _ h87 _ h.startAll
            refine q_callX hX h rfl rfl rfl (by decide) Try.func15 rfl rfl rfl (fun a w v L1 S1 hR hb1 h => ?_)
            obtain ⟨k89, rfl, rfl, hv90, _⟩ := hR
            obtain ⟨hs91, hl92⟩ := hv90
            have hq93 := hs91.fl (S' := S13) fl_8
            replace HS := h.m.pick [0, 1, 2] [.sn S13, .box g6 23 csa2, .box g5 23 csa1] (by decide) rfl
            refine hK _ _ ⟨fun _ _ => HS, ?_⟩
            clear hK
            refine d_three 5 6 7 (by kernel_rfl) (d_one 5 rfl _ (fun K hK => ?_)) (d_one 6 rfl _ (fun K hK => ?_)) (d_one 7 rfl _ (fun K hK => ?_))
            · have hX := aes_Cipher_Encrypt_ok Fu (S0 := snapAll _) g81 x80.1 (hp82.mono (h.m.leAll (i := 0) rfl)) csa2 a2 ((tyA 16 ty8).mono (h.m.leAll (i := 0) rfl) (show (tyA 16 ty8).rep S13 csa2 a2 from ⟨(hs3.mono le15), hl4⟩)) _ h95 _ h.startAll
              refine q_callX hX h rfl rfl rfl (by decide) Try.func15 rfl rfl rfl (fun a w v L1 S1 hR hb1 h => ?_)
              obtain ⟨k97, rfl, rfl, hv98, _⟩ := hR
              obtain ⟨hs99, hl100⟩ := hv98
              have hq101 := hs99.fl (S' := S13) fl_8
              replace HS := h.m.pick [0, 1, 2] [.sn S13, .box g6 23 csa2, .box g5 23 csa1] (by decide) rfl
              refine hK _ _ ⟨fun _ _ => HS, ?_⟩
              clear hK
              refine d_two 6 7 (by kernel_rfl) (d_one 6 rfl _ (fun K hK => ?_)) (d_one 7 rfl _ (fun K hK => ?_))
              · refine s_alloc h rfl rfl rfl (by decide) zi_A16_uint8 rfl (fun a w g102 h => ?_)
                replace HS := h.m.pick [1, 2, 3] [.sn S13, .box g6 23 csa2, .box g5 23 csa1] (by decide) rfl
                refine hK _ _ ⟨fun _ _ => HS, ?_⟩
                clear hK
                refine d_alone 7 rfl (by kernel_rfl) (fun K hK => ?_)
                refine s_alloc h rfl rfl rfl (by decide) zi_A16_uint8 rfl (fun a w g103 h => ?_)
                replace HS := h.m.pick [2, 3, 4] [.sn S13, .box g6 23 csa2, .box g5 23 csa1] (by decide) rfl
                refine hK _ _ (fun _ _ => HS) ?_
                clear hK
                refine d_alone 8 rfl (by kernel_rfl) (fun K hK => ?_)
                refine s_stW h rfl rfl rfl ag_A16_uint8 rfl (es := k89) rfl ((hq93).len.trans (by rw [hl92]; rfl)) (hq93).one 1 rfl (by first | rfl | simp_all) (fun a w h => ?_)
                replace HS := h.m.pick [2, 3, 4] [.sn S13, .box g6 23 csa2, .box g5 23 csa1] (by decide) rfl
                refine hK _ _ (fun _ _ => HS) ?_
                clear hK
                refine d_alone 9 rfl (by kernel_rfl) (fun K hK => ?_)
                refine s_stW h rfl rfl rfl ag_A16_uint8 rfl (es := k97) rfl ((hq101).len.trans (by rw [hl100]; rfl)) (hq101).one 0 rfl (by first | rfl | simp_all) (fun a w h => ?_)
                replace HS := h.m.pick [2, 3, 4] [.sn S13, .box g6 23 csa2, .box g5 23 csa1] (by decide) rfl
                refine hK _ _ (fun _ _ => HS) ?_
                clear hK
                refine d_done (by kernel_rfl) (HE _ _ ?_) _
                refine e_thenN ?_
                have h := h.pick [4, 3, 1, 0, 2] (by decide) rfl
                exact ⟨g102, k89, g103, k97, hq93, hl92, hq101, hl100, h.has (by exact ⟨rfl, rfl, rfl, rfl, rfl, trivial⟩)⟩
              · refine s_alloc h rfl rfl rfl (by decide) zi_A16_uint8 rfl (fun a w g103 h => ?_)
                replace HS := h.m.pick [1, 2, 3] [.sn S13, .box g6 23 csa2, .box g5 23 csa1] (by decide) rfl
                refine hK _ _ ⟨fun _ _ => HS, ?_⟩
                clear hK
                refine d_alone 6 rfl (by kernel_rfl) (fun K hK => ?_)
                refine s_alloc h rfl rfl rfl (by decide) zi_A16_uint8 rfl (fun a w g102 h => ?_)
                replace HS := h.m.pick [2, 3, 4] [.sn S13, .box g6 23 csa2, .box g5 23 csa1] (by decide) rfl
                refine hK _ _ (fun _ _ => HS) ?_
                clear hK
                refine d_alone 8 rfl (by kernel_rfl) (fun K hK => ?_)
                refine s_stW h rfl rfl rfl ag_A16_uint8 rfl (es := k89) rfl ((hq93).len.trans (by rw [hl92]; rfl)) (hq93).one 0 rfl (by first | rfl | simp_all) (fun a w h => ?_)
                replace HS := h.m.pick [2, 3, 4] [.sn S13, .box g6 23 csa2, .box g5 23 csa1] (by decide) rfl
                refine hK _ _ (fun _ _ => HS) ?_
                clear hK
                refine d_alone 9 rfl (by kernel_rfl) (fun K hK => ?_)
                refine s_stW h rfl rfl rfl ag_A16_uint8 rfl (es := k97) rfl ((hq101).len.trans (by rw [hl100]; rfl)) (hq101).one 1 rfl (by first | rfl | simp_all) (fun a w h => ?_)
                replace HS := h.m.pick [2, 3, 4] [.sn S13, .box g6 23 csa2, .box g5 23 csa1] (by decide) rfl
                refine hK _ _ (fun _ _ => HS) ?_
                clear hK
                refine d_done (by kernel_rfl) (HE _ _ ?_) _
                refine e_thenN ?_
                have h := h.pick [4, 3, 0, 1, 2] (by decide) rfl
                exact ⟨g102, k89, g103, k97, hq93, hl92, hq101, hl100, h.has (by exact ⟨rfl, rfl, rfl, rfl, rfl, trivial⟩)⟩
            · refine s_alloc h rfl rfl rfl (by decide) zi_A16_uint8 rfl (fun a w g102 h => ?_)
              replace HS := h.m.pick [1, 2, 3] [.sn S13, .box g6 23 csa2, .box g5 23 csa1] (by decide) rfl
              refine hK _ _ ⟨fun _ _ => HS, ?_⟩
              clear hK
              refine d_two 5 7 (by kernel_rfl) (d_one 5 rfl _ (fun K hK => ?_)) (d_one 7 rfl _ (fun K hK => ?_))
              · have hX := aes_Cipher_Encrypt_ok Fu (S0 := snapAll _) g81 x80.1 (hp82.mono (h.m.leAll (i := 1) rfl)) csa2 a2 ((tyA 16 ty8).mono (h.m.leAll (i := 1) rfl) (show (tyA 16 ty8).rep S13 csa2 a2 from ⟨(hs3.mono le15), hl4⟩)) _ h95 _ h.startAll
                refine q_callX hX h rfl rfl rfl (by decide) Try.func15 rfl rfl rfl (fun a w v L1 S1 hR hb1 h => ?_)
                obtain ⟨k97, rfl, rfl, hv98, _⟩ := hR
                obtain ⟨hs99, hl100⟩ := hv98
                have hq101 := hs99.fl (S' := S13) fl_8
                replace HS := h.m.pick [1, 2, 3] [.sn S13, .box g6 23 csa2, .box g5 23 csa1] (by decide) rfl
                refine hK _ _ ⟨fun _ _ => HS, ?_⟩
                clear hK
                refine d_alone 7 rfl (by kernel_rfl) (fun K hK => ?_)
                refine s_alloc h rfl rfl rfl (by decide) zi_A16_uint8 rfl (fun a w g103 h => ?_)
                replace HS := h.m.pick [2, 3, 4] [.sn S13, .box g6 23 csa2, .box g5 23 csa1] (by decide) rfl
                refine hK _ _ (fun _ _ => HS) ?_
                clear hK
                refine d_alone 8 rfl (by kernel_rfl) (fun K hK => ?_)
                refine s_stW h rfl rfl rfl ag_A16_uint8 rfl (es := k89) rfl ((hq93).len.trans (by rw [hl92]; rfl)) (hq93).one 1 rfl (by first | rfl | simp_all) (fun a w h => ?_)
                replace HS := h.m.pick [2, 3, 4] [.sn S13, .box g6 23 csa2, .box g5 23 csa1] (by decide) rfl
                refine hK _ _ (fun _ _ => HS) ?_
                clear hK
                refine d_alone 9 rfl (by kernel_rfl) (fun K hK => ?_)
                refine s_stW h rfl rfl rfl ag_A16_uint8 rfl (es := k97) rfl ((hq101).len.trans (by rw [hl100]; rfl)) (hq101).one 0 rfl (by first | rfl | simp_all) (fun a w h => ?_)
                replace HS := h.m.pick [2, 3, 4] [.sn S13, .box g6 23 csa2, .box g5 23 csa1] (by decide) rfl
                refine hK _ _ (fun _ _ => HS) ?_
                clear hK
                refine d_done (by kernel_rfl) (HE _ _ ?_) _
                refine e_thenN ?_
                have h := h.pick [4, 3, 1, 0, 2] (by decide) rfl
                exact ⟨g102, k89, g103, k97, hq93, hl92, hq101, hl100, h.has (by exact ⟨rfl, rfl, rfl, rfl, rfl, trivial⟩)⟩
              · refine s_alloc h rfl rfl rfl (by decide) zi_A16_uint8 rfl (fun a w g103 h => ?_)
                replace HS := h.m.pick [2, 3, 4] [.sn S13, .box g6 23 csa2, .box g5 23 csa1] (by decide) rfl
                refine hK _ _ ⟨fun _ _ => HS, ?_⟩
                clear hK
                refine d_alone 5 rfl (by kernel_rfl) (fun K hK => ?_)
                have hX := aes_Cipher_Encrypt_ok Fu (S0 := snapAll _) g81 x80.1 (hp82.mono (h.m.leAll (i := 2) rfl)) csa2 a2 ((tyA 16 ty8).mono (h.m.leAll (i := 2) rfl) (show (tyA 16 ty8).rep S13 csa2 a2 from ⟨(hs3.mono le15), hl4⟩)) _ h95 _ h.startAll
                refine q_callX hX h rfl rfl rfl (by decide) Try.func15 rfl rfl rfl (fun a w v L1 S1 hR hb1 h => ?_)
                obtain ⟨k97, rfl, rfl, hv98, _⟩ := hR
                obtain ⟨hs99, hl100⟩ := hv98
                have hq101 := hs99.fl (S' := S13) fl_8
                replace HS := h.m.pick [2, 3, 4] [.sn S13, .box g6 23 csa2, .box g5 23 csa1] (by decide) rfl
                refine hK _ _ (fun _ _ => HS) ?_
                clear hK
                refine d_alone 8 rfl (by kernel_rfl) (fun K hK => ?_)
                refine s_stW h rfl rfl rfl ag_A16_uint8 rfl (es := k89) rfl ((hq93).len.trans (by rw [hl92]; rfl)) (hq93).one 1 rfl (by first | rfl | simp_all) (fun a w h => ?_)
                replace HS := h.m.pick [2, 3, 4] [.sn S13, .box g6 23 csa2, .box g5 23 csa1] (by decide) rfl
                refine hK _ _ (fun _ _ => HS) ?_
                clear hK
                refine d_alone 9 rfl (by kernel_rfl) (fun K hK => ?_)
                refine s_stW h rfl rfl rfl ag_A16_uint8 rfl (es := k97) rfl ((hq101).len.trans (by rw [hl100]; rfl)) (hq101).one 0 rfl (by first | rfl | simp_all) (fun a w h => ?_)
                replace HS := h.m.pick [2, 3, 4] [.sn S13, .box g6 23 csa2, .box g5 23 csa1] (by decide) rfl
                refine hK _ _ (fun _ _ => HS) ?_
                clear hK
                refine d_done (by kernel_rfl) (HE _ _ ?_) _
                refine e_thenN ?_
                have h := h.pick [4, 3, 1, 0, 2] (by decide) rfl
                exact ⟨g102, k89, g103, k97, hq93, hl92, hq101, hl100, h.has (by exact ⟨rfl, rfl, rfl, rfl, rfl, trivial⟩)⟩
            · refine s_alloc h rfl rfl rfl (by decide) zi_A16_uint8 rfl (fun a w g103 h => ?_)
              replace HS := h.m.pick [1, 2, 3] [.sn S13, .box g6 23 csa2, .box g5 23 csa1] (by decide) rfl
              refine hK _ _ ⟨fun _ _ => HS, ?_⟩
              clear hK
              refine d_two 5 6 (by kernel_rfl) (d_one 5 rfl _ (fun K hK => ?_)) (d_one 6 rfl _ (fun K hK => ?_))
              · have hX := aes_Cipher_Encrypt_ok Fu (S0 := snapAll _) g81 x80.1 (hp82.mono (h.m.leAll (i := 1) rfl)) csa2 a2 ((tyA 16 ty8).mono (h.m.leAll (i := 1) rfl) (show (tyA 16 ty8).rep S13 csa2 a2 from ⟨(hs3.mono le15), hl4⟩)) _ h95 _ h.startAll
                refine q_callX hX h rfl rfl rfl (by decide) Try.func15 rfl rfl rfl (fun a w v L1 S1 hR hb1 h => ?_)
                obtain ⟨k97, rfl, rfl, hv98, _⟩ := hR
                obtain ⟨hs99, hl100⟩ := hv98
                have hq101 := hs99.fl (S' := S13) fl_8
                replace HS := h.m.pick [1, 2, 3] [.sn S13, .box g6 23 csa2, .box g5 23 csa1] (by decide) rfl
                refine hK _ _ ⟨fun _ _ => HS, ?_⟩
                clear hK
                refine d_alone 6 rfl (by kernel_rfl) (fun K hK => ?_)
                refine s_alloc h rfl rfl rfl (by decide) zi_A16_uint8 rfl (fun a w g102 h => ?_)
                replace HS := h.m.pick [2, 3, 4] [.sn S13, .box g6 23 csa2, .box g5 23 csa1] (by decide) rfl
                refine hK _ _ (fun _ _ => HS) ?_
                clear hK
                refine d_alone 8 rfl (by kernel_rfl) (fun K hK => ?_)
                refine s_stW h rfl rfl rfl ag_A16_uint8 rfl (es := k89) rfl ((hq93).len.trans (by rw [hl92]; rfl)) (hq93).one 0 rfl (by first | rfl | simp_all) (fun a w h => ?_)
                replace HS := h.m.pick [2, 3, 4] [.sn S13, .box g6 23 csa2, .box g5 23 csa1] (by decide) rfl
                refine hK _ _ (fun _ _ => HS) ?_
                clear hK
                refine d_alone 9 rfl (by kernel_rfl) (fun K hK => ?_)
                refine s_stW h rfl rfl rfl ag_A16_uint8 rfl (es := k97) rfl ((hq101).len.trans (by rw [hl100]; rfl)) (hq101).one 1 rfl (by first | rfl | simp_all) (fun a w h => ?_)
                replace HS := h.m.pick [2, 3, 4] [.sn S13, .box g6 23 csa2, .box g5 23 csa1] (by decide) rfl
                refine hK _ _ (fun _ _ => HS) ?_
                clear hK
                refine d_done (by kernel_rfl) (HE _ _ ?_) _
                refine e_thenN ?_
                have h := h.pick [4, 3, 0, 1, 2] (by decide) rfl
                exact ⟨g102, k89, g103, k97, hq93, hl92, hq101, hl100, h.has (by exact ⟨rfl, rfl, rfl, rfl, rfl, trivial⟩)⟩
              · refine s_alloc h rfl rfl rfl (by decide) zi_A16_uint8 rfl (fun a w g102 h => ?_)
                replace HS := h.m.pick [2, 3, 4] [.sn S13, .box g6 23 csa2, .box g5 23 csa1] (by decide) rfl
                refine hK _ _ ⟨fun _ _ => HS, ?_⟩
                clear hK
                refine d_alone 5 rfl (by kernel_rfl) (fun K hK => ?_)
                have hX := aes_Cipher_Encrypt_ok Fu (S0 := snapAll _) g81 x80.1 (hp82.mono (h.m.leAll (i := 2) rfl)) csa2 a2 ((tyA 16 ty8).mono (h.m.leAll (i := 2) rfl) (show (tyA 16 ty8).rep S13 csa2 a2 from ⟨(hs3.mono le15), hl4⟩)) _ h95 _ h.startAll
                refine q_callX hX h rfl rfl rfl (by decide) Try.func15 rfl rfl rfl (fun a w v L1 S1 hR hb1 h => ?_)
                obtain ⟨k97, rfl, rfl, hv98, _⟩ := hR
                obtain ⟨hs99, hl100⟩ := hv98
                have hq101 := hs99.fl (S' := S13) fl_8
                replace HS := h.m.pick [2, 3, 4] [.sn S13, .box g6 23 csa2, .box g5 23 csa1] (by decide) rfl
                refine hK _ _ (fun _ _ => HS) ?_
                clear hK
                refine d_alone 8 rfl (by kernel_rfl) (fun K hK => ?_)
                refine s_stW h rfl rfl rfl ag_A16_uint8 rfl (es := k89) rfl ((hq93).len.trans (by rw [hl92]; rfl)) (hq93).one 0 rfl (by first | rfl | simp_all) (fun a w h => ?_)
                replace HS := h.m.pick [2, 3, 4] [.sn S13, .box g6 23 csa2, .box g5 23 csa1] (by decide) rfl
                refine hK _ _ (fun _ _ => HS) ?_
                clear hK
                refine d_alone 9 rfl (by kernel_rfl) (fun K hK => ?_)
                refine s_stW h rfl rfl rfl ag_A16_uint8 rfl (es := k97) rfl ((hq101).len.trans (by rw [hl100]; rfl)) (hq101).one 1 rfl (by first | rfl | simp_all) (fun a w h => ?_)
                replace HS := h.m.pick [2, 3, 4] [.sn S13, .box g6 23 csa2, .box g5 23 csa1] (by decide) rfl
                refine hK _ _ (fun _ _ => HS) ?_
                clear hK
                refine d_done (by kernel_rfl) (HE _ _ ?_) _
                refine e_thenN ?_
                have h := h.pick [4, 3, 0, 1, 2] (by decide) rfl
                exact ⟨g102, k89, g103, k97, hq93, hl92, hq101, hl100, h.has (by exact ⟨rfl, rfl, rfl, rfl, rfl, trivial⟩)⟩
          · refine s_alloc h rfl rfl rfl (by decide) zi_A16_uint8 rfl (fun a w g102 h => ?_)
            replace HS := h.m.pick [1, 2, 3] [.sn S13, .box g6 23 csa2, .box g5 23 csa1] (by decide) rfl
            refine hK _ _ ⟨fun _ _ => HS, ?_⟩
            clear hK
            refine d_two 2 7 (by kernel_rfl) (d_one 2 rfl _ (fun K hK => ?_)) (d_one 7 rfl _ (fun K hK => ?_))
            · have hX := aes_Cipher_Encrypt_ok Fu (S0 := snapAll _) g81 x80.1 (hp82.mono (h.m.leAll (i := 1) rfl)) csa1 a1 ((tyA 16 ty8).mono (h.m.leAll (i := 1) rfl) (show (tyA 16 ty8).rep S13 csa1 a1 from ⟨(hs1.mono le15), hl2⟩)) _ h87 _ h.startAll
              refine q_callX hX h rfl rfl rfl (by decide) Try.func15 rfl rfl rfl (fun a w v L1 S1 hR hb1 h => ?_)
              obtain ⟨k89, rfl, rfl, hv90, _⟩ := hR
              obtain ⟨hs91, hl92⟩ := hv90
              have hq93 := hs91.fl (S' := S13) fl_8
              replace HS := h.m.pick [1, 2, 3] [.sn S13, .box g6 23 csa2, .box g5 23 csa1] (by decide) rfl
              refine hK _ _ ⟨fun _ _ => HS, ?_⟩
              clear hK
              refine d_two 5 7 (by kernel_rfl) (d_one 5 rfl _ (fun K hK => ?_)) (d_one 7 rfl _ (fun K hK => ?_))
              · have hX := aes_Cipher_Encrypt_ok Fu (S0 := snapAll _) g81 x80.1 (hp82.mono (h.m.leAll (i := 1) rfl)) csa2 a2 ((tyA 16 ty8).mono (h.m.leAll (i := 1) rfl) (show (tyA 16 ty8).rep S13 csa2 a2 from ⟨(hs3.mono le15), hl4⟩)) _ h95 _ h.startAll
                refine q_callX hX h rfl rfl rfl (by decide) Try.func15 rfl rfl rfl (fun a w v L1 S1 hR hb1 h => ?_)
                obtain ⟨k97, rfl, rfl, hv98, _⟩ := hR
                obtain ⟨hs99, hl100⟩ := hv98
                have hq101 := hs99.fl (S' := S13) fl_8
                replace HS := h.m.pick [1, 2, 3] [.sn S13, .box g6 23 csa2, .box g5 23 csa1] (by decide) rfl
                refine hK _ _ ⟨fun _ _ => HS, ?_⟩
                clear hK
                refine d_alone 7 rfl (by kernel_rfl) (fun K hK => ?_)
                refine s_alloc h rfl rfl rfl (by decide) zi_A16_uint8 rfl (fun a w g103 h => ?_)
                replace HS := h.m.pick [2, 3, 4] [.sn S13, .box g6 23 csa2, .box g5 23 csa1] (by decide) rfl
                refine hK _ _ (fun _ _ => HS) ?_
                clear hK
                refine d_alone 8 rfl (by kernel_rfl) (fun K hK => ?_)
                refine s_stW h rfl rfl rfl ag_A16_uint8 rfl (es := k89) rfl ((hq93).len.trans (by rw [hl92]; rfl)) (hq93).one 1 rfl (by first | rfl | simp_all) (fun a w h => ?_)
                replace HS := h.m.pick [2, 3, 4] [.sn S13, .box g6 23 csa2, .box g5 23 csa1] (by decide) rfl
                refine hK _ _ (fun _ _ => HS) ?_
                clear hK
                refine d_alone 9 rfl (by kernel_rfl) (fun K hK => ?_)
                refine s_stW h rfl rfl rfl ag_A16_uint8 rfl (es := k97) rfl ((hq101).len.trans (by rw [hl100]; rfl)) (hq101).one 0 rfl (by first | rfl | simp_all) (fun a w h => ?_)
                replace HS := h.m.pick [2, 3, 4] [.sn S13, .box g6 23 csa2, .box g5 23 csa1] (by decide) rfl
                refine hK _ _ (fun _ _ => HS) ?_
                clear hK
                refine d_done (by kernel_rfl) (HE _ _ ?_) _
                refine e_thenN ?_
                have h := h.pick [4, 3, 1, 0, 2] (by decide) rfl
                exact ⟨g102, k89, g103, k97, hq93, hl92, hq101, hl100, h.has (by exact ⟨rfl, rfl, rfl, rfl, rfl, trivial⟩)⟩
              · refine s_alloc h rfl rfl rfl (by decide) zi_A16_uint8 rfl (fun a w g103 h => ?_)
                replace HS := h.m.pick [2, 3, 4] [.sn S13, .box g6 23 csa2, .box g5 23 csa1] (by decide) rfl
                refine hK _ _ ⟨fun _ _ => HS, ?_⟩
                clear hK
                refine d_alone 5 rfl (by kernel_rfl) (fun K hK => ?_)
                have hX := aes_Cipher_Encrypt_ok Fu (S0 := snapAll _) g81 x80.1 (hp82.mono (h.m.leAll (i := 2) rfl)) csa2 a2 ((tyA 16 ty8).mono (h.m.leAll (i := 2) rfl) (show (tyA 16 ty8).rep S13 csa2 a2 from ⟨(hs3.mono le15), hl4⟩)) _ h95 _ h.startAll
                refine q_callX hX h rfl rfl rfl (by decide) Try.func15 rfl rfl rfl (fun a w v L1 S1 hR hb1 h => ?_)
                obtain ⟨k97, rfl, rfl, hv98, _⟩ := hR
                obtain ⟨hs99, hl100⟩ := hv98
                have hq101 := hs99.fl (S' := S13) fl_8
                replace HS := h.m.pick [2, 3, 4] [.sn S13, .box g6 23 csa2, .box g5 23 csa1] (by decide) rfl
                refine hK _ _ (fun _ _ => HS) ?_
                clear hK
                refine d_alone 8 rfl (by kernel_rfl) (fun K hK => ?_)
                refine s_stW h rfl rfl rfl ag_A16_uint8 rfl (es := k89) rfl ((hq93).len.trans (by rw [hl92]; rfl)) (hq93).one 1 rfl (by first | rfl | simp_all) (fun a w h => ?_)
                replace HS := h.m.pick [2, 3, 4] [.sn S13, .box g6 23 csa2, .box g5 23 csa1] (by decide) rfl
                refine hK _ _ (fun _ _ => HS) ?_
                clear hK
                refine d_alone 9 rfl (by kernel_rfl) (fun K hK => ?_)
                refine s_stW h rfl rfl rfl ag_A16_uint8 rfl (es := k97) rfl ((hq101).len.trans (by rw [hl100]; rfl)) (hq101).one 0 rfl (by first | rfl | simp_all) (fun a w h => ?_)
                replace HS := h.m.pick [2, 3, 4] [.sn S13, .box g6 23 csa2, .box g5 23 csa1] (by decide) rfl
                refine hK _ _ (fun _ _ => HS) ?_
                clear hK
                refine d_done (by kernel_rfl) (HE _ _ ?_) _
                refine e_thenN ?_
                have h := h.pick [4, 3, 1, 0, 2] (by decide) rfl
                exact ⟨g102, k89, g103, k97, hq93, hl92, hq101, hl100, h.has (by exact ⟨rfl, rfl, rfl, rfl, rfl, trivial⟩)⟩
            · refine s_alloc h rfl rfl rfl (by decide) zi_A16_uint8 rfl (fun a w g103 h => ?_)
              replace HS := h.m.pick [2, 3, 4] [.sn S13, .box g6 23 csa2, .box g5 23 csa1] (by decide) rfl
              refine hK _ _ ⟨fun _ _ => HS, ?_⟩
              clear hK
              refine d_alone 2 rfl (by kernel_rfl) (fun K hK => ?_)
              have hX := aes_Cipher_Encrypt_ok Fu (S0 := snapAll _) g81 x80.1 (hp82.mono (h.m.leAll (i := 2) rfl)) csa1 a1 ((tyA 16 ty8).mono (h.m.leAll (i := 2) rfl) (show (tyA 16 ty8).rep S13 csa1 a1 from ⟨(hs1.mono le15), hl2⟩)) _ h87 _ h.startAll
              refine q_callX hX h rfl rfl rfl (by decide) Try.func15 rfl rfl rfl (fun a w v L1 S1 hR hb1 h => ?_)
              obtain ⟨k89, rfl, rfl, hv90, _⟩ := hR
              obtain ⟨hs91, hl92⟩ := hv90
              have hq93 := hs91.fl (S' := S13) fl_8
              replace HS := h.m.pick [2, 3, 4] [.sn S13, .box g6 23 csa2, .box g5 23 csa1] (by decide) rfl
              refine hK _ _ (fun _ _ => HS) ?_
              clear hK
              refine d_alone 5 rfl (by kernel_rfl) (fun K hK => ?_)
              have hX := aes_Cipher_Encrypt_ok Fu (S0 := snapAll _) g81 x80.1 (hp82.mono (h.m.leAll (i := 2) rfl)) csa2 a2 ((tyA 16 ty8).mono (h.m.leAll (i := 2) rfl) (show (tyA 16 ty8).rep S13 csa2 a2 from ⟨(hs3.mono le15), hl4⟩)) _ h95 _ h.startAll
              refine q_callX hX h rfl rfl rfl (by decide) Try.func15 rfl rfl rfl (fun a w v L1 S1 hR hb1 h => ?_)
              obtain ⟨k97, rfl, rfl, hv98, _⟩ := hR
              obtain ⟨hs99, hl100⟩ := hv98
              have hq101 := hs99.fl (S' := S13) fl_8
              replace HS := h.m.pick [2, 3, 4] [.sn S13, .box g6 23 csa2, .box g5 23 csa1] (by decide) rfl
              refine hK _ _ (fun _ _ => HS) ?_
              clear hK
              refine d_alone 8 rfl (by kernel_rfl) (fun K hK => ?_)
              refine s_stW h rfl rfl rfl ag_A16_uint8 rfl (es := k89) rfl ((hq93).len.trans (by rw [hl92]; rfl)) (hq93).one 1 rfl (by first | rfl | simp_all) (fun a w h => ?_)
              replace HS := h.m.pick [2, 3, 4] [.sn S13, .box g6 23 csa2, .box g5 23 csa1] (by decide) rfl
              refine hK _ _ (fun _ _ => HS) ?_
              clear hK
              refine d_alone 9 rfl (by kernel_rfl) (fun K hK => ?_)
              refine s_stW h rfl rfl rfl ag_A16_uint8 rfl (es := k97) rfl ((hq101).len.trans (by rw [hl100]; rfl)) (hq101).one 0 rfl (by first | rfl | simp_all) (fun a w h => ?_)
              replace HS := h.m.pick [2, 3, 4] [.sn S13, .box g6 23 csa2, .box g5 23 csa1] (by decide) rfl
              refine hK _ _ (fun _ _ => HS) ?_
              clear hK
              refine d_done (by kernel_rfl) (HE _ _ ?_) _
              refine e_thenN ?_
              have h := h.pick [4, 3, 1, 0, 2] (by decide) rfl
              exact ⟨g102, k89, g103, k97, hq93, hl92, hq101, hl100, h.has (by exact ⟨rfl, rfl, rfl, rfl, rfl, trivial⟩)⟩
          · refine s_alloc h rfl rfl rfl (by decide) zi_A16_uint8 rfl (fun a w g103 h => ?_)
            replace HS := h.m.pick [1, 2, 3] [.sn S13, .box g6 23 csa2, .box g5 23 csa1] (by decide) rfl
            refine hK _ _ ⟨fun _ _ => HS, ?_⟩
            clear hK
            refine d_two 2 6 (by kernel_rfl) (d_one 2 rfl _ (fun K hK => ?_)) (d_one 6 rfl _ (fun K hK => ?_))
            · have hX := aes_Cipher_Encrypt_ok Fu (S0 := snapAll _) g81 x80.1 (hp82.mono (h.m.leAll (i := 1) rfl)) csa1 a1 ((tyA 16 ty8).mono (h.m.leAll (i := 1) rfl) (show (tyA 16 ty8).rep S13 csa1 a1 from ⟨(hs1.mono le15), hl2⟩)) _ h87 _ h.startAll
              refine q_callX hX h rfl rfl rfl (by decide) Try.func15 rfl rfl rfl (fun a w v L1 S1 hR hb1 h => ?_)
              obtain ⟨k89, rfl, rfl, hv90, _⟩ := hR
              obtain ⟨hs91, hl92⟩ := hv90
              have hq93 := hs91.fl (S' := S13) fl_8
              replace HS := h.m.pick [1, 2, 3] [.sn S13, .box g6 23 csa2, .box g5 23 csa1] (by decide) rfl
              refine hK _ _ ⟨fun _ _ => HS, ?_⟩
              clear hK
              refine d_two 5 6 (by kernel_rfl) (d_one 5 rfl _ (fun K hK => ?_)) (d_one 6 rfl _ (fun K hK => ?_))
              · have hX := aes_Cipher_Encrypt_ok Fu (S0 := snapAll _) g81 x80.1 (hp82.mono (h.m.leAll (i := 1) rfl)) csa2 a2 ((tyA 16 ty8).mono (h.m.leAll (i := 1) rfl) (show (tyA 16 ty8).rep S13 csa2 a2 from ⟨(hs3.mono le15), hl4⟩)) _ h95 _ h.startAll
                refine q_callX hX h rfl rfl rfl (by decide) Try.func15 rfl rfl rfl (fun a w v L1 S1 hR hb1 h => ?_)
                obtain ⟨k97, rfl, rfl, hv98, _⟩ := hR
                obtain ⟨hs99, hl100⟩ := hv98
                have hq101 := hs99.fl (S' := S13) fl_8
                replace HS := h.m.pick [1, 2, 3] [.sn S13, .box g6 23 csa2, .box g5 23 csa1] (by decide) rfl
                refine hK _ _ ⟨fun _ _ => HS, ?_⟩
                clear hK
                refine d_alone 6 rfl (by kernel_rfl) (fun K hK => ?_)
                refine s_alloc h rfl rfl rfl (by decide) zi_A16_uint8 rfl (fun a w g102 h => ?_)
                replace HS := h.m.pick [2, 3, 4] [.sn S13, .box g6 23 csa2, .box g5 23 csa1] (by decide) rfl
                refine hK _ _ (fun _ _ => HS) ?_
                clear hK
                refine d_alone 8 rfl (by kernel_rfl) (fun K hK => ?_)
                refine s_stW h rfl rfl rfl ag_A16_uint8 rfl (es := k89) rfl ((hq93).len.trans (by rw [hl92]; rfl)) (hq93).one 0 rfl (by first | rfl | simp_all) (fun a w h => ?_)
                replace HS := h.m.pick [2, 3, 4] [.sn S13, .box g6 23 csa2, .box g5 23 csa1] (by decide) rfl
                refine hK _ _ (fun _ _ => HS) ?_
                clear hK
                refine d_alone 9 rfl (by kernel_rfl) (fun K hK => ?_)
                refine s_stW h rfl rfl rfl ag_A16_uint8 rfl (es := k97) rfl ((hq101).len.trans (by rw [hl100]; rfl)) (hq101).one 1 rfl (by first | rfl | simp_all) (fun a w h => ?_)
                replace HS := h.m.pick [2, 3, 4] [.sn S13, .box g6 23 csa2, .box g5 23 csa1] (by decide) rfl
                refine hK _ _ (fun _ _ => HS) ?_
                clear hK
                refine d_done (by kernel_rfl) (HE _ _ ?_) _
                refine e_thenN ?_
                have h := h.pick [4, 3, 0, 1, 2] (by decide) rfl
                exact ⟨g102, k89, g103, k97, hq93, hl92, hq101, hl100, h.has (by exact ⟨rfl, rfl, rfl, rfl, rfl, trivial⟩)⟩
              · refine s_alloc h rfl rfl rfl (by decide) zi_A16_uint8 rfl (fun a w g102 h => ?_)
                replace HS := h.m.pick [2, 3, 4] [.sn S13, .box g6 23 csa2, .box g5 23 csa1] (by decide) rfl
                refine hK _ _ ⟨fun _ _ => HS, ?_⟩
                clear hK
                refine d_alone 5 rfl (by kernel_rfl) (fun K hK => ?_)
                have hX := aes_Cipher_Encrypt_ok Fu (S0 := snapAll _) g81 x80.1 (hp82.mono (h.m.leAll (i := 2) rfl)) csa2 a2 ((tyA 16 ty8).mono (h.m.leAll (i := 2) rfl) (show (tyA 16 ty8).rep S13 csa2 a2 from ⟨(hs3.mono le15), hl4⟩)) _ h95 _ h.startAll
                refine q_callX hX h rfl rfl rfl (by decide) Try.func15 rfl rfl rfl (fun a w v L1 S1 hR hb1 h => ?_)
                obtain ⟨k97, rfl, rfl, hv98, _⟩ := hR
                obtain ⟨hs99, hl100⟩ := hv98
                have hq101 := hs99.fl (S' := S13) fl_8
                replace HS := h.m.pick [2, 3, 4] [.sn S13, .box g6 23 csa2, .box g5 23 csa1] (by decide) rfl
                refine hK _ _ (fun _ _ => HS) ?_
                clear hK
                refine d_alone 8 rfl (by kernel_rfl) (fun K hK => ?_)
                refine s_stW h rfl rfl rfl ag_A16_uint8 rfl (es := k89) rfl ((hq93).len.trans (by rw [hl92]; rfl)) (hq93).one 0 rfl (by first | rfl | simp_all) (fun a w h => ?_)
                replace HS := h.m.pick [2, 3, 4] [.sn S13, .box g6 23 csa2, .box g5 23 csa1] (by decide) rfl
                refine hK _ _ (fun _ _ => HS) ?_
                clear hK
                refine d_alone 9 rfl (by kernel_rfl) (fun K hK => ?_)
                refine s_stW h rfl rfl rfl ag_A16_uint8 rfl (es := k97) rfl ((hq101).len.trans (by rw [hl100]; rfl)) (hq101).one 1 rfl (by first | rfl | simp_all) (fun a w h => ?_)
                replace HS := h.m.pick [2, 3, 4] [.sn S13, .box g6 23 csa2, .box g5 23 csa1] (by decide) rfl
                refine hK _ _ (fun _ _ => HS) ?_
                clear hK
                refine d_done (by kernel_rfl) (HE _ _ ?_) _
                refine e_thenN ?_
                have h := h.pick [4, 3, 0, 1, 2] (by decide) rfl
                exact ⟨g102, k89, g103, k97, hq93, hl92, hq101, hl100, h.has (by exact ⟨rfl, rfl, rfl, rfl, rfl, trivial⟩)⟩
            · refine s_alloc h rfl rfl rfl (by decide) zi_A16_uint8 rfl (fun a w g102 h => ?_)
              replace HS := h.m.pick [2, 3, 4] [.sn S13, .box g6 23 csa2, .box g5 23 csa1] (by decide) rfl
              refine hK _ _ ⟨fun _ _ => HS, ?_⟩
              clear hK
              refine d_alone 2 rfl (by kernel_rfl) (fun K hK => ?_)
              have hX := aes_Cipher_Encrypt_ok Fu (S0 := snapAll _) g81 x80.1 (hp82.mono (h.m.leAll (i := 2) rfl)) csa1 a1 ((tyA 16 ty8).mono (h.m.leAll (i := 2) rfl) (show (tyA 16 ty8).rep S13 csa1 a1 from ⟨(hs1.mono le15), hl2⟩)) _ h87 _ h.startAll
              refine q_callX hX h rfl rfl rfl (by decide) Try.func15 rfl rfl rfl (fun a w v L1 S1 hR hb1 h => ?_)
              obtain ⟨k89, rfl, rfl, hv90, _⟩ := hR
              obtain ⟨hs91, hl92⟩ := hv90
              have hq93 := hs91.fl (S' := S13) fl_8
              replace HS := h.m.pick [2, 3, 4] [.sn S13, .box g6 23 csa2, .box g5 23 csa1] (by decide) rfl
              refine hK _ _ (fun _ _ => HS) ?_
              clear hK
              refine d_alone 5 rfl (by kernel_rfl) (fun K hK => ?_)
              have hX := aes_Cipher_Encrypt_ok Fu (S0 := snapAll _) g81 x80.1 (hp82.mono (h.m.leAll (i := 2) rfl)) csa2 a2 ((tyA 16 ty8).mono (h.m.leAll (i := 2) rfl) (show (tyA 16 ty8).rep S13 csa2 a2 from ⟨(hs3.mono le15), hl4⟩)) _ h95 _ h.startAll
              refine q_callX hX h rfl rfl rfl (by decide) Try.func15 rfl rfl rfl (fun a w v L1 S1 hR hb1 h => ?_)
              obtain ⟨k97, rfl, rfl, hv98, _⟩ := hR
              obtain ⟨hs99, hl100⟩ := hv98
              have hq101 := hs99.fl (S' := S13) fl_8
              replace HS := h.m.pick [2, 3, 4] [.sn S13, .box g6 23 csa2, .box g5 23 csa1] (by decide) rfl
              refine hK _ _ (fun _ _ => HS) ?_
              clear hK
              refine d_alone 8 rfl (by kernel_rfl) (fun K hK => ?_)
              refine s_stW h rfl rfl rfl ag_A16_uint8 rfl (es := k89) rfl ((hq93).len.trans (by rw [hl92]; rfl)) (hq93).one 0 rfl (by first | rfl | simp_all) (fun a w h => ?_)
              replace HS := h.m.pick [2, 3, 4] [.sn S13, .box g6 23 csa2, .box g5 23 csa1] (by decide) rfl
              refine hK _ _ (fun _ _ => HS) ?_
              clear hK
              refine d_alone 9 rfl (by kernel_rfl) (fun K hK => ?_)
              refine s_stW h rfl rfl rfl ag_A16_uint8 rfl (es := k97) rfl ((hq101).len.trans (by rw [hl100]; rfl)) (hq101).one 1 rfl (by first | rfl | simp_all) (fun a w h => ?_)
              replace HS := h.m.pick [2, 3, 4] [.sn S13, .box g6 23 csa2, .box g5 23 csa1] (by decide) rfl
              refine hK _ _ (fun _ _ => HS) ?_
              clear hK
              refine d_done (by kernel_rfl) (HE _ _ ?_) _
              refine e_thenN ?_
              have h := h.pick [4, 3, 0, 1, 2] (by decide) rfl
              exact ⟨g102, k89, g103, k97, hq93, hl92, hq101, hl100, h.has (by exact ⟨rfl, rfl, rfl, rfl, rfl, trivial⟩)⟩
        obtain ⟨g102, k104, g103, k107, hs105, hl106, hs108, hl109, h⟩ := h
        refine e_thenN ?_
        refine wp_seq ?_
        -- region 7 draws
        obtain ⟨x110, h111, hf⟩ := bsome hf
        obtain ⟨x118, h119, hf⟩ := bsome hf
        obtain ⟨z126, hz127, hf⟩ := bsome hf
        refine c_fin (fun a w => St 59 w0 (ownL ([] ++ [.sn S0])) [(6, .bool (z126 && ((decide (a1 = a2)) == (decide (x86 = x94)))))] [.sn S13] a w) ?_ (fun a w h => ?_)
        · refine d_start h (Mem _ _ _) 26 26 rfl (by kernel_rfl) (fun _ _ _ _ _ h => h) (fun _ h => h) (fun Q a w HE HN h HS => ?_)
          refine d_takeP h (fun _ => HS) HN 0 rfl (by kernel_rfl) (by kernel_rfl) (by kernel_rfl) (by decide) rfl rfl (by decide) (fun w' => x_move h.k _ rfl rfl) (fun a h => ?_)
          refine d_takeP h (fun _ => HS) HN 1 rfl (by kernel_rfl) (by kernel_rfl) (by kernel_rfl) (by decide) rfl rfl (by decide) (fun w' => x_move h.k _ rfl rfl) (fun a h => ?_)
          refine d_take h HS HN 2 rfl (by kernel_rfl) (by kernel_rfl) (by kernel_rfl) (by kernel_rfl) (by kernel_rfl) rfl rfl (by decide) (fun w' hw => x_ldR h.k rfl ag_A16_uint8 rfl csa1 (((hs1.mono le15)).len.trans (by rw [hl2]; rfl)) (hw.range0 (i := 0) rfl)) (fun a h => ?_)
          refine d_take h HS HN 5 rfl (by kernel_rfl) (by kernel_rfl) (by kernel_rfl) (by kernel_rfl) (by kernel_rfl) rfl rfl (by decide) (fun w' hw => x_ldR h.k rfl ag_A16_uint8 rfl csa1 (((hs1.mono le15)).len.trans (by rw [hl2]; rfl)) (hw.range0 (i := 0) rfl)) (fun a h => ?_)
          refine d_alone 3 rfl (by kernel_rfl) (fun K hK => ?_)
          have hX := aes_Cipher_Decrypt_ok Fu (S0 := snapAll _) g81 x80.1 (hp82.mono (h.m.leAll (i := 4) rfl)) csa1 a1 ((tyA 16 ty8).mono (h.m.leAll (i := 4) rfl) (show (tyA 16 ty8).rep S13 csa1 a1 from ⟨(hs1.mono le15), hl2⟩)) _ h111 _ h.startAll
          refine q_callX hX h rfl rfl rfl (by decide) Try.func18 rfl rfl rfl (fun a w v L1 S1 hR hb1 h => ?_)
          obtain ⟨k113, rfl, rfl, hv114, _⟩ := hR
          obtain ⟨hs115, hl116⟩ := hv114
          have hq117 := hs115.fl (S' := S13) fl_8
          refine hK _ _ (fun _ _ => HS.ext hb1) ?_
          replace HS := HS.ext hb1
          clear hK
          refine d_alone 4 rfl (by kernel_rfl) (fun K hK => ?_)
          have hX := aes_Cipher_Encrypt_ok Fu (S0 := snapAll _) g81 x80.1 (hp82.mono (h.m.leAll (i := 4) rfl)) k113 x110 ((tyA 16 ty8).mono (h.m.leAll (i := 4) rfl) (show (tyA 16 ty8).rep S13 k113 x110 from ⟨hq117, hl116⟩)) _ h119 _ h.startAll
          refine q_callX hX h rfl rfl rfl (by decide) Try.func15 rfl rfl rfl (fun a w v L1 S1 hR hb1 h => ?_)
          obtain ⟨k121, rfl, rfl, hv122, _⟩ := hR
          obtain ⟨hs123, hl124⟩ := hv122
          have hq125 := hs123.fl (S' := S13) fl_8
          refine hK _ _ (fun _ _ => HS.ext hb1) ?_
          replace HS := HS.ext hb1
          clear hK
          refine d_takeP h (fun _ => HS) HN 6 rfl (by kernel_rfl) (by kernel_rfl) (by kernel_rfl) (by decide) rfl rfl (by decide) (fun w' => x_eqlA8 (X := k121) (Y := csa1) h.k rfl Try.underlying23 Try.underlying5 sz_uint8 gda_A16_uint8 rfl rfl hq125 (hs1.mono le15) hl124 hl2) (fun a h => ?_)
          refine d_takeP h (fun _ => HS) HN 7 rfl (by kernel_rfl) (by kernel_rfl) (by kernel_rfl) (by decide) rfl rfl (by decide) (fun w' => x_move h.k _ rfl rfl) (fun a h => ?_)
          refine d_split (t := 41) h rfl (fun hB7 => ?_) (fun hB7 => ?_)
          · rw [if_pos (of_decide_eq_true hB7)] at hz127
            obtain ⟨x128, h129, hz127⟩ := bsome hz127
            obtain ⟨x136, h137, hz127⟩ := bsome hz127
            refine d_takeP h (fun _ => HS) HN 8 rfl (by kernel_rfl) (by kernel_rfl) (by kernel_rfl) (by decide) (by rw [g_want h rfl rfl rfl rfl hB7]; rfl) rfl (by decide) (fun w' => x_move h.k _ rfl rfl) (fun a h => ?_)
            refine d_takeP h (fun _ => HS) HN 9 rfl (by kernel_rfl) (by kernel_rfl) (by kernel_rfl) (by decide) (by rw [g_want h rfl rfl rfl rfl hB7]; rfl) rfl (by decide) (fun w' => x_move h.k _ rfl rfl) (fun a h => ?_)
            refine d_takeY h HS HN 10 rfl (by kernel_rfl) (by kernel_rfl) (by kernel_rfl) (by kernel_rfl) (by kernel_rfl) (by rw [g_want h rfl rfl rfl rfl hB7]; rfl) rfl (by decide) (fun w' hw => x_ldR h.k rfl ag_A16_uint8 rfl csa1 (((hs1.mono le15)).len.trans (by rw [hl2]; rfl)) (hw.range0 (i := 0) rfl)) (fun a h => ?_)
            refine d_takeY h HS HN 13 rfl (by kernel_rfl) (by kernel_rfl) (by kernel_rfl) (by kernel_rfl) (by kernel_rfl) (by rw [g_want h rfl rfl rfl rfl hB7]; rfl) rfl (by decide) (fun w' hw => x_ldR h.k rfl ag_A16_uint8 rfl csa1 (((hs1.mono le15)).len.trans (by rw [hl2]; rfl)) (hw.range0 (i := 0) rfl)) (fun a h => ?_)
            refine d_alone 11 rfl (by kernel_rfl) (fun K hK => ?_)
            refine g_yes (j := 7) (t := 41) h rfl rfl rfl rfl hB7 ?_
            have hX := aes_Cipher_Encrypt_ok Fu (S0 := snapAll _) g81 x80.1 (hp82.mono (h.m.leAll (i := 4) rfl)) csa1 a1 ((tyA 16 ty8).mono (h.m.leAll (i := 4) rfl) (show (tyA 16 ty8).rep S13 csa1 a1 from ⟨(hs1.mono le15), hl2⟩)) _ h129 _ h.startAll
            refine q_callX hX h rfl rfl rfl (by decide) Try.func15 rfl rfl rfl (fun a w v L1 S1 hR hb1 h => ?_)
            obtain ⟨k131, rfl, rfl, hv132, _⟩ := hR
            obtain ⟨hs133, hl134⟩ := hv132
            have hq135 := hs133.fl (S' := S13) fl_8
            refine hK _ _ (fun _ _ => HS.ext hb1) ?_
            replace HS := HS.ext hb1
            clear hK
            refine d_alone 12 rfl (by kernel_rfl) (fun K hK => ?_)
            refine g_yes (j := 7) (t := 41) h rfl rfl rfl rfl hB7 ?_
            have hX := aes_Cipher_Decrypt_ok Fu (S0 := snapAll _) g81 x80.1 (hp82.mono (h.m.leAll (i := 4) rfl)) k131 x128 ((tyA 16 ty8).mono (h.m.leAll (i := 4) rfl) (show (tyA 16 ty8).rep S13 k131 x128 from ⟨hq135, hl134⟩)) _ h137 _ h.startAll
            refine q_callX hX h rfl rfl rfl (by decide) Try.func18 rfl rfl rfl (fun a w v L1 S1 hR hb1 h => ?_)
            obtain ⟨k139, rfl, rfl, hv140, _⟩ := hR
            obtain ⟨hs141, hl142⟩ := hv140
            have hq143 := hs141.fl (S' := S13) fl_8
            refine hK _ _ (fun _ _ => HS.ext hb1) ?_
            replace HS := HS.ext hb1
            clear hK
            refine d_takeP h (fun _ => HS) HN 14 rfl (by kernel_rfl) (by kernel_rfl) (by kernel_rfl) (by decide) (by rw [g_want h rfl rfl rfl rfl hB7]; rfl) rfl (by decide) (fun w' => x_eqlA8 (X := k139) (Y := csa1) h.k rfl Try.underlying23 Try.underlying5 sz_uint8 gda_A16_uint8 rfl rfl hq143 (hs1.mono le15) hl142 hl2) (fun a h => ?_)
            refine d_takeP h (fun _ => HS) HN 15 rfl (by kernel_rfl) (by kernel_rfl) (by kernel_rfl) (by decide) rfl rfl (by decide) (fun w' => x_pick (v := .bool z126) (u' := undef) h.k rfl rfl (fun _ => by rw [← Option.some.inj hz127]; rfl) (fun hh => absurd (hB7.symm.trans hh) (by decide))) (fun a h => ?_)
            refine d_takeP h (fun _ => HS) HN 16 rfl (by kernel_rfl) (by kernel_rfl) (by kernel_rfl) (by decide) rfl rfl (by decide) (fun w' => x_move h.k _ rfl rfl) (fun a h => ?_)
            refine d_split (t := 50) h rfl (fun hB16 => ?_) (fun hB16 => ?_)
            · refine d_takeY h HS HN 17 rfl (by kernel_rfl) (by kernel_rfl) (by kernel_rfl) (by kernel_rfl) (by kernel_rfl) (by rw [g_want h rfl rfl rfl rfl hB16]; rfl) rfl (by decide) (fun w' hw => x_ldR h.k rfl ag_A16_uint8 rfl csa1 (((hs1.mono le15)).len.trans (by rw [hl2]; rfl)) (hw.range0 (i := 0) rfl)) (fun a h => ?_)
              refine d_takeY h HS HN 18 rfl (by kernel_rfl) (by kernel_rfl) (by kernel_rfl) (by kernel_rfl) (by kernel_rfl) (by rw [g_want h rfl rfl rfl rfl hB16]; rfl) rfl (by decide) (fun w' hw => x_ldR h.k rfl ag_A16_uint8 rfl csa2 (((hs3.mono le15)).len.trans (by rw [hl4]; rfl)) (hw.range0 (i := 1) rfl)) (fun a h => ?_)
              refine d_takeP h (fun _ => HS) HN 19 rfl (by kernel_rfl) (by kernel_rfl) (by kernel_rfl) (by decide) (by rw [g_want h rfl rfl rfl rfl hB16]; rfl) rfl (by decide) (fun w' => x_eqlA8 (X := csa1) (Y := csa2) h.k rfl Try.underlying23 Try.underlying5 sz_uint8 gda_A16_uint8 rfl rfl (hs1.mono le15) (hs3.mono le15) hl2 hl4) (fun a h => ?_)
              refine d_takeY h HS HN 20 rfl (by kernel_rfl) (by kernel_rfl) (by kernel_rfl) (by kernel_rfl) (by kernel_rfl) (by rw [g_want h rfl rfl rfl rfl hB16]; rfl) rfl (by decide) (fun w' hw => x_ldR h.k rfl ag_A16_uint8 rfl k104 ((hs105).len.trans (by rw [hl106]; rfl)) (hw.range0 (i := 2) rfl)) (fun a h => ?_)
              refine d_takeY h HS HN 21 rfl (by kernel_rfl) (by kernel_rfl) (by kernel_rfl) (by kernel_rfl) (by kernel_rfl) (by rw [g_want h rfl rfl rfl rfl hB16]; rfl) rfl (by decide) (fun w' hw => x_ldR h.k rfl ag_A16_uint8 rfl k107 ((hs108).len.trans (by rw [hl109]; rfl)) (hw.range0 (i := 3) rfl)) (fun a h => ?_)
              refine d_takeP h (fun _ => HS) HN 22 rfl (by kernel_rfl) (by kernel_rfl) (by kernel_rfl) (by decide) (by rw [g_want h rfl rfl rfl rfl hB16]; rfl) rfl (by decide) (fun w' => x_eqlA8 (X := k104) (Y := k107) h.k rfl Try.underlying23 Try.underlying5 sz_uint8 gda_A16_uint8 rfl rfl hs105 hs108 hl106 hl109) (fun a h => ?_)
              refine d_takeP h (fun _ => HS) HN 23 rfl (by kernel_rfl) (by kernel_rfl) (by kernel_rfl) (by decide) (by rw [g_want h rfl rfl rfl rfl hB16]; rfl) rfl (by decide) (fun w' => x_eqlB h.k rfl Try.underlying4 rfl rfl) (fun a h => ?_)
              refine d_takeP h (fun _ => HS) HN 24 rfl (by kernel_rfl) (by kernel_rfl) (by kernel_rfl) (by decide) rfl rfl (by decide) (fun w' => x_pick (v := .bool (z126 && ((decide (a1 = a2)) == (decide (x86 = x94))))) (u' := undef) h.k rfl rfl (fun _ => by rw [hB16]; first | rfl | simp [ev, List.lookup]) (fun hh => absurd (hB16.symm.trans hh) (by decide))) (fun a h => ?_)
              refine d_takeP h (fun _ => HS) HN 25 rfl (by kernel_rfl) (by kernel_rfl) (by kernel_rfl) (by decide) rfl rfl (by decide) (fun w' => x_assign h.k _ rfl rfl) (fun a h => ?_)
              refine d_done (by kernel_rfl) (HE _ _ ?_) _
              refine e_thenN ?_
              have h := h.pick [4] (by decide) rfl
              exact h.has (by exact ⟨rfl, trivial⟩)
            · refine d_takeNP h (fun _ => HS) HN 17 rfl (by kernel_rfl) (by kernel_rfl) (by kernel_rfl) (by decide) (by rw [g_want h rfl rfl rfl rfl hB16]; rfl) rfl (by decide) (fun a h => ?_)
              refine d_takeNP h (fun _ => HS) HN 18 rfl (by kernel_rfl) (by kernel_rfl) (by kernel_rfl) (by decide) (by rw [g_want h rfl rfl rfl rfl hB16]; rfl) rfl (by decide) (fun a h => ?_)
              refine d_takeNP h (fun _ => HS) HN 19 rfl (by kernel_rfl) (by kernel_rfl) (by kernel_rfl) (by decide) (by rw [g_want h rfl rfl rfl rfl hB16]; rfl) rfl (by decide) (fun a h => ?_)
              refine d_takeNP h (fun _ => HS) HN 20 rfl (by kernel_rfl) (by kernel_rfl) (by kernel_rfl) (by decide) (by rw [g_want h rfl rfl rfl rfl hB16]; rfl) rfl (by decide) (fun a h => ?_)
              refine d_takeNP h (fun _ => HS) HN 21 rfl (by kernel_rfl) (by kernel_rfl) (by kernel_rfl) (by decide) (by rw [g_want h rfl rfl rfl rfl hB16]; rfl) rfl (by decide) (fun a h => ?_)
              refine d_takeNP h (fun _ => HS) HN 22 rfl (by kernel_rfl) (by kernel_rfl) (by kernel_rfl) (by decide) (by rw [g_want h rfl rfl rfl rfl hB16]; rfl) rfl (by decide) (fun a h => ?_)
              refine d_takeNP h (fun _ => HS) HN 23 rfl (by kernel_rfl) (by kernel_rfl) (by kernel_rfl) (by decide) (by rw [g_want h rfl rfl rfl rfl hB16]; rfl) rfl (by decide) (fun a h => ?_)
              refine d_takeP h (fun _ => HS) HN 24 rfl (by kernel_rfl) (by kernel_rfl) (by kernel_rfl) (by decide) rfl rfl (by decide) (fun w' => x_pick (v := .bool (z126 && ((decide (a1 = a2)) == (decide (x86 = x94))))) (u' := undef) h.k rfl rfl (fun hh => absurd (hB16.symm.trans hh) (by decide)) (fun _ => by rw [hB16]; first | rfl | simp [ev, List.lookup])) (fun a h => ?_)
              refine d_takeP h (fun _ => HS) HN 25 rfl (by kernel_rfl) (by kernel_rfl) (by kernel_rfl) (by decide) rfl rfl (by decide) (fun w' => x_assign h.k _ rfl rfl) (fun a h => ?_)
              refine d_done (by kernel_rfl) (HE _ _ ?_) _
              refine e_thenN ?_
              have h := h.pick [4] (by decide) rfl
              exact h.has (by exact ⟨rfl, trivial⟩)
          · rw [if_neg (of_decide_eq_false hB7)] at hz127
            refine d_takeNP h (fun _ => HS) HN 8 rfl (by kernel_rfl) (by kernel_rfl) (by kernel_rfl) (by decide) (by rw [g_want h rfl rfl rfl rfl hB7]; rfl) rfl (by decide) (fun a h => ?_)
            refine d_takeNP h (fun _ => HS) HN 9 rfl (by kernel_rfl) (by kernel_rfl) (by kernel_rfl) (by decide) (by rw [g_want h rfl rfl rfl rfl hB7]; rfl) rfl (by decide) (fun a h => ?_)
            refine d_takeNP h (fun _ => HS) HN 10 rfl (by kernel_rfl) (by kernel_rfl) (by kernel_rfl) (by decide) (by rw [g_want h rfl rfl rfl rfl hB7]; rfl) rfl (by decide) (fun a h => ?_)
            refine d_takeNP h (fun _ => HS) HN 11 rfl (by kernel_rfl) (by kernel_rfl) (by kernel_rfl) (by decide) (by rw [g_want h rfl rfl rfl rfl hB7]; rfl) rfl (by decide) (fun a h => ?_)
            refine d_takeNP h (fun _ => HS) HN 12 rfl (by kernel_rfl) (by kernel_rfl) (by kernel_rfl) (by decide) (by rw [g_want h rfl rfl rfl rfl hB7]; rfl) rfl (by decide) (fun a h => ?_)
            refine d_takeNP h (fun _ => HS) HN 13 rfl (by kernel_rfl) (by kernel_rfl) (by kernel_rfl) (by decide) (by rw [g_want h rfl rfl rfl rfl hB7]; rfl) rfl (by decide) (fun a h => ?_)
            refine d_takeNP h (fun _ => HS) HN 14 rfl (by kernel_rfl) (by kernel_rfl) (by kernel_rfl) (by decide) (by rw [g_want h rfl rfl rfl rfl hB7]; rfl) rfl (by decide) (fun a h => ?_)
            refine d_takeP h (fun _ => HS) HN 15 rfl (by kernel_rfl) (by kernel_rfl) (by kernel_rfl) (by decide) rfl rfl (by decide) (fun w' => x_pick (v := .bool z126) (u' := undef) h.k rfl rfl (fun hh => absurd (hB7.symm.trans hh) (by decide)) (fun _ => by rw [← Option.some.inj hz127]; rfl)) (fun a h => ?_)
            refine d_takeP h (fun _ => HS) HN 16 rfl (by kernel_rfl) (by kernel_rfl) (by kernel_rfl) (by decide) rfl rfl (by decide) (fun w' => x_move h.k _ rfl rfl) (fun a h => ?_)
            refine d_split (t := 50) h rfl (fun hB16 => ?_) (fun hB16 => ?_)
            · refine d_takeY h HS HN 17 rfl (by kernel_rfl) (by kernel_rfl) (by kernel_rfl) (by kernel_rfl) (by kernel_rfl) (by rw [g_want h rfl rfl rfl rfl hB16]; rfl) rfl (by decide) (fun w' hw => x_ldR h.k rfl ag_A16_uint8 rfl csa1 (((hs1.mono le15)).len.trans (by rw [hl2]; rfl)) (hw.range0 (i := 0) rfl)) (fun a h => ?_)
              refine d_takeY h HS HN 18 rfl (by kernel_rfl) (by kernel_rfl) (by kernel_rfl) (by kernel_rfl) (by kernel_rfl) (by rw [g_want h rfl rfl rfl rfl hB16]; rfl) rfl (by decide) (fun w' hw => x_ldR h.k rfl ag_A16_uint8 rfl csa2 (((hs3.mono le15)).len.trans (by rw [hl4]; rfl)) (hw.range0 (i := 1) rfl)) (fun a h => ?_)
              refine d_takeP h (fun _ => HS) HN 19 rfl (by kernel_rfl) (by kernel_rfl) (by kernel_rfl) (by decide) (by rw [g_want h rfl rfl rfl rfl hB16]; rfl) rfl (by decide) (fun w' => x_eqlA8 (X := csa1) (Y := csa2) h.k rfl Try.underlying23 Try.underlying5 sz_uint8 gda_A16_uint8 rfl rfl (hs1.mono le15) (hs3.mono le15) hl2 hl4) (fun a h => ?_)
              refine d_takeY h HS HN 20 rfl (by kernel_rfl) (by kernel_rfl) (by kernel_rfl) (by kernel_rfl) (by kernel_rfl) (by rw [g_want h rfl rfl rfl rfl hB16]; rfl) rfl (by decide) (fun w' hw => x_ldR h.k rfl ag_A16_uint8 rfl k104 ((hs105).len.trans (by rw [hl106]; rfl)) (hw.range0 (i := 2) rfl)) (fun a h => ?_)
              refine d_takeY h HS HN 21 rfl (by kernel_rfl) (by kernel_rfl) (by kernel_rfl) (by kernel_rfl) (by kernel_rfl) (by rw [g_want h rfl rfl rfl rfl hB16]; rfl) rfl (by decide) (fun w' hw => x_ldR h.k rfl ag_A16_uint8 rfl k107 ((hs108).len.trans (by rw [hl109]; rfl)) (hw.range0 (i := 3) rfl)) (fun a h => ?_)
              refine d_takeP h (fun _ => HS) HN 22 rfl (by kernel_rfl) (by kernel_rfl) (by kernel_rfl) (by decide) (by rw [g_want h rfl rfl rfl rfl hB16]; rfl) rfl (by decide) (fun w' => x_eqlA8 (X := k104) (Y := k107) h.k rfl Try.underlying23 Try.underlying5 sz_uint8 gda_A16_uint8 rfl rfl hs105 hs108 hl106 hl109) (fun a h => ?_)
              refine d_takeP h (fun _ => HS) HN 23 rfl (by kernel_rfl) (by kernel_rfl) (by kernel_rfl) (by decide) (by rw [g_want h rfl rfl rfl rfl hB16]; rfl) rfl (by decide) (fun w' => x_eqlB h.k rfl Try.underlying4 rfl rfl) (fun a h => ?_)
              refine d_takeP h (fun _ => HS) HN 24 rfl (by kernel_rfl) (by kernel_rfl) (by kernel_rfl) (by decide) rfl rfl (by decide) (fun w' => x_pick (v := .bool (z126 && ((decide (a1 = a2)) == (decide (x86 = x94))))) (u' := undef) h.k rfl rfl (fun _ => by rw [hB16]; first | rfl | simp [ev, List.lookup]) (fun hh => absurd (hB16.symm.trans hh) (by decide))) (fun a h => ?_)
              refine d_takeP h (fun _ => HS) HN 25 rfl (by kernel_rfl) (by kernel_rfl) (by kernel_rfl) (by decide) rfl rfl (by decide) (fun w' => x_assign h.k _ rfl rfl) (fun a h => ?_)
              refine d_done (by kernel_rfl) (HE _ _ ?_) _
              refine e_thenN ?_
              have h := h.pick [4] (by decide) rfl
              exact h.has (by exact ⟨rfl, trivial⟩)
            · refine d_takeNP h (fun _ => HS) HN 17 rfl (by kernel_rfl) (by kernel_rfl) (by kernel_rfl) (by decide) (by rw [g_want h rfl rfl rfl rfl hB16]; rfl) rfl (by decide) (fun a h => ?_)
              refine d_takeNP h (fun _ => HS) HN 18 rfl (by kernel_rfl) (by kernel_rfl) (by kernel_rfl) (by decide) (by rw [g_want h rfl rfl rfl rfl hB16]; rfl) rfl (by decide) (fun a h => ?_)
              refine d_takeNP h (fun _ => HS) HN 19 rfl (by kernel_rfl) (by kernel_rfl) (by kernel_rfl) (by decide) (by rw [g_want h rfl rfl rfl rfl hB16]; rfl) rfl (by decide) (fun a h => ?_)
              refine d_takeNP h (fun _ => HS) HN 20 rfl (by kernel_rfl) (by kernel_rfl) (by kernel_rfl) (by decide) (by rw [g_want h rfl rfl rfl rfl hB16]; rfl) rfl (by decide) (fun a h => ?_)
              refine d_takeNP h (fun _ => HS) HN 21 rfl (by kernel_rfl) (by kernel_rfl) (by kernel_rfl) (by decide) (by rw [g_want h rfl rfl rfl rfl hB16]; rfl) rfl (by decide) (fun a h => ?_)
              refine d_takeNP h (fun _ => HS) HN 22 rfl (by kernel_rfl) (by kernel_rfl) (by kernel_rfl) (by decide) (by rw [g_want h rfl rfl rfl rfl hB16]; rfl) rfl (by decide) (fun a h => ?_)
              refine d_takeNP h (fun _ => HS) HN 23 rfl (by kernel_rfl) (by kernel_rfl) (by kernel_rfl) (by decide) (by rw [g_want h rfl rfl rfl rfl hB16]; rfl) rfl (by decide) (fun a h => ?_)
              refine d_takeP h (fun _ => HS) HN 24 rfl (by kernel_rfl) (by kernel_rfl) (by kernel_rfl) (by decide) rfl rfl (by decide) (fun w' => x_pick (v := .bool (z126 && ((decide (a1 = a2)) == (decide (x86 = x94))))) (u' := undef) h.k rfl rfl (fun hh => absurd (hB16.symm.trans hh) (by decide)) (fun _ => by rw [hB16]; first | rfl | simp [ev, List.lookup])) (fun a h => ?_)
              refine d_takeP h (fun _ => HS) HN 25 rfl (by kernel_rfl) (by kernel_rfl) (by kernel_rfl) (by decide) rfl rfl (by decide) (fun w' => x_assign h.k _ rfl rfl) (fun a h => ?_)
              refine d_done (by kernel_rfl) (HE _ _ ?_) _
              refine e_thenN ?_
              have h := h.pick [4] (by decide) rfl
              exact h.has (by exact ⟨rfl, trivial⟩)
        refine e_thenN ?_
        refine wp_ret ?_
        obtain rfl := Option.some.inj hf
        exact r_ret1 h rfl (rv_tmp h rfl) ⟨_, [], _, rfl, ⟨rfl, rfl, trivial⟩, rfl, up14, h.m⟩
end Go.Proofs.Ytoimllmmlbehgaa
