/- Sl: Go functions as plain functions, and that they are so (written by xt.py). -/
import Derived.Test.YthaakmdafnjkpaaSp
import Derived.Test.YthaakmdafnjkpaaSr
set_option linter.unusedVariables false
set_option linter.unusedSimpArgs false
namespace Go.Proofs.Ythaakmdafnjkpaa
open Go.RowKit
def chatelainelaw33_awake (Fu : Nat) : Option Bool :=
  (script_Pack Fu ([]) 64).bind fun x1 => (if x1.2 = 0 then (chatelaineref01_Same Fu x1.1 ([(0 : UInt8), (0 : UInt8), (0 : UInt8), (0 : UInt8)])).bind fun x15 => some x15 else some false).bind fun z11 => some z11
set_option maxRecDepth 100000 in
set_option maxHeartbeats 2000000 in
theorem chatelainelaw33_awake_ok (Fu : Nat) {S0 : Snap}  (r : Bool) (hf : chatelainelaw33_awake Fu = some r) (w0 : World) (hm : Mem w0 (ownL ([] ++ [.sn S0])) ([] ++ [.sn S0]) w0) :
    Calls Try.prog 44 #[] w0 (Ret w0 S0 [] (fun v L1 S1 => v = .bool r ∧ L1 = [] ∧ True)) := by
  unfold chatelainelaw33_awake at hf
  refine c_enterM Try.func44 rfl 14 rfl (by simp) _ hm _ rfl (fun a h => ?_)
  refine c_rs ?_ -- region 0
  refine s_assign h rfl _ rfl rfl (by decide) rfl (fun a h => ?_)
  refine l_end ?_
  refine c_rs ?_ -- region 1
  obtain ⟨x1, h2, hf⟩ := bsome hf
  have hX := script_Pack_ok Fu (S0 := snapAll _) none 0 [] (slS.nil _ _) 64 (show r64 64 from ⟨by decide, by decide⟩) _ h2 _ h.startAll
  refine q_callX hX h rfl rfl rfl (by decide) Try.func100 rfl rfl rfl (fun a w v L1 S1 hR hb1 h => ?_)
  obtain ⟨A4, c5, cs6, rfl, rfl, hq7, hr8, _⟩ := hR
  have hq9 := hq7.fl (S' := S0) fl_8
  refine s_move h rfl _ rfl rfl (by decide) rfl (fun a h => ?_)
  refine s_x h rfl rfl (by decide) (x_ext h.k rfl rfl rfl) (fun a h => ?_)
  refine s_x h rfl rfl (by decide) (x_ext h.k rfl rfl rfl) (fun a h => ?_)
  refine s_assign h rfl _ rfl rfl (by decide) rfl (fun a h => ?_)
  refine s_assign h rfl _ rfl rfl (by decide) rfl (fun a h => ?_)
  refine l_end ?_
  refine c_rs ?_ -- region 2
  refine s_move h rfl _ rfl rfl (by decide) rfl (fun a h => ?_)
  refine s_x h rfl rfl (by decide) (x_bin h.k rfl rfl rfl ib_eql) (fun a h => ?_)
  refine s_move h rfl _ rfl rfl (by decide) rfl (fun a h => ?_)
  obtain ⟨z11, hz10, hf⟩ := bsome hf
  refine q_grp h 4 (t := 9) 13 z11 rfl (fun hB2 => ?_) (fun hB2 => ?_) (fun a w h => ?_)
  · rw [if_pos (of_decide_eq_true hB2)] at hz10
    refine g_yes h rfl rfl rfl rfl hB2 ?_
    refine s_move h rfl _ rfl rfl (by decide) rfl (fun a h => ?_)
    refine g_yes h rfl rfl rfl rfl hB2 ?_
    refine q_bslice (T := ty8) (S := S0) h rfl rfl rfl (by decide) Try.underlying22 zi_uint8 (by decide) (by decide) (by decide) (by decide) [.int .u8 0, .int .u8 0, .int .u8 0, .int .u8 0] rfl rfl (C := [[.int .u8 0], [.int .u8 0], [.int .u8 0], [.int .u8 0]]) rfl (xs := [(0 : UInt8), (0 : UInt8), (0 : UInt8), (0 : UInt8)]) ⟨[.int .u8 0], _, rfl, rfl, ⟨[.int .u8 0], _, rfl, rfl, ⟨[.int .u8 0], _, rfl, rfl, ⟨[.int .u8 0], _, rfl, rfl, rfl⟩⟩⟩⟩ (by simp only [List.mem_cons, List.not_mem_nil, or_false]; rintro c (rfl | rfl | rfl | rfl) <;> rfl) (fun a w A13 h => ?_)
    have hb14 : reps ty8 S0 ([[.int .u8 0], [.int .u8 0], [.int .u8 0], [.int .u8 0]]).flatten [(0 : UInt8), (0 : UInt8), (0 : UInt8), (0 : UInt8)] := ⟨[.int .u8 0], _, rfl, rfl, ⟨[.int .u8 0], _, rfl, rfl, ⟨[.int .u8 0], _, rfl, rfl, ⟨[.int .u8 0], _, rfl, rfl, rfl⟩⟩⟩⟩
    refine g_yes h rfl rfl rfl rfl hB2 ?_
    obtain ⟨x15, h16, hz10⟩ := bsome hz10
    have hX := chatelaineref01_Same_ok Fu (S0 := snapAll _) A4 c5 x1.1 (h.m.rowAll (i := 1) rfl (j := 2) rfl hq9) A13 4 ([(0 : UInt8), (0 : UInt8), (0 : UInt8), (0 : UInt8)]) (h.m.rowAll (i := 0) rfl (j := 2) rfl hb14) _ h16 _ h.startAll
    refine q_callX hX h rfl rfl rfl (by decide) Try.func21 rfl rfl rfl (fun a w v L1 S1 hR hb1 h => ?_)
    obtain ⟨rfl, rfl, _⟩ := hR
    refine s_x h rfl rfl (by decide) (x_pick (u' := undef) h.k rfl rfl (fun _ => rfl) (fun hh => absurd (hB2.symm.trans hh) (by decide))) (fun a h => ?_)
    have h := h.pick [1, 2] (by decide) rfl
    exact (h.mid 3 rfl).val (by rw [Option.some.inj hz10])
  · refine g_no h rfl rfl rfl rfl hB2 rfl (by decide) (fun a h => ?_)
    refine g_no h rfl rfl rfl rfl hB2 rfl (by decide) (fun a h => ?_)
    refine g_no h rfl rfl rfl rfl hB2 rfl (by decide) (fun a h => ?_)
    rw [if_neg (of_decide_eq_false hB2)] at hz10
    refine s_x h rfl rfl (by decide) (x_pick (u' := undef) h.k rfl rfl (fun hh => absurd (hB2.symm.trans hh) (by decide)) (fun _ => rfl)) (fun a h => ?_)
    exact (h.mid 3 rfl).val (by rw [Option.some.inj hz10])
  refine s_assign h rfl _ rfl rfl (by decide) rfl (fun a h => ?_)
  refine l_end ?_
  refine wp_ret ?_
  rw [← Option.some.inj hf]
  exact r_ret1 h rfl (rv_tmp h rfl) ⟨_, [], _, rfl, ⟨rfl, rfl, trivial⟩, rfl, (Up.refl _ _ _), (h.m.pick [1] _ (by decide) rfl)⟩
def chatelainelaw33_same_l0 (Fu : Nat) (a0 : List ((Int × Int × Int × Int × Int × (List UInt8) × (List UInt8)) × Int × Int × (List UInt8))) (a1 : List ((Int × Int × Int × Int × Int × (List UInt8) × (List UInt8)) × Int × Int × (List UInt8))) : Nat → Int → Option (Sum Bool Unit)
  | 0, _ => none
  | k + 1, x3 => if x3 < (a0.length : Int) then ((idx a0 x3).bind fun x7 => (idx a1 x3).bind fun x53 => (chatelaineref33_Same Fu x7 x53).bind fun x99 => if (!x99) = true then (some (.inl false)) else (chatelainelaw33_same_l0 Fu a0 a1 k (w64 (x3 + 1)))) else (some (.inr ()))
def chatelainelaw33_same (Fu : Nat) (a0 : List ((Int × Int × Int × Int × Int × (List UInt8) × (List UInt8)) × Int × Int × (List UInt8))) (a1 : List ((Int × Int × Int × Int × Int × (List UInt8) × (List UInt8)) × Int × Int × (List UInt8))) : Option Bool :=
  if (a0.length : Int) ≠ (a1.length : Int) then (some false) else ((chatelainelaw33_same_l0 Fu a0 a1 Fu 0).bind fun o => match o with | .inl r102 => some r102 | .inr _ => some true)
set_option maxRecDepth 100000 in
set_option maxHeartbeats 2000000 in
theorem chatelainelaw33_same_ok (Fu : Nat) {S0 : Snap} (Aa0 : Option Addr) (ca0 : Nat) (a0 : List ((Int × Int × Int × Int × Int × (List UInt8) × (List UInt8)) × Int × Int × (List UInt8))) (hsa0 : slS (tyP (tyP tyI (tyP tyI (tyP tyI (tyP tyI (tyP tyI (tyP (tyL ty8) (tyL ty8))))))) (tyP tyI (tyP tyI (tyL ty8)))) S0 Aa0 ca0 a0) (Aa1 : Option Addr) (ca1 : Nat) (a1 : List ((Int × Int × Int × Int × Int × (List UInt8) × (List UInt8)) × Int × Int × (List UInt8))) (hsa1 : slS (tyP (tyP tyI (tyP tyI (tyP tyI (tyP tyI (tyP tyI (tyP (tyL ty8) (tyL ty8))))))) (tyP tyI (tyP tyI (tyL ty8)))) S0 Aa1 ca1 a1) (r : Bool) (hf : chatelainelaw33_same Fu a0 a1 = some r) (w0 : World) (hm : Mem w0 (ownL ([] ++ [.sn S0])) ([] ++ [.sn S0]) w0) :
    Calls Try.prog 50 #[.slice Aa0 a0.length ca0, .slice Aa1 a1.length ca1] w0 (Ret w0 S0 [] (fun v L1 S1 => v = .bool r ∧ L1 = [] ∧ True)) := by
  unfold chatelainelaw33_same at hf
  refine c_enterM Try.func50 rfl 27 rfl (by simp) _ hm _ rfl (fun a h => ?_)
  refine c_rs ?_ -- region 0
  refine s_assign h rfl _ rfl rfl (by decide) rfl (fun a h => ?_)
  refine l_end ?_
  refine wp_seq ?_
  refine c_rs ?_ -- region 1
  refine s_move h rfl _ rfl rfl (by decide) rfl (fun a h => ?_)
  refine s_x h rfl rfl (by decide) (x_len h.k rfl Try.underlying82 rfl) (fun a h => ?_)
  refine s_move h rfl _ rfl rfl (by decide) rfl (fun a h => ?_)
  refine s_x h rfl rfl (by decide) (x_len h.k rfl Try.underlying82 rfl) (fun a h => ?_)
  refine s_x h rfl rfl (by decide) (x_bin h.k rfl rfl rfl ib_neq) (fun a h => ?_)
  refine l_end ?_
  refine c_cond h rfl (fun hb => ?_) (fun hb => ?_)
  · rw [if_pos (of_decide_eq_true hb)] at hf
    refine c_rs ?_ -- region 2
    refine s_assign h rfl _ rfl rfl (by decide) rfl (fun a h => ?_)
    refine l_end ?_
    refine wp_ret ?_
    refine e_thenR ?_
    rw [← Option.some.inj hf]
    exact r_ret1 h rfl (rv_tmp h rfl) ⟨_, [], _, rfl, ⟨rfl, rfl, trivial⟩, rfl, (Up.refl _ _ _), h.m⟩
  · rw [if_neg (of_decide_eq_false hb)] at hf
    refine wp_skip ?_
    refine e_thenN ?_
    refine wp_seq ?_
    refine c_rs ?_ -- region 3
    refine s_move h rfl _ rfl rfl (by decide) rfl (fun a h => ?_)
    refine s_x h rfl rfl (by decide) (x_len h.k rfl Try.underlying82 rfl) (fun a h => ?_)
    refine s_move h rfl _ rfl rfl (by decide) rfl (fun a h => ?_)
    refine l_end ?_
    obtain ⟨o1, hl2, hf⟩ := bsome hf
    refine c_fin (fun a w => (.inr ()) = o1 ∧ St 27 w0 (ownL ([] ++ [.sn S0])) [] [.sn S0] a w) ?_ ?_
    · refine wp_block ?_
      refine c_loop (fun m6 a w => ∃ (x3 : Int), chatelainelaw33_same_l0 Fu a0 a1 m6 x3 = some o1 ∧ r64 x3 ∧ St 27 w0 (ownL ([] ++ [.sn S0])) [(0, .slice Aa0 a0.length ca0), (1, .slice Aa1 a1.length ca1), (12, .int .i64 (a0.length : Int)), (13, .int .i64 x3)] [.sn S0] a w) Fu ⟨0, hl2, (show r64 0 from ⟨by decide, by decide⟩), h.has (by exact ⟨rfl, rfl, rfl, rfl, trivial⟩)⟩ (fun m6 a w hI => ?_)
      obtain ⟨x3, hl5, hr4, h⟩ := hI
      obtain _ | m6 := m6
      · rw [chatelainelaw33_same_l0] at hl5; cases hl5
      rw [chatelainelaw33_same_l0] at hl5
      refine c_rs ?_ -- region 4
      refine s_x h rfl rfl (by decide) (x_bin h.k rfl rfl rfl ib_lss) (fun a h => ?_)
      refine l_end ?_
      refine c_cs h rfl (fun hb => ?_) (fun hb => ?_)
      · rw [if_pos (of_decide_eq_true hb)] at hl5
        refine wp_skip ?_
        refine e_thenN ?_
        refine wp_seq ?_
        refine wp_block ?_
        refine c_rs ?_ -- region 5
        refine s_move h rfl _ rfl rfl (by decide) rfl (fun a h => ?_)
        refine s_assign h rfl _ rfl rfl (by decide) rfl (fun a h => ?_)
        refine l_end ?_
        refine wp_seq ?_
        -- region 6 draws
        obtain ⟨x7, h11, hl5⟩ := bsome hl5
        obtain ⟨x53, h57, hl5⟩ := bsome hl5
        obtain ⟨x99, h100, hl5⟩ := bsome hl5
        refine d_start h (Mem _ _ _) 10 10 rfl (by kernel_rfl) (fun _ _ _ _ _ h => h) (fun _ h => h) (fun Q a w HE HN h HS => ?_)
        refine d_takeP h (fun _ => HS) HN 0 rfl (by kernel_rfl) (by kernel_rfl) (by kernel_rfl) (by decide) rfl rfl (by decide) (fun w' => x_move h.k _ rfl rfl) (fun a h => ?_)
        refine d_takeP h (fun _ => HS) HN 1 rfl (by kernel_rfl) (by kernel_rfl) (by kernel_rfl) (by decide) rfl rfl (by decide) (fun w' => x_move h.k _ rfl rfl) (fun a h => ?_)
        obtain ⟨m8, hi12, hm13, hx14⟩ := idx_some h11
        obtain ⟨b9, off10, k15, hA16, hu17, hc18⟩ := (hsa0).at (by decide) hx14 (h.m.snOK (i := 0) rfl)
        obtain ⟨k19, k20, rfl, ⟨k21, k22, rfl, ⟨rfl, hr23⟩, ⟨k24, k25, rfl, ⟨rfl, hr26⟩, ⟨k27, k28, rfl, ⟨rfl, hr29⟩, ⟨k30, k31, rfl, ⟨rfl, hr32⟩, ⟨k33, k34, rfl, ⟨rfl, hr35⟩, ⟨k36, k37, rfl, ⟨A38, c39, rfl, hs40⟩, ⟨A41, c42, rfl, hs43⟩⟩⟩⟩⟩⟩⟩, ⟨k44, k45, rfl, ⟨rfl, hr46⟩, ⟨k47, k48, rfl, ⟨rfl, hr49⟩, ⟨A50, c51, rfl, hs52⟩⟩⟩⟩ := hu17
        refine d_takeP h (fun _ => HS) HN 2 rfl (by kernel_rfl) (by kernel_rfl) (by kernel_rfl) (by decide) rfl rfl (by decide) (fun w' => x_iaddrE h.k rfl Try.underlying82 sz_api_Event hA16 rfl rfl hi12 hm13) (fun a h => ?_)
        refine d_take h HS HN 3 rfl (by kernel_rfl) (by kernel_rfl) (by kernel_rfl) (by kernel_rfl) (by kernel_rfl) rfl rfl (by decide) (fun w' hw => x_ldR h.k rfl ag_api_Event rfl ([.int .i64 x7.1.1, .int .i64 x7.1.2.1, .int .i64 x7.1.2.2.1, .int .i64 x7.1.2.2.2.1, .int .i64 x7.1.2.2.2.2.1, .slice A38 x7.1.2.2.2.2.2.1.length c39, .slice A41 x7.1.2.2.2.2.2.2.length c42, .int .i64 x7.2.1, .int .i64 x7.2.2.1, .slice A50 x7.2.2.2.length c51]) rfl (hc18 _ (hw.snOK (i := 0) rfl))) (fun a h => ?_)
        refine d_takeP h (fun _ => HS) HN 4 rfl (by kernel_rfl) (by kernel_rfl) (by kernel_rfl) (by decide) rfl rfl (by decide) (fun w' => x_move h.k _ rfl rfl) (fun a h => ?_)
        refine d_takeP h (fun _ => HS) HN 5 rfl (by kernel_rfl) (by kernel_rfl) (by kernel_rfl) (by decide) rfl rfl (by decide) (fun w' => x_move h.k _ rfl rfl) (fun a h => ?_)
        obtain ⟨m54, hi58, hm59, hx60⟩ := idx_some h57
        obtain ⟨b55, off56, k61, hA62, hu63, hc64⟩ := (hsa1).at (by decide) hx60 (h.m.snOK (i := 0) rfl)
        obtain ⟨k65, k66, rfl, ⟨k67, k68, rfl, ⟨rfl, hr69⟩, ⟨k70, k71, rfl, ⟨rfl, hr72⟩, ⟨k73, k74, rfl, ⟨rfl, hr75⟩, ⟨k76, k77, rfl, ⟨rfl, hr78⟩, ⟨k79, k80, rfl, ⟨rfl, hr81⟩, ⟨k82, k83, rfl, ⟨A84, c85, rfl, hs86⟩, ⟨A87, c88, rfl, hs89⟩⟩⟩⟩⟩⟩⟩, ⟨k90, k91, rfl, ⟨rfl, hr92⟩, ⟨k93, k94, rfl, ⟨rfl, hr95⟩, ⟨A96, c97, rfl, hs98⟩⟩⟩⟩ := hu63
        refine d_takeP h (fun _ => HS) HN 6 rfl (by kernel_rfl) (by kernel_rfl) (by kernel_rfl) (by decide) rfl rfl (by decide) (fun w' => x_iaddrE h.k rfl Try.underlying82 sz_api_Event hA62 rfl rfl hi58 hm59) (fun a h => ?_)
        refine d_take h HS HN 7 rfl (by kernel_rfl) (by kernel_rfl) (by kernel_rfl) (by kernel_rfl) (by kernel_rfl) rfl rfl (by decide) (fun w' hw => x_ldR h.k rfl ag_api_Event rfl ([.int .i64 x53.1.1, .int .i64 x53.1.2.1, .int .i64 x53.1.2.2.1, .int .i64 x53.1.2.2.2.1, .int .i64 x53.1.2.2.2.2.1, .slice A84 x53.1.2.2.2.2.2.1.length c85, .slice A87 x53.1.2.2.2.2.2.2.length c88, .int .i64 x53.2.1, .int .i64 x53.2.2.1, .slice A96 x53.2.2.2.length c97]) rfl (hc64 _ (hw.snOK (i := 0) rfl))) (fun a h => ?_)
        refine d_alone 8 rfl (by kernel_rfl) (fun K hK => ?_)
        have hX := chatelaineref33_Same_ok Fu (S0 := snapAll _) ([.int .i64 x7.1.1, .int .i64 x7.1.2.1, .int .i64 x7.1.2.2.1, .int .i64 x7.1.2.2.2.1, .int .i64 x7.1.2.2.2.2.1, .slice A38 x7.1.2.2.2.2.2.1.length c39, .slice A41 x7.1.2.2.2.2.2.2.length c42, .int .i64 x7.2.1, .int .i64 x7.2.2.1, .slice A50 x7.2.2.2.length c51]) x7 ((tyP (tyP tyI (tyP tyI (tyP tyI (tyP tyI (tyP tyI (tyP (tyL ty8) (tyL ty8))))))) (tyP tyI (tyP tyI (tyL ty8)))).mono (h.m.leAll (i := 0) rfl) (show (tyP (tyP tyI (tyP tyI (tyP tyI (tyP tyI (tyP tyI (tyP (tyL ty8) (tyL ty8))))))) (tyP tyI (tyP tyI (tyL ty8)))).rep S0 ([.int .i64 x7.1.1, .int .i64 x7.1.2.1, .int .i64 x7.1.2.2.1, .int .i64 x7.1.2.2.2.1, .int .i64 x7.1.2.2.2.2.1, .slice A38 x7.1.2.2.2.2.2.1.length c39, .slice A41 x7.1.2.2.2.2.2.2.length c42, .int .i64 x7.2.1, .int .i64 x7.2.2.1, .slice A50 x7.2.2.2.length c51]) x7 from ⟨[.int .i64 x7.1.1, .int .i64 x7.1.2.1, .int .i64 x7.1.2.2.1, .int .i64 x7.1.2.2.2.1, .int .i64 x7.1.2.2.2.2.1, .slice A38 x7.1.2.2.2.2.2.1.length c39, .slice A41 x7.1.2.2.2.2.2.2.length c42], [.int .i64 x7.2.1, .int .i64 x7.2.2.1, .slice A50 x7.2.2.2.length c51], rfl, ⟨[.int .i64 x7.1.1], [.int .i64 x7.1.2.1, .int .i64 x7.1.2.2.1, .int .i64 x7.1.2.2.2.1, .int .i64 x7.1.2.2.2.2.1, .slice A38 x7.1.2.2.2.2.2.1.length c39, .slice A41 x7.1.2.2.2.2.2.2.length c42], rfl, ⟨rfl, hr23⟩, ⟨[.int .i64 x7.1.2.1], [.int .i64 x7.1.2.2.1, .int .i64 x7.1.2.2.2.1, .int .i64 x7.1.2.2.2.2.1, .slice A38 x7.1.2.2.2.2.2.1.length c39, .slice A41 x7.1.2.2.2.2.2.2.length c42], rfl, ⟨rfl, hr26⟩, ⟨[.int .i64 x7.1.2.2.1], [.int .i64 x7.1.2.2.2.1, .int .i64 x7.1.2.2.2.2.1, .slice A38 x7.1.2.2.2.2.2.1.length c39, .slice A41 x7.1.2.2.2.2.2.2.length c42], rfl, ⟨rfl, hr29⟩, ⟨[.int .i64 x7.1.2.2.2.1], [.int .i64 x7.1.2.2.2.2.1, .slice A38 x7.1.2.2.2.2.2.1.length c39, .slice A41 x7.1.2.2.2.2.2.2.length c42], rfl, ⟨rfl, hr32⟩, ⟨[.int .i64 x7.1.2.2.2.2.1], [.slice A38 x7.1.2.2.2.2.2.1.length c39, .slice A41 x7.1.2.2.2.2.2.2.length c42], rfl, ⟨rfl, hr35⟩, ⟨[.slice A38 x7.1.2.2.2.2.2.1.length c39], [.slice A41 x7.1.2.2.2.2.2.2.length c42], rfl, ⟨_, _, rfl, hs40⟩, ⟨_, _, rfl, hs43⟩⟩⟩⟩⟩⟩⟩, ⟨[.int .i64 x7.2.1], [.int .i64 x7.2.2.1, .slice A50 x7.2.2.2.length c51], rfl, ⟨rfl, hr46⟩, ⟨[.int .i64 x7.2.2.1], [.slice A50 x7.2.2.2.length c51], rfl, ⟨rfl, hr49⟩, ⟨_, _, rfl, hs52⟩⟩⟩⟩)) ([.int .i64 x53.1.1, .int .i64 x53.1.2.1, .int .i64 x53.1.2.2.1, .int .i64 x53.1.2.2.2.1, .int .i64 x53.1.2.2.2.2.1, .slice A84 x53.1.2.2.2.2.2.1.length c85, .slice A87 x53.1.2.2.2.2.2.2.length c88, .int .i64 x53.2.1, .int .i64 x53.2.2.1, .slice A96 x53.2.2.2.length c97]) x53 ((tyP (tyP tyI (tyP tyI (tyP tyI (tyP tyI (tyP tyI (tyP (tyL ty8) (tyL ty8))))))) (tyP tyI (tyP tyI (tyL ty8)))).mono (h.m.leAll (i := 0) rfl) (show (tyP (tyP tyI (tyP tyI (tyP tyI (tyP tyI (tyP tyI (tyP (tyL ty8) (tyL ty8))))))) (tyP tyI (tyP tyI (tyL ty8)))).rep S0 ([.int .i64 x53.1.1, .int .i64 x53.1.2.1, .int .i64 x53.1.2.2.1, .int .i64 x53.1.2.2.2.1, .int .i64 x53.1.2.2.2.2.1, .slice A84 x53.1.2.2.2.2.2.1.length c85, .slice A87 x53.1.2.2.2.2.2.2.length c88, .int .i64 x53.2.1, .int .i64 x53.2.2.1, .slice A96 x53.2.2.2.length c97]) x53 from ⟨[.int .i64 x53.1.1, .int .i64 x53.1.2.1, .int .i64 x53.1.2.2.1, .int .i64 x53.1.2.2.2.1, .int .i64 x53.1.2.2.2.2.1, .slice A84 x53.1.2.2.2.2.2.1.length c85, .slice A87 x53.1.2.2.2.2.2.2.length c88], [.int .i64 x53.2.1, .int .i64 x53.2.2.1, .slice A96 x53.2.2.2.length c97], rfl, ⟨[.int .i64 x53.1.1], [.int .i64 x53.1.2.1, .int .i64 x53.1.2.2.1, .int .i64 x53.1.2.2.2.1, .int .i64 x53.1.2.2.2.2.1, .slice A84 x53.1.2.2.2.2.2.1.length c85, .slice A87 x53.1.2.2.2.2.2.2.length c88], rfl, ⟨rfl, hr69⟩, ⟨[.int .i64 x53.1.2.1], [.int .i64 x53.1.2.2.1, .int .i64 x53.1.2.2.2.1, .int .i64 x53.1.2.2.2.2.1, .slice A84 x53.1.2.2.2.2.2.1.length c85, .slice A87 x53.1.2.2.2.2.2.2.length c88], rfl, ⟨rfl, hr72⟩, ⟨[.int .i64 x53.1.2.2.1], [.int .i64 x53.1.2.2.2.1, .int .i64 x53.1.2.2.2.2.1, .slice A84 x53.1.2.2.2.2.2.1.length c85, .slice A87 x53.1.2.2.2.2.2.2.length c88], rfl, ⟨rfl, hr75⟩, ⟨[.int .i64 x53.1.2.2.2.1], [.int .i64 x53.1.2.2.2.2.1, .slice A84 x53.1.2.2.2.2.2.1.length c85, .slice A87 x53.1.2.2.2.2.2.2.length c88], rfl, ⟨rfl, hr78⟩, ⟨[.int .i64 x53.1.2.2.2.2.1], [.slice A84 x53.1.2.2.2.2.2.1.length c85, .slice A87 x53.1.2.2.2.2.2.2.length c88], rfl, ⟨rfl, hr81⟩, ⟨[.slice A84 x53.1.2.2.2.2.2.1.length c85], [.slice A87 x53.1.2.2.2.2.2.2.length c88], rfl, ⟨_, _, rfl, hs86⟩, ⟨_, _, rfl, hs89⟩⟩⟩⟩⟩⟩⟩, ⟨[.int .i64 x53.2.1], [.int .i64 x53.2.2.1, .slice A96 x53.2.2.2.length c97], rfl, ⟨rfl, hr92⟩, ⟨[.int .i64 x53.2.2.1], [.slice A96 x53.2.2.2.length c97], rfl, ⟨rfl, hr95⟩, ⟨_, _, rfl, hs98⟩⟩⟩⟩)) _ h100 _ h.startAll
        refine q_callX hX h rfl rfl rfl (by decide) Try.func49 rfl rfl rfl (fun a w v L1 S1 hR hb1 h => ?_)
        obtain ⟨rfl, rfl, _⟩ := hR
        refine hK _ _ (fun _ _ => HS.ext hb1) ?_
        replace HS := HS.ext hb1
        clear hK
        refine d_takeP h (fun _ => HS) HN 9 rfl (by kernel_rfl) (by kernel_rfl) (by kernel_rfl) (by decide) rfl rfl (by decide) (fun w' => x_not h.k rfl rfl) (fun a h => ?_)
        refine d_done (by kernel_rfl) (HE _ _ ?_) _
        refine e_thenN ?_
        refine c_cond h rfl (fun hb => ?_) (fun hb => ?_)
        · rw [if_pos hb] at hl5
          refine c_rs ?_ -- region 7
          refine s_assign h rfl _ rfl rfl (by decide) rfl (fun a h => ?_)
          refine l_end ?_
          refine wp_ret ?_
          refine e_blkR ?_
          refine e_thenR ?_
          refine e_thenR ?_
          refine e_blkR ?_
          refine e_thenR ?_
          cases hl5
          try dsimp only at hf
          refine e_thenR ?_
          rw [← Option.some.inj hf]
          exact r_ret1 h rfl (rv_tmp h rfl) ⟨_, [], _, rfl, ⟨rfl, rfl, trivial⟩, rfl, (Up.refl _ _ _), h.m⟩
        · rw [if_neg (by rw [hb]; decide)] at hl5
          refine wp_skip ?_
          refine e_blkN ?_
          refine e_thenN ?_
          refine c_r ?_ -- region 8
          refine s_x h rfl rfl (by decide) (x_bin h.k rfl rfl rfl (ib_add rfl)) (fun a h => ?_)
          refine s_move h rfl _ rfl rfl (by decide) rfl (fun a h => ?_)
          refine l_nil ?_
          exact e_thenN ⟨m6, Nat.lt_succ_self _, w64 (x3 + 1), hl5, (w64_r _), h.has (by exact ⟨rfl, rfl, rfl, rfl, trivial⟩)⟩
      · rw [if_neg (of_decide_eq_false hb)] at hl5
        refine wp_exit ?_
        refine e_thenX ?_
        refine e_thenX ?_
        refine e_blkX ?_
        refine e_thenN ?_
        exact ⟨(Option.some.inj hl5), h.has trivial⟩
    · rintro a w ⟨rfl, h⟩
      try dsimp only at hf
      refine e_thenN ?_
      refine c_rs ?_ -- region 9
      refine s_assign h rfl _ rfl rfl (by decide) rfl (fun a h => ?_)
      refine l_end ?_
      refine wp_ret ?_
      rw [← Option.some.inj hf]
      exact r_ret1 h rfl (rv_tmp h rfl) ⟨_, [], _, rfl, ⟨rfl, rfl, trivial⟩, rfl, (Up.refl _ _ _), h.m⟩
def chatelainelaw33_ScriptTakes (Fu : Nat) (a0 : List UInt8) (a1 : List UInt8) (a2 : Int) : Option Bool :=
  (chatelainelaw33_awake Fu).bind fun x1 => if (!x1) = true then (some false) else (if ((decide (700 < (a0.length : Int))) || (decide (2000 < (a1.length : Int)))) = true then (some true) else ((script_Take Fu a0 a2).bind fun x6 => (chatelaineref33_Take Fu a0 a2).bind fun x50 => (script_Unpack Fu a1 a2).bind fun x94 => (chatelaineref33_Unpack Fu a1 a2).bind fun x105 => (if x6.2 = x50.2 then (chatelaineref33_Same Fu x6.1 x50.1).bind fun x119 => some x119 else some false).bind fun z117 => (if (z117 && (decide (x94.2 = x105.2))) = true then (chatelainelaw33_same Fu x94.1 x105.1).bind fun x127 => some x127 else some false).bind fun z125 => some z125))
set_option maxRecDepth 100000 in
set_option maxHeartbeats 2000000 in
theorem chatelainelaw33_ScriptTakes_ok (Fu : Nat) {S0 : Snap} (Aa0 : Option Addr) (ca0 : Nat) (a0 : List UInt8) (hsa0 : slS ty8 S0 Aa0 ca0 a0) (Aa1 : Option Addr) (ca1 : Nat) (a1 : List UInt8) (hsa1 : slS ty8 S0 Aa1 ca1 a1) (a2 : Int) (hra2 : r64 a2) (r : Bool) (hf : chatelainelaw33_ScriptTakes Fu a0 a1 a2 = some r) (w0 : World) (hm : Mem w0 (ownL ([] ++ [.sn S0])) ([] ++ [.sn S0]) w0) :
    Calls Try.prog 9 #[.slice Aa0 a0.length ca0, .slice Aa1 a1.length ca1, .int .i64 a2] w0 (Ret w0 S0 [] (fun v L1 S1 => v = .bool r ∧ L1 = [] ∧ True)) := by
  unfold chatelainelaw33_ScriptTakes at hf
  refine c_enterM Try.func9 rfl 67 rfl (by simp) _ hm _ rfl (fun a h => ?_)
  refine c_rs ?_ -- region 0
  refine s_assign h rfl _ rfl rfl (by decide) rfl (fun a h => ?_)
  refine l_end ?_
  refine wp_seq ?_
  refine c_rs ?_ -- region 1
  obtain ⟨x1, h2, hf⟩ := bsome hf
  have hX := chatelainelaw33_awake_ok Fu (S0 := snapAll _)  _ h2 _ h.startAll
  refine q_callX hX h rfl rfl rfl (by decide) Try.func44 rfl rfl rfl (fun a w v L1 S1 hR hb1 h => ?_)
  obtain ⟨rfl, rfl, _⟩ := hR
  refine s_x h rfl rfl (by decide) (x_not h.k rfl rfl) (fun a h => ?_)
  refine l_end ?_
  refine c_cond h rfl (fun hb => ?_) (fun hb => ?_)
  · rw [if_pos hb] at hf
    refine c_rs ?_ -- region 2
    refine s_assign h rfl _ rfl rfl (by decide) rfl (fun a h => ?_)
    refine l_end ?_
    refine wp_ret ?_
    refine e_thenR ?_
    rw [← Option.some.inj hf]
    exact r_ret1 h rfl (rv_tmp h rfl) ⟨_, [], _, rfl, ⟨rfl, rfl, trivial⟩, rfl, (Up.refl _ _ _), h.m⟩
  · rw [if_neg (by rw [hb]; decide)] at hf
    refine wp_skip ?_
    refine e_thenN ?_
    refine wp_seq ?_
    refine c_rs ?_ -- region 3
    refine s_move h rfl _ rfl rfl (by decide) rfl (fun a h => ?_)
    refine s_x h rfl rfl (by decide) (x_len h.k rfl Try.underlying22 rfl) (fun a h => ?_)
    refine s_x h rfl rfl (by decide) (x_bin h.k rfl rfl rfl ib_gtr) (fun a h => ?_)
    refine s_move h rfl _ rfl rfl (by decide) rfl (fun a h => ?_)
    refine q_grp h 4 (t := 20) 24 ((decide (700 < (a0.length : Int))) || (decide (2000 < (a1.length : Int)))) rfl (fun hB3 => ?_) (fun hB3 => ?_) (fun a w h => ?_)
    · refine g_no h rfl rfl rfl rfl hB3 rfl (by decide) (fun a h => ?_)
      refine g_no h rfl rfl rfl rfl hB3 rfl (by decide) (fun a h => ?_)
      refine g_no h rfl rfl rfl rfl hB3 rfl (by decide) (fun a h => ?_)
      refine s_x h rfl rfl (by decide) (x_pick (u' := undef) h.k rfl rfl (fun _ => rfl) (fun hh => absurd (hB3.symm.trans hh) (by decide))) (fun a h => ?_)
      exact (h.mid 3 rfl).val (by first | rfl | (rw [hB3]; first | rfl | simp))
    · refine g_yes h rfl rfl rfl rfl hB3 ?_
      refine s_move h rfl _ rfl rfl (by decide) rfl (fun a h => ?_)
      refine g_yes h rfl rfl rfl rfl hB3 ?_
      refine s_x h rfl rfl (by decide) (x_len h.k rfl Try.underlying22 rfl) (fun a h => ?_)
      refine g_yes h rfl rfl rfl rfl hB3 ?_
      refine s_x h rfl rfl (by decide) (x_bin h.k rfl rfl rfl ib_gtr) (fun a h => ?_)
      refine s_x h rfl rfl (by decide) (x_pick (u' := undef) h.k rfl rfl (fun hh => absurd (hB3.symm.trans hh) (by decide)) (fun _ => rfl)) (fun a h => ?_)
      exact (h.mid 3 rfl).val (by first | rfl | (rw [hB3]; first | rfl | simp))
    refine l_end ?_
    refine c_cond h rfl (fun hb => ?_) (fun hb => ?_)
    · rw [if_pos hb] at hf
      refine c_rs ?_ -- region 4
      refine s_assign h rfl _ rfl rfl (by decide) rfl (fun a h => ?_)
      refine l_end ?_
      refine wp_ret ?_
      refine e_thenR ?_
      rw [← Option.some.inj hf]
      exact r_ret1 h rfl (rv_tmp h rfl) ⟨_, [], _, rfl, ⟨rfl, rfl, trivial⟩, rfl, (Up.refl _ _ _), h.m⟩
    · rw [if_neg (by rw [hb]; decide)] at hf
      refine wp_skip ?_
      refine e_thenN ?_
      refine c_rs ?_ -- region 5
      refine s_move h rfl _ rfl rfl (by decide) rfl (fun a h => ?_)
      refine s_move h rfl _ rfl rfl (by decide) rfl (fun a h => ?_)
      obtain ⟨x6, h7, hf⟩ := bsome hf
      have hX := script_Take_ok Fu (S0 := S0) Aa0 ca0 a0 hsa0 a2 hra2 _ h7 _ (h.sub (Ls := []))
      refine q_callY (Ls := []) hX h (Up.refl _ _ _) rfl rfl rfl (by decide) Try.func45 rfl rfl rfl (fun a w v L1 S9 hR le11 up10 h => ?_)
      obtain ⟨k12, rfl, rfl, hv13, hr48, _⟩ := hR
      obtain ⟨k14, k15, rfl, ⟨k16, k17, rfl, ⟨rfl, hr18⟩, ⟨k19, k20, rfl, ⟨rfl, hr21⟩, ⟨k22, k23, rfl, ⟨rfl, hr24⟩, ⟨k25, k26, rfl, ⟨rfl, hr27⟩, ⟨k28, k29, rfl, ⟨rfl, hr30⟩, ⟨k31, k32, rfl, ⟨A33, c34, rfl, hs35⟩, ⟨A36, c37, rfl, hs38⟩⟩⟩⟩⟩⟩⟩, ⟨k39, k40, rfl, ⟨rfl, hr41⟩, ⟨k42, k43, rfl, ⟨rfl, hr44⟩, ⟨A45, c46, rfl, hs47⟩⟩⟩⟩ := hv13
      refine s_move h rfl _ rfl rfl (by decide) rfl (fun a h => ?_)
      refine s_x h rfl rfl (by decide) (x_ext h.k rfl rfl rfl) (fun a h => ?_)
      refine s_x h rfl rfl (by decide) (x_ext h.k rfl rfl rfl) (fun a h => ?_)
      refine s_alloc h rfl rfl rfl (by decide) zi_api_Event rfl (fun a w g49 h => ?_)
      refine s_stW h rfl rfl rfl ag_api_Event rfl (es := [.int .i64 x6.1.1.1, .int .i64 x6.1.1.2.1, .int .i64 x6.1.1.2.2.1, .int .i64 x6.1.1.2.2.2.1, .int .i64 x6.1.1.2.2.2.2.1, .slice A33 x6.1.1.2.2.2.2.2.1.length c34, .slice A36 x6.1.1.2.2.2.2.2.2.length c37, .int .i64 x6.1.2.1, .int .i64 x6.1.2.2.1, .slice A45 x6.1.2.2.2.length c46]) rfl rfl (by simp [Value.oneCell']) 0 rfl rfl (fun a w h => ?_)
      refine s_assign h rfl _ rfl rfl (by decide) rfl (fun a h => ?_)
      refine l_end ?_
      refine c_rs ?_ -- region 6
      refine s_move h rfl _ rfl rfl (by decide) rfl (fun a h => ?_)
      refine s_move h rfl _ rfl rfl (by decide) rfl (fun a h => ?_)
      obtain ⟨x50, h51, hf⟩ := bsome hf
      have h := h.pick [1, 0] (by decide) rfl
      have hX := chatelaineref33_Take_ok Fu (S0 := S9) Aa0 ca0 a0 (hsa0.mono le11) a2 hra2 _ h51 _ (h.sub (Ls := []))
      refine q_callY (Ls := []) hX h up10 rfl rfl rfl (by decide) Try.func46 rfl rfl rfl (fun a w v L1 S53 hR le55 up54 h => ?_)
      obtain ⟨k56, rfl, rfl, hv57, hr92, _⟩ := hR
      obtain ⟨k58, k59, rfl, ⟨k60, k61, rfl, ⟨rfl, hr62⟩, ⟨k63, k64, rfl, ⟨rfl, hr65⟩, ⟨k66, k67, rfl, ⟨rfl, hr68⟩, ⟨k69, k70, rfl, ⟨rfl, hr71⟩, ⟨k72, k73, rfl, ⟨rfl, hr74⟩, ⟨k75, k76, rfl, ⟨A77, c78, rfl, hs79⟩, ⟨A80, c81, rfl, hs82⟩⟩⟩⟩⟩⟩⟩, ⟨k83, k84, rfl, ⟨rfl, hr85⟩, ⟨k86, k87, rfl, ⟨rfl, hr88⟩, ⟨A89, c90, rfl, hs91⟩⟩⟩⟩ := hv57
      refine s_move h rfl _ rfl rfl (by decide) rfl (fun a h => ?_)
      refine s_x h rfl rfl (by decide) (x_ext h.k rfl rfl rfl) (fun a h => ?_)
      refine s_x h rfl rfl (by decide) (x_ext h.k rfl rfl rfl) (fun a h => ?_)
      refine s_alloc h rfl rfl rfl (by decide) zi_api_Event rfl (fun a w g93 h => ?_)
      refine s_stW h rfl rfl rfl ag_api_Event rfl (es := [.int .i64 x50.1.1.1, .int .i64 x50.1.1.2.1, .int .i64 x50.1.1.2.2.1, .int .i64 x50.1.1.2.2.2.1, .int .i64 x50.1.1.2.2.2.2.1, .slice A77 x50.1.1.2.2.2.2.2.1.length c78, .slice A80 x50.1.1.2.2.2.2.2.2.length c81, .int .i64 x50.1.2.1, .int .i64 x50.1.2.2.1, .slice A89 x50.1.2.2.2.length c90]) rfl rfl (by simp [Value.oneCell']) 0 rfl rfl (fun a w h => ?_)
      refine s_assign h rfl _ rfl rfl (by decide) rfl (fun a h => ?_)
      refine l_end ?_
      refine c_rs ?_ -- region 7
      refine s_move h rfl _ rfl rfl (by decide) rfl (fun a h => ?_)
      refine s_move h rfl _ rfl rfl (by decide) rfl (fun a h => ?_)
      obtain ⟨x94, h95, hf⟩ := bsome hf
      have h := h.pick [1, 0, 2] (by decide) rfl
      have hX := script_Unpack_ok Fu (S0 := S53) Aa1 ca1 a1 (hsa1.mono (le11.trans le55)) a2 hra2 _ h95 _ (h.sub (Ls := []))
      refine q_callY (Ls := []) hX h up54 rfl rfl rfl (by decide) Try.func47 rfl rfl rfl (fun a w v L1 S97 hR le99 up98 h => ?_)
      obtain ⟨A100, c101, cs102, rfl, rfl, hq103, hr104, _⟩ := hR
      refine s_move h rfl _ rfl rfl (by decide) rfl (fun a h => ?_)
      refine s_x h rfl rfl (by decide) (x_ext h.k rfl rfl rfl) (fun a h => ?_)
      refine s_x h rfl rfl (by decide) (x_ext h.k rfl rfl rfl) (fun a h => ?_)
      refine s_assign h rfl _ rfl rfl (by decide) rfl (fun a h => ?_)
      refine s_assign h rfl _ rfl rfl (by decide) rfl (fun a h => ?_)
      refine l_end ?_
      refine c_rs ?_ -- region 8
      refine s_move h rfl _ rfl rfl (by decide) rfl (fun a h => ?_)
      refine s_move h rfl _ rfl rfl (by decide) rfl (fun a h => ?_)
      obtain ⟨x105, h106, hf⟩ := bsome hf
      have h := h.pick [1, 0, 2, 3] (by decide) rfl
      have hX := chatelaineref33_Unpack_ok Fu (S0 := S97) Aa1 ca1 a1 (hsa1.mono ((le11.trans le55).trans le99)) a2 hra2 _ h106 _ (h.sub (Ls := []))
      refine q_callY (Ls := []) hX h up98 rfl rfl rfl (by decide) Try.func48 rfl rfl rfl (fun a w v L1 S108 hR le110 up109 h => ?_)
      obtain ⟨A111, c112, cs113, rfl, rfl, hq114, hr115, _⟩ := hR
      refine s_move h rfl _ rfl rfl (by decide) rfl (fun a h => ?_)
      refine s_x h rfl rfl (by decide) (x_ext h.k rfl rfl rfl) (fun a h => ?_)
      refine s_x h rfl rfl (by decide) (x_ext h.k rfl rfl rfl) (fun a h => ?_)
      refine s_assign h rfl _ rfl rfl (by decide) rfl (fun a h => ?_)
      refine s_assign h rfl _ rfl rfl (by decide) rfl (fun a h => ?_)
      refine l_end ?_
      refine c_rs ?_ -- region 9
      refine s_move h rfl _ rfl rfl (by decide) rfl (fun a h => ?_)
      refine s_move h rfl _ rfl rfl (by decide) rfl (fun a h => ?_)
      refine s_x h rfl rfl (by decide) (x_bin h.k rfl rfl rfl ib_eql) (fun a h => ?_)
      refine s_move h rfl _ rfl rfl (by decide) rfl (fun a h => ?_)
      obtain ⟨z117, hz116, hf⟩ := bsome hf
      refine q_grp h 4 (t := 52) 56 z117 rfl (fun hB3 => ?_) (fun hB3 => ?_) (fun a w h => ?_)
      · rw [if_pos (of_decide_eq_true hB3)] at hz116
        refine g_yes h rfl rfl rfl rfl hB3 ?_
        refine s_x h rfl rfl (by decide) (x_ldR h.k rfl ag_api_Event rfl ([.int .i64 x6.1.1.1, .int .i64 x6.1.1.2.1, .int .i64 x6.1.1.2.2.1, .int .i64 x6.1.1.2.2.2.1, .int .i64 x6.1.1.2.2.2.2.1, .slice A33 x6.1.1.2.2.2.2.2.1.length c34, .slice A36 x6.1.1.2.2.2.2.2.2.length c37, .int .i64 x6.1.2.1, .int .i64 x6.1.2.2.1, .slice A45 x6.1.2.2.2.length c46]) rfl (h.m.range0 (i := 4) rfl)) (fun a h => ?_)
        refine g_yes h rfl rfl rfl rfl hB3 ?_
        refine s_x h rfl rfl (by decide) (x_ldR h.k rfl ag_api_Event rfl ([.int .i64 x50.1.1.1, .int .i64 x50.1.1.2.1, .int .i64 x50.1.1.2.2.1, .int .i64 x50.1.1.2.2.2.1, .int .i64 x50.1.1.2.2.2.2.1, .slice A77 x50.1.1.2.2.2.2.2.1.length c78, .slice A80 x50.1.1.2.2.2.2.2.2.length c81, .int .i64 x50.1.2.1, .int .i64 x50.1.2.2.1, .slice A89 x50.1.2.2.2.length c90]) rfl (h.m.range0 (i := 3) rfl)) (fun a h => ?_)
        refine g_yes h rfl rfl rfl rfl hB3 ?_
        obtain ⟨x119, h120, hz116⟩ := bsome hz116
        have hX := chatelaineref33_Same_ok Fu (S0 := snapAll _) ([.int .i64 x6.1.1.1, .int .i64 x6.1.1.2.1, .int .i64 x6.1.1.2.2.1, .int .i64 x6.1.1.2.2.2.1, .int .i64 x6.1.1.2.2.2.2.1, .slice A33 x6.1.1.2.2.2.2.2.1.length c34, .slice A36 x6.1.1.2.2.2.2.2.2.length c37, .int .i64 x6.1.2.1, .int .i64 x6.1.2.2.1, .slice A45 x6.1.2.2.2.length c46]) x6.1 ((tyP (tyP tyI (tyP tyI (tyP tyI (tyP tyI (tyP tyI (tyP (tyL ty8) (tyL ty8))))))) (tyP tyI (tyP tyI (tyL ty8)))).mono (h.m.leAll (i := 1) rfl) (show (tyP (tyP tyI (tyP tyI (tyP tyI (tyP tyI (tyP tyI (tyP (tyL ty8) (tyL ty8))))))) (tyP tyI (tyP tyI (tyL ty8)))).rep S108 ([.int .i64 x6.1.1.1, .int .i64 x6.1.1.2.1, .int .i64 x6.1.1.2.2.1, .int .i64 x6.1.1.2.2.2.1, .int .i64 x6.1.1.2.2.2.2.1, .slice A33 x6.1.1.2.2.2.2.2.1.length c34, .slice A36 x6.1.1.2.2.2.2.2.2.length c37, .int .i64 x6.1.2.1, .int .i64 x6.1.2.2.1, .slice A45 x6.1.2.2.2.length c46]) x6.1 from ⟨[.int .i64 x6.1.1.1, .int .i64 x6.1.1.2.1, .int .i64 x6.1.1.2.2.1, .int .i64 x6.1.1.2.2.2.1, .int .i64 x6.1.1.2.2.2.2.1, .slice A33 x6.1.1.2.2.2.2.2.1.length c34, .slice A36 x6.1.1.2.2.2.2.2.2.length c37], [.int .i64 x6.1.2.1, .int .i64 x6.1.2.2.1, .slice A45 x6.1.2.2.2.length c46], rfl, ⟨[.int .i64 x6.1.1.1], [.int .i64 x6.1.1.2.1, .int .i64 x6.1.1.2.2.1, .int .i64 x6.1.1.2.2.2.1, .int .i64 x6.1.1.2.2.2.2.1, .slice A33 x6.1.1.2.2.2.2.2.1.length c34, .slice A36 x6.1.1.2.2.2.2.2.2.length c37], rfl, ⟨rfl, hr18⟩, ⟨[.int .i64 x6.1.1.2.1], [.int .i64 x6.1.1.2.2.1, .int .i64 x6.1.1.2.2.2.1, .int .i64 x6.1.1.2.2.2.2.1, .slice A33 x6.1.1.2.2.2.2.2.1.length c34, .slice A36 x6.1.1.2.2.2.2.2.2.length c37], rfl, ⟨rfl, hr21⟩, ⟨[.int .i64 x6.1.1.2.2.1], [.int .i64 x6.1.1.2.2.2.1, .int .i64 x6.1.1.2.2.2.2.1, .slice A33 x6.1.1.2.2.2.2.2.1.length c34, .slice A36 x6.1.1.2.2.2.2.2.2.length c37], rfl, ⟨rfl, hr24⟩, ⟨[.int .i64 x6.1.1.2.2.2.1], [.int .i64 x6.1.1.2.2.2.2.1, .slice A33 x6.1.1.2.2.2.2.2.1.length c34, .slice A36 x6.1.1.2.2.2.2.2.2.length c37], rfl, ⟨rfl, hr27⟩, ⟨[.int .i64 x6.1.1.2.2.2.2.1], [.slice A33 x6.1.1.2.2.2.2.2.1.length c34, .slice A36 x6.1.1.2.2.2.2.2.2.length c37], rfl, ⟨rfl, hr30⟩, ⟨[.slice A33 x6.1.1.2.2.2.2.2.1.length c34], [.slice A36 x6.1.1.2.2.2.2.2.2.length c37], rfl, ⟨_, _, rfl, (hs35.mono ((le55.trans le99).trans le110))⟩, ⟨_, _, rfl, (hs38.mono ((le55.trans le99).trans le110))⟩⟩⟩⟩⟩⟩⟩, ⟨[.int .i64 x6.1.2.1], [.int .i64 x6.1.2.2.1, .slice A45 x6.1.2.2.2.length c46], rfl, ⟨rfl, hr41⟩, ⟨[.int .i64 x6.1.2.2.1], [.slice A45 x6.1.2.2.2.length c46], rfl, ⟨rfl, hr44⟩, ⟨_, _, rfl, (hs47.mono ((le55.trans le99).trans le110))⟩⟩⟩⟩)) ([.int .i64 x50.1.1.1, .int .i64 x50.1.1.2.1, .int .i64 x50.1.1.2.2.1, .int .i64 x50.1.1.2.2.2.1, .int .i64 x50.1.1.2.2.2.2.1, .slice A77 x50.1.1.2.2.2.2.2.1.length c78, .slice A80 x50.1.1.2.2.2.2.2.2.length c81, .int .i64 x50.1.2.1, .int .i64 x50.1.2.2.1, .slice A89 x50.1.2.2.2.length c90]) x50.1 ((tyP (tyP tyI (tyP tyI (tyP tyI (tyP tyI (tyP tyI (tyP (tyL ty8) (tyL ty8))))))) (tyP tyI (tyP tyI (tyL ty8)))).mono (h.m.leAll (i := 1) rfl) (show (tyP (tyP tyI (tyP tyI (tyP tyI (tyP tyI (tyP tyI (tyP (tyL ty8) (tyL ty8))))))) (tyP tyI (tyP tyI (tyL ty8)))).rep S108 ([.int .i64 x50.1.1.1, .int .i64 x50.1.1.2.1, .int .i64 x50.1.1.2.2.1, .int .i64 x50.1.1.2.2.2.1, .int .i64 x50.1.1.2.2.2.2.1, .slice A77 x50.1.1.2.2.2.2.2.1.length c78, .slice A80 x50.1.1.2.2.2.2.2.2.length c81, .int .i64 x50.1.2.1, .int .i64 x50.1.2.2.1, .slice A89 x50.1.2.2.2.length c90]) x50.1 from ⟨[.int .i64 x50.1.1.1, .int .i64 x50.1.1.2.1, .int .i64 x50.1.1.2.2.1, .int .i64 x50.1.1.2.2.2.1, .int .i64 x50.1.1.2.2.2.2.1, .slice A77 x50.1.1.2.2.2.2.2.1.length c78, .slice A80 x50.1.1.2.2.2.2.2.2.length c81], [.int .i64 x50.1.2.1, .int .i64 x50.1.2.2.1, .slice A89 x50.1.2.2.2.length c90], rfl, ⟨[.int .i64 x50.1.1.1], [.int .i64 x50.1.1.2.1, .int .i64 x50.1.1.2.2.1, .int .i64 x50.1.1.2.2.2.1, .int .i64 x50.1.1.2.2.2.2.1, .slice A77 x50.1.1.2.2.2.2.2.1.length c78, .slice A80 x50.1.1.2.2.2.2.2.2.length c81], rfl, ⟨rfl, hr62⟩, ⟨[.int .i64 x50.1.1.2.1], [.int .i64 x50.1.1.2.2.1, .int .i64 x50.1.1.2.2.2.1, .int .i64 x50.1.1.2.2.2.2.1, .slice A77 x50.1.1.2.2.2.2.2.1.length c78, .slice A80 x50.1.1.2.2.2.2.2.2.length c81], rfl, ⟨rfl, hr65⟩, ⟨[.int .i64 x50.1.1.2.2.1], [.int .i64 x50.1.1.2.2.2.1, .int .i64 x50.1.1.2.2.2.2.1, .slice A77 x50.1.1.2.2.2.2.2.1.length c78, .slice A80 x50.1.1.2.2.2.2.2.2.length c81], rfl, ⟨rfl, hr68⟩, ⟨[.int .i64 x50.1.1.2.2.2.1], [.int .i64 x50.1.1.2.2.2.2.1, .slice A77 x50.1.1.2.2.2.2.2.1.length c78, .slice A80 x50.1.1.2.2.2.2.2.2.length c81], rfl, ⟨rfl, hr71⟩, ⟨[.int .i64 x50.1.1.2.2.2.2.1], [.slice A77 x50.1.1.2.2.2.2.2.1.length c78, .slice A80 x50.1.1.2.2.2.2.2.2.length c81], rfl, ⟨rfl, hr74⟩, ⟨[.slice A77 x50.1.1.2.2.2.2.2.1.length c78], [.slice A80 x50.1.1.2.2.2.2.2.2.length c81], rfl, ⟨_, _, rfl, (hs79.mono (le99.trans le110))⟩, ⟨_, _, rfl, (hs82.mono (le99.trans le110))⟩⟩⟩⟩⟩⟩⟩, ⟨[.int .i64 x50.1.2.1], [.int .i64 x50.1.2.2.1, .slice A89 x50.1.2.2.2.length c90], rfl, ⟨rfl, hr85⟩, ⟨[.int .i64 x50.1.2.2.1], [.slice A89 x50.1.2.2.2.length c90], rfl, ⟨rfl, hr88⟩, ⟨_, _, rfl, (hs91.mono (le99.trans le110))⟩⟩⟩⟩)) _ h120 _ h.startAll
        refine q_callX hX h rfl rfl rfl (by decide) Try.func49 rfl rfl rfl (fun a w v L1 S1 hR hb1 h => ?_)
        obtain ⟨rfl, rfl, _⟩ := hR
        refine s_x h rfl rfl (by decide) (x_pick (u' := undef) h.k rfl rfl (fun _ => rfl) (fun hh => absurd (hB3.symm.trans hh) (by decide))) (fun a h => ?_)
        exact (h.mid 3 rfl).val (by rw [Option.some.inj hz116])
      · refine g_no h rfl rfl rfl rfl hB3 rfl (by decide) (fun a h => ?_)
        refine g_no h rfl rfl rfl rfl hB3 rfl (by decide) (fun a h => ?_)
        refine g_no h rfl rfl rfl rfl hB3 rfl (by decide) (fun a h => ?_)
        rw [if_neg (of_decide_eq_false hB3)] at hz116
        refine s_x h rfl rfl (by decide) (x_pick (u' := undef) h.k rfl rfl (fun hh => absurd (hB3.symm.trans hh) (by decide)) (fun _ => rfl)) (fun a h => ?_)
        exact (h.mid 3 rfl).val (by rw [Option.some.inj hz116])
      refine s_move h rfl _ rfl rfl (by decide) rfl (fun a h => ?_)
      refine q_grp h 4 (t := 57) 61 (z117 && (decide (x94.2 = x105.2))) rfl (fun hB8 => ?_) (fun hB8 => ?_) (fun a w h => ?_)
      · refine g_yes h rfl rfl rfl rfl hB8 ?_
        refine s_move h rfl _ rfl rfl (by decide) rfl (fun a h => ?_)
        refine g_yes h rfl rfl rfl rfl hB8 ?_
        refine s_move h rfl _ rfl rfl (by decide) rfl (fun a h => ?_)
        refine g_yes h rfl rfl rfl rfl hB8 ?_
        refine s_x h rfl rfl (by decide) (x_bin h.k rfl rfl rfl ib_eql) (fun a h => ?_)
        refine s_x h rfl rfl (by decide) (x_pick (u' := undef) h.k rfl rfl (fun _ => rfl) (fun hh => absurd (hB8.symm.trans hh) (by decide))) (fun a h => ?_)
        exact (h.mid 3 rfl).val (by first | rfl | (rw [hB8]; first | rfl | simp))
      · refine g_no h rfl rfl rfl rfl hB8 rfl (by decide) (fun a h => ?_)
        refine g_no h rfl rfl rfl rfl hB8 rfl (by decide) (fun a h => ?_)
        refine g_no h rfl rfl rfl rfl hB8 rfl (by decide) (fun a h => ?_)
        refine s_x h rfl rfl (by decide) (x_pick (u' := undef) h.k rfl rfl (fun hh => absurd (hB8.symm.trans hh) (by decide)) (fun _ => rfl)) (fun a h => ?_)
        exact (h.mid 3 rfl).val (by first | rfl | (rw [hB8]; first | rfl | simp))
      refine s_move h rfl _ rfl rfl (by decide) rfl (fun a h => ?_)
      obtain ⟨z125, hz124, hf⟩ := bsome hf
      refine q_grp h 4 (t := 62) 66 z125 rfl (fun hB13 => ?_) (fun hB13 => ?_) (fun a w h => ?_)
      · rw [if_pos hB13] at hz124
        refine g_yes h rfl rfl rfl rfl hB13 ?_
        refine s_move h rfl _ rfl rfl (by decide) rfl (fun a h => ?_)
        refine g_yes h rfl rfl rfl rfl hB13 ?_
        refine s_move h rfl _ rfl rfl (by decide) rfl (fun a h => ?_)
        refine g_yes h rfl rfl rfl rfl hB13 ?_
        obtain ⟨x127, h128, hz124⟩ := bsome hz124
        have hX := chatelainelaw33_same_ok Fu (S0 := snapAll _) A100 c101 x94.1 (h.m.rowAll (i := 2) rfl (j := 1) rfl (hq103.mono le110)) A111 c112 x105.1 (h.m.rowAll (i := 0) rfl (j := 1) rfl hq114) _ h128 _ h.startAll
        refine q_callX hX h rfl rfl rfl (by decide) Try.func50 rfl rfl rfl (fun a w v L1 S1 hR hb1 h => ?_)
        obtain ⟨rfl, rfl, _⟩ := hR
        refine s_x h rfl rfl (by decide) (x_pick (u' := undef) h.k rfl rfl (fun _ => rfl) (fun hh => absurd (hB13.symm.trans hh) (by decide))) (fun a h => ?_)
        exact (h.mid 3 rfl).val (by rw [Option.some.inj hz124])
      · refine g_no h rfl rfl rfl rfl hB13 rfl (by decide) (fun a h => ?_)
        refine g_no h rfl rfl rfl rfl hB13 rfl (by decide) (fun a h => ?_)
        refine g_no h rfl rfl rfl rfl hB13 rfl (by decide) (fun a h => ?_)
        rw [if_neg (by rw [hB13]; decide)] at hz124
        refine s_x h rfl rfl (by decide) (x_pick (u' := undef) h.k rfl rfl (fun hh => absurd (hB13.symm.trans hh) (by decide)) (fun _ => rfl)) (fun a h => ?_)
        exact (h.mid 3 rfl).val (by rw [Option.some.inj hz124])
      refine s_assign h rfl _ rfl rfl (by decide) rfl (fun a h => ?_)
      refine l_end ?_
      refine wp_ret ?_
      rw [← Option.some.inj hf]
      exact r_ret1 h rfl (rv_tmp h rfl) ⟨_, [], _, rfl, ⟨rfl, rfl, trivial⟩, rfl, up109, (h.m.pick [1] _ (by decide) rfl)⟩
end Go.Proofs.Ythaakmdafnjkpaa
