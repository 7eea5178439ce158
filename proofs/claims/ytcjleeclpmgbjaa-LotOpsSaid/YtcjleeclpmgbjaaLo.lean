/- Lo: Go functions as plain functions, and that they are so (written by xt.py). -/
import Derived.Test.YtcjleeclpmgbjaaHs
import Derived.Test.YtcjleeclpmgbjaaWd
import Derived.Test.YtcjleeclpmgbjaaEb
import Derived.Test.YtcjleeclpmgbjaaPd
set_option linter.unusedVariables false
set_option linter.unusedSimpArgs false
namespace Go.Proofs.Ytcjleeclpmgbjaa
open Go.RowKit
def lot_New (Fu : Nat) (a0 : List UInt8) : Option (((List UInt8) × UInt64 × Bool)) :=
  (app 1 ([]) a0).bind fun x2 => some (x2, (0 : UInt64), true)
set_option maxRecDepth 100000 in
set_option maxHeartbeats 2000000 in
theorem lot_New_ok (Fu : Nat) {S0 : Snap} (Aa0 : Option Addr) (ca0 : Nat) (a0 : List UInt8) (hsa0 : slS ty8 S0 Aa0 ca0 a0) (r : ((List UInt8) × UInt64 × Bool)) (hf : lot_New Fu a0 = some r) (w0 : World) (hm : Mem w0 (ownL ([] ++ [.sn S0])) ([] ++ [.sn S0]) w0) :
    Calls Try.prog 9 #[.slice Aa0 a0.length ca0] w0 (Ret w0 S0 [] (fun v L1 S1 => ∃ (g16 : Nat), ∃ (A17 : Option Addr), ∃ (c18 : Nat), v = .pointer (some ⟨g16, 0, none⟩) ∧ L1 = [.box g16 65 ([.slice A17 r.1.length c18, .int .u64 (r.2.1.toNat : Int), .bool r.2.2])] ∧ slS ty8 S1 A17 c18 r.1 ∧ True)) := by
  unfold lot_New at hf
  refine c_enterM Try.func9 rfl 8 rfl (by simp) _ hm _ rfl (fun a h => ?_)
  refine c_rs ?_ -- region 0
  refine s_assign h rfl _ rfl rfl (by decide) rfl (fun a h => ?_)
  refine l_end ?_
  refine c_rs ?_ -- region 1
  refine q_bslice0 h rfl rfl rfl (by decide) Try.underlying22 sz_uint8 (fun a w A1 h => ?_)
  refine s_move h rfl _ rfl rfl (by decide) rfl (fun a h => ?_)
  obtain ⟨x2, h3, hf⟩ := bsome hf
  obtain ⟨_, _, vs4, hrd5, hrp6⟩ := id hsa0
  refine q_append (T := ty8) (S := S0) h rfl rfl rfl (by decide) Try.underlying22 zb_uint8 rfl (by decide) rfl 0 rfl (show reps ty8 S0 [] [] from rfl) rfl hrp6 (hrd5 _ (h.m.snOK (i := 1) rfl)) h3 (fun a w A7 c8 cs9 hq10 h => ?_)
  obtain ⟨S11, le12, up13, hs14, h⟩ := q_freeze (T := ty8) h (Up.refl _ _ _) hq10
  refine s_x h rfl rfl (by decide) (x_build h.k rfl [(0, .slice A7 x2.length c8), (2, .bool true)] rfl ([.slice A7 x2.length c8, .int .u64 0, .bool true]) (by kernel_rfl)) (fun a h => ?_)
  refine s_box h rfl rfl rfl (by decide) rfl (cs := [.slice A7 x2.length c8, .int .u64 0, .bool true]) (by rfl) (fun a w g15 h => ?_)
  refine s_assign h rfl _ rfl rfl (by decide) rfl (fun a h => ?_)
  refine l_end ?_
  refine wp_ret ?_
  obtain rfl := Option.some.inj hf
  exact r_ret1 h rfl (rv_tmp h rfl) ⟨_, [.box g15 65 ([.slice A7 x2.length c8, .int .u64 0, .bool true])], _, rfl, ⟨g15, A7, c8, rfl, rfl, hs14, trivial⟩, rfl, up13, h.m⟩
def lot_Lot_Next (Fu : Nat) (a0 : (List UInt8) × UInt64 × Bool) : Option (Int × ((List UInt8) × UInt64 × Bool)) :=
  if (!a0.2.2) = true then (some (0, a0)) else ((word_Put64 Fu a0.2.1).bind fun x7 => (sha_Sum Fu ([a0.1, x7])).bind fun x21 => (bnd 32 0 8).bind fun y36 => (word_Get64 Fu ((x21.take y36.2).drop y36.1)).bind fun x50 => some (w64 ((u64_shr x50.1 2).toNat : Int), (a0.1, (a0.2.1 + (1 : UInt64)), a0.2.2)))
set_option maxRecDepth 100000 in
set_option maxHeartbeats 2000000 in
theorem lot_Lot_Next_ok (Fu : Nat) {S0 : Snap} (a0 : (List UInt8) × UInt64 × Bool) (g1 : Nat) (A2 : Option Addr) (c3 : Nat) (hs4 : slS ty8 S0 A2 c3 a0.1) (r : Int × ((List UInt8) × UInt64 × Bool)) (hf : lot_Lot_Next Fu a0 = some r) (w0 : World) (hm : Mem w0 (ownL ([.box g1 65 ([.slice A2 a0.1.length c3, .int .u64 (a0.2.1.toNat : Int), .bool a0.2.2])] ++ [.sn S0])) ([.box g1 65 ([.slice A2 a0.1.length c3, .int .u64 (a0.2.1.toNat : Int), .bool a0.2.2])] ++ [.sn S0]) w0) :
    Calls Try.prog 7 #[.pointer (some ⟨g1, 0, none⟩)] w0 (Ret w0 S0 [.box g1 65 ([.slice A2 a0.1.length c3, .int .u64 (a0.2.1.toNat : Int), .bool a0.2.2])] (fun v L1 S1 => ∃ (A54 : Option Addr), ∃ (c55 : Nat), v = .int .i64 r.1 ∧ L1 = [.box g1 65 ([.slice A54 r.2.1.length c55, .int .u64 (r.2.2.1.toNat : Int), .bool r.2.2.2])] ∧ r64 r.1 ∧ slS ty8 S1 A54 c55 r.2.1 ∧ True)) := by
  unfold lot_Lot_Next at hf
  obtain ⟨B0, hB0⟩ : ∃ B0, B0 = (ownL ([.box g1 65 ([.slice A2 a0.1.length c3, .int .u64 (a0.2.1.toNat : Int), .bool a0.2.2])] ++ [.sn S0])) := ⟨_, rfl⟩
  rw [← hB0] at hm
  refine c_enterM Try.func7 rfl 41 rfl (by simp) _ hm _ rfl (fun a h => ?_)
  refine c_rs ?_ -- region 0
  refine s_assign h rfl _ rfl rfl (by decide) rfl (fun a h => ?_)
  refine l_end ?_
  refine wp_seq ?_
  refine c_rs ?_ -- region 1
  refine s_move h rfl _ rfl rfl (by decide) rfl (fun a h => ?_)
  refine s_x h rfl rfl (by decide) (x_eql_pn h.k rfl Try.underlying27 rfl rfl) (fun a h => ?_)
  refine s_move h rfl _ rfl rfl (by decide) rfl (fun a h => ?_)
  refine q_grp h 6 (t := 8) 14 (!a0.2.2) rfl (fun hB2 => ?_) (fun hB2 => ?_) (fun a w h => ?_)
  · exact absurd hB2 (by decide)
  · refine g_yes h rfl rfl rfl rfl hB2 ?_
    refine s_move h rfl _ rfl rfl (by decide) rfl (fun a h => ?_)
    refine g_yes h rfl rfl rfl rfl hB2 ?_
    refine s_x h rfl rfl (by decide) (x_nil h.k rfl rfl) (fun a h => ?_)
    refine g_yes h rfl rfl rfl rfl hB2 ?_
    refine s_x h rfl rfl (by decide) (x_faddr h.k rfl Try.underlying65 rfl sz_bool rfl) (fun a h => ?_)
    refine g_yes h rfl rfl rfl rfl hB2 ?_
    refine s_x h rfl rfl (by decide) (x_ld h.k rfl Try.underlying4 rfl rfl ((h.m.cell (i := 0) rfl 2).trans rfl)) (fun a h => ?_)
    refine g_yes h rfl rfl rfl rfl hB2 ?_
    refine s_x h rfl rfl (by decide) (x_not h.k rfl rfl) (fun a h => ?_)
    refine s_x h rfl rfl (by decide) (x_pick (u' := undef) h.k rfl rfl (fun hh => absurd (hB2.symm.trans hh) (by decide)) (fun _ => rfl)) (fun a h => ?_)
    exact (h.mid 5 rfl).val (by first | rfl | (rw [hB2]; first | rfl | simp))
  refine l_end ?_
  refine c_cond h rfl (fun hb => ?_) (fun hb => ?_)
  · rw [if_pos hb] at hf
    refine c_rs ?_ -- region 2
    refine s_assign h rfl _ rfl rfl (by decide) rfl (fun a h => ?_)
    refine l_end ?_
    refine wp_ret ?_
    refine e_thenR ?_
    obtain rfl := Option.some.inj hf
    subst hB0
    exact r_ret1 h rfl (rv_tmp h rfl) ⟨_, [.box g1 65 ([.slice A2 a0.1.length c3, .int .u64 (a0.2.1.toNat : Int), .bool a0.2.2])], _, rfl, ⟨A2, c3, rfl, rfl, (show r64 0 from ⟨by decide, by decide⟩), hs4, trivial⟩, rfl, (Up.refl _ _ _), h.m⟩
  · rw [if_neg (by rw [hb]; decide)] at hf
    refine wp_skip ?_
    refine e_thenN ?_
    refine wp_seq ?_
    -- region 3 draws
    obtain ⟨x7, h8, hf⟩ := bsome hf
    obtain ⟨x21, h22, hf⟩ := bsome hf
    refine c_fin (fun a w => ∃ (S30 : Snap), ∃ (g29 : Nat), ∃ (k33 : List Value), Snap.le S0 S30 ∧ Up B0 w0 S0 S30 ∧ reps ty8 S30 k33 x21 ∧ x21.length = 32 ∧ St 41 w0 B0 [(0, .pointer (some ⟨g1, 0, none⟩)), (3, .pointer (some ⟨g29, 0, none⟩))] [.box g1 65 ([.slice A2 a0.1.length c3, .int .u64 (a0.2.1.toNat : Int), .bool a0.2.2]), .box g29 66 k33, .sn S30] a w) ?_ (fun a w h => ?_)
    · refine d_start h (Mem _ _ _) 12 13 rfl (by kernel_rfl) (fun _ _ _ _ _ h => h) (fun _ h => h) (fun Q a w HE HN h HS => ?_)
      refine d_takeP h (fun _ => HS) HN 0 rfl (by kernel_rfl) (by kernel_rfl) (by kernel_rfl) (by decide) rfl rfl (by decide) (fun w' => x_move h.k _ rfl rfl) (fun a h => ?_)
      refine d_takeP h (fun _ => HS) HN 1 rfl (by kernel_rfl) (by kernel_rfl) (by kernel_rfl) (by decide) rfl rfl (by decide) (fun w' => x_nil h.k rfl rfl) (fun a h => ?_)
      refine d_takeP h (fun _ => HS) HN 2 rfl (by kernel_rfl) (by kernel_rfl) (by kernel_rfl) (by decide) rfl rfl (by decide) (fun w' => x_faddr h.k rfl Try.underlying65 rfl sz_Suint8 rfl) (fun a h => ?_)
      refine d_take h HS HN 3 rfl (by kernel_rfl) (by kernel_rfl) (by kernel_rfl) (by kernel_rfl) (by kernel_rfl) rfl rfl (by decide) (fun w' hw => x_ld h.k rfl Try.underlying22 rfl rfl ((hw.cell (i := 0) rfl 0).trans rfl)) (fun a h => ?_)
      refine d_takeP h (fun _ => HS) HN 4 rfl (by kernel_rfl) (by kernel_rfl) (by kernel_rfl) (by decide) rfl rfl (by decide) (fun w' => x_move h.k _ rfl rfl) (fun a h => ?_)
      refine d_takeP h (fun _ => HS) HN 5 rfl (by kernel_rfl) (by kernel_rfl) (by kernel_rfl) (by decide) rfl rfl (by decide) (fun w' => x_nil h.k rfl rfl) (fun a h => ?_)
      refine d_takeP h (fun _ => HS) HN 6 rfl (by kernel_rfl) (by kernel_rfl) (by kernel_rfl) (by decide) rfl rfl (by decide) (fun w' => x_faddr h.k rfl Try.underlying65 rfl sz_uint64 rfl) (fun a h => ?_)
      refine d_take h HS HN 7 rfl (by kernel_rfl) (by kernel_rfl) (by kernel_rfl) (by kernel_rfl) (by kernel_rfl) rfl rfl (by decide) (fun w' hw => x_ld h.k rfl Try.underlying63 rfl rfl ((hw.cell (i := 0) rfl 1).trans rfl)) (fun a h => ?_)
      refine d_two 8 11 (by kernel_rfl) (d_one 8 rfl _ (fun K hK => ?_)) (d_one 11 rfl _ (fun K hK => ?_))
      · have hX := word_Put64_ok Fu (S0 := snapAll _) a0.2.1 _ h8 _ h.startAll
        refine q_callX hX h rfl rfl rfl (by decide) Try.func31 rfl rfl rfl (fun a w v L1 S1 hR hb1 h => ?_)
        obtain ⟨A10, c11, cs12, rfl, rfl, hq13, _⟩ := hR
        have hq14 := hq13.fl (S' := S0) fl_8
        refine hK _ _ ⟨fun _ _ => HS.ext hb1, ?_⟩
        replace HS := HS.ext hb1
        clear hK
        refine d_two 9 11 (by kernel_rfl) (d_one 9 rfl _ (fun K hK => ?_)) (d_one 11 rfl _ (fun K hK => ?_))
        · have h := h.pick [0, 2, 1] (by decide) rfl
          obtain ⟨S15, le16, up17, hs18, h⟩ := q_freeze (T := ty8) h (Up.refl _ _ _) hq14
          refine q_bslice (T := tyL ty8) (S := S15) h rfl rfl rfl (by decide) Try.underlying87 zi_Suint8 (by decide) (by decide) (by decide) (by decide) [.slice A2 a0.1.length c3, .slice A10 x7.length c11] rfl rfl (C := [[.slice A2 a0.1.length c3], [.slice A10 x7.length c11]]) rfl (xs := [a0.1, x7]) ⟨[.slice A2 a0.1.length c3], _, rfl, ⟨_, _, rfl, (hs4.mono le16)⟩, ⟨[.slice A10 x7.length c11], _, rfl, ⟨_, _, rfl, hs18⟩, rfl⟩⟩ (by simp only [List.mem_cons, List.not_mem_nil, or_false]; rintro c (rfl | rfl) <;> rfl) (fun a w A19 h => ?_)
          have hb20 : reps (tyL ty8) S15 ([[.slice A2 a0.1.length c3], [.slice A10 x7.length c11]] : List (List Value)).flatten [a0.1, x7] := ⟨[.slice A2 a0.1.length c3], _, rfl, ⟨_, _, rfl, (hs4.mono le16)⟩, ⟨[.slice A10 x7.length c11], _, rfl, ⟨_, _, rfl, hs18⟩, rfl⟩⟩
          replace HS := (h.m.pick [2, 1] [.box g1 65 ([.slice A2 a0.1.length c3, .int .u64 (a0.2.1.toNat : Int), .bool a0.2.2]), .sn S15] (by decide) rfl).snLe 1 rfl le16
          refine hK _ _ ⟨fun _ _ => HS, ?_⟩
          clear hK
          refine d_two 10 11 (by kernel_rfl) (d_one 10 rfl _ (fun K hK => ?_)) (d_one 11 rfl _ (fun K hK => ?_))
          · have hX := sha_Sum_ok Fu (S0 := snapAll _) A19 2 ([a0.1, x7]) (h.m.rowAll (i := 0) rfl (j := 1) rfl hb20) _ h22 _ h.startAll
            refine q_callX hX h rfl rfl rfl (by decide) Try.func30 rfl rfl rfl (fun a w v L1 S1 hR hb1 h => ?_)
            obtain ⟨k24, rfl, rfl, hv25, _⟩ := hR
            obtain ⟨hs26, hl27⟩ := hv25
            have hq28 := hs26.fl (S' := S15) fl_8
            refine hK _ _ ⟨fun _ _ => HS.ext hb1, ?_⟩
            replace HS := HS.ext hb1
            clear hK
            refine d_alone 11 rfl (by kernel_rfl) (fun K hK => ?_)
            refine s_alloc h rfl rfl rfl (by decide) zi_A32_uint8 rfl (fun a w g29 h => ?_)
            replace HS := (h.m.pick [3, 2] [.box g1 65 ([.slice A2 a0.1.length c3, .int .u64 (a0.2.1.toNat : Int), .bool a0.2.2]), .sn S15] (by decide) rfl).snLe 1 rfl le16
            refine hK _ _ (fun _ _ => HS) ?_
            clear hK
            refine d_alone 12 rfl (by kernel_rfl) (fun K hK => ?_)
            refine s_stW h rfl rfl rfl ag_A32_uint8 rfl (es := k24) rfl ((hq28).len.trans (by rw [hl27]; rfl)) (hq28).one 0 rfl (by first | rfl | simp_all) (fun a w h => ?_)
            refine hK _ _ (fun hne _ => absurd rfl hne) ?_
            clear hK
            refine d_done (by kernel_rfl) (HE _ _ ?_) _
            refine e_thenN ?_
            have h := h.pick [3, 0, 2] (by decide) rfl
            exact ⟨S15, g29, k24, le16, up17, hq28, hl27, h.has (by exact ⟨rfl, rfl, trivial⟩)⟩
          · refine s_alloc h rfl rfl rfl (by decide) zi_A32_uint8 rfl (fun a w g29 h => ?_)
            replace HS := (h.m.pick [3, 2] [.box g1 65 ([.slice A2 a0.1.length c3, .int .u64 (a0.2.1.toNat : Int), .bool a0.2.2]), .sn S15] (by decide) rfl).snLe 1 rfl le16
            refine hK _ _ ⟨fun _ _ => HS, ?_⟩
            clear hK
            refine d_alone 10 rfl (by kernel_rfl) (fun K hK => ?_)
            have hX := sha_Sum_ok Fu (S0 := snapAll _) A19 2 ([a0.1, x7]) (h.m.rowAll (i := 1) rfl (j := 2) rfl hb20) _ h22 _ h.startAll
            refine q_callX hX h rfl rfl rfl (by decide) Try.func30 rfl rfl rfl (fun a w v L1 S1 hR hb1 h => ?_)
            obtain ⟨k24, rfl, rfl, hv25, _⟩ := hR
            obtain ⟨hs26, hl27⟩ := hv25
            have hq28 := hs26.fl (S' := S15) fl_8
            refine hK _ _ (fun _ _ => HS.ext hb1) ?_
            replace HS := HS.ext hb1
            clear hK
            refine d_alone 12 rfl (by kernel_rfl) (fun K hK => ?_)
            refine s_stW h rfl rfl rfl ag_A32_uint8 rfl (es := k24) rfl ((hq28).len.trans (by rw [hl27]; rfl)) (hq28).one 0 rfl (by first | rfl | simp_all) (fun a w h => ?_)
            refine hK _ _ (fun hne _ => absurd rfl hne) ?_
            clear hK
            refine d_done (by kernel_rfl) (HE _ _ ?_) _
            refine e_thenN ?_
            have h := h.pick [3, 0, 2] (by decide) rfl
            exact ⟨S15, g29, k24, le16, up17, hq28, hl27, h.has (by exact ⟨rfl, rfl, trivial⟩)⟩
        · refine s_alloc h rfl rfl rfl (by decide) zi_A32_uint8 rfl (fun a w g29 h => ?_)
          replace HS := h.m.pick [2, 3] [.box g1 65 ([.slice A2 a0.1.length c3, .int .u64 (a0.2.1.toNat : Int), .bool a0.2.2]), .sn S0] (by decide) rfl
          refine hK _ _ ⟨fun _ _ => HS, ?_⟩
          clear hK
          refine d_alone 9 rfl (by kernel_rfl) (fun K hK => ?_)
          have h := h.pick [1, 3, 0, 2] (by decide) rfl
          obtain ⟨S15, le16, up17, hs18, h⟩ := q_freeze (T := ty8) h (Up.refl _ _ _) hq14
          refine q_bslice (T := tyL ty8) (S := S15) h rfl rfl rfl (by decide) Try.underlying87 zi_Suint8 (by decide) (by decide) (by decide) (by decide) [.slice A2 a0.1.length c3, .slice A10 x7.length c11] rfl rfl (C := [[.slice A2 a0.1.length c3], [.slice A10 x7.length c11]]) rfl (xs := [a0.1, x7]) ⟨[.slice A2 a0.1.length c3], _, rfl, ⟨_, _, rfl, (hs4.mono le16)⟩, ⟨[.slice A10 x7.length c11], _, rfl, ⟨_, _, rfl, hs18⟩, rfl⟩⟩ (by simp only [List.mem_cons, List.not_mem_nil, or_false]; rintro c (rfl | rfl) <;> rfl) (fun a w A19 h => ?_)
          have hb20 : reps (tyL ty8) S15 ([[.slice A2 a0.1.length c3], [.slice A10 x7.length c11]] : List (List Value)).flatten [a0.1, x7] := ⟨[.slice A2 a0.1.length c3], _, rfl, ⟨_, _, rfl, (hs4.mono le16)⟩, ⟨[.slice A10 x7.length c11], _, rfl, ⟨_, _, rfl, hs18⟩, rfl⟩⟩
          replace HS := (h.m.pick [3, 1] [.box g1 65 ([.slice A2 a0.1.length c3, .int .u64 (a0.2.1.toNat : Int), .bool a0.2.2]), .sn S15] (by decide) rfl).snLe 1 rfl le16
          refine hK _ _ (fun _ _ => HS) ?_
          clear hK
          refine d_alone 10 rfl (by kernel_rfl) (fun K hK => ?_)
          have hX := sha_Sum_ok Fu (S0 := snapAll _) A19 2 ([a0.1, x7]) (h.m.rowAll (i := 0) rfl (j := 1) rfl hb20) _ h22 _ h.startAll
          refine q_callX hX h rfl rfl rfl (by decide) Try.func30 rfl rfl rfl (fun a w v L1 S1 hR hb1 h => ?_)
          obtain ⟨k24, rfl, rfl, hv25, _⟩ := hR
          obtain ⟨hs26, hl27⟩ := hv25
          have hq28 := hs26.fl (S' := S15) fl_8
          refine hK _ _ (fun _ _ => HS.ext hb1) ?_
          replace HS := HS.ext hb1
          clear hK
          refine d_alone 12 rfl (by kernel_rfl) (fun K hK => ?_)
          refine s_stW h rfl rfl rfl ag_A32_uint8 rfl (es := k24) rfl ((hq28).len.trans (by rw [hl27]; rfl)) (hq28).one 2 rfl (by first | rfl | simp_all) (fun a w h => ?_)
          refine hK _ _ (fun hne _ => absurd rfl hne) ?_
          clear hK
          refine d_done (by kernel_rfl) (HE _ _ ?_) _
          refine e_thenN ?_
          have h := h.pick [3, 2, 1] (by decide) rfl
          exact ⟨S15, g29, k24, le16, up17, hq28, hl27, h.has (by exact ⟨rfl, rfl, trivial⟩)⟩
      · refine s_alloc h rfl rfl rfl (by decide) zi_A32_uint8 rfl (fun a w g29 h => ?_)
        replace HS := h.m.pick [1, 2] [.box g1 65 ([.slice A2 a0.1.length c3, .int .u64 (a0.2.1.toNat : Int), .bool a0.2.2]), .sn S0] (by decide) rfl
        refine hK _ _ ⟨fun _ _ => HS, ?_⟩
        clear hK
        refine d_alone 8 rfl (by kernel_rfl) (fun K hK => ?_)
        have hX := word_Put64_ok Fu (S0 := snapAll _) a0.2.1 _ h8 _ h.startAll
        refine q_callX hX h rfl rfl rfl (by decide) Try.func31 rfl rfl rfl (fun a w v L1 S1 hR hb1 h => ?_)
        obtain ⟨A10, c11, cs12, rfl, rfl, hq13, _⟩ := hR
        have hq14 := hq13.fl (S' := S0) fl_8
        refine hK _ _ (fun _ _ => HS.ext hb1) ?_
        replace HS := HS.ext hb1
        clear hK
        refine d_alone 9 rfl (by kernel_rfl) (fun K hK => ?_)
        have h := h.pick [0, 3, 1, 2] (by decide) rfl
        obtain ⟨S15, le16, up17, hs18, h⟩ := q_freeze (T := ty8) h (Up.refl _ _ _) hq14
        refine q_bslice (T := tyL ty8) (S := S15) h rfl rfl rfl (by decide) Try.underlying87 zi_Suint8 (by decide) (by decide) (by decide) (by decide) [.slice A2 a0.1.length c3, .slice A10 x7.length c11] rfl rfl (C := [[.slice A2 a0.1.length c3], [.slice A10 x7.length c11]]) rfl (xs := [a0.1, x7]) ⟨[.slice A2 a0.1.length c3], _, rfl, ⟨_, _, rfl, (hs4.mono le16)⟩, ⟨[.slice A10 x7.length c11], _, rfl, ⟨_, _, rfl, hs18⟩, rfl⟩⟩ (by simp only [List.mem_cons, List.not_mem_nil, or_false]; rintro c (rfl | rfl) <;> rfl) (fun a w A19 h => ?_)
        have hb20 : reps (tyL ty8) S15 ([[.slice A2 a0.1.length c3], [.slice A10 x7.length c11]] : List (List Value)).flatten [a0.1, x7] := ⟨[.slice A2 a0.1.length c3], _, rfl, ⟨_, _, rfl, (hs4.mono le16)⟩, ⟨[.slice A10 x7.length c11], _, rfl, ⟨_, _, rfl, hs18⟩, rfl⟩⟩
        replace HS := (h.m.pick [3, 1] [.box g1 65 ([.slice A2 a0.1.length c3, .int .u64 (a0.2.1.toNat : Int), .bool a0.2.2]), .sn S15] (by decide) rfl).snLe 1 rfl le16
        refine hK _ _ (fun _ _ => HS) ?_
        clear hK
        refine d_alone 10 rfl (by kernel_rfl) (fun K hK => ?_)
        have hX := sha_Sum_ok Fu (S0 := snapAll _) A19 2 ([a0.1, x7]) (h.m.rowAll (i := 0) rfl (j := 1) rfl hb20) _ h22 _ h.startAll
        refine q_callX hX h rfl rfl rfl (by decide) Try.func30 rfl rfl rfl (fun a w v L1 S1 hR hb1 h => ?_)
        obtain ⟨k24, rfl, rfl, hv25, _⟩ := hR
        obtain ⟨hs26, hl27⟩ := hv25
        have hq28 := hs26.fl (S' := S15) fl_8
        refine hK _ _ (fun _ _ => HS.ext hb1) ?_
        replace HS := HS.ext hb1
        clear hK
        refine d_alone 12 rfl (by kernel_rfl) (fun K hK => ?_)
        refine s_stW h rfl rfl rfl ag_A32_uint8 rfl (es := k24) rfl ((hq28).len.trans (by rw [hl27]; rfl)) (hq28).one 2 rfl (by first | rfl | simp_all) (fun a w h => ?_)
        refine hK _ _ (fun hne _ => absurd rfl hne) ?_
        clear hK
        refine d_done (by kernel_rfl) (HE _ _ ?_) _
        refine e_thenN ?_
        have h := h.pick [3, 2, 1] (by decide) rfl
        exact ⟨S15, g29, k24, le16, up17, hq28, hl27, h.has (by exact ⟨rfl, rfl, trivial⟩)⟩
    obtain ⟨S30, g29, k33, le31, up32, hs34, hl35, h⟩ := h
    refine e_thenN ?_
    refine c_rs ?_ -- region 4
    refine s_move h rfl _ rfl rfl (by decide) rfl (fun a h => ?_)
    refine s_x h rfl rfl (by decide) (x_nil h.k rfl rfl) (fun a h => ?_)
    refine s_x h rfl rfl (by decide) (x_faddr h.k rfl Try.underlying65 rfl sz_uint64 rfl) (fun a h => ?_)
    refine s_x h rfl rfl (by decide) (x_ld h.k rfl Try.underlying63 rfl rfl ((h.m.cell (i := 0) rfl 1).trans rfl)) (fun a h => ?_)
    refine s_x h rfl rfl (by decide) (x_bin h.k rfl rfl rfl (ib_add (u64_add a0.2.1 (1 : UInt64)))) (fun a h => ?_)
    refine s_x h rfl rfl (by decide) (x_nil h.k rfl rfl) (fun a h => ?_)
    refine s_x h rfl rfl (by decide) (x_faddr h.k rfl Try.underlying65 rfl sz_uint64 rfl) (fun a h => ?_)
    refine s_stb h rfl rfl rfl sz_uint64 rfl rfl rfl 0 rfl (by first | decide | simp) (fun a w h => ?_)
    refine l_end ?_
    refine c_rs ?_ -- region 5
    obtain ⟨y36, h37, hf⟩ := bsome hf
    obtain ⟨hi38, hi39, hm40, hm41⟩ := bnd_some h37
    obtain ⟨n42, hn43⟩ : ∃ n, y36.2 - y36.1 = n := ⟨_, rfl⟩
    refine s_x h rfl rfl (by decide) (x_viewB h.k rfl Try.underlying66 sz_uint8 rfl (bd_none (by omega)) (bd_some rfl hi39) hm40 hm41 hn43) (fun a h => ?_)
    have h := h.pick [1, 2, 0] (by decide) rfl
    obtain ⟨S45, le46, up47, hc48, h⟩ := q_freezeBox h up32
    obtain rfl : n42 = ((x21.take y36.2).drop y36.1).length := cut_len (by have := hm41; have := hl35; omega) hn43
    have hs49 := slS_vA (T := ty8) hc48 (hs34.mono le46) rfl hl35 (by decide) hm40 hm41
    obtain ⟨x50, h51, hf⟩ := bsome hf
    have hX := word_Get64_ok Fu (S0 := snapAll _) (vA g29 32 y36.1) (32 - y36.1) ((x21.take y36.2).drop y36.1) (hs49.mono (h.m.leAll (i := 0) rfl)) _ h51 _ h.startAll
    refine q_callX hX h rfl rfl rfl (by decide) Try.func32 rfl rfl rfl (fun a w v L1 S1 hR hb1 h => ?_)
    obtain ⟨rfl, rfl, _⟩ := hR
    refine s_move h rfl _ rfl rfl (by decide) rfl (fun a h => ?_)
    refine s_x h rfl rfl (by decide) (x_ext h.k rfl rfl rfl) (fun a h => ?_)
    refine s_x h rfl rfl (by decide) (x_ext h.k rfl rfl rfl) (fun a h => ?_)
    refine s_assign h rfl _ rfl rfl (by decide) rfl (fun a h => ?_)
    refine s_assign h rfl _ rfl rfl (by decide) rfl (fun a h => ?_)
    refine l_end ?_
    refine c_rs ?_ -- region 6
    refine s_move h rfl _ rfl rfl (by decide) rfl (fun a h => ?_)
    refine s_x h rfl rfl (by decide) (x_bin h.k rfl rfl rfl (ib_shr_u64 x50.1 2)) (fun a h => ?_)
    refine s_x h rfl rfl (by decide) (x_convE h.k rfl Try.underlying63 Try.underlying3 rfl rfl) (fun a h => ?_)
    refine s_assign h rfl _ rfl rfl (by decide) rfl (fun a h => ?_)
    refine l_end ?_
    refine wp_ret ?_
    obtain rfl := Option.some.inj hf
    subst hB0
    exact r_ret1 h rfl (rv_tmp h rfl) ⟨_, [.box g1 65 ([.slice A2 a0.1.length c3, .int .u64 ((a0.2.1 + (1 : UInt64)).toNat : Int), .bool a0.2.2])], _, rfl, ⟨A2, c3, rfl, rfl, (w64_r _), (hs4.mono (le31.trans le46)), trivial⟩, rfl, up47, (h.m.pick [1, 0] _ (by decide) rfl)⟩
def lot_Lot_Next_nil0 (Fu : Nat) : Option Int :=
  some 0
set_option maxRecDepth 100000 in
set_option maxHeartbeats 2000000 in
theorem lot_Lot_Next_nil0_ok (Fu : Nat) {S0 : Snap}  (r : Int) (hf : lot_Lot_Next_nil0 Fu = some r) (w0 : World) (hm : Mem w0 (ownL ([] ++ [.sn S0])) ([] ++ [.sn S0]) w0) :
    Calls Try.prog 7 #[.pointer none] w0 (Ret w0 S0 [] (fun v L1 S1 => v = .int .i64 r ∧ L1 = [] ∧ r64 r ∧ True)) := by
  unfold lot_Lot_Next_nil0 at hf
  refine c_enterM Try.func7 rfl 41 rfl (by simp) _ hm _ rfl (fun a h => ?_)
  refine c_rs ?_ -- region 0
  refine s_assign h rfl _ rfl rfl (by decide) rfl (fun a h => ?_)
  refine l_end ?_
  refine wp_seq ?_
  refine c_rs ?_ -- region 1
  refine s_move h rfl _ rfl rfl (by decide) rfl (fun a h => ?_)
  refine s_x h rfl rfl (by decide) (x_eql_nn h.k rfl Try.underlying27 rfl rfl) (fun a h => ?_)
  refine s_move h rfl _ rfl rfl (by decide) rfl (fun a h => ?_)
  refine q_grp h 6 (t := 8) 14 true rfl (fun hB2 => ?_) (fun hB2 => ?_) (fun a w h => ?_)
  · refine g_no h rfl rfl rfl rfl hB2 rfl (by decide) (fun a h => ?_)
    refine g_no h rfl rfl rfl rfl hB2 rfl (by decide) (fun a h => ?_)
    refine g_no h rfl rfl rfl rfl hB2 rfl (by decide) (fun a h => ?_)
    refine g_no h rfl rfl rfl rfl hB2 rfl (by decide) (fun a h => ?_)
    refine g_no h rfl rfl rfl rfl hB2 rfl (by decide) (fun a h => ?_)
    refine s_x h rfl rfl (by decide) (x_pick (u' := undef) h.k rfl rfl (fun _ => rfl) (fun hh => absurd (hB2.symm.trans hh) (by decide))) (fun a h => ?_)
    exact (h.mid 5 rfl).val (by first | rfl | (rw [hB2]; first | rfl | simp))
  · exact absurd hB2 (by decide)
  refine l_end ?_
  refine c_cond h rfl (fun hb => ?_) (fun hb => ?_)
  · refine c_rs ?_ -- region 2
    refine s_assign h rfl _ rfl rfl (by decide) rfl (fun a h => ?_)
    refine l_end ?_
    refine wp_ret ?_
    refine e_thenR ?_
    rw [← Option.some.inj hf]
    exact r_ret1 h rfl (rv_tmp h rfl) ⟨_, [], _, rfl, ⟨rfl, rfl, (show r64 0 from ⟨by decide, by decide⟩), trivial⟩, rfl, (Up.refl _ _ _), h.m⟩
  · exact absurd hb (by decide)
def lot_Lot_Below (Fu : Nat) (a0 : (List UInt8) × UInt64 × Bool) (a1 : Int) : Option (Int × ((List UInt8) × UInt64 × Bool)) :=
  if a1 < 1 then (some (0, a0)) else ((lot_Lot_Next Fu a0).bind fun x5 => (remI x5.1 a1).bind fun x15 => some (x15, x5.2))
set_option maxRecDepth 100000 in
set_option maxHeartbeats 2000000 in
theorem lot_Lot_Below_ok (Fu : Nat) {S0 : Snap} (a0 : (List UInt8) × UInt64 × Bool) (g1 : Nat) (A2 : Option Addr) (c3 : Nat) (hs4 : slS ty8 S0 A2 c3 a0.1) (a1 : Int) (hra1 : r64 a1) (r : Int × ((List UInt8) × UInt64 × Bool)) (hf : lot_Lot_Below Fu a0 a1 = some r) (w0 : World) (hm : Mem w0 (ownL ([.box g1 65 ([.slice A2 a0.1.length c3, .int .u64 (a0.2.1.toNat : Int), .bool a0.2.2])] ++ [.sn S0])) ([.box g1 65 ([.slice A2 a0.1.length c3, .int .u64 (a0.2.1.toNat : Int), .bool a0.2.2])] ++ [.sn S0]) w0) :
    Calls Try.prog 8 #[.pointer (some ⟨g1, 0, none⟩), .int .i64 a1] w0 (Ret w0 S0 [.box g1 65 ([.slice A2 a0.1.length c3, .int .u64 (a0.2.1.toNat : Int), .bool a0.2.2])] (fun v L1 S1 => ∃ (A18 : Option Addr), ∃ (c19 : Nat), v = .int .i64 r.1 ∧ L1 = [.box g1 65 ([.slice A18 r.2.1.length c19, .int .u64 (r.2.2.1.toNat : Int), .bool r.2.2.2])] ∧ r64 r.1 ∧ slS ty8 S1 A18 c19 r.2.1 ∧ True)) := by
  unfold lot_Lot_Below at hf
  obtain ⟨B0, hB0⟩ : ∃ B0, B0 = (ownL ([.box g1 65 ([.slice A2 a0.1.length c3, .int .u64 (a0.2.1.toNat : Int), .bool a0.2.2])] ++ [.sn S0])) := ⟨_, rfl⟩
  rw [← hB0] at hm
  refine c_enterM Try.func8 rfl 11 rfl (by simp) _ hm _ rfl (fun a h => ?_)
  refine c_rs ?_ -- region 0
  refine s_assign h rfl _ rfl rfl (by decide) rfl (fun a h => ?_)
  refine l_end ?_
  refine wp_seq ?_
  refine c_rs ?_ -- region 1
  refine s_move h rfl _ rfl rfl (by decide) rfl (fun a h => ?_)
  refine s_x h rfl rfl (by decide) (x_bin h.k rfl rfl rfl ib_lss) (fun a h => ?_)
  refine l_end ?_
  refine c_cond h rfl (fun hb => ?_) (fun hb => ?_)
  · rw [if_pos (of_decide_eq_true hb)] at hf
    refine c_rs ?_ -- region 2
    refine s_assign h rfl _ rfl rfl (by decide) rfl (fun a h => ?_)
    refine l_end ?_
    refine wp_ret ?_
    refine e_thenR ?_
    obtain rfl := Option.some.inj hf
    subst hB0
    exact r_ret1 h rfl (rv_tmp h rfl) ⟨_, [.box g1 65 ([.slice A2 a0.1.length c3, .int .u64 (a0.2.1.toNat : Int), .bool a0.2.2])], _, rfl, ⟨A2, c3, rfl, rfl, (show r64 0 from ⟨by decide, by decide⟩), hs4, trivial⟩, rfl, (Up.refl _ _ _), h.m⟩
  · rw [if_neg (of_decide_eq_false hb)] at hf
    refine wp_skip ?_
    refine e_thenN ?_
    refine c_rs ?_ -- region 3
    refine s_move h rfl _ rfl rfl (by decide) rfl (fun a h => ?_)
    obtain ⟨x5, h6, hf⟩ := bsome hf
    have hX := lot_Lot_Next_ok Fu (S0 := S0) a0 g1 A2 c3 hs4 _ h6 _ (h.sub (Ls := [.box g1 65 ([.slice A2 a0.1.length c3, .int .u64 (a0.2.1.toNat : Int), .bool a0.2.2])]))
    refine q_callY (Ls := [.box g1 65 ([.slice A2 a0.1.length c3, .int .u64 (a0.2.1.toNat : Int), .bool a0.2.2])]) hX h (Up.refl _ _ _) rfl rfl rfl (by decide) Try.func7 rfl rfl rfl (fun a w v L1 S8 hR le10 up9 h => ?_)
    obtain ⟨A12, c13, rfl, rfl, hr11, hs14, _⟩ := hR
    refine s_move h rfl _ rfl rfl (by decide) rfl (fun a h => ?_)
    obtain ⟨x15, h16, hf⟩ := bsome hf
    refine s_x h rfl rfl (by decide) (x_bin h.k rfl rfl rfl (ib_rem_ h16)) (fun a h => ?_)
    refine s_assign h rfl _ rfl rfl (by decide) rfl (fun a h => ?_)
    refine l_end ?_
    refine wp_ret ?_
    obtain rfl := Option.some.inj hf
    subst hB0
    exact r_ret1 h rfl (rv_tmp h rfl) ⟨_, [.box g1 65 ([.slice A12 x5.2.1.length c13, .int .u64 (x5.2.2.1.toNat : Int), .bool x5.2.2.2])], _, rfl, ⟨A12, c13, rfl, rfl, (remI_r h16 hr11), hs14, trivial⟩, rfl, up9, h.m⟩
def lot_Lot_Below_nil0 (Fu : Nat) (a1 : Int) : Option Int :=
  if a1 < 1 then (some 0) else ((lot_Lot_Next_nil0 Fu).bind fun x1 => (remI x1 a1).bind fun x5 => some x5)
set_option maxRecDepth 100000 in
set_option maxHeartbeats 2000000 in
theorem lot_Lot_Below_nil0_ok (Fu : Nat) {S0 : Snap} (a1 : Int) (hra1 : r64 a1) (r : Int) (hf : lot_Lot_Below_nil0 Fu a1 = some r) (w0 : World) (hm : Mem w0 (ownL ([] ++ [.sn S0])) ([] ++ [.sn S0]) w0) :
    Calls Try.prog 8 #[.pointer none, .int .i64 a1] w0 (Ret w0 S0 [] (fun v L1 S1 => v = .int .i64 r ∧ L1 = [] ∧ r64 r ∧ True)) := by
  unfold lot_Lot_Below_nil0 at hf
  refine c_enterM Try.func8 rfl 11 rfl (by simp) _ hm _ rfl (fun a h => ?_)
  refine c_rs ?_ -- region 0
  refine s_assign h rfl _ rfl rfl (by decide) rfl (fun a h => ?_)
  refine l_end ?_
  refine wp_seq ?_
  refine c_rs ?_ -- region 1
  refine s_move h rfl _ rfl rfl (by decide) rfl (fun a h => ?_)
  refine s_x h rfl rfl (by decide) (x_bin h.k rfl rfl rfl ib_lss) (fun a h => ?_)
  refine l_end ?_
  refine c_cond h rfl (fun hb => ?_) (fun hb => ?_)
  · rw [if_pos (of_decide_eq_true hb)] at hf
    refine c_rs ?_ -- region 2
    refine s_assign h rfl _ rfl rfl (by decide) rfl (fun a h => ?_)
    refine l_end ?_
    refine wp_ret ?_
    refine e_thenR ?_
    rw [← Option.some.inj hf]
    exact r_ret1 h rfl (rv_tmp h rfl) ⟨_, [], _, rfl, ⟨rfl, rfl, (show r64 0 from ⟨by decide, by decide⟩), trivial⟩, rfl, (Up.refl _ _ _), h.m⟩
  · rw [if_neg (of_decide_eq_false hb)] at hf
    refine wp_skip ?_
    refine e_thenN ?_
    refine c_rs ?_ -- region 3
    refine s_move h rfl _ rfl rfl (by decide) rfl (fun a h => ?_)
    obtain ⟨x1, h2, hf⟩ := bsome hf
    have hX := lot_Lot_Next_nil0_ok Fu (S0 := snapAll _)  _ h2 _ h.startAll
    refine q_callX hX h rfl rfl rfl (by decide) Try.func7 rfl rfl rfl (fun a w v L1 S1 hR hb1 h => ?_)
    obtain ⟨rfl, rfl, hr4, _⟩ := hR
    refine s_move h rfl _ rfl rfl (by decide) rfl (fun a h => ?_)
    obtain ⟨x5, h6, hf⟩ := bsome hf
    refine s_x h rfl rfl (by decide) (x_bin h.k rfl rfl rfl (ib_rem_ h6)) (fun a h => ?_)
    refine s_assign h rfl _ rfl rfl (by decide) rfl (fun a h => ?_)
    refine l_end ?_
    refine wp_ret ?_
    rw [← Option.some.inj hf]
    exact r_ret1 h rfl (rv_tmp h rfl) ⟨_, [], _, rfl, ⟨rfl, rfl, (remI_r h6 hr4), trivial⟩, rfl, (Up.refl _ _ _), h.m⟩
def lot_within (Fu : Nat) (a0 : Int) (a1 : Int) (a2 : Int) : Option Bool :=
  some ((decide (a1 ≤ a0)) && (decide (a0 ≤ a2)))
set_option maxRecDepth 100000 in
set_option maxHeartbeats 2000000 in
theorem lot_within_ok (Fu : Nat) {S0 : Snap} (a0 : Int) (hra0 : r64 a0) (a1 : Int) (hra1 : r64 a1) (a2 : Int) (hra2 : r64 a2) (r : Bool) (hf : lot_within Fu a0 a1 a2 = some r) (w0 : World) (hm : Mem w0 (ownL ([] ++ [.sn S0])) ([] ++ [.sn S0]) w0) :
    Calls Try.prog 33 #[.int .i64 a0, .int .i64 a1, .int .i64 a2] w0 (Ret w0 S0 [] (fun v L1 S1 => v = .bool r ∧ L1 = [] ∧ True)) := by
  unfold lot_within at hf
  refine c_enterM Try.func33 rfl 15 rfl (by simp) _ hm _ rfl (fun a h => ?_)
  refine c_rs ?_ -- region 0
  refine s_assign h rfl _ rfl rfl (by decide) rfl (fun a h => ?_)
  refine l_end ?_
  refine c_rs ?_ -- region 1
  refine s_move h rfl _ rfl rfl (by decide) rfl (fun a h => ?_)
  refine s_move h rfl _ rfl rfl (by decide) rfl (fun a h => ?_)
  refine s_x h rfl rfl (by decide) (x_bin h.k rfl rfl rfl ib_geq) (fun a h => ?_)
  refine s_move h rfl _ rfl rfl (by decide) rfl (fun a h => ?_)
  refine q_grp h 4 (t := 10) 14 ((decide (a1 ≤ a0)) && (decide (a0 ≤ a2))) rfl (fun hB3 => ?_) (fun hB3 => ?_) (fun a w h => ?_)
  · refine g_yes h rfl rfl rfl rfl hB3 ?_
    refine s_move h rfl _ rfl rfl (by decide) rfl (fun a h => ?_)
    refine g_yes h rfl rfl rfl rfl hB3 ?_
    refine s_move h rfl _ rfl rfl (by decide) rfl (fun a h => ?_)
    refine g_yes h rfl rfl rfl rfl hB3 ?_
    refine s_x h rfl rfl (by decide) (x_bin h.k rfl rfl rfl ib_leq) (fun a h => ?_)
    refine s_x h rfl rfl (by decide) (x_pick (u' := undef) h.k rfl rfl (fun _ => rfl) (fun hh => absurd (hB3.symm.trans hh) (by decide))) (fun a h => ?_)
    exact (h.mid 3 rfl).val (by first | rfl | (rw [hB3]; first | rfl | simp))
  · refine g_no h rfl rfl rfl rfl hB3 rfl (by decide) (fun a h => ?_)
    refine g_no h rfl rfl rfl rfl hB3 rfl (by decide) (fun a h => ?_)
    refine g_no h rfl rfl rfl rfl hB3 rfl (by decide) (fun a h => ?_)
    refine s_x h rfl rfl (by decide) (x_pick (u' := undef) h.k rfl rfl (fun hh => absurd (hB3.symm.trans hh) (by decide)) (fun _ => rfl)) (fun a h => ?_)
    exact (h.mid 3 rfl).val (by first | rfl | (rw [hB3]; first | rfl | simp))
  refine s_assign h rfl _ rfl rfl (by decide) rfl (fun a h => ?_)
  refine l_end ?_
  refine wp_ret ?_
  obtain rfl := Option.some.inj hf
  exact r_ret1 h rfl (rv_tmp h rfl) ⟨_, [], _, rfl, ⟨rfl, rfl, trivial⟩, rfl, (Up.refl _ _ _), h.m⟩
def lot_Check_l0 (Fu : Nat) (a0 : Int × Int × Int × Int × Int × Int) : Nat → Int → Int → Option (Sum Int Int)
  | 0, _, _ => none
  | k + 1, x21, x23 => if x23 < 3 then ((idx ([a0.2.2.2.1, a0.2.2.2.2.1, a0.2.2.2.2.2]) x23).bind fun x30 => (lot_within Fu x30 0 100).bind fun x40 => if (!x40) = true then (some (.inl 2)) else (lot_Check_l0 Fu a0 k (w64 (x21 + x30)) (w64 (x23 + 1)))) else (some (.inr x21))
def lot_Check (Fu : Nat) (a0 : Int × Int × Int × Int × Int × Int) : Option Int :=
  (lot_Check_l0 Fu a0 Fu 0 0).bind fun o => match o with | .inl r61 => some r61 | .inr x25 => (if 100 < x25 then some true else (lot_within Fu a0.1 0 4096).bind fun x46 => some (!x46)).bind fun z44 => (if z44 = true then some true else (lot_within Fu a0.2.1 1 16).bind fun x52 => some (!x52)).bind fun z50 => (if z50 = true then some true else (lot_within Fu a0.2.2.1 1 4096).bind fun x58 => some (!x58)).bind fun z56 => if z56 = true then (some 2) else (some 0)
set_option maxRecDepth 100000 in
set_option maxHeartbeats 2000000 in
theorem lot_Check_ok (Fu : Nat) {S0 : Snap} (csa0 : List Value) (a0 : Int × Int × Int × Int × Int × Int) (hsa0 : (tyP tyI (tyP tyI (tyP tyI (tyP tyI (tyP tyI tyI))))).rep S0 csa0 a0) (r : Int) (hf : lot_Check Fu a0 = some r) (w0 : World) (hm : Mem w0 (ownL ([] ++ [.sn S0])) ([] ++ [.sn S0]) w0) :
    Calls Try.prog 15 #[.agg csa0.toArray] w0 (Ret w0 S0 [] (fun v L1 S1 => v = .int .i64 r ∧ L1 = [] ∧ r64 r ∧ True)) := by
  unfold lot_Check at hf
  obtain ⟨k1, k2, rfl, ⟨rfl, hr3⟩, ⟨k4, k5, rfl, ⟨rfl, hr6⟩, ⟨k7, k8, rfl, ⟨rfl, hr9⟩, ⟨k10, k11, rfl, ⟨rfl, hr12⟩, ⟨k13, k14, rfl, ⟨rfl, hr15⟩, ⟨rfl, hr16⟩⟩⟩⟩⟩⟩ := hsa0
  refine c_enterM Try.func15 rfl 43 rfl (by simp) _ hm _ rfl (fun a h => ?_)
  refine c_rs ?_ -- region 0
  refine s_box h rfl rfl rfl (by decide) rfl (cs := [.int .i64 a0.1, .int .i64 a0.2.1, .int .i64 a0.2.2.1, .int .i64 a0.2.2.2.1, .int .i64 a0.2.2.2.2.1, .int .i64 a0.2.2.2.2.2]) (by rfl) (fun a w g17 h => ?_)
  refine s_assign h rfl _ rfl rfl (by decide) rfl (fun a h => ?_)
  refine l_end ?_
  refine c_rs ?_ -- region 1
  refine s_assign h rfl _ rfl rfl (by decide) rfl (fun a h => ?_)
  refine l_end ?_
  refine wp_seq ?_
  refine c_rs ?_ -- region 2
  refine s_x h rfl rfl (by decide) (x_faddr h.k rfl Try.underlying25 rfl sz_int rfl) (fun a h => ?_)
  refine s_x h rfl rfl (by decide) (x_ld h.k rfl Try.underlying3 rfl rfl ((h.m.cell (i := 0) rfl 3).trans rfl)) (fun a h => ?_)
  refine s_x h rfl rfl (by decide) (x_faddr h.k rfl Try.underlying25 rfl sz_int rfl) (fun a h => ?_)
  refine s_x h rfl rfl (by decide) (x_ld h.k rfl Try.underlying3 rfl rfl ((h.m.cell (i := 0) rfl 4).trans rfl)) (fun a h => ?_)
  refine s_x h rfl rfl (by decide) (x_faddr h.k rfl Try.underlying25 rfl sz_int rfl) (fun a h => ?_)
  refine s_x h rfl rfl (by decide) (x_ld h.k rfl Try.underlying3 rfl rfl ((h.m.cell (i := 0) rfl 5).trans rfl)) (fun a h => ?_)
  have hq18 : reps tyI S0 [.int .i64 a0.2.2.2.1, .int .i64 a0.2.2.2.2.1, .int .i64 a0.2.2.2.2.2] [a0.2.2.2.1, a0.2.2.2.2.1, a0.2.2.2.2.2] := ⟨[.int .i64 a0.2.2.2.1], _, rfl, ⟨rfl, hr12⟩, ⟨[.int .i64 a0.2.2.2.2.1], _, rfl, ⟨rfl, hr15⟩, ⟨[.int .i64 a0.2.2.2.2.2], _, rfl, ⟨rfl, hr16⟩, rfl⟩⟩⟩
  refine s_x h rfl rfl (by decide) (x_build h.k rfl [(0, .int .i64 a0.2.2.2.1), (1, .int .i64 a0.2.2.2.2.1), (2, .int .i64 a0.2.2.2.2.2)] rfl [.int .i64 a0.2.2.2.1, .int .i64 a0.2.2.2.2.1, .int .i64 a0.2.2.2.2.2] (by kernel_rfl)) (fun a h => ?_)
  refine s_move h rfl _ rfl rfl (by decide) rfl (fun a h => ?_)
  refine l_end ?_
  obtain ⟨o19, hl20, hf⟩ := bsome hf
  refine c_fin (fun a w => ∃ (x25 : Int), (.inr x25) = o19 ∧ r64 x25 ∧ St 43 w0 (ownL ([] ++ [.sn S0])) [(1, .pointer (some ⟨g17, 0, none⟩)), (3, .int .i64 x25)] [.box g17 25 ([.int .i64 a0.1, .int .i64 a0.2.1, .int .i64 a0.2.2.1, .int .i64 a0.2.2.2.1, .int .i64 a0.2.2.2.2.1, .int .i64 a0.2.2.2.2.2]), .sn S0] a w) ?_ ?_
  · refine wp_block ?_
    refine c_loop (fun m28 a w => ∃ (x21 : Int), ∃ (x23 : Int), lot_Check_l0 Fu a0 m28 x21 x23 = some o19 ∧ r64 x21 ∧ r64 x23 ∧ St 43 w0 (ownL ([] ++ [.sn S0])) [(1, .pointer (some ⟨g17, 0, none⟩)), (3, .int .i64 x21), (12, .agg ([.int .i64 a0.2.2.2.1, .int .i64 a0.2.2.2.2.1, .int .i64 a0.2.2.2.2.2]).toArray), (13, .int .i64 x23)] [.box g17 25 ([.int .i64 a0.1, .int .i64 a0.2.1, .int .i64 a0.2.2.1, .int .i64 a0.2.2.2.1, .int .i64 a0.2.2.2.2.1, .int .i64 a0.2.2.2.2.2]), .sn S0] a w) Fu ⟨0, 0, hl20, (show r64 0 from ⟨by decide, by decide⟩), (show r64 0 from ⟨by decide, by decide⟩), h.has (by exact ⟨rfl, rfl, rfl, rfl, trivial⟩)⟩ (fun m28 a w hI => ?_)
    obtain ⟨x21, x23, hl27, hr22, hr24, h⟩ := hI
    obtain _ | m28 := m28
    · rw [lot_Check_l0] at hl27; cases hl27
    rw [lot_Check_l0] at hl27
    refine c_rs ?_ -- region 3
    refine s_x h rfl rfl (by decide) (x_bin h.k rfl rfl rfl ib_lss) (fun a h => ?_)
    refine l_end ?_
    refine c_cs h rfl (fun hb => ?_) (fun hb => ?_)
    · rw [if_pos (of_decide_eq_true hb)] at hl27
      refine wp_skip ?_
      refine e_thenN ?_
      refine wp_seq ?_
      refine wp_block ?_
      refine c_rs ?_ -- region 4
      obtain ⟨x30, h31, hl27⟩ := bsome hl27
      obtain ⟨m29, hi32, hm33, hx34⟩ := idx_some h31
      obtain ⟨u35, hv36, hu37⟩ := (hq18).cell rfl hx34
      obtain ⟨e39, hr38⟩ := hu37
      cases e39
      refine s_x h rfl rfl (by decide) (x_index h.k rfl Try.underlying74 Try.underlying3 rfl sz_int rfl rfl hi32 (Nat.lt_of_lt_of_eq hm33 (show [a0.2.2.2.1, a0.2.2.2.2.1, a0.2.2.2.2.2].length = 3 from rfl)) (by simpa using hv36)) (fun a h => ?_)
      refine s_assign h rfl _ rfl rfl (by decide) rfl (fun a h => ?_)
      refine l_end ?_
      refine wp_seq ?_
      refine c_rs ?_ -- region 5
      refine s_move h rfl _ rfl rfl (by decide) rfl (fun a h => ?_)
      obtain ⟨x40, h41, hl27⟩ := bsome hl27
      have hX := lot_within_ok Fu (S0 := snapAll _) x30 hr38 0 (show r64 0 from ⟨by decide, by decide⟩) 100 (show r64 100 from ⟨by decide, by decide⟩) _ h41 _ h.startAll
      refine q_callX hX h rfl rfl rfl (by decide) Try.func33 rfl rfl rfl (fun a w v L1 S1 hR hb1 h => ?_)
      obtain ⟨rfl, rfl, _⟩ := hR
      refine s_x h rfl rfl (by decide) (x_not h.k rfl rfl) (fun a h => ?_)
      refine l_end ?_
      refine c_cond h rfl (fun hb => ?_) (fun hb => ?_)
      · rw [if_pos hb] at hl27
        refine c_rs ?_ -- region 6
        refine s_assign h rfl _ rfl rfl (by decide) rfl (fun a h => ?_)
        refine l_end ?_
        refine wp_ret ?_
        refine e_thenR ?_
        refine e_blkR ?_
        refine e_thenR ?_
        refine e_thenR ?_
        refine e_blkR ?_
        refine e_thenR ?_
        cases hl27
        try dsimp only at hf
        refine e_thenR ?_
        rw [← Option.some.inj hf]
        exact r_ret1 h rfl (rv_tmp h rfl) ⟨_, [], _, rfl, ⟨rfl, rfl, (show r64 2 from ⟨by decide, by decide⟩), trivial⟩, rfl, (Up.refl _ _ _), (h.m.pick [1] _ (by decide) rfl)⟩
      · rw [if_neg (by rw [hb]; decide)] at hl27
        refine wp_skip ?_
        refine e_thenN ?_
        refine c_r ?_ -- region 7
        refine s_move h rfl _ rfl rfl (by decide) rfl (fun a h => ?_)
        refine s_move h rfl _ rfl rfl (by decide) rfl (fun a h => ?_)
        refine s_x h rfl rfl (by decide) (x_bin h.k rfl rfl rfl (ib_add rfl)) (fun a h => ?_)
        refine s_assign h rfl _ rfl rfl (by decide) rfl (fun a h => ?_)
        refine l_nil ?_
        refine e_blkN ?_
        refine e_thenN ?_
        refine c_r ?_ -- region 8
        refine s_x h rfl rfl (by decide) (x_bin h.k rfl rfl rfl (ib_add rfl)) (fun a h => ?_)
        refine s_move h rfl _ rfl rfl (by decide) rfl (fun a h => ?_)
        refine l_nil ?_
        exact e_thenN ⟨m28, Nat.lt_succ_self _, w64 (x21 + x30), w64 (x23 + 1), hl27, (w64_r _), (w64_r _), h.has (by exact ⟨rfl, rfl, rfl, rfl, trivial⟩)⟩
    · rw [if_neg (of_decide_eq_false hb)] at hl27
      refine wp_exit ?_
      refine e_thenX ?_
      refine e_thenX ?_
      refine e_blkX ?_
      refine e_thenN ?_
      exact ⟨x21, (Option.some.inj hl27), hr22, h.has (by exact ⟨rfl, rfl, trivial⟩)⟩
  · rintro a w ⟨x25, rfl, hr26, h⟩
    try dsimp only at hf
    refine e_thenN ?_
    refine wp_seq ?_
    refine c_rs ?_ -- region 9
    refine s_move h rfl _ rfl rfl (by decide) rfl (fun a h => ?_)
    refine s_x h rfl rfl (by decide) (x_bin h.k rfl rfl rfl ib_gtr) (fun a h => ?_)
    refine s_move h rfl _ rfl rfl (by decide) rfl (fun a h => ?_)
    obtain ⟨z44, hz43, hf⟩ := bsome hf
    refine q_grp h 5 (t := 25) 30 z44 rfl (fun hB2 => ?_) (fun hB2 => ?_) (fun a w h => ?_)
    · refine g_no h rfl rfl rfl rfl hB2 rfl (by decide) (fun a h => ?_)
      refine g_no h rfl rfl rfl rfl hB2 rfl (by decide) (fun a h => ?_)
      refine g_no h rfl rfl rfl rfl hB2 rfl (by decide) (fun a h => ?_)
      refine g_no h rfl rfl rfl rfl hB2 rfl (by decide) (fun a h => ?_)
      rw [if_pos (of_decide_eq_true hB2)] at hz43
      refine s_x h rfl rfl (by decide) (x_pick (u' := undef) h.k rfl rfl (fun _ => rfl) (fun hh => absurd (hB2.symm.trans hh) (by decide))) (fun a h => ?_)
      exact (h.mid 4 rfl).val (by rw [Option.some.inj hz43])
    · rw [if_neg (of_decide_eq_false hB2)] at hz43
      refine g_yes h rfl rfl rfl rfl hB2 ?_
      refine s_x h rfl rfl (by decide) (x_faddr h.k rfl Try.underlying25 rfl sz_int rfl) (fun a h => ?_)
      refine g_yes h rfl rfl rfl rfl hB2 ?_
      refine s_x h rfl rfl (by decide) (x_ld h.k rfl Try.underlying3 rfl rfl ((h.m.cell (i := 0) rfl 0).trans rfl)) (fun a h => ?_)
      refine g_yes h rfl rfl rfl rfl hB2 ?_
      obtain ⟨x46, h47, hz43⟩ := bsome hz43
      have hX := lot_within_ok Fu (S0 := snapAll _) a0.1 hr3 0 (show r64 0 from ⟨by decide, by decide⟩) 4096 (show r64 4096 from ⟨by decide, by decide⟩) _ h47 _ h.startAll
      refine q_callX hX h rfl rfl rfl (by decide) Try.func33 rfl rfl rfl (fun a w v L1 S1 hR hb1 h => ?_)
      obtain ⟨rfl, rfl, _⟩ := hR
      refine g_yes h rfl rfl rfl rfl hB2 ?_
      refine s_x h rfl rfl (by decide) (x_not h.k rfl rfl) (fun a h => ?_)
      refine s_x h rfl rfl (by decide) (x_pick (u' := undef) h.k rfl rfl (fun hh => absurd (hB2.symm.trans hh) (by decide)) (fun _ => rfl)) (fun a h => ?_)
      exact (h.mid 4 rfl).val (by rw [Option.some.inj hz43])
    refine s_move h rfl _ rfl rfl (by decide) rfl (fun a h => ?_)
    obtain ⟨z50, hz49, hf⟩ := bsome hf
    refine q_grp h 5 (t := 31) 36 z50 rfl (fun hB8 => ?_) (fun hB8 => ?_) (fun a w h => ?_)
    · refine g_no h rfl rfl rfl rfl hB8 rfl (by decide) (fun a h => ?_)
      refine g_no h rfl rfl rfl rfl hB8 rfl (by decide) (fun a h => ?_)
      refine g_no h rfl rfl rfl rfl hB8 rfl (by decide) (fun a h => ?_)
      refine g_no h rfl rfl rfl rfl hB8 rfl (by decide) (fun a h => ?_)
      rw [if_pos hB8] at hz49
      refine s_x h rfl rfl (by decide) (x_pick (u' := undef) h.k rfl rfl (fun _ => rfl) (fun hh => absurd (hB8.symm.trans hh) (by decide))) (fun a h => ?_)
      exact (h.mid 4 rfl).val (by rw [Option.some.inj hz49])
    · rw [if_neg (by rw [hB8]; decide)] at hz49
      refine g_yes h rfl rfl rfl rfl hB8 ?_
      refine s_x h rfl rfl (by decide) (x_faddr h.k rfl Try.underlying25 rfl sz_int rfl) (fun a h => ?_)
      refine g_yes h rfl rfl rfl rfl hB8 ?_
      refine s_x h rfl rfl (by decide) (x_ld h.k rfl Try.underlying3 rfl rfl ((h.m.cell (i := 0) rfl 1).trans rfl)) (fun a h => ?_)
      refine g_yes h rfl rfl rfl rfl hB8 ?_
      obtain ⟨x52, h53, hz49⟩ := bsome hz49
      have hX := lot_within_ok Fu (S0 := snapAll _) a0.2.1 hr6 1 (show r64 1 from ⟨by decide, by decide⟩) 16 (show r64 16 from ⟨by decide, by decide⟩) _ h53 _ h.startAll
      refine q_callX hX h rfl rfl rfl (by decide) Try.func33 rfl rfl rfl (fun a w v L1 S1 hR hb1 h => ?_)
      obtain ⟨rfl, rfl, _⟩ := hR
      refine g_yes h rfl rfl rfl rfl hB8 ?_
      refine s_x h rfl rfl (by decide) (x_not h.k rfl rfl) (fun a h => ?_)
      refine s_x h rfl rfl (by decide) (x_pick (u' := undef) h.k rfl rfl (fun hh => absurd (hB8.symm.trans hh) (by decide)) (fun _ => rfl)) (fun a h => ?_)
      exact (h.mid 4 rfl).val (by rw [Option.some.inj hz49])
    refine s_move h rfl _ rfl rfl (by decide) rfl (fun a h => ?_)
    obtain ⟨z56, hz55, hf⟩ := bsome hf
    refine q_grp h 5 (t := 37) 42 z56 rfl (fun hB14 => ?_) (fun hB14 => ?_) (fun a w h => ?_)
    · refine g_no h rfl rfl rfl rfl hB14 rfl (by decide) (fun a h => ?_)
      refine g_no h rfl rfl rfl rfl hB14 rfl (by decide) (fun a h => ?_)
      refine g_no h rfl rfl rfl rfl hB14 rfl (by decide) (fun a h => ?_)
      refine g_no h rfl rfl rfl rfl hB14 rfl (by decide) (fun a h => ?_)
      rw [if_pos hB14] at hz55
      refine s_x h rfl rfl (by decide) (x_pick (u' := undef) h.k rfl rfl (fun _ => rfl) (fun hh => absurd (hB14.symm.trans hh) (by decide))) (fun a h => ?_)
      exact (h.mid 4 rfl).val (by rw [Option.some.inj hz55])
    · rw [if_neg (by rw [hB14]; decide)] at hz55
      refine g_yes h rfl rfl rfl rfl hB14 ?_
      refine s_x h rfl rfl (by decide) (x_faddr h.k rfl Try.underlying25 rfl sz_int rfl) (fun a h => ?_)
      refine g_yes h rfl rfl rfl rfl hB14 ?_
      refine s_x h rfl rfl (by decide) (x_ld h.k rfl Try.underlying3 rfl rfl ((h.m.cell (i := 0) rfl 2).trans rfl)) (fun a h => ?_)
      refine g_yes h rfl rfl rfl rfl hB14 ?_
      obtain ⟨x58, h59, hz55⟩ := bsome hz55
      have hX := lot_within_ok Fu (S0 := snapAll _) a0.2.2.1 hr9 1 (show r64 1 from ⟨by decide, by decide⟩) 4096 (show r64 4096 from ⟨by decide, by decide⟩) _ h59 _ h.startAll
      refine q_callX hX h rfl rfl rfl (by decide) Try.func33 rfl rfl rfl (fun a w v L1 S1 hR hb1 h => ?_)
      obtain ⟨rfl, rfl, _⟩ := hR
      refine g_yes h rfl rfl rfl rfl hB14 ?_
      refine s_x h rfl rfl (by decide) (x_not h.k rfl rfl) (fun a h => ?_)
      refine s_x h rfl rfl (by decide) (x_pick (u' := undef) h.k rfl rfl (fun hh => absurd (hB14.symm.trans hh) (by decide)) (fun _ => rfl)) (fun a h => ?_)
      exact (h.mid 4 rfl).val (by rw [Option.some.inj hz55])
    refine l_end ?_
    refine c_cond h rfl (fun hb => ?_) (fun hb => ?_)
    · rw [if_pos hb] at hf
      refine c_rs ?_ -- region 10
      refine s_assign h rfl _ rfl rfl (by decide) rfl (fun a h => ?_)
      refine l_end ?_
      refine wp_ret ?_
      refine e_thenR ?_
      rw [← Option.some.inj hf]
      exact r_ret1 h rfl (rv_tmp h rfl) ⟨_, [], _, rfl, ⟨rfl, rfl, (show r64 2 from ⟨by decide, by decide⟩), trivial⟩, rfl, (Up.refl _ _ _), (h.m.pick [1] _ (by decide) rfl)⟩
    · rw [if_neg (by rw [hb]; decide)] at hf
      refine wp_skip ?_
      refine e_thenN ?_
      refine c_rs ?_ -- region 11
      refine s_assign h rfl _ rfl rfl (by decide) rfl (fun a h => ?_)
      refine l_end ?_
      refine wp_ret ?_
      rw [← Option.some.inj hf]
      exact r_ret1 h rfl (rv_tmp h rfl) ⟨_, [], _, rfl, ⟨rfl, rfl, (show r64 0 from ⟨by decide, by decide⟩), trivial⟩, rfl, (Up.refl _ _ _), (h.m.pick [1] _ (by decide) rfl)⟩
def lot_Cred (Fu : Nat) (a0 : Int) : Option ((List UInt8)) :=
  (lot_within Fu a0 1 16).bind fun x1 => if (!x1) = true then (some ([])) else ((appF 1 ([(116 : UInt8), (101 : UInt8), (110 : UInt8), (97 : UInt8), (110 : UInt8), (116 : UInt8)]) ([i8 (w64 (48 + (w64 (Int.tdiv a0 10)))), i8 (w64 (48 + (Int.tmod a0 10)))])).bind fun x14 => some x14)
set_option maxRecDepth 100000 in
set_option maxHeartbeats 2000000 in
theorem lot_Cred_ok (Fu : Nat) {S0 : Snap} (a0 : Int) (hra0 : r64 a0) (r : (List UInt8)) (hf : lot_Cred Fu a0 = some r) (w0 : World) (hm : Mem w0 (ownL ([] ++ [.sn S0])) ([] ++ [.sn S0]) w0) :
    Calls Try.prog 11 #[.int .i64 a0] w0 (Ret w0 S0 [] (fun v L1 S1 => ∃ (A20 : Option Addr), ∃ (c21 : Nat), ∃ (cs22 : List Value), v = .slice A20 r.length c21 ∧ L1 = [.row (.slice A20 r.length c21) 5 1 r.length cs22] ∧ reps ty8 S1 cs22 r ∧ True)) := by
  unfold lot_Cred at hf
  refine c_enterM Try.func11 rfl 18 rfl (by simp) _ hm _ rfl (fun a h => ?_)
  refine c_rs ?_ -- region 0
  refine s_assign h rfl _ rfl rfl (by decide) rfl (fun a h => ?_)
  refine l_end ?_
  refine wp_seq ?_
  refine c_rs ?_ -- region 1
  refine s_move h rfl _ rfl rfl (by decide) rfl (fun a h => ?_)
  obtain ⟨x1, h2, hf⟩ := bsome hf
  have hX := lot_within_ok Fu (S0 := snapAll _) a0 hra0 1 (show r64 1 from ⟨by decide, by decide⟩) 16 (show r64 16 from ⟨by decide, by decide⟩) _ h2 _ h.startAll
  refine q_callX hX h rfl rfl rfl (by decide) Try.func33 rfl rfl rfl (fun a w v L1 S1 hR hb1 h => ?_)
  obtain ⟨rfl, rfl, _⟩ := hR
  refine s_x h rfl rfl (by decide) (x_not h.k rfl rfl) (fun a h => ?_)
  refine l_end ?_
  refine c_cond h rfl (fun hb => ?_) (fun hb => ?_)
  · rw [if_pos hb] at hf
    refine c_rs ?_ -- region 2
    refine s_assign h rfl _ rfl rfl (by decide) rfl (fun a h => ?_)
    refine l_end ?_
    refine wp_ret ?_
    refine e_thenR ?_
    obtain rfl := Option.some.inj hf
    have h := h.mem (h.m.nilrow 5 1)
    exact r_ret1 h rfl (rv_tmp h rfl) ⟨_, [.row (.slice none ([]).length 0) 5 1 ([]).length []], _, rfl, ⟨none, 0, [], rfl, rfl, (show reps ty8 S0 [] [] from rfl), trivial⟩, rfl, (Up.refl _ _ _), h.m⟩
  · rw [if_neg (by rw [hb]; decide)] at hf
    refine wp_skip ?_
    refine e_thenN ?_
    refine c_rs ?_ -- region 3
    refine q_bslice (T := ty8) (S := S0) h rfl rfl rfl (by decide) Try.underlying22 zi_uint8 (by decide) (by decide) (by decide) (by decide) [.int .u8 116, .int .u8 101, .int .u8 110, .int .u8 97, .int .u8 110, .int .u8 116] rfl rfl (C := [[.int .u8 116], [.int .u8 101], [.int .u8 110], [.int .u8 97], [.int .u8 110], [.int .u8 116]]) rfl (xs := [(116 : UInt8), (101 : UInt8), (110 : UInt8), (97 : UInt8), (110 : UInt8), (116 : UInt8)]) ⟨[.int .u8 116], _, rfl, rfl, ⟨[.int .u8 101], _, rfl, rfl, ⟨[.int .u8 110], _, rfl, rfl, ⟨[.int .u8 97], _, rfl, rfl, ⟨[.int .u8 110], _, rfl, rfl, ⟨[.int .u8 116], _, rfl, rfl, rfl⟩⟩⟩⟩⟩⟩ (by simp only [List.mem_cons, List.not_mem_nil, or_false]; rintro c (rfl | rfl | rfl | rfl | rfl | rfl) <;> rfl) (fun a w A5 h => ?_)
    have hb6 : reps ty8 S0 ([[.int .u8 116], [.int .u8 101], [.int .u8 110], [.int .u8 97], [.int .u8 110], [.int .u8 116]] : List (List Value)).flatten [(116 : UInt8), (101 : UInt8), (110 : UInt8), (97 : UInt8), (110 : UInt8), (116 : UInt8)] := ⟨[.int .u8 116], _, rfl, rfl, ⟨[.int .u8 101], _, rfl, rfl, ⟨[.int .u8 110], _, rfl, rfl, ⟨[.int .u8 97], _, rfl, rfl, ⟨[.int .u8 110], _, rfl, rfl, ⟨[.int .u8 116], _, rfl, rfl, rfl⟩⟩⟩⟩⟩⟩
    refine q_convMark (T := ty8) h (Up.refl _ _ _) hb6 rfl rfl rfl (by decide) Try.underlying22 Try.underlying5 rfl (by decide) (fun a w S7 le8 up9 hs10 h => ?_)
    have hf11 : 6 ≤ ([(116 : UInt8), (101 : UInt8), (110 : UInt8), (97 : UInt8), (110 : UInt8), (116 : UInt8)]).length := by decide
    refine s_move h rfl _ rfl rfl (by decide) rfl (fun a h => ?_)
    refine s_x h rfl rfl (by decide) (x_bin h.k rfl rfl rfl (ib_quow (by decide))) (fun a h => ?_)
    refine s_x h rfl rfl (by decide) (x_bin h.k rfl rfl rfl (ib_add rfl)) (fun a h => ?_)
    refine s_x h rfl rfl (by decide) (x_convE h.k rfl Try.underlying3 Try.underlying5 rfl (i8_wrap _).symm) (fun a h => ?_)
    refine s_move h rfl _ rfl rfl (by decide) rfl (fun a h => ?_)
    refine s_x h rfl rfl (by decide) (x_bin h.k rfl rfl rfl (ib_remw (by decide))) (fun a h => ?_)
    refine s_x h rfl rfl (by decide) (x_bin h.k rfl rfl rfl (ib_add rfl)) (fun a h => ?_)
    refine s_x h rfl rfl (by decide) (x_convE h.k rfl Try.underlying3 Try.underlying5 rfl (i8_wrap _).symm) (fun a h => ?_)
    refine q_bslice (T := ty8) (S := S7) h rfl rfl rfl (by decide) Try.underlying22 zi_uint8 (by decide) (by decide) (by decide) (by decide) [.int .u8 ((i8 (w64 (48 + (w64 (Int.tdiv a0 10))))).toNat : Int), .int .u8 ((i8 (w64 (48 + (Int.tmod a0 10)))).toNat : Int)] rfl rfl (C := [[.int .u8 ((i8 (w64 (48 + (w64 (Int.tdiv a0 10))))).toNat : Int)], [.int .u8 ((i8 (w64 (48 + (Int.tmod a0 10)))).toNat : Int)]]) rfl (xs := [i8 (w64 (48 + (w64 (Int.tdiv a0 10)))), i8 (w64 (48 + (Int.tmod a0 10)))]) ⟨[.int .u8 ((i8 (w64 (48 + (w64 (Int.tdiv a0 10))))).toNat : Int)], _, rfl, rfl, ⟨[.int .u8 ((i8 (w64 (48 + (Int.tmod a0 10)))).toNat : Int)], _, rfl, rfl, rfl⟩⟩ (by simp only [List.mem_cons, List.not_mem_nil, or_false]; rintro c (rfl | rfl) <;> rfl) (fun a w A12 h => ?_)
    have hb13 : reps ty8 S7 ([[.int .u8 ((i8 (w64 (48 + (w64 (Int.tdiv a0 10))))).toNat : Int)], [.int .u8 ((i8 (w64 (48 + (Int.tmod a0 10)))).toNat : Int)]] : List (List Value)).flatten [i8 (w64 (48 + (w64 (Int.tdiv a0 10)))), i8 (w64 (48 + (Int.tmod a0 10)))] := ⟨[.int .u8 ((i8 (w64 (48 + (w64 (Int.tdiv a0 10))))).toNat : Int)], _, rfl, rfl, ⟨[.int .u8 ((i8 (w64 (48 + (Int.tmod a0 10)))).toNat : Int)], _, rfl, rfl, rfl⟩⟩
    obtain ⟨x14, h15, hf⟩ := bsome hf
    refine q_appendG (T := ty8) (S := S7) h rfl rfl rfl (by decide) Try.underlying22 zb_uint8 rfl (by decide) rfl 1 rfl hs10 hf11 rfl hb13 (h.m.rdRowA (i := 0) rfl) h15 (fun a w A16 c17 cs18 hq19 h => ?_)
    refine s_assign h rfl _ rfl rfl (by decide) rfl (fun a h => ?_)
    refine l_end ?_
    refine wp_ret ?_
    rw [← Option.some.inj hf]
    exact r_ret1 h rfl (rv_tmp h rfl) ⟨_, [.row (.slice A16 x14.length c17) 5 1 x14.length cs18], _, rfl, ⟨A16, c17, cs18, rfl, rfl, hq19, trivial⟩, rfl, up9, (h.m.pick [0, 2] _ (by decide) rfl)⟩
def chatelaineref43_from (Fu : Nat) (a0 : Int) (a1 : Int) (a2 : Int) : Option Bool :=
  some ((decide (a1 ≤ a0)) && (decide (a0 ≤ a2)))
set_option maxRecDepth 100000 in
set_option maxHeartbeats 2000000 in
theorem chatelaineref43_from_ok (Fu : Nat) {S0 : Snap} (a0 : Int) (hra0 : r64 a0) (a1 : Int) (hra1 : r64 a1) (a2 : Int) (hra2 : r64 a2) (r : Bool) (hf : chatelaineref43_from Fu a0 a1 a2 = some r) (w0 : World) (hm : Mem w0 (ownL ([] ++ [.sn S0])) ([] ++ [.sn S0]) w0) :
    Calls Try.prog 36 #[.int .i64 a0, .int .i64 a1, .int .i64 a2] w0 (Ret w0 S0 [] (fun v L1 S1 => v = .bool r ∧ L1 = [] ∧ True)) := by
  unfold chatelaineref43_from at hf
  refine c_enterM Try.func36 rfl 15 rfl (by simp) _ hm _ rfl (fun a h => ?_)
  refine c_rs ?_ -- region 0
  refine s_assign h rfl _ rfl rfl (by decide) rfl (fun a h => ?_)
  refine l_end ?_
  refine c_rs ?_ -- region 1
  refine s_move h rfl _ rfl rfl (by decide) rfl (fun a h => ?_)
  refine s_move h rfl _ rfl rfl (by decide) rfl (fun a h => ?_)
  refine s_x h rfl rfl (by decide) (x_bin h.k rfl rfl rfl ib_geq) (fun a h => ?_)
  refine s_move h rfl _ rfl rfl (by decide) rfl (fun a h => ?_)
  refine q_grp h 4 (t := 10) 14 ((decide (a1 ≤ a0)) && (decide (a0 ≤ a2))) rfl (fun hB3 => ?_) (fun hB3 => ?_) (fun a w h => ?_)
  · refine g_yes h rfl rfl rfl rfl hB3 ?_
    refine s_move h rfl _ rfl rfl (by decide) rfl (fun a h => ?_)
    refine g_yes h rfl rfl rfl rfl hB3 ?_
    refine s_move h rfl _ rfl rfl (by decide) rfl (fun a h => ?_)
    refine g_yes h rfl rfl rfl rfl hB3 ?_
    refine s_x h rfl rfl (by decide) (x_bin h.k rfl rfl rfl ib_leq) (fun a h => ?_)
    refine s_x h rfl rfl (by decide) (x_pick (u' := undef) h.k rfl rfl (fun _ => rfl) (fun hh => absurd (hB3.symm.trans hh) (by decide))) (fun a h => ?_)
    exact (h.mid 3 rfl).val (by first | rfl | (rw [hB3]; first | rfl | simp))
  · refine g_no h rfl rfl rfl rfl hB3 rfl (by decide) (fun a h => ?_)
    refine g_no h rfl rfl rfl rfl hB3 rfl (by decide) (fun a h => ?_)
    refine g_no h rfl rfl rfl rfl hB3 rfl (by decide) (fun a h => ?_)
    refine s_x h rfl rfl (by decide) (x_pick (u' := undef) h.k rfl rfl (fun hh => absurd (hB3.symm.trans hh) (by decide)) (fun _ => rfl)) (fun a h => ?_)
    exact (h.mid 3 rfl).val (by first | rfl | (rw [hB3]; first | rfl | simp))
  refine s_assign h rfl _ rfl rfl (by decide) rfl (fun a h => ?_)
  refine l_end ?_
  refine wp_ret ?_
  obtain rfl := Option.some.inj hf
  exact r_ret1 h rfl (rv_tmp h rfl) ⟨_, [], _, rfl, ⟨rfl, rfl, trivial⟩, rfl, (Up.refl _ _ _), h.m⟩
def chatelaineref43_May (Fu : Nat) (a0 : Int × Int × Int × Int × Int × Int) : Option Bool :=
  (chatelaineref43_from Fu a0.1 0 4096).bind fun x18 => (if x18 = true then (chatelaineref43_from Fu a0.2.1 1 16).bind fun x24 => some x24 else some false).bind fun z22 => (if z22 = true then (chatelaineref43_from Fu a0.2.2.1 1 4096).bind fun x30 => some x30 else some false).bind fun z28 => (if z28 = true then (chatelaineref43_from Fu a0.2.2.2.1 0 100).bind fun x36 => some x36 else some false).bind fun z34 => (if z34 = true then (chatelaineref43_from Fu a0.2.2.2.2.1 0 100).bind fun x42 => some x42 else some false).bind fun z40 => (if z40 = true then (chatelaineref43_from Fu a0.2.2.2.2.2 0 100).bind fun x48 => some x48 else some false).bind fun z46 => some (z46 && (decide (w64 ((w64 (a0.2.2.2.1 + a0.2.2.2.2.1)) + a0.2.2.2.2.2) ≤ 100)))
set_option maxRecDepth 100000 in
set_option maxHeartbeats 2000000 in
theorem chatelaineref43_May_ok (Fu : Nat) {S0 : Snap} (csa0 : List Value) (a0 : Int × Int × Int × Int × Int × Int) (hsa0 : (tyP tyI (tyP tyI (tyP tyI (tyP tyI (tyP tyI tyI))))).rep S0 csa0 a0) (r : Bool) (hf : chatelaineref43_May Fu a0 = some r) (w0 : World) (hm : Mem w0 (ownL ([] ++ [.sn S0])) ([] ++ [.sn S0]) w0) :
    Calls Try.prog 16 #[.agg csa0.toArray] w0 (Ret w0 S0 [] (fun v L1 S1 => v = .bool r ∧ L1 = [] ∧ True)) := by
  unfold chatelaineref43_May at hf
  obtain ⟨k1, k2, rfl, ⟨rfl, hr3⟩, ⟨k4, k5, rfl, ⟨rfl, hr6⟩, ⟨k7, k8, rfl, ⟨rfl, hr9⟩, ⟨k10, k11, rfl, ⟨rfl, hr12⟩, ⟨k13, k14, rfl, ⟨rfl, hr15⟩, ⟨rfl, hr16⟩⟩⟩⟩⟩⟩ := hsa0
  refine c_enterM Try.func16 rfl 42 rfl (by simp) _ hm _ rfl (fun a h => ?_)
  refine c_rs ?_ -- region 0
  refine s_box h rfl rfl rfl (by decide) rfl (cs := [.int .i64 a0.1, .int .i64 a0.2.1, .int .i64 a0.2.2.1, .int .i64 a0.2.2.2.1, .int .i64 a0.2.2.2.2.1, .int .i64 a0.2.2.2.2.2]) (by rfl) (fun a w g17 h => ?_)
  refine s_assign h rfl _ rfl rfl (by decide) rfl (fun a h => ?_)
  refine l_end ?_
  refine c_rs ?_ -- region 1
  refine s_x h rfl rfl (by decide) (x_faddr h.k rfl Try.underlying25 rfl sz_int rfl) (fun a h => ?_)
  refine s_x h rfl rfl (by decide) (x_ld h.k rfl Try.underlying3 rfl rfl ((h.m.cell (i := 0) rfl 0).trans rfl)) (fun a h => ?_)
  obtain ⟨x18, h19, hf⟩ := bsome hf
  have hX := chatelaineref43_from_ok Fu (S0 := snapAll _) a0.1 hr3 0 (show r64 0 from ⟨by decide, by decide⟩) 4096 (show r64 4096 from ⟨by decide, by decide⟩) _ h19 _ h.startAll
  refine q_callX hX h rfl rfl rfl (by decide) Try.func36 rfl rfl rfl (fun a w v L1 S1 hR hb1 h => ?_)
  obtain ⟨rfl, rfl, _⟩ := hR
  refine s_move h rfl _ rfl rfl (by decide) rfl (fun a h => ?_)
  obtain ⟨z22, hz21, hf⟩ := bsome hf
  refine q_grp h 4 (t := 6) 10 z22 rfl (fun hB3 => ?_) (fun hB3 => ?_) (fun a w h => ?_)
  · rw [if_pos hB3] at hz21
    refine g_yes h rfl rfl rfl rfl hB3 ?_
    refine s_x h rfl rfl (by decide) (x_faddr h.k rfl Try.underlying25 rfl sz_int rfl) (fun a h => ?_)
    refine g_yes h rfl rfl rfl rfl hB3 ?_
    refine s_x h rfl rfl (by decide) (x_ld h.k rfl Try.underlying3 rfl rfl ((h.m.cell (i := 0) rfl 1).trans rfl)) (fun a h => ?_)
    refine g_yes h rfl rfl rfl rfl hB3 ?_
    obtain ⟨x24, h25, hz21⟩ := bsome hz21
    have hX := chatelaineref43_from_ok Fu (S0 := snapAll _) a0.2.1 hr6 1 (show r64 1 from ⟨by decide, by decide⟩) 16 (show r64 16 from ⟨by decide, by decide⟩) _ h25 _ h.startAll
    refine q_callX hX h rfl rfl rfl (by decide) Try.func36 rfl rfl rfl (fun a w v L1 S1 hR hb1 h => ?_)
    obtain ⟨rfl, rfl, _⟩ := hR
    refine s_x h rfl rfl (by decide) (x_pick (u' := undef) h.k rfl rfl (fun _ => rfl) (fun hh => absurd (hB3.symm.trans hh) (by decide))) (fun a h => ?_)
    exact (h.mid 3 rfl).val (by rw [Option.some.inj hz21])
  · refine g_no h rfl rfl rfl rfl hB3 rfl (by decide) (fun a h => ?_)
    refine g_no h rfl rfl rfl rfl hB3 rfl (by decide) (fun a h => ?_)
    refine g_no h rfl rfl rfl rfl hB3 rfl (by decide) (fun a h => ?_)
    rw [if_neg (by rw [hB3]; decide)] at hz21
    refine s_x h rfl rfl (by decide) (x_pick (u' := undef) h.k rfl rfl (fun hh => absurd (hB3.symm.trans hh) (by decide)) (fun _ => rfl)) (fun a h => ?_)
    exact (h.mid 3 rfl).val (by rw [Option.some.inj hz21])
  refine s_move h rfl _ rfl rfl (by decide) rfl (fun a h => ?_)
  obtain ⟨z28, hz27, hf⟩ := bsome hf
  refine q_grp h 4 (t := 11) 15 z28 rfl (fun hB8 => ?_) (fun hB8 => ?_) (fun a w h => ?_)
  · rw [if_pos hB8] at hz27
    refine g_yes h rfl rfl rfl rfl hB8 ?_
    refine s_x h rfl rfl (by decide) (x_faddr h.k rfl Try.underlying25 rfl sz_int rfl) (fun a h => ?_)
    refine g_yes h rfl rfl rfl rfl hB8 ?_
    refine s_x h rfl rfl (by decide) (x_ld h.k rfl Try.underlying3 rfl rfl ((h.m.cell (i := 0) rfl 2).trans rfl)) (fun a h => ?_)
    refine g_yes h rfl rfl rfl rfl hB8 ?_
    obtain ⟨x30, h31, hz27⟩ := bsome hz27
    have hX := chatelaineref43_from_ok Fu (S0 := snapAll _) a0.2.2.1 hr9 1 (show r64 1 from ⟨by decide, by decide⟩) 4096 (show r64 4096 from ⟨by decide, by decide⟩) _ h31 _ h.startAll
    refine q_callX hX h rfl rfl rfl (by decide) Try.func36 rfl rfl rfl (fun a w v L1 S1 hR hb1 h => ?_)
    obtain ⟨rfl, rfl, _⟩ := hR
    refine s_x h rfl rfl (by decide) (x_pick (u' := undef) h.k rfl rfl (fun _ => rfl) (fun hh => absurd (hB8.symm.trans hh) (by decide))) (fun a h => ?_)
    exact (h.mid 3 rfl).val (by rw [Option.some.inj hz27])
  · refine g_no h rfl rfl rfl rfl hB8 rfl (by decide) (fun a h => ?_)
    refine g_no h rfl rfl rfl rfl hB8 rfl (by decide) (fun a h => ?_)
    refine g_no h rfl rfl rfl rfl hB8 rfl (by decide) (fun a h => ?_)
    rw [if_neg (by rw [hB8]; decide)] at hz27
    refine s_x h rfl rfl (by decide) (x_pick (u' := undef) h.k rfl rfl (fun hh => absurd (hB8.symm.trans hh) (by decide)) (fun _ => rfl)) (fun a h => ?_)
    exact (h.mid 3 rfl).val (by rw [Option.some.inj hz27])
  refine s_move h rfl _ rfl rfl (by decide) rfl (fun a h => ?_)
  obtain ⟨z34, hz33, hf⟩ := bsome hf
  refine q_grp h 4 (t := 16) 20 z34 rfl (fun hB13 => ?_) (fun hB13 => ?_) (fun a w h => ?_)
  · rw [if_pos hB13] at hz33
    refine g_yes h rfl rfl rfl rfl hB13 ?_
    refine s_x h rfl rfl (by decide) (x_faddr h.k rfl Try.underlying25 rfl sz_int rfl) (fun a h => ?_)
    refine g_yes h rfl rfl rfl rfl hB13 ?_
    refine s_x h rfl rfl (by decide) (x_ld h.k rfl Try.underlying3 rfl rfl ((h.m.cell (i := 0) rfl 3).trans rfl)) (fun a h => ?_)
    refine g_yes h rfl rfl rfl rfl hB13 ?_
    obtain ⟨x36, h37, hz33⟩ := bsome hz33
    have hX := chatelaineref43_from_ok Fu (S0 := snapAll _) a0.2.2.2.1 hr12 0 (show r64 0 from ⟨by decide, by decide⟩) 100 (show r64 100 from ⟨by decide, by decide⟩) _ h37 _ h.startAll
    refine q_callX hX h rfl rfl rfl (by decide) Try.func36 rfl rfl rfl (fun a w v L1 S1 hR hb1 h => ?_)
    obtain ⟨rfl, rfl, _⟩ := hR
    refine s_x h rfl rfl (by decide) (x_pick (u' := undef) h.k rfl rfl (fun _ => rfl) (fun hh => absurd (hB13.symm.trans hh) (by decide))) (fun a h => ?_)
    exact (h.mid 3 rfl).val (by rw [Option.some.inj hz33])
  · refine g_no h rfl rfl rfl rfl hB13 rfl (by decide) (fun a h => ?_)
    refine g_no h rfl rfl rfl rfl hB13 rfl (by decide) (fun a h => ?_)
    refine g_no h rfl rfl rfl rfl hB13 rfl (by decide) (fun a h => ?_)
    rw [if_neg (by rw [hB13]; decide)] at hz33
    refine s_x h rfl rfl (by decide) (x_pick (u' := undef) h.k rfl rfl (fun hh => absurd (hB13.symm.trans hh) (by decide)) (fun _ => rfl)) (fun a h => ?_)
    exact (h.mid 3 rfl).val (by rw [Option.some.inj hz33])
  refine s_move h rfl _ rfl rfl (by decide) rfl (fun a h => ?_)
  obtain ⟨z40, hz39, hf⟩ := bsome hf
  refine q_grp h 4 (t := 21) 25 z40 rfl (fun hB18 => ?_) (fun hB18 => ?_) (fun a w h => ?_)
  · rw [if_pos hB18] at hz39
    refine g_yes h rfl rfl rfl rfl hB18 ?_
    refine s_x h rfl rfl (by decide) (x_faddr h.k rfl Try.underlying25 rfl sz_int rfl) (fun a h => ?_)
    refine g_yes h rfl rfl rfl rfl hB18 ?_
    refine s_x h rfl rfl (by decide) (x_ld h.k rfl Try.underlying3 rfl rfl ((h.m.cell (i := 0) rfl 4).trans rfl)) (fun a h => ?_)
    refine g_yes h rfl rfl rfl rfl hB18 ?_
    obtain ⟨x42, h43, hz39⟩ := bsome hz39
    have hX := chatelaineref43_from_ok Fu (S0 := snapAll _) a0.2.2.2.2.1 hr15 0 (show r64 0 from ⟨by decide, by decide⟩) 100 (show r64 100 from ⟨by decide, by decide⟩) _ h43 _ h.startAll
    refine q_callX hX h rfl rfl rfl (by decide) Try.func36 rfl rfl rfl (fun a w v L1 S1 hR hb1 h => ?_)
    obtain ⟨rfl, rfl, _⟩ := hR
    refine s_x h rfl rfl (by decide) (x_pick (u' := undef) h.k rfl rfl (fun _ => rfl) (fun hh => absurd (hB18.symm.trans hh) (by decide))) (fun a h => ?_)
    exact (h.mid 3 rfl).val (by rw [Option.some.inj hz39])
  · refine g_no h rfl rfl rfl rfl hB18 rfl (by decide) (fun a h => ?_)
    refine g_no h rfl rfl rfl rfl hB18 rfl (by decide) (fun a h => ?_)
    refine g_no h rfl rfl rfl rfl hB18 rfl (by decide) (fun a h => ?_)
    rw [if_neg (by rw [hB18]; decide)] at hz39
    refine s_x h rfl rfl (by decide) (x_pick (u' := undef) h.k rfl rfl (fun hh => absurd (hB18.symm.trans hh) (by decide)) (fun _ => rfl)) (fun a h => ?_)
    exact (h.mid 3 rfl).val (by rw [Option.some.inj hz39])
  refine s_move h rfl _ rfl rfl (by decide) rfl (fun a h => ?_)
  obtain ⟨z46, hz45, hf⟩ := bsome hf
  refine q_grp h 4 (t := 26) 30 z46 rfl (fun hB23 => ?_) (fun hB23 => ?_) (fun a w h => ?_)
  · rw [if_pos hB23] at hz45
    refine g_yes h rfl rfl rfl rfl hB23 ?_
    refine s_x h rfl rfl (by decide) (x_faddr h.k rfl Try.underlying25 rfl sz_int rfl) (fun a h => ?_)
    refine g_yes h rfl rfl rfl rfl hB23 ?_
    refine s_x h rfl rfl (by decide) (x_ld h.k rfl Try.underlying3 rfl rfl ((h.m.cell (i := 0) rfl 5).trans rfl)) (fun a h => ?_)
    refine g_yes h rfl rfl rfl rfl hB23 ?_
    obtain ⟨x48, h49, hz45⟩ := bsome hz45
    have hX := chatelaineref43_from_ok Fu (S0 := snapAll _) a0.2.2.2.2.2 hr16 0 (show r64 0 from ⟨by decide, by decide⟩) 100 (show r64 100 from ⟨by decide, by decide⟩) _ h49 _ h.startAll
    refine q_callX hX h rfl rfl rfl (by decide) Try.func36 rfl rfl rfl (fun a w v L1 S1 hR hb1 h => ?_)
    obtain ⟨rfl, rfl, _⟩ := hR
    refine s_x h rfl rfl (by decide) (x_pick (u' := undef) h.k rfl rfl (fun _ => rfl) (fun hh => absurd (hB23.symm.trans hh) (by decide))) (fun a h => ?_)
    exact (h.mid 3 rfl).val (by rw [Option.some.inj hz45])
  · refine g_no h rfl rfl rfl rfl hB23 rfl (by decide) (fun a h => ?_)
    refine g_no h rfl rfl rfl rfl hB23 rfl (by decide) (fun a h => ?_)
    refine g_no h rfl rfl rfl rfl hB23 rfl (by decide) (fun a h => ?_)
    rw [if_neg (by rw [hB23]; decide)] at hz45
    refine s_x h rfl rfl (by decide) (x_pick (u' := undef) h.k rfl rfl (fun hh => absurd (hB23.symm.trans hh) (by decide)) (fun _ => rfl)) (fun a h => ?_)
    exact (h.mid 3 rfl).val (by rw [Option.some.inj hz45])
  refine s_move h rfl _ rfl rfl (by decide) rfl (fun a h => ?_)
  refine q_grp h 10 (t := 31) 41 (z46 && (decide (w64 ((w64 (a0.2.2.2.1 + a0.2.2.2.2.1)) + a0.2.2.2.2.2) ≤ 100))) rfl (fun hB28 => ?_) (fun hB28 => ?_) (fun a w h => ?_)
  · refine g_yes h rfl rfl rfl rfl hB28 ?_
    refine s_x h rfl rfl (by decide) (x_faddr h.k rfl Try.underlying25 rfl sz_int rfl) (fun a h => ?_)
    refine g_yes h rfl rfl rfl rfl hB28 ?_
    refine s_x h rfl rfl (by decide) (x_ld h.k rfl Try.underlying3 rfl rfl ((h.m.cell (i := 0) rfl 3).trans rfl)) (fun a h => ?_)
    refine g_yes h rfl rfl rfl rfl hB28 ?_
    refine s_x h rfl rfl (by decide) (x_faddr h.k rfl Try.underlying25 rfl sz_int rfl) (fun a h => ?_)
    refine g_yes h rfl rfl rfl rfl hB28 ?_
    refine s_x h rfl rfl (by decide) (x_ld h.k rfl Try.underlying3 rfl rfl ((h.m.cell (i := 0) rfl 4).trans rfl)) (fun a h => ?_)
    refine g_yes h rfl rfl rfl rfl hB28 ?_
    refine s_x h rfl rfl (by decide) (x_bin h.k rfl rfl rfl (ib_add rfl)) (fun a h => ?_)
    refine g_yes h rfl rfl rfl rfl hB28 ?_
    refine s_x h rfl rfl (by decide) (x_faddr h.k rfl Try.underlying25 rfl sz_int rfl) (fun a h => ?_)
    refine g_yes h rfl rfl rfl rfl hB28 ?_
    refine s_x h rfl rfl (by decide) (x_ld h.k rfl Try.underlying3 rfl rfl ((h.m.cell (i := 0) rfl 5).trans rfl)) (fun a h => ?_)
    refine g_yes h rfl rfl rfl rfl hB28 ?_
    refine s_x h rfl rfl (by decide) (x_bin h.k rfl rfl rfl (ib_add rfl)) (fun a h => ?_)
    refine g_yes h rfl rfl rfl rfl hB28 ?_
    refine s_x h rfl rfl (by decide) (x_bin h.k rfl rfl rfl ib_leq) (fun a h => ?_)
    refine s_x h rfl rfl (by decide) (x_pick (u' := undef) h.k rfl rfl (fun _ => rfl) (fun hh => absurd (hB28.symm.trans hh) (by decide))) (fun a h => ?_)
    exact (h.mid 9 rfl).val (by first | rfl | (rw [hB28]; first | rfl | simp))
  · refine g_no h rfl rfl rfl rfl hB28 rfl (by decide) (fun a h => ?_)
    refine g_no h rfl rfl rfl rfl hB28 rfl (by decide) (fun a h => ?_)
    refine g_no h rfl rfl rfl rfl hB28 rfl (by decide) (fun a h => ?_)
    refine g_no h rfl rfl rfl rfl hB28 rfl (by decide) (fun a h => ?_)
    refine g_no h rfl rfl rfl rfl hB28 rfl (by decide) (fun a h => ?_)
    refine g_no h rfl rfl rfl rfl hB28 rfl (by decide) (fun a h => ?_)
    refine g_no h rfl rfl rfl rfl hB28 rfl (by decide) (fun a h => ?_)
    refine g_no h rfl rfl rfl rfl hB28 rfl (by decide) (fun a h => ?_)
    refine g_no h rfl rfl rfl rfl hB28 rfl (by decide) (fun a h => ?_)
    refine s_x h rfl rfl (by decide) (x_pick (u' := undef) h.k rfl rfl (fun hh => absurd (hB28.symm.trans hh) (by decide)) (fun _ => rfl)) (fun a h => ?_)
    exact (h.mid 9 rfl).val (by first | rfl | (rw [hB28]; first | rfl | simp))
  refine s_assign h rfl _ rfl rfl (by decide) rfl (fun a h => ?_)
  refine l_end ?_
  refine wp_ret ?_
  obtain rfl := Option.some.inj hf
  exact r_ret1 h rfl (rv_tmp h rfl) ⟨_, [], _, rfl, ⟨rfl, rfl, trivial⟩, rfl, (Up.refl _ _ _), (h.m.pick [1] _ (by decide) rfl)⟩
def chatelaineref43_Cred (Fu : Nat) (a0 : Int) : Option ((List UInt8)) :=
  (idx ([48, 49, 50, 51, 52, 53, 54, 55, 56, 57] : List UInt8) (w64 (Int.tdiv a0 10))).bind fun x2 => (idx ([48, 49, 50, 51, 52, 53, 54, 55, 56, 57] : List UInt8) (Int.tmod a0 10)).bind fun x8 => some ([(116 : UInt8), (101 : UInt8), (110 : UInt8), (97 : UInt8), (110 : UInt8), (116 : UInt8), x2, x8])
set_option maxRecDepth 100000 in
set_option maxHeartbeats 2000000 in
theorem chatelaineref43_Cred_ok (Fu : Nat) {S0 : Snap} (a0 : Int) (hra0 : r64 a0) (r : (List UInt8)) (hf : chatelaineref43_Cred Fu a0 = some r) (w0 : World) (hm : Mem w0 (ownL ([] ++ [.sn S0])) ([] ++ [.sn S0]) w0) :
    Calls Try.prog 13 #[.int .i64 a0] w0 (Ret w0 S0 [] (fun v L1 S1 => ∃ (A15 : Option Addr), ∃ (c16 : Nat), ∃ (cs17 : List Value), v = .slice A15 r.length c16 ∧ L1 = [.row (.slice A15 r.length c16) 5 1 r.length cs17] ∧ reps ty8 S1 cs17 r ∧ True)) := by
  unfold chatelaineref43_Cred at hf
  refine c_enterM Try.func13 rfl 10 rfl (by simp) _ hm _ rfl (fun a h => ?_)
  refine c_rs ?_ -- region 0
  refine s_assign h rfl _ rfl rfl (by decide) rfl (fun a h => ?_)
  refine l_end ?_
  refine wp_seq ?_
  -- region 1 draws
  obtain ⟨x2, h3, hf⟩ := bsome hf
  obtain ⟨x8, h9, hf⟩ := bsome hf
  refine d_start h (Mem _ _ _) 8 8 rfl (by kernel_rfl) (fun _ _ _ _ _ h => h) (fun _ h => h) (fun Q a w HE HN h HS => ?_)
  refine d_takeP h (fun _ => HS) HN 0 rfl (by kernel_rfl) (by kernel_rfl) (by kernel_rfl) (by decide) rfl rfl (by decide) (fun w' => x_move h.k _ rfl rfl) (fun a h => ?_)
  refine d_takeP h (fun _ => HS) HN 1 rfl (by kernel_rfl) (by kernel_rfl) (by kernel_rfl) (by decide) rfl rfl (by decide) (fun w' => x_bin h.k rfl rfl rfl (ib_quow (by decide))) (fun a h => ?_)
  obtain ⟨m1, hi4, hm5, hx6⟩ := idx_some h3
  refine d_takeP h (fun _ => HS) HN 2 rfl (by kernel_rfl) (by kernel_rfl) (by kernel_rfl) (by decide) rfl rfl (by decide) (fun w' => x_indexStr h.k rfl Try.underlying9 rfl rfl hi4 hx6) (fun a h => ?_)
  refine d_takeP h (fun _ => HS) HN 3 rfl (by kernel_rfl) (by kernel_rfl) (by kernel_rfl) (by decide) rfl rfl (by decide) (fun w' => x_move h.k _ rfl rfl) (fun a h => ?_)
  refine d_takeP h (fun _ => HS) HN 4 rfl (by kernel_rfl) (by kernel_rfl) (by kernel_rfl) (by decide) rfl rfl (by decide) (fun w' => x_bin h.k rfl rfl rfl (ib_remw (by decide))) (fun a h => ?_)
  obtain ⟨m7, hi10, hm11, hx12⟩ := idx_some h9
  refine d_takeP h (fun _ => HS) HN 5 rfl (by kernel_rfl) (by kernel_rfl) (by kernel_rfl) (by decide) rfl rfl (by decide) (fun w' => x_indexStr h.k rfl Try.underlying9 rfl rfl hi10 hx12) (fun a h => ?_)
  refine d_alone 6 rfl (by kernel_rfl) (fun K hK => ?_)
  refine q_bslice (T := ty8) (S := S0) h rfl rfl rfl (by decide) Try.underlying22 zi_uint8 (by decide) (by decide) (by decide) (by decide) [.int .u8 116, .int .u8 101, .int .u8 110, .int .u8 97, .int .u8 110, .int .u8 116, .int .u8 (x2.toNat : Int), .int .u8 (x8.toNat : Int)] rfl rfl (C := [[.int .u8 116], [.int .u8 101], [.int .u8 110], [.int .u8 97], [.int .u8 110], [.int .u8 116], [.int .u8 (x2.toNat : Int)], [.int .u8 (x8.toNat : Int)]]) rfl (xs := [(116 : UInt8), (101 : UInt8), (110 : UInt8), (97 : UInt8), (110 : UInt8), (116 : UInt8), x2, x8]) ⟨[.int .u8 116], _, rfl, rfl, ⟨[.int .u8 101], _, rfl, rfl, ⟨[.int .u8 110], _, rfl, rfl, ⟨[.int .u8 97], _, rfl, rfl, ⟨[.int .u8 110], _, rfl, rfl, ⟨[.int .u8 116], _, rfl, rfl, ⟨[.int .u8 (x2.toNat : Int)], _, rfl, rfl, ⟨[.int .u8 (x8.toNat : Int)], _, rfl, rfl, rfl⟩⟩⟩⟩⟩⟩⟩⟩ (by simp only [List.mem_cons, List.not_mem_nil, or_false]; rintro c (rfl | rfl | rfl | rfl | rfl | rfl | rfl | rfl) <;> rfl) (fun a w A13 h => ?_)
  have hb14 : reps ty8 S0 ([[.int .u8 116], [.int .u8 101], [.int .u8 110], [.int .u8 97], [.int .u8 110], [.int .u8 116], [.int .u8 (x2.toNat : Int)], [.int .u8 (x8.toNat : Int)]] : List (List Value)).flatten [(116 : UInt8), (101 : UInt8), (110 : UInt8), (97 : UInt8), (110 : UInt8), (116 : UInt8), x2, x8] := ⟨[.int .u8 116], _, rfl, rfl, ⟨[.int .u8 101], _, rfl, rfl, ⟨[.int .u8 110], _, rfl, rfl, ⟨[.int .u8 97], _, rfl, rfl, ⟨[.int .u8 110], _, rfl, rfl, ⟨[.int .u8 116], _, rfl, rfl, ⟨[.int .u8 (x2.toNat : Int)], _, rfl, rfl, ⟨[.int .u8 (x8.toNat : Int)], _, rfl, rfl, rfl⟩⟩⟩⟩⟩⟩⟩⟩
  replace HS := h.m.pick [1] [.sn S0] (by decide) rfl
  refine hK _ _ (fun _ _ => HS) ?_
  clear hK
  refine d_takeP h (fun _ => HS) HN 7 rfl (by kernel_rfl) (by kernel_rfl) (by kernel_rfl) (by decide) rfl rfl (by decide) (fun w' => x_assign h.k _ rfl rfl) (fun a h => ?_)
  refine d_done (by kernel_rfl) (HE _ _ ?_) _
  refine e_thenN ?_
  refine wp_ret ?_
  obtain rfl := Option.some.inj hf
  exact r_ret1 h rfl (rv_tmp h rfl) ⟨_, [.row (.slice A13 ([(116 : UInt8), (101 : UInt8), (110 : UInt8), (97 : UInt8), (110 : UInt8), (116 : UInt8), x2, x8]).length 8) 5 1 ([(116 : UInt8), (101 : UInt8), (110 : UInt8), (97 : UInt8), (110 : UInt8), (116 : UInt8), x2, x8]).length ([[.int .u8 116], [.int .u8 101], [.int .u8 110], [.int .u8 97], [.int .u8 110], [.int .u8 116], [.int .u8 (x2.toNat : Int)], [.int .u8 (x8.toNat : Int)]] : List (List Value)).flatten], _, rfl, ⟨A13, 8, ([[.int .u8 116], [.int .u8 101], [.int .u8 110], [.int .u8 97], [.int .u8 110], [.int .u8 116], [.int .u8 (x2.toNat : Int)], [.int .u8 (x8.toNat : Int)]] : List (List Value)).flatten, rfl, rfl, hb14, trivial⟩, rfl, (Up.refl _ _ _), h.m⟩
def chatelaineref43_Lot_Next_l0 (Fu : Nat) (a0 : (List UInt8) × Int) (x30 : (List UInt8)) : Nat → Int → Int → Option (Sum (Int × ((List UInt8) × Int)) Int)
  | 0, _, _ => none
  | k + 1, x41, x43 => if x43 < 8 then ((ix 32 x43).bind fun m49 => (x30[m49]?).bind fun x53 => if x43 = 7 then (some (.inl (w64 ((w64 (64 * x41)) + (w64 (Int.tdiv (x53.toNat : Int) 4))), (a0.1, w64 (a0.2 + 1))))) else (chatelaineref43_Lot_Next_l0 Fu a0 x30 k (w64 ((w64 (256 * x41)) + (x53.toNat : Int))) (w64 (x43 + 1)))) else (some (.inr x41))
def chatelaineref43_Lot_Next (Fu : Nat) (a0 : (List UInt8) × Int) : Option (Int × ((List UInt8) × Int)) :=
  (app 1 ([]) a0.1).bind fun x7 => (chatelaineref01_Put64 Fu (u64I a0.2)).bind fun x16 => (app 1 x7 x16).bind fun x24 => (chatelaineref05_Sum Fu x24).bind fun x30 => (chatelaineref43_Lot_Next_l0 Fu a0 x30 Fu 0 0).bind fun o => match o with | .inl r58 => some r58 | .inr x45 => some (x45, (a0.1, w64 (a0.2 + 1)))
set_option maxRecDepth 100000 in
set_option maxHeartbeats 2000000 in
theorem chatelaineref43_Lot_Next_ok (Fu : Nat) {S0 : Snap} (a0 : (List UInt8) × Int) (g1 : Nat) (A2 : Option Addr) (c3 : Nat) (hs4 : slS ty8 S0 A2 c3 a0.1) (hr5 : r64 a0.2) (r : Int × ((List UInt8) × Int)) (hf : chatelaineref43_Lot_Next Fu a0 = some r) (w0 : World) (hm : Mem w0 (ownL ([.box g1 33 ([.slice A2 a0.1.length c3, .int .i64 a0.2])] ++ [.sn S0])) ([.box g1 33 ([.slice A2 a0.1.length c3, .int .i64 a0.2])] ++ [.sn S0]) w0) :
    Calls Try.prog 14 #[.pointer (some ⟨g1, 0, none⟩)] w0 (Ret w0 S0 [.box g1 33 ([.slice A2 a0.1.length c3, .int .i64 a0.2])] (fun v L1 S1 => ∃ (A60 : Option Addr), ∃ (c61 : Nat), v = .int .i64 r.1 ∧ L1 = [.box g1 33 ([.slice A60 r.2.1.length c61, .int .i64 r.2.2])] ∧ r64 r.1 ∧ slS ty8 S1 A60 c61 r.2.1 ∧ r64 r.2.2 ∧ True)) := by
  unfold chatelaineref43_Lot_Next at hf
  obtain ⟨B0, hB0⟩ : ∃ B0, B0 = (ownL ([.box g1 33 ([.slice A2 a0.1.length c3, .int .i64 a0.2])] ++ [.sn S0])) := ⟨_, rfl⟩
  rw [← hB0] at hm
  refine c_enterM Try.func14 rfl 52 rfl (by simp) _ hm _ rfl (fun a h => ?_)
  refine c_rs ?_ -- region 0
  refine s_assign h rfl _ rfl rfl (by decide) rfl (fun a h => ?_)
  refine l_end ?_
  refine c_rs ?_ -- region 1
  refine s_assign h rfl _ rfl rfl (by decide) rfl (fun a h => ?_)
  refine l_end ?_
  refine c_rs ?_ -- region 2
  refine s_move h rfl _ rfl rfl (by decide) rfl (fun a h => ?_)
  refine s_move h rfl _ rfl rfl (by decide) rfl (fun a h => ?_)
  refine s_x h rfl rfl (by decide) (x_nil h.k rfl rfl) (fun a h => ?_)
  refine s_x h rfl rfl (by decide) (x_faddr h.k rfl Try.underlying33 rfl sz_Suint8 rfl) (fun a h => ?_)
  refine s_x h rfl rfl (by decide) (x_ld h.k rfl Try.underlying22 rfl rfl ((h.m.cell (i := 0) rfl 0).trans rfl)) (fun a h => ?_)
  have h := h.mem (h.m.nilrow 5 1)
  obtain ⟨x7, h8, hf⟩ := bsome hf
  obtain ⟨_, _, vs9, hrd10, hrp11⟩ := id hs4
  refine q_append (T := ty8) (S := S0) h rfl rfl rfl (by decide) Try.underlying22 zb_uint8 rfl (by decide) rfl 0 rfl (show reps ty8 S0 [] [] from rfl) rfl hrp11 (hrd10 _ (h.m.snOK (i := 2) rfl)) h8 (fun a w A12 c13 cs14 hq15 h => ?_)
  refine s_assign h rfl _ rfl rfl (by decide) rfl (fun a h => ?_)
  refine l_end ?_
  refine c_rs ?_ -- region 3
  refine s_move h rfl _ rfl rfl (by decide) rfl (fun a h => ?_)
  refine s_move h rfl _ rfl rfl (by decide) rfl (fun a h => ?_)
  refine s_x h rfl rfl (by decide) (x_nil h.k rfl rfl) (fun a h => ?_)
  refine s_x h rfl rfl (by decide) (x_faddr h.k rfl Try.underlying33 rfl sz_int rfl) (fun a h => ?_)
  refine s_x h rfl rfl (by decide) (x_ld h.k rfl Try.underlying3 rfl rfl ((h.m.cell (i := 1) rfl 1).trans rfl)) (fun a h => ?_)
  refine s_x h rfl rfl (by decide) (x_convE h.k rfl Try.underlying3 Try.underlying63 rfl (u64I_wrap _)) (fun a h => ?_)
  obtain ⟨x16, h17, hf⟩ := bsome hf
  have hX := chatelaineref01_Put64_ok Fu (S0 := snapAll _) (u64I a0.2) _ h17 _ h.startAll
  refine q_callX hX h rfl rfl rfl (by decide) Try.func34 rfl rfl rfl (fun a w v L1 S1 hR hb1 h => ?_)
  obtain ⟨A19, c20, cs21, rfl, rfl, hq22, _⟩ := hR
  have hq23 := hq22.fl (S' := S0) fl_8
  obtain ⟨x24, h25, hf⟩ := bsome hf
  refine q_append (T := ty8) (S := S0) h rfl rfl rfl (by decide) Try.underlying22 zb_uint8 rfl (by decide) rfl 1 rfl hq15 rfl hq23 (h.m.rdRowA (i := 0) rfl) h25 (fun a w A26 c27 cs28 hq29 h => ?_)
  refine s_assign h rfl _ rfl rfl (by decide) rfl (fun a h => ?_)
  refine l_end ?_
  refine c_rs ?_ -- region 4
  refine s_move h rfl _ rfl rfl (by decide) rfl (fun a h => ?_)
  obtain ⟨x30, h31, hf⟩ := bsome hf
  have hX := chatelaineref05_Sum_ok Fu (S0 := snapAll _) A26 c27 x24 (h.m.rowAll (i := 1) rfl (j := 3) rfl hq29) _ h31 _ h.startAll
  refine q_callX hX h rfl rfl rfl (by decide) Try.func35 rfl rfl rfl (fun a w v L1 S1 hR hb1 h => ?_)
  obtain ⟨k33, rfl, rfl, hv34, _⟩ := hR
  obtain ⟨hs35, hl36⟩ := hv34
  have hq37 := hs35.fl (S' := S0) fl_8
  refine s_alloc h rfl rfl rfl (by decide) zi_A32_uint8 rfl (fun a w g38 h => ?_)
  refine s_stW h rfl rfl rfl ag_A32_uint8 rfl (es := k33) rfl ((hq37).len.trans (by rw [hl36]; rfl)) (hq37).one 0 rfl (by first | rfl | simp_all) (fun a w h => ?_)
  refine l_end ?_
  refine c_rs ?_ -- region 5
  refine s_move h rfl _ rfl rfl (by decide) rfl (fun a h => ?_)
  refine s_move h rfl _ rfl rfl (by decide) rfl (fun a h => ?_)
  refine s_x h rfl rfl (by decide) (x_nil h.k rfl rfl) (fun a h => ?_)
  refine s_x h rfl rfl (by decide) (x_faddr h.k rfl Try.underlying33 rfl sz_int rfl) (fun a h => ?_)
  refine s_x h rfl rfl (by decide) (x_ld h.k rfl Try.underlying3 rfl rfl ((h.m.cell (i := 3) rfl 1).trans rfl)) (fun a h => ?_)
  refine s_x h rfl rfl (by decide) (x_bin h.k rfl rfl rfl (ib_add rfl)) (fun a h => ?_)
  refine s_x h rfl rfl (by decide) (x_nil h.k rfl rfl) (fun a h => ?_)
  refine s_x h rfl rfl (by decide) (x_faddr h.k rfl Try.underlying33 rfl sz_int rfl) (fun a h => ?_)
  refine s_stb h rfl rfl rfl sz_int rfl rfl rfl 3 rfl (by first | decide | simp) (fun a w h => ?_)
  refine l_end ?_
  refine c_rs ?_ -- region 6
  refine s_assign h rfl _ rfl rfl (by decide) rfl (fun a h => ?_)
  refine l_end ?_
  refine wp_seq ?_
  refine c_rs ?_ -- region 7
  refine s_assign h rfl _ rfl rfl (by decide) rfl (fun a h => ?_)
  refine l_end ?_
  obtain ⟨o39, hl40, hf⟩ := bsome hf
  refine c_fin (fun a w => ∃ (x45 : Int), (.inr x45) = o39 ∧ r64 x45 ∧ St 52 w0 B0 [(5, .int .i64 x45)] [.box g1 33 ([.slice A2 a0.1.length c3, .int .i64 (w64 (a0.2 + 1))]), .sn S0] a w) ?_ ?_
  · refine wp_block ?_
    have h := h.pick [3, 0, 4] (by decide) rfl
    refine c_loop (fun m48 a w => ∃ (x41 : Int), ∃ (x43 : Int), chatelaineref43_Lot_Next_l0 Fu a0 x30 m48 x41 x43 = some o39 ∧ r64 x41 ∧ r64 x43 ∧ St 52 w0 B0 [(4, .pointer (some ⟨g38, 0, none⟩)), (5, .int .i64 x41), (6, .int .i64 x43)] [.box g1 33 ([.slice A2 a0.1.length c3, .int .i64 (w64 (a0.2 + 1))]), .box g38 66 k33, .sn S0] a w) Fu ⟨0, 0, hl40, (show r64 0 from ⟨by decide, by decide⟩), (show r64 0 from ⟨by decide, by decide⟩), h.has (by exact ⟨rfl, rfl, rfl, trivial⟩)⟩ (fun m48 a w hI => ?_)
    obtain ⟨x41, x43, hl47, hr42, hr44, h⟩ := hI
    obtain _ | m48 := m48
    · rw [chatelaineref43_Lot_Next_l0] at hl47; cases hl47
    rw [chatelaineref43_Lot_Next_l0] at hl47
    refine wp_seq ?_
    refine c_rs ?_ -- region 8
    refine s_move h rfl _ rfl rfl (by decide) rfl (fun a h => ?_)
    refine s_x h rfl rfl (by decide) (x_bin h.k rfl rfl rfl ib_lss) (fun a h => ?_)
    refine l_end ?_
    refine c_cond h rfl (fun hb => ?_) (fun hb => ?_)
    · rw [if_pos (of_decide_eq_true hb)] at hl47
      refine wp_skip ?_
      refine e_thenN ?_
      refine wp_seq ?_
      refine wp_block ?_
      refine c_rs ?_ -- region 10
      refine s_move h rfl _ rfl rfl (by decide) rfl (fun a h => ?_)
      obtain ⟨m49, h50, hl47⟩ := bsome hl47
      obtain ⟨hi51, hm52⟩ := ix_some h50
      refine s_x h rfl rfl (by decide) (x_iaddrA h.k rfl Try.underlying66 sz_uint8 rfl rfl hi51 hm52 rfl) (fun a h => ?_)
      obtain ⟨x53, h54, hl47⟩ := bsome hl47
      obtain ⟨u55, hv56, hu57⟩ := (hq37).cell rfl h54
      cases hu57
      refine s_x h rfl rfl (by decide) (x_ld h.k rfl Try.underlying5 rfl rfl ((h.m.cell (i := 1) rfl _).trans (by rw [Nat.zero_add, Nat.mul_one]; exact hv56))) (fun a h => ?_)
      refine s_x h rfl rfl (by decide) (x_convE h.k rfl Try.underlying5 Try.underlying3 rfl (nw64 (u8_r _))) (fun a h => ?_)
      refine s_assign h rfl _ rfl rfl (by decide) rfl (fun a h => ?_)
      refine l_end ?_
      refine wp_seq ?_
      refine c_rs ?_ -- region 11
      refine s_move h rfl _ rfl rfl (by decide) rfl (fun a h => ?_)
      refine s_x h rfl rfl (by decide) (x_bin h.k rfl rfl rfl ib_eql) (fun a h => ?_)
      refine l_end ?_
      refine c_cond h rfl (fun hb => ?_) (fun hb => ?_)
      · rw [if_pos (of_decide_eq_true hb)] at hl47
        refine c_rs ?_ -- region 12
        refine s_move h rfl _ rfl rfl (by decide) rfl (fun a h => ?_)
        refine s_x h rfl rfl (by decide) (x_bin h.k rfl rfl rfl (ib_mul rfl)) (fun a h => ?_)
        refine s_move h rfl _ rfl rfl (by decide) rfl (fun a h => ?_)
        refine s_x h rfl rfl (by decide) (x_bin h.k rfl rfl rfl (ib_quow (by decide))) (fun a h => ?_)
        refine s_x h rfl rfl (by decide) (x_bin h.k rfl rfl rfl (ib_add rfl)) (fun a h => ?_)
        refine s_assign h rfl _ rfl rfl (by decide) rfl (fun a h => ?_)
        refine l_end ?_
        refine wp_ret ?_
        refine e_thenR ?_
        refine e_blkR ?_
        refine e_thenR ?_
        refine e_thenR ?_
        refine e_blkR ?_
        refine e_thenR ?_
        cases hl47
        try dsimp only at hf
        refine e_thenR ?_
        obtain rfl := Option.some.inj hf
        subst hB0
        exact r_ret1 h rfl (rv_tmp h rfl) ⟨_, [.box g1 33 ([.slice A2 a0.1.length c3, .int .i64 (w64 (a0.2 + 1))])], _, rfl, ⟨A2, c3, rfl, rfl, (w64_r _), hs4, (w64_r _), trivial⟩, rfl, (Up.refl _ _ _), (h.m.pick [0, 2] _ (by decide) rfl)⟩
      · rw [if_neg (of_decide_eq_false hb)] at hl47
        refine wp_skip ?_
        refine e_thenN ?_
        refine c_r ?_ -- region 13
        refine s_move h rfl _ rfl rfl (by decide) rfl (fun a h => ?_)
        refine s_x h rfl rfl (by decide) (x_bin h.k rfl rfl rfl (ib_mul rfl)) (fun a h => ?_)
        refine s_move h rfl _ rfl rfl (by decide) rfl (fun a h => ?_)
        refine s_x h rfl rfl (by decide) (x_bin h.k rfl rfl rfl (ib_add rfl)) (fun a h => ?_)
        refine s_assign h rfl _ rfl rfl (by decide) rfl (fun a h => ?_)
        refine l_nil ?_
        refine e_blkN ?_
        refine e_thenN ?_
        refine c_r ?_ -- region 9
        refine s_move h rfl _ rfl rfl (by decide) rfl (fun a h => ?_)
        refine s_x h rfl rfl (by decide) (x_bin h.k rfl rfl rfl (ib_add rfl)) (fun a h => ?_)
        refine s_assign h rfl _ rfl rfl (by decide) rfl (fun a h => ?_)
        refine l_nil ?_
        exact e_thenN ⟨m48, Nat.lt_succ_self _, w64 ((w64 (256 * x41)) + (x53.toNat : Int)), w64 (x43 + 1), hl47, (w64_r _), (w64_r _), h.has (by exact ⟨rfl, rfl, rfl, trivial⟩)⟩
    · rw [if_neg (of_decide_eq_false hb)] at hl47
      refine wp_exit ?_
      refine e_thenX ?_
      refine e_thenX ?_
      refine e_blkX ?_
      refine e_thenN ?_
      have h := h.pick [0, 2] (by decide) rfl
      exact ⟨x41, (Option.some.inj hl47), hr42, h.has (by exact ⟨rfl, trivial⟩)⟩
  · rintro a w ⟨x45, rfl, hr46, h⟩
    try dsimp only at hf
    refine e_thenN ?_
    refine c_rs ?_ -- region 14
    refine s_move h rfl _ rfl rfl (by decide) rfl (fun a h => ?_)
    refine s_assign h rfl _ rfl rfl (by decide) rfl (fun a h => ?_)
    refine l_end ?_
    refine wp_ret ?_
    obtain rfl := Option.some.inj hf
    subst hB0
    exact r_ret1 h rfl (rv_tmp h rfl) ⟨_, [.box g1 33 ([.slice A2 a0.1.length c3, .int .i64 (w64 (a0.2 + 1))])], _, rfl, ⟨A2, c3, rfl, rfl, hr46, hs4, (w64_r _), trivial⟩, rfl, (Up.refl _ _ _), h.m⟩
def chatelaineref43_Lot_Below (Fu : Nat) (a0 : (List UInt8) × Int) (a1 : Int) : Option (Int × ((List UInt8) × Int)) :=
  (chatelaineref43_Lot_Next Fu a0).bind fun x6 => (remI x6.1 a1).bind fun x17 => some (x17, x6.2)
set_option maxRecDepth 100000 in
set_option maxHeartbeats 2000000 in
theorem chatelaineref43_Lot_Below_ok (Fu : Nat) {S0 : Snap} (a0 : (List UInt8) × Int) (g1 : Nat) (A2 : Option Addr) (c3 : Nat) (hs4 : slS ty8 S0 A2 c3 a0.1) (hr5 : r64 a0.2) (a1 : Int) (hra1 : r64 a1) (r : Int × ((List UInt8) × Int)) (hf : chatelaineref43_Lot_Below Fu a0 a1 = some r) (w0 : World) (hm : Mem w0 (ownL ([.box g1 33 ([.slice A2 a0.1.length c3, .int .i64 a0.2])] ++ [.sn S0])) ([.box g1 33 ([.slice A2 a0.1.length c3, .int .i64 a0.2])] ++ [.sn S0]) w0) :
    Calls Try.prog 10 #[.pointer (some ⟨g1, 0, none⟩), .int .i64 a1] w0 (Ret w0 S0 [.box g1 33 ([.slice A2 a0.1.length c3, .int .i64 a0.2])] (fun v L1 S1 => ∃ (A20 : Option Addr), ∃ (c21 : Nat), v = .int .i64 r.1 ∧ L1 = [.box g1 33 ([.slice A20 r.2.1.length c21, .int .i64 r.2.2])] ∧ r64 r.1 ∧ slS ty8 S1 A20 c21 r.2.1 ∧ r64 r.2.2 ∧ True)) := by
  unfold chatelaineref43_Lot_Below at hf
  obtain ⟨B0, hB0⟩ : ∃ B0, B0 = (ownL ([.box g1 33 ([.slice A2 a0.1.length c3, .int .i64 a0.2])] ++ [.sn S0])) := ⟨_, rfl⟩
  rw [← hB0] at hm
  refine c_enterM Try.func10 rfl 9 rfl (by simp) _ hm _ rfl (fun a h => ?_)
  refine c_rs ?_ -- region 0
  refine s_assign h rfl _ rfl rfl (by decide) rfl (fun a h => ?_)
  refine l_end ?_
  refine c_rs ?_ -- region 1
  refine s_move h rfl _ rfl rfl (by decide) rfl (fun a h => ?_)
  obtain ⟨x6, h7, hf⟩ := bsome hf
  have hX := chatelaineref43_Lot_Next_ok Fu (S0 := S0) a0 g1 A2 c3 hs4 hr5 _ h7 _ (h.sub (Ls := [.box g1 33 ([.slice A2 a0.1.length c3, .int .i64 a0.2])]))
  refine q_callY (Ls := [.box g1 33 ([.slice A2 a0.1.length c3, .int .i64 a0.2])]) hX h (Up.refl _ _ _) rfl rfl rfl (by decide) Try.func14 rfl rfl rfl (fun a w v L1 S9 hR le11 up10 h => ?_)
  obtain ⟨A13, c14, rfl, rfl, hr12, hs15, hr16, _⟩ := hR
  refine s_move h rfl _ rfl rfl (by decide) rfl (fun a h => ?_)
  obtain ⟨x17, h18, hf⟩ := bsome hf
  refine s_x h rfl rfl (by decide) (x_bin h.k rfl rfl rfl (ib_rem_ h18)) (fun a h => ?_)
  refine s_assign h rfl _ rfl rfl (by decide) rfl (fun a h => ?_)
  refine l_end ?_
  refine wp_ret ?_
  obtain rfl := Option.some.inj hf
  subst hB0
  exact r_ret1 h rfl (rv_tmp h rfl) ⟨_, [.box g1 33 ([.slice A13 x6.2.1.length c14, .int .i64 x6.2.2])], _, rfl, ⟨A13, c14, rfl, rfl, (remI_r h18 hr12), hs15, hr16, trivial⟩, rfl, up10, h.m⟩
def chatelainelaw43_awake (Fu : Nat) : Option Bool :=
  (lot_New Fu ([(5 : UInt8)])).bind fun x7 => (lot_Cred Fu 3).bind fun x24 => (if x24 = ([116, 101, 110, 97, 110, 116, 48, 51] : List UInt8) then (lot_Lot_Below Fu x7 1000).bind fun x49 => (chatelaineref43_Lot_Below Fu ([(5 : UInt8)], 0) 1000).bind fun x59 => some ((decide (x49.1 = x59.1)), x49.2, x59.2) else some (false, x7, ([(5 : UInt8)], 0))).bind fun (x37, x38, x42) => (if x37 = true then (lot_Lot_Next Fu x38).bind fun x78 => (chatelaineref43_Lot_Next Fu x42).bind fun x88 => some (decide (x78.1 = x88.1)) else some false).bind fun x75 => some x75
set_option maxRecDepth 100000 in
set_option maxHeartbeats 2000000 in
theorem chatelainelaw43_awake_ok (Fu : Nat) {S0 : Snap}  (r : Bool) (hf : chatelainelaw43_awake Fu = some r) (w0 : World) (hm : Mem w0 (ownL ([] ++ [.sn S0])) ([] ++ [.sn S0]) w0) :
    Calls Try.prog 6 #[] w0 (Ret w0 S0 [] (fun v L1 S1 => v = .bool r ∧ L1 = [] ∧ True)) := by
  unfold chatelainelaw43_awake at hf
  refine c_enterM Try.func6 rfl 25 rfl (by simp) _ hm _ rfl (fun a h => ?_)
  refine c_rs ?_ -- region 0
  refine s_assign h rfl _ rfl rfl (by decide) rfl (fun a h => ?_)
  refine l_end ?_
  refine c_rs ?_ -- region 1
  refine q_bslice (T := ty8) (S := S0) h rfl rfl rfl (by decide) Try.underlying22 zi_uint8 (by decide) (by decide) (by decide) (by decide) [.int .u8 5] rfl rfl (C := [[.int .u8 5]]) rfl (xs := [(5 : UInt8)]) ⟨[.int .u8 5], _, rfl, rfl, rfl⟩ (by intro c hc; simp only [List.mem_cons, List.not_mem_nil, or_false] at hc; subst hc; rfl) (fun a w A1 h => ?_)
  have hb2 : reps ty8 S0 ([[.int .u8 5]] : List (List Value)).flatten [(5 : UInt8)] := ⟨[.int .u8 5], _, rfl, rfl, rfl⟩
  obtain ⟨S3, le4, up5, hs6, h⟩ := q_freeze (T := ty8) h (Up.refl _ _ _) hb2
  obtain ⟨x7, h8, hf⟩ := bsome hf
  have hX := lot_New_ok Fu (S0 := S3) A1 1 ([(5 : UInt8)]) hs6 _ h8 _ (h.sub (Ls := []))
  refine q_callY (Ls := []) hX h up5 rfl rfl rfl (by decide) Try.func9 rfl rfl rfl (fun a w v L1 S10 hR le12 up11 h => ?_)
  obtain ⟨g13, A14, c15, rfl, rfl, hs16, _⟩ := hR
  refine q_bslice (T := ty8) (S := S10) h rfl rfl rfl (by decide) Try.underlying22 zi_uint8 (by decide) (by decide) (by decide) (by decide) [.int .u8 5] rfl rfl (C := [[.int .u8 5]]) rfl (xs := [(5 : UInt8)]) ⟨[.int .u8 5], _, rfl, rfl, rfl⟩ (by intro c hc; simp only [List.mem_cons, List.not_mem_nil, or_false] at hc; subst hc; rfl) (fun a w A17 h => ?_)
  have hb18 : reps ty8 S10 ([[.int .u8 5]] : List (List Value)).flatten [(5 : UInt8)] := ⟨[.int .u8 5], _, rfl, rfl, rfl⟩
  have h := h.pick [0, 2, 1] (by decide) rfl
  obtain ⟨S19, le20, up21, hs22, h⟩ := q_freeze (T := ty8) h up11 hb18
  refine s_x h rfl rfl (by decide) (x_build h.k rfl [(0, .slice A17 ([(5 : UInt8)]).length 1)] rfl ([.slice A17 ([(5 : UInt8)]).length 1, .int .i64 0]) (by kernel_rfl)) (fun a h => ?_)
  refine s_box h rfl rfl rfl (by decide) rfl (cs := [.slice A17 ([(5 : UInt8)]).length 1, .int .i64 0]) (by rfl) (fun a w g23 h => ?_)
  refine s_assign h rfl _ rfl rfl (by decide) rfl (fun a h => ?_)
  refine s_assign h rfl _ rfl rfl (by decide) rfl (fun a h => ?_)
  refine l_end ?_
  refine c_rs ?_ -- region 2
  obtain ⟨x24, h25, hf⟩ := bsome hf
  have hX := lot_Cred_ok Fu (S0 := snapAll _) 3 (show r64 3 from ⟨by decide, by decide⟩) _ h25 _ h.startAll
  refine q_callX hX h rfl rfl rfl (by decide) Try.func11 rfl rfl rfl (fun a w v L1 S1 hR hb1 h => ?_)
  obtain ⟨A27, c28, cs29, rfl, rfl, hq30, _⟩ := hR
  have hq31 := hq30.fl (S' := S19) fl_8
  refine s_x h rfl rfl (by decide) (x_convBS (S := S19) h.k rfl Try.underlying22 Try.underlying5 Try.underlying9 rfl hq31 (h.m.rdRowA (i := 0) rfl)) (fun a h => ?_)
  refine s_x h rfl rfl (by decide) (x_eqlStr h.k rfl rfl rfl) (fun a h => ?_)
  refine s_move h rfl _ rfl rfl (by decide) rfl (fun a h => ?_)
  obtain ⟨o47, hz48, hf⟩ := bsome hf
  refine q_grpR h 6 (t := 11) (fun a w => ∃ (S34 : Snap), ∃ (x37 : Bool), ∃ (x38 : (List UInt8) × UInt64 × Bool), ∃ (A39 : Option Addr), ∃ (c40 : Nat), ∃ (x42 : (List UInt8) × Int), ∃ (A43 : Option Addr), ∃ (c44 : Nat), (x37, x38, x42) = o47 ∧ Snap.le S19 S34 ∧ Up (ownL ([] ++ [.sn S0])) w0 S0 S34 ∧ slS ty8 S34 A39 c40 x38.1 ∧ slS ty8 S34 A43 c44 x42.1 ∧ r64 x42.2 ∧ St 25 w0 (ownL ([] ++ [.sn S0])) [(1, .pointer (some ⟨g13, 0, none⟩)), (2, .pointer (some ⟨g23, 0, none⟩)), (17, .bool x37)] [.box g13 65 ([.slice A39 x38.1.length c40, .int .u64 (x38.2.1.toNat : Int), .bool x38.2.2]), .box g23 33 ([.slice A43 x42.1.length c44, .int .i64 x42.2]), .sn S34] a w) rfl (fun hB3 => ?_) (fun hB3 => ?_) ?_
  · rw [if_pos (of_decide_eq_true hB3)] at hz48
    refine g_yes h rfl rfl rfl rfl hB3 ?_
    refine s_move h rfl _ rfl rfl (by decide) rfl (fun a h => ?_)
    refine g_yes h rfl rfl rfl rfl hB3 ?_
    obtain ⟨x49, h50, hz48⟩ := bsome hz48
    have h := h.pick [3, 2, 0, 1] (by decide) rfl
    have hX := lot_Lot_Below_ok Fu (S0 := S19) x7 g13 A14 c15 (hs16.mono le20) 1000 (show r64 1000 from ⟨by decide, by decide⟩) _ h50 _ (h.sub (Ls := [.box g13 65 ([.slice A14 x7.1.length c15, .int .u64 (x7.2.1.toNat : Int), .bool x7.2.2])]))
    refine q_callY (Ls := [.box g13 65 ([.slice A14 x7.1.length c15, .int .u64 (x7.2.1.toNat : Int), .bool x7.2.2])]) hX h up21 rfl rfl rfl (by decide) Try.func8 rfl rfl rfl (fun a w v L1 S52 hR le54 up53 h => ?_)
    obtain ⟨A56, c57, rfl, rfl, hr55, hs58, _⟩ := hR
    refine g_yes h rfl rfl rfl rfl hB3 ?_
    refine s_move h rfl _ rfl rfl (by decide) rfl (fun a h => ?_)
    refine g_yes h rfl rfl rfl rfl hB3 ?_
    obtain ⟨x59, h60, hz48⟩ := bsome hz48
    have h := h.pick [3, 1, 0, 2] (by decide) rfl
    have hX := chatelaineref43_Lot_Below_ok Fu (S0 := S52) ([(5 : UInt8)], 0) g23 A17 1 (hs22.mono le54) (show r64 0 from ⟨by decide, by decide⟩) 1000 (show r64 1000 from ⟨by decide, by decide⟩) _ h60 _ (h.sub (Ls := [.box g23 33 ([.slice A17 ([(5 : UInt8)]).length 1, .int .i64 0])]))
    refine q_callY (Ls := [.box g23 33 ([.slice A17 ([(5 : UInt8)]).length 1, .int .i64 0])]) hX h up53 rfl rfl rfl (by decide) Try.func10 rfl rfl rfl (fun a w v L1 S62 hR le64 up63 h => ?_)
    obtain ⟨A66, c67, rfl, rfl, hr65, hs68, hr69, _⟩ := hR
    refine g_yes h rfl rfl rfl rfl hB3 ?_
    refine s_x h rfl rfl (by decide) (x_bin h.k rfl rfl rfl ib_eql) (fun a h => ?_)
    refine s_x h rfl rfl (by decide) (x_pick (u' := undef) h.k rfl rfl (fun _ => rfl) (fun hh => absurd (hB3.symm.trans hh) (by decide))) (fun a h => ?_)
    refine l_nil (e_thenN ?_)
    have h := h.pick [2, 0, 1] (by decide) rfl
    exact ⟨S62, (decide (x49.1 = x59.1)), x49.2, A56, c57, x59.2, A66, c67, (Option.some.inj hz48), (le54.trans le64), up63, (hs58.mono le64), hs68, hr69, h.has (by exact ⟨rfl, rfl, rfl, trivial⟩)⟩
  · rw [if_neg (of_decide_eq_false hB3)] at hz48
    refine g_no h rfl rfl rfl rfl hB3 rfl (by decide) (fun a h => ?_)
    refine g_no h rfl rfl rfl rfl hB3 rfl (by decide) (fun a h => ?_)
    refine g_no h rfl rfl rfl rfl hB3 rfl (by decide) (fun a h => ?_)
    refine g_no h rfl rfl rfl rfl hB3 rfl (by decide) (fun a h => ?_)
    refine g_no h rfl rfl rfl rfl hB3 rfl (by decide) (fun a h => ?_)
    refine s_x h rfl rfl (by decide) (x_pick (u' := undef) h.k rfl rfl (fun hh => absurd (hB3.symm.trans hh) (by decide)) (fun _ => rfl)) (fun a h => ?_)
    refine l_nil (e_thenN ?_)
    have h := h.pick [3, 1, 2] (by decide) rfl
    exact ⟨S19, false, x7, A14, c15, ([(5 : UInt8)], 0), A17, 1, (Option.some.inj hz48), (Snap.le.refl _), up21, (hs16.mono le20), hs22, (show r64 0 from ⟨by decide, by decide⟩), h.has (by exact ⟨rfl, rfl, rfl, trivial⟩)⟩
  rintro a w ⟨S34, x37, x38, A39, c40, x42, A43, c44, rfl, le35, up36, hs41, hs45, hr46, h⟩
  try dsimp only at hf
  refine s_move h rfl _ rfl rfl (by decide) rfl (fun a h => ?_)
  obtain ⟨o76, hz77, hf⟩ := bsome hf
  refine q_grpR h 6 (t := 18) (fun a w => ∃ (S72 : Snap), ∃ (x75 : Bool), x75 = o76 ∧ Snap.le S34 S72 ∧ Up (ownL ([] ++ [.sn S0])) w0 S0 S72 ∧ St 25 w0 (ownL ([] ++ [.sn S0])) [(24, .bool x75)] [.sn S72] a w) rfl (fun hB10 => ?_) (fun hB10 => ?_) ?_
  · rw [if_pos hB10] at hz77
    refine g_yes h rfl rfl rfl rfl hB10 ?_
    refine s_move h rfl _ rfl rfl (by decide) rfl (fun a h => ?_)
    refine g_yes h rfl rfl rfl rfl hB10 ?_
    obtain ⟨x78, h79, hz77⟩ := bsome hz77
    have h := h.pick [0, 2, 1] (by decide) rfl
    have hX := lot_Lot_Next_ok Fu (S0 := S34) x38 g13 A39 c40 hs41 _ h79 _ (h.sub (Ls := [.box g13 65 ([.slice A39 x38.1.length c40, .int .u64 (x38.2.1.toNat : Int), .bool x38.2.2])]))
    refine q_callY (Ls := [.box g13 65 ([.slice A39 x38.1.length c40, .int .u64 (x38.2.1.toNat : Int), .bool x38.2.2])]) hX h up36 rfl rfl rfl (by decide) Try.func7 rfl rfl rfl (fun a w v L1 S81 hR le83 up82 h => ?_)
    obtain ⟨A85, c86, rfl, rfl, hr84, hs87, _⟩ := hR
    refine g_yes h rfl rfl rfl rfl hB10 ?_
    refine s_move h rfl _ rfl rfl (by decide) rfl (fun a h => ?_)
    refine g_yes h rfl rfl rfl rfl hB10 ?_
    obtain ⟨x88, h89, hz77⟩ := bsome hz77
    have h := h.pick [2, 1, 0] (by decide) rfl
    have hX := chatelaineref43_Lot_Next_ok Fu (S0 := S81) x42 g23 A43 c44 (hs45.mono le83) hr46 _ h89 _ (h.sub (Ls := [.box g23 33 ([.slice A43 x42.1.length c44, .int .i64 x42.2])]))
    refine q_callY (Ls := [.box g23 33 ([.slice A43 x42.1.length c44, .int .i64 x42.2])]) hX h up82 rfl rfl rfl (by decide) Try.func14 rfl rfl rfl (fun a w v L1 S91 hR le93 up92 h => ?_)
    obtain ⟨A95, c96, rfl, rfl, hr94, hs97, hr98, _⟩ := hR
    refine g_yes h rfl rfl rfl rfl hB10 ?_
    refine s_x h rfl rfl (by decide) (x_bin h.k rfl rfl rfl ib_eql) (fun a h => ?_)
    refine s_x h rfl rfl (by decide) (x_pick (u' := undef) h.k rfl rfl (fun _ => rfl) (fun hh => absurd (hB10.symm.trans hh) (by decide))) (fun a h => ?_)
    refine l_nil (e_thenN ?_)
    have h := h.pick [1] (by decide) rfl
    exact ⟨S91, (decide (x78.1 = x88.1)), (Option.some.inj hz77), (le83.trans le93), up92, h.has (by exact ⟨rfl, trivial⟩)⟩
  · rw [if_neg (by rw [hB10]; decide)] at hz77
    refine g_no h rfl rfl rfl rfl hB10 rfl (by decide) (fun a h => ?_)
    refine g_no h rfl rfl rfl rfl hB10 rfl (by decide) (fun a h => ?_)
    refine g_no h rfl rfl rfl rfl hB10 rfl (by decide) (fun a h => ?_)
    refine g_no h rfl rfl rfl rfl hB10 rfl (by decide) (fun a h => ?_)
    refine g_no h rfl rfl rfl rfl hB10 rfl (by decide) (fun a h => ?_)
    refine s_x h rfl rfl (by decide) (x_pick (u' := undef) h.k rfl rfl (fun hh => absurd (hB10.symm.trans hh) (by decide)) (fun _ => rfl)) (fun a h => ?_)
    refine l_nil (e_thenN ?_)
    have h := h.pick [2] (by decide) rfl
    exact ⟨S34, false, (Option.some.inj hz77), (Snap.le.refl _), up36, h.has (by exact ⟨rfl, trivial⟩)⟩
  rintro a w ⟨S72, x75, rfl, le73, up74, h⟩
  try dsimp only at hf
  refine s_assign h rfl _ rfl rfl (by decide) rfl (fun a h => ?_)
  refine l_end ?_
  refine wp_ret ?_
  rw [← Option.some.inj hf]
  exact r_ret1 h rfl (rv_tmp h rfl) ⟨_, [], _, rfl, ⟨rfl, rfl, trivial⟩, rfl, up74, h.m⟩
end Go.Proofs.Ytcjleeclpmgbjaa
