/- Texts put together. -/
import Derived.Test.YthaoiajbgadcjaaCr
import Derived.Test.YthaoiajbgadcjaaCs
import Derived.Test.YthaoiajbgadcjaaEsm
import Derived.Test.YthaoiajbgadcjaaE22
set_option linter.unusedVariables false
set_option linter.unusedSimpArgs false
namespace Go.Proofs.Ythaoiajbgadcjaa
open Go.RowKit
section
def chatelainelaw22_awake (Fu : Nat) : Option Bool :=
  (mkN 1 8).bind fun n1 => (mkN 1 32).bind fun n9 => (cred_Seal Fu (List.replicate n1 ((0 : UInt8) : UInt8)) ([(1 : UInt8), (0 : UInt8), (0 : UInt8), (0 : UInt8), (0 : UInt8), (0 : UInt8), (0 : UInt8), (0 : UInt8), (0 : UInt8), (0 : UInt8), (0 : UInt8), (0 : UInt8), (0 : UInt8), (0 : UInt8), (0 : UInt8), (0 : UInt8), (0 : UInt8), (0 : UInt8), (0 : UInt8), (0 : UInt8), (0 : UInt8), (0 : UInt8), (0 : UInt8), (0 : UInt8), (0 : UInt8), (0 : UInt8), (0 : UInt8), (0 : UInt8), (0 : UInt8), (0 : UInt8), (0 : UInt8), (0 : UInt8)]) 3 (List.replicate n9 ((0 : UInt8) : UInt8))).bind fun x14 => some ((decide (x14.2 = 0)) && (decide ((x14.1.length : Int) = 48)))
set_option maxRecDepth 100000 in
set_option maxHeartbeats 2000000 in
theorem chatelainelaw22_awake_ok (Fu : Nat) {S0 : Snap}  (r : Bool) (hf : chatelainelaw22_awake Fu = some r) (w0 : World) (hm : Mem w0 (ownL ([] ++ [.sn S0])) ([] ++ [.sn S0]) w0) :
    Calls Try.prog 6 #[] w0 (Ret w0 S0 [] (fun v L1 S1 => v = .bool r ∧ L1 = [] ∧ True)) := by
  unfold chatelainelaw22_awake at hf
  refine c_enterM Try.func6 rfl 17 rfl (by simp) _ hm _ rfl (fun a h => ?_)
  refine c_rs ?_
  refine sAV h (fun a h => ?_)
  refine l_end ?_
  refine wp_seq ?_
  -- region 1 draws
  obtain ⟨n1, h2, hf⟩ := bsome hf
  obtain ⟨n9, h10, hf⟩ := bsome hf
  obtain ⟨x14, h15, hf⟩ := bsome hf
  refine c_fin (fun a w => ∃ (A23 : Option Addr), ∃ (c24 : Nat), ∃ (cs25 : List Value), reps ty8 S0 cs25 x14.1 ∧ St 17 w0 (ownL ([] ++ [.sn S0])) [(1, .slice A23 x14.1.length c24), (2, .int .i64 x14.2)] [.row (.slice A23 x14.1.length c24) 5 1 x14.1.length cs25, .sn S0] a w) ?_ (fun a w h => ?_)
  · refine d_start h (Mem _ _ _) 9 9 rfl (by kernel_rfl) (fun _ _ _ _ _ h => h) (fun _ h => h) (fun Q a w HE HN h HS => ?_)
    obtain ⟨k7, hk8⟩ : ∃ k : List Value, k = [.int .u8 1, .int .u8 0, .int .u8 0, .int .u8 0, .int .u8 0, .int .u8 0, .int .u8 0, .int .u8 0, .int .u8 0, .int .u8 0, .int .u8 0, .int .u8 0, .int .u8 0, .int .u8 0, .int .u8 0, .int .u8 0, .int .u8 0, .int .u8 0, .int .u8 0, .int .u8 0, .int .u8 0, .int .u8 0, .int .u8 0, .int .u8 0, .int .u8 0, .int .u8 0, .int .u8 0, .int .u8 0, .int .u8 0, .int .u8 0, .int .u8 0, .int .u8 0] := ⟨_, rfl⟩
    have hq6 : reps ty8 S0 k7 [(1 : UInt8), (0 : UInt8), (0 : UInt8), (0 : UInt8), (0 : UInt8), (0 : UInt8), (0 : UInt8), (0 : UInt8), (0 : UInt8), (0 : UInt8), (0 : UInt8), (0 : UInt8), (0 : UInt8), (0 : UInt8), (0 : UInt8), (0 : UInt8), (0 : UInt8), (0 : UInt8), (0 : UInt8), (0 : UInt8), (0 : UInt8), (0 : UInt8), (0 : UInt8), (0 : UInt8), (0 : UInt8), (0 : UInt8), (0 : UInt8), (0 : UInt8), (0 : UInt8), (0 : UInt8), (0 : UInt8), (0 : UInt8)] := by rw [hk8]; exact ⟨[.int .u8 1], _, rfl, rfl, ⟨[.int .u8 0], _, rfl, rfl, ⟨[.int .u8 0], _, rfl, rfl, ⟨[.int .u8 0], _, rfl, rfl, ⟨[.int .u8 0], _, rfl, rfl, ⟨[.int .u8 0], _, rfl, rfl, ⟨[.int .u8 0], _, rfl, rfl, ⟨[.int .u8 0], _, rfl, rfl, ⟨[.int .u8 0], _, rfl, rfl, ⟨[.int .u8 0], _, rfl, rfl, ⟨[.int .u8 0], _, rfl, rfl, ⟨[.int .u8 0], _, rfl, rfl, ⟨[.int .u8 0], _, rfl, rfl, ⟨[.int .u8 0], _, rfl, rfl, ⟨[.int .u8 0], _, rfl, rfl, ⟨[.int .u8 0], _, rfl, rfl, ⟨[.int .u8 0], _, rfl, rfl, ⟨[.int .u8 0], _, rfl, rfl, ⟨[.int .u8 0], _, rfl, rfl, ⟨[.int .u8 0], _, rfl, rfl, ⟨[.int .u8 0], _, rfl, rfl, ⟨[.int .u8 0], _, rfl, rfl, ⟨[.int .u8 0], _, rfl, rfl, ⟨[.int .u8 0], _, rfl, rfl, ⟨[.int .u8 0], _, rfl, rfl, ⟨[.int .u8 0], _, rfl, rfl, ⟨[.int .u8 0], _, rfl, rfl, ⟨[.int .u8 0], _, rfl, rfl, ⟨[.int .u8 0], _, rfl, rfl, ⟨[.int .u8 0], _, rfl, rfl, ⟨[.int .u8 0], _, rfl, rfl, ⟨[.int .u8 0], _, rfl, rfl, rfl⟩⟩⟩⟩⟩⟩⟩⟩⟩⟩⟩⟩⟩⟩⟩⟩⟩⟩⟩⟩⟩⟩⟩⟩⟩⟩⟩⟩⟩⟩⟩⟩
    refine d_takeP h (fun _ => HS) HN 1 rfl (by kernel_rfl) (by kernel_rfl) (by kernel_rfl) (by decide) rfl rfl (by decide) (fun w' => x_build h.k rfl [(0, .int .u8 1)] rfl k7 (by rw [hk8]; kernel_rfl)) (fun a h => ?_)
    refine d_two 0 2 (by kernel_rfl) (d_one 0 rfl _ (fun K hK => ?_)) (d_one 2 rfl _ (fun K hK => ?_))
    · refine q_make (T := ty8) (S := S0) h rfl rfl rfl (by decide) Try.underlying22 zb_uint8 rfl rfl (q := (0 : UInt8)) rfl rfl rfl h2 (fun a w A3 cs4 hq5 h => ?_)
      replace HS := h.m.pick [1] [.sn S0] (by decide) rfl
      refine hK _ _ ⟨fun _ _ => HS, ?_⟩
      clear hK
      refine d_alone 2 rfl (by kernel_rfl) (fun K hK => ?_)
      refine q_make (T := ty8) (S := S0) h rfl rfl rfl (by decide) Try.underlying22 zb_uint8 rfl rfl (q := (0 : UInt8)) rfl rfl rfl h10 (fun a w A11 cs12 hq13 h => ?_)
      replace HS := h.m.pick [2] [.sn S0] (by decide) rfl
      refine hK _ _ (fun _ _ => HS) ?_
      clear hK
      refine d_alone 3 rfl (by kernel_rfl) (fun K hK => ?_)
      have hX := cred_Seal_ok Fu (S0 := snapAll _) A3 n1 (List.replicate n1 ((0 : UInt8) : UInt8)) (h.m.rowAll (i := 1) rfl (j := 2) rfl hq5) k7 ([(1 : UInt8), (0 : UInt8), (0 : UInt8), (0 : UInt8), (0 : UInt8), (0 : UInt8), (0 : UInt8), (0 : UInt8), (0 : UInt8), (0 : UInt8), (0 : UInt8), (0 : UInt8), (0 : UInt8), (0 : UInt8), (0 : UInt8), (0 : UInt8), (0 : UInt8), (0 : UInt8), (0 : UInt8), (0 : UInt8), (0 : UInt8), (0 : UInt8), (0 : UInt8), (0 : UInt8), (0 : UInt8), (0 : UInt8), (0 : UInt8), (0 : UInt8), (0 : UInt8), (0 : UInt8), (0 : UInt8), (0 : UInt8)]) ((tyA 32 ty8).mono (h.m.leAll (i := 2) rfl) (show (tyA 32 ty8).rep S0 k7 ([(1 : UInt8), (0 : UInt8), (0 : UInt8), (0 : UInt8), (0 : UInt8), (0 : UInt8), (0 : UInt8), (0 : UInt8), (0 : UInt8), (0 : UInt8), (0 : UInt8), (0 : UInt8), (0 : UInt8), (0 : UInt8), (0 : UInt8), (0 : UInt8), (0 : UInt8), (0 : UInt8), (0 : UInt8), (0 : UInt8), (0 : UInt8), (0 : UInt8), (0 : UInt8), (0 : UInt8), (0 : UInt8), (0 : UInt8), (0 : UInt8), (0 : UInt8), (0 : UInt8), (0 : UInt8), (0 : UInt8), (0 : UInt8)]) from ⟨hq6, (show [(1 : UInt8), (0 : UInt8), (0 : UInt8), (0 : UInt8), (0 : UInt8), (0 : UInt8), (0 : UInt8), (0 : UInt8), (0 : UInt8), (0 : UInt8), (0 : UInt8), (0 : UInt8), (0 : UInt8), (0 : UInt8), (0 : UInt8), (0 : UInt8), (0 : UInt8), (0 : UInt8), (0 : UInt8), (0 : UInt8), (0 : UInt8), (0 : UInt8), (0 : UInt8), (0 : UInt8), (0 : UInt8), (0 : UInt8), (0 : UInt8), (0 : UInt8), (0 : UInt8), (0 : UInt8), (0 : UInt8), (0 : UInt8)].length = 32 from rfl)⟩)) 3 (show r64 3 from ⟨by decide, by decide⟩) A11 n9 (List.replicate n9 ((0 : UInt8) : UInt8)) (h.m.rowAll (i := 0) rfl (j := 2) rfl hq13) _ h15 _ h.startAll
      refine q_callX hX h rfl rfl rfl (by decide) Try.func13 rfl rfl rfl (fun a w v L1 S1 hR hb1 h => ?_)
      obtain ⟨A17, c18, cs19, rfl, rfl, hq20, hr21, _⟩ := hR
      have hq22 := hq20.fl (S' := S0) fl_8
      refine hK _ _ (fun _ _ => HS.ext hb1) ?_
      replace HS := HS.ext hb1
      clear hK
      refine d_takeP h (fun _ => HS) HN 4 rfl (by kernel_rfl) (by kernel_rfl) (by kernel_rfl) (by decide) rfl rfl (by decide) (fun w' => x_move h.k _ rfl rfl) (fun a h => ?_)
      refine d_takeP h (fun _ => HS) HN 5 rfl (by kernel_rfl) (by kernel_rfl) (by kernel_rfl) (by decide) rfl rfl (by decide) (fun w' => x_ext h.k rfl rfl rfl) (fun a h => ?_)
      refine d_takeP h (fun _ => HS) HN 6 rfl (by kernel_rfl) (by kernel_rfl) (by kernel_rfl) (by decide) rfl rfl (by decide) (fun w' => x_ext h.k rfl rfl rfl) (fun a h => ?_)
      refine d_takeP h (fun _ => HS) HN 7 rfl (by kernel_rfl) (by kernel_rfl) (by kernel_rfl) (by decide) rfl rfl (by decide) (fun w' => x_assign h.k _ rfl rfl) (fun a h => ?_)
      refine d_takeP h (fun _ => HS) HN 8 rfl (by kernel_rfl) (by kernel_rfl) (by kernel_rfl) (by decide) rfl rfl (by decide) (fun w' => x_assign h.k _ rfl rfl) (fun a h => ?_)
      refine d_done (by kernel_rfl) (HE _ _ ?_) _
      refine e_thenN ?_
      have h := h.pick [0, 3] (by decide) rfl
      exact ⟨A17, c18, cs19, hq22, h.has (by exact ⟨rfl, rfl, trivial⟩)⟩
    · refine q_make (T := ty8) (S := S0) h rfl rfl rfl (by decide) Try.underlying22 zb_uint8 rfl rfl (q := (0 : UInt8)) rfl rfl rfl h10 (fun a w A11 cs12 hq13 h => ?_)
      replace HS := h.m.pick [1] [.sn S0] (by decide) rfl
      refine hK _ _ ⟨fun _ _ => HS, ?_⟩
      clear hK
      refine d_alone 0 rfl (by kernel_rfl) (fun K hK => ?_)
      refine q_make (T := ty8) (S := S0) h rfl rfl rfl (by decide) Try.underlying22 zb_uint8 rfl rfl (q := (0 : UInt8)) rfl rfl rfl h2 (fun a w A3 cs4 hq5 h => ?_)
      replace HS := h.m.pick [2] [.sn S0] (by decide) rfl
      refine hK _ _ (fun _ _ => HS) ?_
      clear hK
      refine d_alone 3 rfl (by kernel_rfl) (fun K hK => ?_)
      have hX := cred_Seal_ok Fu (S0 := snapAll _) A3 n1 (List.replicate n1 ((0 : UInt8) : UInt8)) (h.m.rowAll (i := 0) rfl (j := 2) rfl hq5) k7 ([(1 : UInt8), (0 : UInt8), (0 : UInt8), (0 : UInt8), (0 : UInt8), (0 : UInt8), (0 : UInt8), (0 : UInt8), (0 : UInt8), (0 : UInt8), (0 : UInt8), (0 : UInt8), (0 : UInt8), (0 : UInt8), (0 : UInt8), (0 : UInt8), (0 : UInt8), (0 : UInt8), (0 : UInt8), (0 : UInt8), (0 : UInt8), (0 : UInt8), (0 : UInt8), (0 : UInt8), (0 : UInt8), (0 : UInt8), (0 : UInt8), (0 : UInt8), (0 : UInt8), (0 : UInt8), (0 : UInt8), (0 : UInt8)]) ((tyA 32 ty8).mono (h.m.leAll (i := 2) rfl) (show (tyA 32 ty8).rep S0 k7 ([(1 : UInt8), (0 : UInt8), (0 : UInt8), (0 : UInt8), (0 : UInt8), (0 : UInt8), (0 : UInt8), (0 : UInt8), (0 : UInt8), (0 : UInt8), (0 : UInt8), (0 : UInt8), (0 : UInt8), (0 : UInt8), (0 : UInt8), (0 : UInt8), (0 : UInt8), (0 : UInt8), (0 : UInt8), (0 : UInt8), (0 : UInt8), (0 : UInt8), (0 : UInt8), (0 : UInt8), (0 : UInt8), (0 : UInt8), (0 : UInt8), (0 : UInt8), (0 : UInt8), (0 : UInt8), (0 : UInt8), (0 : UInt8)]) from ⟨hq6, (show [(1 : UInt8), (0 : UInt8), (0 : UInt8), (0 : UInt8), (0 : UInt8), (0 : UInt8), (0 : UInt8), (0 : UInt8), (0 : UInt8), (0 : UInt8), (0 : UInt8), (0 : UInt8), (0 : UInt8), (0 : UInt8), (0 : UInt8), (0 : UInt8), (0 : UInt8), (0 : UInt8), (0 : UInt8), (0 : UInt8), (0 : UInt8), (0 : UInt8), (0 : UInt8), (0 : UInt8), (0 : UInt8), (0 : UInt8), (0 : UInt8), (0 : UInt8), (0 : UInt8), (0 : UInt8), (0 : UInt8), (0 : UInt8)].length = 32 from rfl)⟩)) 3 (show r64 3 from ⟨by decide, by decide⟩) A11 n9 (List.replicate n9 ((0 : UInt8) : UInt8)) (h.m.rowAll (i := 1) rfl (j := 2) rfl hq13) _ h15 _ h.startAll
      refine q_callX hX h rfl rfl rfl (by decide) Try.func13 rfl rfl rfl (fun a w v L1 S1 hR hb1 h => ?_)
      obtain ⟨A17, c18, cs19, rfl, rfl, hq20, hr21, _⟩ := hR
      have hq22 := hq20.fl (S' := S0) fl_8
      refine hK _ _ (fun _ _ => HS.ext hb1) ?_
      replace HS := HS.ext hb1
      clear hK
      refine d_takeP h (fun _ => HS) HN 4 rfl (by kernel_rfl) (by kernel_rfl) (by kernel_rfl) (by decide) rfl rfl (by decide) (fun w' => x_move h.k _ rfl rfl) (fun a h => ?_)
      refine d_takeP h (fun _ => HS) HN 5 rfl (by kernel_rfl) (by kernel_rfl) (by kernel_rfl) (by decide) rfl rfl (by decide) (fun w' => x_ext h.k rfl rfl rfl) (fun a h => ?_)
      refine d_takeP h (fun _ => HS) HN 6 rfl (by kernel_rfl) (by kernel_rfl) (by kernel_rfl) (by decide) rfl rfl (by decide) (fun w' => x_ext h.k rfl rfl rfl) (fun a h => ?_)
      refine d_takeP h (fun _ => HS) HN 7 rfl (by kernel_rfl) (by kernel_rfl) (by kernel_rfl) (by decide) rfl rfl (by decide) (fun w' => x_assign h.k _ rfl rfl) (fun a h => ?_)
      refine d_takeP h (fun _ => HS) HN 8 rfl (by kernel_rfl) (by kernel_rfl) (by kernel_rfl) (by decide) rfl rfl (by decide) (fun w' => x_assign h.k _ rfl rfl) (fun a h => ?_)
      refine d_done (by kernel_rfl) (HE _ _ ?_) _
      refine e_thenN ?_
      have h := h.pick [0, 3] (by decide) rfl
      exact ⟨A17, c18, cs19, hq22, h.has (by exact ⟨rfl, rfl, trivial⟩)⟩
  obtain ⟨A23, c24, cs25, hq26, h⟩ := h
  refine e_thenN ?_
  refine c_rs ?_
  refine sMV h (fun a h => ?_)
  refine s_x h rfl rfl (by decide) (x_bin h.k rfl rfl rfl ib_eql) (fun a h => ?_)
  refine sMV h (fun a h => ?_)
  refine q_grp h 4 (t := 12) 16 ((decide (x14.2 = 0)) && (decide ((x14.1.length : Int) = 48))) rfl (fun hB2 => ?_) (fun hB2 => ?_) (fun a w h => ?_)
  · refine g_yes h rfl rfl rfl rfl hB2 ?_
    refine sMV h (fun a h => ?_)
    refine g_yes h rfl rfl rfl rfl hB2 ?_
    have hr29 : r64 (x14.1.length : Int) := len_r (h.m.rowLen (i := 0) rfl)
    refine s_x h rfl rfl (by decide) (x_len h.k rfl Try.underlying22 rfl) (fun a h => ?_)
    refine g_yes h rfl rfl rfl rfl hB2 ?_
    refine s_x h rfl rfl (by decide) (x_bin h.k rfl rfl rfl ib_eql) (fun a h => ?_)
    refine s_x h rfl rfl (by decide) (x_pick (u' := undef) h.k rfl rfl (fun _ => rfl) (fun hh => absurd (hB2.symm.trans hh) (by decide))) (fun a h => ?_)
    exact (h.mid 3 rfl).val (by first | rfl | (rw [hB2]; first | rfl | simp))
  · refine g_no h rfl rfl rfl rfl hB2 rfl (by decide) (fun a h => ?_)
    refine g_no h rfl rfl rfl rfl hB2 rfl (by decide) (fun a h => ?_)
    refine g_no h rfl rfl rfl rfl hB2 rfl (by decide) (fun a h => ?_)
    refine s_x h rfl rfl (by decide) (x_pick (u' := undef) h.k rfl rfl (fun hh => absurd (hB2.symm.trans hh) (by decide)) (fun _ => rfl)) (fun a h => ?_)
    exact (h.mid 3 rfl).val (by first | rfl | (rw [hB2]; first | rfl | simp))
  refine sAV h (fun a h => ?_)
  refine l_end ?_
  refine wp_ret ?_
  obtain rfl := Option.some.inj hf
  exact r_ret1 h rfl (rv_tmp h rfl) ⟨_, [], _, rfl, ⟨rfl, rfl, trivial⟩, rfl, (Up.refl _ _ _), (h.m.pick [1] _ (by decide) rfl)⟩
end
section
theorem credAwake : chatelainelaw22_awake 300 = some true := by
  unfold chatelainelaw22_awake
  refine (bnd_eqW (show mkN 1 8 = some 8 from rfl) _).trans ?_
  refine (bnd_eqW (show mkN 1 32 = some 32 from rfl) _).trans ?_
  refine (bnd_eqW (pSeal _ _ rfl _ _) _).trans ?_
  unfold sealR
  rw [if_neg (by decide), if_neg (by simp)]
  rw [sealL_len _ _ _ _ (by simp)]
  rfl
end
end Go.Proofs.Ythaoiajbgadcjaa
