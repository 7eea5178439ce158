/- Ct: Go functions as plain functions, and that they are so (written by xt.py). -/
import Derived.Test.YthaoiajbgadcjaaCr
import Derived.Test.YthaoiajbgadcjaaCs
import Derived.Test.YthaoiajbgadcjaaEsm
set_option linter.unusedVariables false
set_option linter.unusedSimpArgs false
namespace Go.Proofs.Ythaoiajbgadcjaa
open Go.RowKit
def chatelainelaw22_awake (Fu : Nat) : Option Bool :=
  (mkN 1 8).bind fun n1 => (mkN 1 32).bind fun n9 => (cred_Seal Fu (List.replicate n1 ((0 : UInt8) : UInt8)) ([(1 : UInt8), (0 : UInt8), (0 : UInt8), (0 : UInt8), (0 : UInt8), (0 : UInt8), (0 : UInt8), (0 : UInt8), (0 : UInt8), (0 : UInt8), (0 : UInt8), (0 : UInt8), (0 : UInt8), (0 : UInt8), (0 : UInt8), (0 : UInt8), (0 : UInt8), (0 : UInt8), (0 : UInt8), (0 : UInt8), (0 : UInt8), (0 : UInt8), (0 : UInt8), (0 : UInt8), (0 : UInt8), (0 : UInt8), (0 : UInt8), (0 : UInt8), (0 : UInt8), (0 : UInt8), (0 : UInt8), (0 : UInt8)]) 3 (List.replicate n9 ((0 : UInt8) : UInt8))).bind fun x14 => some ((decide (x14.2 = 0)) && (decide ((x14.1.length : Int) = 48)))
set_option maxRecDepth 100000 in
set_option maxHeartbeats 2000000 in
theorem chatelainelaw22_awake_ok (Fu : Nat) {S0 : Snap}  (r : Bool) (hf : chatelainelaw22_awake Fu = some r) (w0 : World) (hm : Mem w0 (ownL ([] ++ [.sn S0])) ([] ++ [.sn S0]) w0) :
    Calls Try.prog 6 #[] w0 (Ret w0 S0 [] (fun v L1 S1 => v = .bool r ∧ L1 = [] ∧ True)) := by
  unfold chatelainelaw22_awake at hf
  refine c_enterM Try.func6 rfl 17 rfl (by simp) _ hm _ rfl (fun a h => ?_)
  refine c_rs ?_ -- region 0
  refine s_assign h rfl _ rfl rfl (by decide) rfl (fun a h => ?_)
  refine l_end ?_
  refine wp_seq ?_
  -- region 1 draws
  obtain ⟨n1, h2, hf⟩ := bsome hf
  obtain ⟨n9, h10, hf⟩ := bsome hf
  obtain ⟨x14, h15, hf⟩ := bsome hf
  refine c_fin (fun a w => ∃ (A23 : Option Addr), ∃ (c24 : Nat), ∃ (cs25 : List Value), reps ty8 S0 cs25 x14.1 ∧ St 17 w0 (ownL ([] ++ [.sn S0])) [(1, .slice A23 x14.1.length c24), (2, .int .i64 x14.2)] [.row (.slice A23 x14.1.length c24) 5 1 x14.1.length cs25, .sn S0] a w) ?_ (fun a w h => ?_)
  · refine d_start h (Mem _ _ _) 9 9 rfl (by kernel_rfl) (fun _ _ _ _ _ h => h) (fun _ h => h) (fun Q a w HE HN h HS => ?_)
    obtain ⟨k7, hk8⟩ : ∃ k : List Value, k = [.int .u8 1, .int .u8 0, .int .u8 0, .int .u8 0, .int .u8 0, .int .u8 0, .int .u8 0, .int .u8 0, .int .u8 0, .int .u8 0, .int .u8 0, .int .u8 0, .int .u8 0, .int .u8 0, .int .u8 0, .int .u8 0, .int .u8 0, .int .u8 0, .int .u8 0, .int .u8 0, .int .u8 0, .int .u8 0, .int .u8 0, .int .u8 0, .int .u8 0, .int .u8 0, .int .u8 0, .int .u8 0, .int .u8 0, .int .u8 0, .int .u8 0, .int .u8 0] := ⟨_, rfl⟩
    have hq6 : reps ty8 S0 k7 [(1 : UInt8), (0 : UInt8), (0 : UInt8), (0 : UInt8), (0 : UInt8), (0 : UInt8), (0 : UInt8), (0 : UInt8), (0 : UInt8), (0 : UInt8), (0 : UInt8), (0 : UInt8), (0 : UInt8), (0 : UInt8), (0 : UInt8), (0 : UInt8), (0 : UInt8), (0 : UInt8), (0 : UInt8), (0 : UInt8), (0 : UInt8), (0 : UInt8), (0 : UInt8), (0 : UInt8), (0 : UInt8), (0 : UInt8), (0 : UInt8), (0 : UInt8), (0 : UInt8), (0 : UInt8), (0 : UInt8), (0 : UInt8)] := by rw [hk8]; exact ⟨[.int .u8 1], _, rfl, rfl, ⟨[.int .u8 0], _, rfl, rfl, ⟨[.int .u8 0], _, rfl, rfl, ⟨[.int .u8 0], _, rfl, rfl, ⟨[.int .u8 0], _, rfl, rfl, ⟨[.int .u8 0], _, rfl, rfl, ⟨[.int .u8 0], _, rfl, rfl, ⟨[.int .u8 0], _, rfl, rfl, ⟨[.int .u8 0], _, rfl, rfl, ⟨[.int .u8 0], _, rfl, rfl, ⟨[.int .u8 0], _, rfl, rfl, ⟨[.int .u8 0], _, rfl, rfl, ⟨[.int .u8 0], _, rfl, rfl, ⟨[.int .u8 0], _, rfl, rfl, ⟨[.int .u8 0], _, rfl, rfl, ⟨[.int .u8 0], _, rfl, rfl, ⟨[.int .u8 0], _, rfl, rfl, ⟨[.int .u8 0], _, rfl, rfl, ⟨[.int .u8 0], _, rfl, rfl, ⟨[.int .u8 0], _, rfl, rfl, ⟨[.int .u8 0], _, rfl, rfl, ⟨[.int .u8 0], _, rfl, rfl, ⟨[.int .u8 0], _, rfl, rfl, ⟨[.int .u8 0], _, rfl, rfl, ⟨[.int .u8 0], _, rfl, rfl, ⟨[.int .u8 0], _, rfl, rfl, ⟨[.int .u8 0], _, rfl, rfl, ⟨[.int .u8 0], _, rfl, rfl, ⟨[.int .u8 0], _, rfl, rfl, ⟨[.int .u8 0], _, rfl, rfl, ⟨[.int .u8 0], _, rfl, rfl, ⟨[.int .u8 0], _, rfl, rfl, rfl⟩⟩⟩⟩⟩⟩⟩⟩⟩⟩⟩⟩⟩⟩⟩⟩⟩⟩⟩⟩⟩⟩⟩⟩⟩⟩⟩⟩⟩⟩⟩⟩
    refine d_takeP h (fun _ => HS) HN 1 rfl (by kernel_rfl) (by kernel_rfl) (by kernel_rfl) (by decide) rfl rfl (by decide) (fun w' => x_build h.k rfl [(0, .int .u8 1)] rfl k7 (by rw [hk8]; kernel_rfl)) (fun a h => ?_)
    refine d_two 0 2 (by kernel_rfl) (d_one 0 rfl _ (fun K hK => ?_)) (d_one 2 rfl _ (fun K hK => ?_))
    · refine q_make (T := ty8) (S := S0) h rfl rfl rfl (by decide) Try.underlying22 zb_uint8 rfl rfl (q := (0 : UInt8)) rfl rfl rfl h2 (fun a w A3 cs4 hq5 h => ?_)
      replace HS := h.m.pick [1] [.sn S0] (by decide) rfl
      refine hK _ _ ⟨fun _ _ => HS, ?_⟩
      clear hK
      refine d_alone 2 rfl (by kernel_rfl) (fun K hK => ?_)
      refine q_make (T := ty8) (S := S0) h rfl rfl rfl (by decide) Try.underlying22 zb_uint8 rfl rfl (q := (0 : UInt8)) rfl rfl rfl h10 (fun a w A11 cs12 hq13 h => ?_)
      replace HS := h.m.pick [2] [.sn S0] (by decide) rfl
      refine hK _ _ (fun _ _ => HS) ?_
      clear hK
      refine d_alone 3 rfl (by kernel_rfl) (fun K hK => ?_)
      have hX := cred_Seal_ok Fu (S0 := snapAll _) A3 n1 (List.replicate n1 ((0 : UInt8) : UInt8)) (h.m.rowAll (i := 1) rfl (j := 2) rfl hq5) k7 ([(1 : UInt8), (0 : UInt8), (0 : UInt8), (0 : UInt8), (0 : UInt8), (0 : UInt8), (0 : UInt8), (0 : UInt8), (0 : UInt8), (0 : UInt8), (0 : UInt8), (0 : UInt8), (0 : UInt8), (0 : UInt8), (0 : UInt8), (0 : UInt8), (0 : UInt8), (0 : UInt8), (0 : UInt8), (0 : UInt8), (0 : UInt8), (0 : UInt8), (0 : UInt8), (0 : UInt8), (0 : UInt8), (0 : UInt8), (0 : UInt8), (0 : UInt8), (0 : UInt8), (0 : UInt8), (0 : UInt8), (0 : UInt8)]) ((tyA 32 ty8).mono (h.m.leAll (i := 2) rfl) (show (tyA 32 ty8).rep S0 k7 ([(1 : UInt8), (0 : UInt8), (0 : UInt8), (0 : UInt8), (0 : UInt8), (0 : UInt8), (0 : UInt8), (0 : UInt8), (0 : UInt8), (0 : UInt8), (0 : UInt8), (0 : UInt8), (0 : UInt8), (0 : UInt8), (0 : UInt8), (0 : UInt8), (0 : UInt8), (0 : UInt8), (0 : UInt8), (0 : UInt8), (0 : UInt8), (0 : UInt8), (0 : UInt8), (0 : UInt8), (0 : UInt8), (0 : UInt8), (0 : UInt8), (0 : UInt8), (0 : UInt8), (0 : UInt8), (0 : UInt8), (0 : UInt8)]) from ⟨hq6, (show [(1 : UInt8), (0 : UInt8), (0 : UInt8), (0 : UInt8), (0 : UInt8), (0 : UInt8), (0 : UInt8), (0 : UInt8), (0 : UInt8), (0 : UInt8), (0 : UInt8), (0 : UInt8), (0 : UInt8), (0 : UInt8), (0 : UInt8), (0 : UInt8), (0 : UInt8), (0 : UInt8), (0 : UInt8), (0 : UInt8), (0 : UInt8), (0 : UInt8), (0 : UInt8), (0 : UInt8), (0 : UInt8), (0 : UInt8), (0 : UInt8), (0 : UInt8), (0 : UInt8), (0 : UInt8), (0 : UInt8), (0 : UInt8)].length = 32 from rfl)⟩)) 3 (show r64 3 from ⟨by decide, by decide⟩) A11 n9 (List.replicate n9 ((0 : UInt8) : UInt8)) (h.m.rowAll (i := 0) rfl (j := 2) rfl hq13) _ h15 _ h.startAll
      refine q_callX hX h rfl rfl rfl (by decide) Try.func13 rfl rfl rfl (fun a w v L1 S1 hR hb1 h => ?_)
      obtain ⟨A17, c18, cs19, rfl, rfl, hq20, hr21, _⟩ := hR
      have hq22 := hq20.fl (S' := S0) fl_8
      refine hK _ _ (fun _ _ => HS.ext hb1) ?_
      replace HS := HS.ext hb1
      clear hK
      refine d_takeP h (fun _ => HS) HN 4 rfl (by kernel_rfl) (by kernel_rfl) (by kernel_rfl) (by decide) rfl rfl (by decide) (fun w' => x_move h.k _ rfl rfl) (fun a h => ?_)
      refine d_takeP h (fun _ => HS) HN 5 rfl (by kernel_rfl) (by kernel_rfl) (by kernel_rfl) (by decide) rfl rfl (by decide) (fun w' => x_ext h.k rfl rfl rfl) (fun a h => ?_)
      refine d_takeP h (fun _ => HS) HN 6 rfl (by kernel_rfl) (by kernel_rfl) (by kernel_rfl) (by decide) rfl rfl (by decide) (fun w' => x_ext h.k rfl rfl rfl) (fun a h => ?_)
      refine d_takeP h (fun _ => HS) HN 7 rfl (by kernel_rfl) (by kernel_rfl) (by kernel_rfl) (by decide) rfl rfl (by decide) (fun w' => x_assign h.k _ rfl rfl) (fun a h => ?_)
      refine d_takeP h (fun _ => HS) HN 8 rfl (by kernel_rfl) (by kernel_rfl) (by kernel_rfl) (by decide) rfl rfl (by decide) (fun w' => x_assign h.k _ rfl rfl) (fun a h => ?_)
      refine d_done (by kernel_rfl) (HE _ _ ?_) _
      refine e_thenN ?_
      have h := h.pick [0, 3] (by decide) rfl
      exact ⟨A17, c18, cs19, hq22, h.has (by exact ⟨rfl, rfl, trivial⟩)⟩
    · refine q_make (T := ty8) (S := S0) h rfl rfl rfl (by decide) Try.underlying22 zb_uint8 rfl rfl (q := (0 : UInt8)) rfl rfl rfl h10 (fun a w A11 cs12 hq13 h => ?_)
      replace HS := h.m.pick [1] [.sn S0] (by decide) rfl
      refine hK _ _ ⟨fun _ _ => HS, ?_⟩
      clear hK
      refine d_alone 0 rfl (by kernel_rfl) (fun K hK => ?_)
      refine q_make (T := ty8) (S := S0) h rfl rfl rfl (by decide) Try.underlying22 zb_uint8 rfl rfl (q := (0 : UInt8)) rfl rfl rfl h2 (fun a w A3 cs4 hq5 h => ?_)
      replace HS := h.m.pick [2] [.sn S0] (by decide) rfl
      refine hK _ _ (fun _ _ => HS) ?_
      clear hK
      refine d_alone 3 rfl (by kernel_rfl) (fun K hK => ?_)
      have hX := cred_Seal_ok Fu (S0 := snapAll _) A3 n1 (List.replicate n1 ((0 : UInt8) : UInt8)) (h.m.rowAll (i := 0) rfl (j := 2) rfl hq5) k7 ([(1 : UInt8), (0 : UInt8), (0 : UInt8), (0 : UInt8), (0 : UInt8), (0 : UInt8), (0 : UInt8), (0 : UInt8), (0 : UInt8), (0 : UInt8), (0 : UInt8), (0 : UInt8), (0 : UInt8), (0 : UInt8), (0 : UInt8), (0 : UInt8), (0 : UInt8), (0 : UInt8), (0 : UInt8), (0 : UInt8), (0 : UInt8), (0 : UInt8), (0 : UInt8), (0 : UInt8), (0 : UInt8), (0 : UInt8), (0 : UInt8), (0 : UInt8), (0 : UInt8), (0 : UInt8), (0 : UInt8), (0 : UInt8)]) ((tyA 32 ty8).mono (h.m.leAll (i := 2) rfl) (show (tyA 32 ty8).rep S0 k7 ([(1 : UInt8), (0 : UInt8), (0 : UInt8), (0 : UInt8), (0 : UInt8), (0 : UInt8), (0 : UInt8), (0 : UInt8), (0 : UInt8), (0 : UInt8), (0 : UInt8), (0 : UInt8), (0 : UInt8), (0 : UInt8), (0 : UInt8), (0 : UInt8), (0 : UInt8), (0 : UInt8), (0 : UInt8), (0 : UInt8), (0 : UInt8), (0 : UInt8), (0 : UInt8), (0 : UInt8), (0 : UInt8), (0 : UInt8), (0 : UInt8), (0 : UInt8), (0 : UInt8), (0 : UInt8), (0 : UInt8), (0 : UInt8)]) from ⟨hq6, (show [(1 : UInt8), (0 : UInt8), (0 : UInt8), (0 : UInt8), (0 : UInt8), (0 : UInt8), (0 : UInt8), (0 : UInt8), (0 : UInt8), (0 : UInt8), (0 : UInt8), (0 : UInt8), (0 : UInt8), (0 : UInt8), (0 : UInt8), (0 : UInt8), (0 : UInt8), (0 : UInt8), (0 : UInt8), (0 : UInt8), (0 : UInt8), (0 : UInt8), (0 : UInt8), (0 : UInt8), (0 : UInt8), (0 : UInt8), (0 : UInt8), (0 : UInt8), (0 : UInt8), (0 : UInt8), (0 : UInt8), (0 : UInt8)].length = 32 from rfl)⟩)) 3 (show r64 3 from ⟨by decide, by decide⟩) A11 n9 (List.replicate n9 ((0 : UInt8) : UInt8)) (h.m.rowAll (i := 1) rfl (j := 2) rfl hq13) _ h15 _ h.startAll
      refine q_callX hX h rfl rfl rfl (by decide) Try.func13 rfl rfl rfl (fun a w v L1 S1 hR hb1 h => ?_)
      obtain ⟨A17, c18, cs19, rfl, rfl, hq20, hr21, _⟩ := hR
      have hq22 := hq20.fl (S' := S0) fl_8
      refine hK _ _ (fun _ _ => HS.ext hb1) ?_
      replace HS := HS.ext hb1
      clear hK
      refine d_takeP h (fun _ => HS) HN 4 rfl (by kernel_rfl) (by kernel_rfl) (by kernel_rfl) (by decide) rfl rfl (by decide) (fun w' => x_move h.k _ rfl rfl) (fun a h => ?_)
      refine d_takeP h (fun _ => HS) HN 5 rfl (by kernel_rfl) (by kernel_rfl) (by kernel_rfl) (by decide) rfl rfl (by decide) (fun w' => x_ext h.k rfl rfl rfl) (fun a h => ?_)
      refine d_takeP h (fun _ => HS) HN 6 rfl (by kernel_rfl) (by kernel_rfl) (by kernel_rfl) (by decide) rfl rfl (by decide) (fun w' => x_ext h.k rfl rfl rfl) (fun a h => ?_)
      refine d_takeP h (fun _ => HS) HN 7 rfl (by kernel_rfl) (by kernel_rfl) (by kernel_rfl) (by decide) rfl rfl (by decide) (fun w' => x_assign h.k _ rfl rfl) (fun a h => ?_)
      refine d_takeP h (fun _ => HS) HN 8 rfl (by kernel_rfl) (by kernel_rfl) (by kernel_rfl) (by decide) rfl rfl (by decide) (fun w' => x_assign h.k _ rfl rfl) (fun a h => ?_)
      refine d_done (by kernel_rfl) (HE _ _ ?_) _
      refine e_thenN ?_
      have h := h.pick [0, 3] (by decide) rfl
      exact ⟨A17, c18, cs19, hq22, h.has (by exact ⟨rfl, rfl, trivial⟩)⟩
  obtain ⟨A23, c24, cs25, hq26, h⟩ := h
  refine e_thenN ?_
  refine c_rs ?_ -- region 2
  refine s_move h rfl _ rfl rfl (by decide) rfl (fun a h => ?_)
  refine s_x h rfl rfl (by decide) (x_bin h.k rfl rfl rfl ib_eql) (fun a h => ?_)
  refine s_move h rfl _ rfl rfl (by decide) rfl (fun a h => ?_)
  refine q_grp h 4 (t := 12) 16 ((decide (x14.2 = 0)) && (decide ((x14.1.length : Int) = 48))) rfl (fun hB2 => ?_) (fun hB2 => ?_) (fun a w h => ?_)
  · refine g_yes h rfl rfl rfl rfl hB2 ?_
    refine s_move h rfl _ rfl rfl (by decide) rfl (fun a h => ?_)
    refine g_yes h rfl rfl rfl rfl hB2 ?_
    have hr29 : r64 (x14.1.length : Int) := len_r (h.m.rowLen (i := 0) rfl)
    refine s_x h rfl rfl (by decide) (x_len h.k rfl Try.underlying22 rfl) (fun a h => ?_)
    refine g_yes h rfl rfl rfl rfl hB2 ?_
    refine s_x h rfl rfl (by decide) (x_bin h.k rfl rfl rfl ib_eql) (fun a h => ?_)
    refine s_x h rfl rfl (by decide) (x_pick (u' := undef) h.k rfl rfl (fun _ => rfl) (fun hh => absurd (hB2.symm.trans hh) (by decide))) (fun a h => ?_)
    exact (h.mid 3 rfl).val (by first | rfl | (rw [hB2]; first | rfl | simp))
  · refine g_no h rfl rfl rfl rfl hB2 rfl (by decide) (fun a h => ?_)
    refine g_no h rfl rfl rfl rfl hB2 rfl (by decide) (fun a h => ?_)
    refine g_no h rfl rfl rfl rfl hB2 rfl (by decide) (fun a h => ?_)
    refine s_x h rfl rfl (by decide) (x_pick (u' := undef) h.k rfl rfl (fun hh => absurd (hB2.symm.trans hh) (by decide)) (fun _ => rfl)) (fun a h => ?_)
    exact (h.mid 3 rfl).val (by first | rfl | (rw [hB2]; first | rfl | simp))
  refine s_assign h rfl _ rfl rfl (by decide) rfl (fun a h => ?_)
  refine l_end ?_
  refine wp_ret ?_
  obtain rfl := Option.some.inj hf
  exact r_ret1 h rfl (rv_tmp h rfl) ⟨_, [], _, rfl, ⟨rfl, rfl, trivial⟩, rfl, (Up.refl _ _ _), (h.m.pick [1] _ (by decide) rfl)⟩
theorem gda_A32_uint8 : Try.prog.eqGuardType Try.prog.depth 23 = false := by kernel_rfl
def chatelainelaw22_CredChecks (Fu : Nat) (a0 : List UInt8) (a1 : Int) (a2 : List UInt8) : Option Bool :=
  (chatelainelaw22_awake Fu).bind fun x4 => if (!x4) = true then (some false) else (if 100 < (a0.length : Int) then (some true) else ((cred_Check Fu a0 a1).bind fun x7 => (cred_Right Fu a0).bind fun x17 => (chatelaineref22_Right Fu a0).bind fun x20 => if (!(x17 == x20)) = true then (some false) else ((chatelaineref22_Right Fu a0).bind fun x23 => if (!x23) = true then ((if ((decide (x7.2 = 30)) && (decide (x7.1 = (List.replicate 32 ((0 : UInt8) : UInt8))))) = true then (cred_Is Fu a0 a1 x7.1).bind fun x31 => some (!x31) else some false).bind fun z29 => some z29) else (if ((decide (a1 < 0)) || (decide (16 < a1))) = true then ((if ((decide (x7.2 = 2)) && (decide (x7.1 = (List.replicate 32 ((0 : UInt8) : UInt8))))) = true then (cred_Is Fu a0 a1 x7.1).bind fun x41 => some (!x41) else some false).bind fun z39 => some z39) else ((chatelaineref22_Derived Fu a0 ([99, 104, 101, 99, 107] : List UInt8) a1).bind fun x44 => (if x7.2 = 0 then (bnd 32 0 (32 : Int)).bind fun y55 => (chatelaineref01_Same Fu ((x7.1.take y55.2).drop y55.1) x44).bind fun x64 => some x64 else some false).bind fun z53 => (if z53 = true then (cred_Is Fu a0 a1 x7.1).bind fun x69 => some x69 else some false).bind fun z67 => (if z67 = true then (cred_Is Fu a0 a1 a2).bind fun x74 => (bnd 32 0 (32 : Int)).bind fun y77 => (chatelaineref01_Same Fu ((a2.take y77.2).drop y77.1) x44).bind fun x86 => some (x74 == x86) else some false).bind fun z72 => some z72)))))
set_option maxRecDepth 100000 in
set_option maxHeartbeats 2000000 in
theorem chatelainelaw22_CredChecks_ok (Fu : Nat) {S0 : Snap} (Aa0 : Option Addr) (ca0 : Nat) (a0 : List UInt8) (hsa0 : slS ty8 S0 Aa0 ca0 a0) (a1 : Int) (hra1 : r64 a1) (csa2 : List Value) (a2 : List UInt8) (hsa2 : (tyA 32 ty8).rep S0 csa2 a2) (r : Bool) (hf : chatelainelaw22_CredChecks Fu a0 a1 a2 = some r) (w0 : World) (hm : Mem w0 (ownL ([] ++ [.sn S0])) ([] ++ [.sn S0]) w0) :
    Calls Try.prog 3 #[.slice Aa0 a0.length ca0, .int .i64 a1, .agg csa2.toArray] w0 (Ret w0 S0 [] (fun v L1 S1 => v = .bool r ∧ L1 = [] ∧ True)) := by
  unfold chatelainelaw22_CredChecks at hf
  obtain ⟨hs1, hl2⟩ := hsa2
  refine c_enterM Try.func3 rfl 91 rfl (by simp) _ hm _ rfl (fun a h => ?_)
  refine c_rs ?_ -- region 0
  refine s_box h rfl rfl rfl (by decide) rfl (cs := csa2) (by rfl) (fun a w g3 h => ?_)
  refine s_assign h rfl _ rfl rfl (by decide) rfl (fun a h => ?_)
  refine l_end ?_
  refine wp_seq ?_
  refine c_rs ?_ -- region 1
  obtain ⟨x4, h5, hf⟩ := bsome hf
  have hX := chatelainelaw22_awake_ok Fu (S0 := snapAll _)  _ h5 _ h.startAll
  refine q_callX hX h rfl rfl rfl (by decide) Try.func6 rfl rfl rfl (fun a w v L1 S1 hR hb1 h => ?_)
  obtain ⟨rfl, rfl, _⟩ := hR
  refine s_x h rfl rfl (by decide) (x_not h.k rfl rfl) (fun a h => ?_)
  refine l_end ?_
  refine c_cond h rfl (fun hb => ?_) (fun hb => ?_)
  · rw [if_pos hb] at hf
    refine c_rs ?_ -- region 2
    refine s_assign h rfl _ rfl rfl (by decide) rfl (fun a h => ?_)
    refine l_end ?_
    refine wp_ret ?_
    refine e_thenR ?_
    rw [← Option.some.inj hf]
    exact r_ret1 h rfl (rv_tmp h rfl) ⟨_, [], _, rfl, ⟨rfl, rfl, trivial⟩, rfl, (Up.refl _ _ _), (h.m.pick [1] _ (by decide) rfl)⟩
  · rw [if_neg (by rw [hb]; decide)] at hf
    refine wp_skip ?_
    refine e_thenN ?_
    refine wp_seq ?_
    refine c_rs ?_ -- region 3
    refine s_move h rfl _ rfl rfl (by decide) rfl (fun a h => ?_)
    refine s_x h rfl rfl (by decide) (x_len h.k rfl Try.underlying22 rfl) (fun a h => ?_)
    refine s_x h rfl rfl (by decide) (x_bin h.k rfl rfl rfl ib_gtr) (fun a h => ?_)
    refine l_end ?_
    refine c_cond h rfl (fun hb => ?_) (fun hb => ?_)
    · rw [if_pos (of_decide_eq_true hb)] at hf
      refine c_rs ?_ -- region 4
      refine s_assign h rfl _ rfl rfl (by decide) rfl (fun a h => ?_)
      refine l_end ?_
      refine wp_ret ?_
      refine e_thenR ?_
      rw [← Option.some.inj hf]
      exact r_ret1 h rfl (rv_tmp h rfl) ⟨_, [], _, rfl, ⟨rfl, rfl, trivial⟩, rfl, (Up.refl _ _ _), (h.m.pick [1] _ (by decide) rfl)⟩
    · rw [if_neg (of_decide_eq_false hb)] at hf
      refine wp_skip ?_
      refine e_thenN ?_
      refine c_rs ?_ -- region 5
      refine s_move h rfl _ rfl rfl (by decide) rfl (fun a h => ?_)
      refine s_move h rfl _ rfl rfl (by decide) rfl (fun a h => ?_)
      obtain ⟨x7, h8, hf⟩ := bsome hf
      have hX := cred_Check_ok Fu (S0 := snapAll _) Aa0 ca0 a0 (hsa0.mono (h.m.leAll (i := 1) rfl)) a1 hra1 _ h8 _ h.startAll
      refine q_callX hX h rfl rfl rfl (by decide) Try.func7 rfl rfl rfl (fun a w v L1 S1 hR hb1 h => ?_)
      obtain ⟨k10, rfl, rfl, hv11, hr14, _⟩ := hR
      obtain ⟨hs12, hl13⟩ := hv11
      have hq15 := hs12.fl (S' := S0) fl_8
      refine s_move h rfl _ rfl rfl (by decide) rfl (fun a h => ?_)
      refine s_x h rfl rfl (by decide) (x_ext h.k rfl rfl rfl) (fun a h => ?_)
      refine s_x h rfl rfl (by decide) (x_ext h.k rfl rfl rfl) (fun a h => ?_)
      refine s_alloc h rfl rfl rfl (by decide) zi_A32_uint8 rfl (fun a w g16 h => ?_)
      refine s_stW h rfl rfl rfl ag_A32_uint8 rfl (es := k10) rfl ((hq15).len.trans (by rw [hl13]; rfl)) (hq15).one 0 rfl (by first | rfl | simp_all) (fun a w h => ?_)
      refine s_assign h rfl _ rfl rfl (by decide) rfl (fun a h => ?_)
      refine l_end ?_
      refine wp_seq ?_
      refine c_rs ?_ -- region 6
      refine s_move h rfl _ rfl rfl (by decide) rfl (fun a h => ?_)
      obtain ⟨x17, h18, hf⟩ := bsome hf
      have hX := cred_Right_ok Fu (S0 := snapAll _) Aa0 ca0 a0 (hsa0.mono (h.m.leAll (i := 2) rfl)) _ h18 _ h.startAll
      refine q_callX hX h rfl rfl rfl (by decide) Try.func8 rfl rfl rfl (fun a w v L1 S1 hR hb1 h => ?_)
      obtain ⟨rfl, rfl, _⟩ := hR
      refine s_move h rfl _ rfl rfl (by decide) rfl (fun a h => ?_)
      obtain ⟨x20, h21, hf⟩ := bsome hf
      have hX := chatelaineref22_Right_ok Fu (S0 := snapAll _) Aa0 ca0 a0 (hsa0.mono (h.m.leAll (i := 2) rfl)) _ h21 _ h.startAll
      refine q_callX hX h rfl rfl rfl (by decide) Try.func9 rfl rfl rfl (fun a w v L1 S1 hR hb1 h => ?_)
      obtain ⟨rfl, rfl, _⟩ := hR
      refine s_x h rfl rfl (by decide) (x_neqB h.k rfl Try.underlying4 rfl rfl) (fun a h => ?_)
      refine l_end ?_
      refine c_cond h rfl (fun hb => ?_) (fun hb => ?_)
      · rw [if_pos hb] at hf
        refine c_rs ?_ -- region 7
        refine s_assign h rfl _ rfl rfl (by decide) rfl (fun a h => ?_)
        refine l_end ?_
        refine wp_ret ?_
        refine e_thenR ?_
        rw [← Option.some.inj hf]
        exact r_ret1 h rfl (rv_tmp h rfl) ⟨_, [], _, rfl, ⟨rfl, rfl, trivial⟩, rfl, (Up.refl _ _ _), (h.m.pick [2] _ (by decide) rfl)⟩
      · rw [if_neg (by rw [hb]; decide)] at hf
        refine wp_skip ?_
        refine e_thenN ?_
        refine wp_seq ?_
        refine wp_block ?_
        refine c_rs ?_ -- region 8
        refine s_move h rfl _ rfl rfl (by decide) rfl (fun a h => ?_)
        obtain ⟨x23, h24, hf⟩ := bsome hf
        have hX := chatelaineref22_Right_ok Fu (S0 := snapAll _) Aa0 ca0 a0 (hsa0.mono (h.m.leAll (i := 2) rfl)) _ h24 _ h.startAll
        refine q_callX hX h rfl rfl rfl (by decide) Try.func9 rfl rfl rfl (fun a w v L1 S1 hR hb1 h => ?_)
        obtain ⟨rfl, rfl, _⟩ := hR
        refine s_x h rfl rfl (by decide) (x_not h.k rfl rfl) (fun a h => ?_)
        refine s_assign h rfl _ rfl rfl (by decide) rfl (fun a h => ?_)
        refine l_end ?_
        refine c_cond h rfl (fun hb => ?_) (fun hb => ?_)
        · rw [if_pos hb] at hf
          refine c_rs ?_ -- region 9
          refine s_move h rfl _ rfl rfl (by decide) rfl (fun a h => ?_)
          refine s_x h rfl rfl (by decide) (x_bin h.k rfl rfl rfl ib_eql) (fun a h => ?_)
          refine s_move h rfl _ rfl rfl (by decide) rfl (fun a h => ?_)
          refine q_grp h 4 (t := 32) 36 ((decide (x7.2 = 30)) && (decide (x7.1 = (List.replicate 32 ((0 : UInt8) : UInt8))))) rfl (fun hB2 => ?_) (fun hB2 => ?_) (fun a w h => ?_)
          · refine g_yes h rfl rfl rfl rfl hB2 ?_
            refine s_x h rfl rfl (by decide) (x_ldR h.k rfl ag_A32_uint8 rfl k10 ((hq15).len.trans (by rw [hl13]; rfl)) (h.m.range0 (i := 0) rfl)) (fun a h => ?_)
            refine g_yes h rfl rfl rfl rfl hB2 ?_
            refine s_x h rfl rfl (by decide) (x_build h.k rfl [] rfl (List.replicate 32 (.int .u8 0 : Value)) (by kernel_rfl)) (fun a h => ?_)
            refine g_yes h rfl rfl rfl rfl hB2 ?_
            refine s_x h rfl rfl (by decide) (x_eqlA8 (X := k10) (Y := (List.replicate 32 (.int .u8 0 : Value))) h.k rfl Try.underlying23 Try.underlying5 sz_uint8 gda_A32_uint8 rfl rfl hq15 (show reps ty8 S0 (List.replicate 32 (.int .u8 0 : Value)) (List.replicate 32 ((0 : UInt8) : UInt8)) from repsRep1 (x := ((0 : UInt8) : UInt8)) rfl) hl13 (show (List.replicate 32 ((0 : UInt8) : UInt8)).length = 32 from List.length_replicate)) (fun a h => ?_)
            refine s_x h rfl rfl (by decide) (x_pick (u' := undef) h.k rfl rfl (fun _ => rfl) (fun hh => absurd (hB2.symm.trans hh) (by decide))) (fun a h => ?_)
            exact (h.mid 3 rfl).val (by first | rfl | (rw [hB2]; first | rfl | simp))
          · refine g_no h rfl rfl rfl rfl hB2 rfl (by decide) (fun a h => ?_)
            refine g_no h rfl rfl rfl rfl hB2 rfl (by decide) (fun a h => ?_)
            refine g_no h rfl rfl rfl rfl hB2 rfl (by decide) (fun a h => ?_)
            refine s_x h rfl rfl (by decide) (x_pick (u' := undef) h.k rfl rfl (fun hh => absurd (hB2.symm.trans hh) (by decide)) (fun _ => rfl)) (fun a h => ?_)
            exact (h.mid 3 rfl).val (by first | rfl | (rw [hB2]; first | rfl | simp))
          refine s_move h rfl _ rfl rfl (by decide) rfl (fun a h => ?_)
          obtain ⟨z29, hz28, hf⟩ := bsome hf
          refine q_grp h 6 (t := 37) 43 z29 rfl (fun hB7 => ?_) (fun hB7 => ?_) (fun a w h => ?_)
          · rw [if_pos hB7] at hz28
            refine g_yes h rfl rfl rfl rfl hB7 ?_
            refine s_move h rfl _ rfl rfl (by decide) rfl (fun a h => ?_)
            refine g_yes h rfl rfl rfl rfl hB7 ?_
            refine s_move h rfl _ rfl rfl (by decide) rfl (fun a h => ?_)
            refine g_yes h rfl rfl rfl rfl hB7 ?_
            refine s_x h rfl rfl (by decide) (x_ldR h.k rfl ag_A32_uint8 rfl k10 ((hq15).len.trans (by rw [hl13]; rfl)) (h.m.range0 (i := 0) rfl)) (fun a h => ?_)
            refine g_yes h rfl rfl rfl rfl hB7 ?_
            obtain ⟨x31, h32, hz28⟩ := bsome hz28
            have hX := cred_Is_ok Fu (S0 := snapAll _) Aa0 ca0 a0 (hsa0.mono (h.m.leAll (i := 2) rfl)) a1 hra1 k10 x7.1 ((tyA 32 ty8).mono (h.m.leAll (i := 2) rfl) (show (tyA 32 ty8).rep S0 k10 x7.1 from ⟨hq15, hl13⟩)) _ h32 _ h.startAll
            refine q_callX hX h rfl rfl rfl (by decide) Try.func10 rfl rfl rfl (fun a w v L1 S1 hR hb1 h => ?_)
            obtain ⟨rfl, rfl, _⟩ := hR
            refine g_yes h rfl rfl rfl rfl hB7 ?_
            refine s_x h rfl rfl (by decide) (x_not h.k rfl rfl) (fun a h => ?_)
            refine s_x h rfl rfl (by decide) (x_pick (u' := undef) h.k rfl rfl (fun _ => rfl) (fun hh => absurd (hB7.symm.trans hh) (by decide))) (fun a h => ?_)
            exact (h.mid 5 rfl).val (by rw [Option.some.inj hz28])
          · refine g_no h rfl rfl rfl rfl hB7 rfl (by decide) (fun a h => ?_)
            refine g_no h rfl rfl rfl rfl hB7 rfl (by decide) (fun a h => ?_)
            refine g_no h rfl rfl rfl rfl hB7 rfl (by decide) (fun a h => ?_)
            refine g_no h rfl rfl rfl rfl hB7 rfl (by decide) (fun a h => ?_)
            refine g_no h rfl rfl rfl rfl hB7 rfl (by decide) (fun a h => ?_)
            rw [if_neg (by rw [hB7]; decide)] at hz28
            refine s_x h rfl rfl (by decide) (x_pick (u' := undef) h.k rfl rfl (fun hh => absurd (hB7.symm.trans hh) (by decide)) (fun _ => rfl)) (fun a h => ?_)
            exact (h.mid 5 rfl).val (by rw [Option.some.inj hz28])
          refine s_assign h rfl _ rfl rfl (by decide) rfl (fun a h => ?_)
          refine l_end ?_
          refine wp_ret ?_
          refine e_blkR ?_
          refine e_thenR ?_
          rw [← Option.some.inj hf]
          exact r_ret1 h rfl (rv_tmp h rfl) ⟨_, [], _, rfl, ⟨rfl, rfl, trivial⟩, rfl, (Up.refl _ _ _), (h.m.pick [2] _ (by decide) rfl)⟩
        · rw [if_neg (by rw [hb]; decide)] at hf
          refine c_rs ?_ -- region 10
          refine s_move h rfl _ rfl rfl (by decide) rfl (fun a h => ?_)
          refine s_x h rfl rfl (by decide) (x_bin h.k rfl rfl rfl ib_lss) (fun a h => ?_)
          refine s_move h rfl _ rfl rfl (by decide) rfl (fun a h => ?_)
          refine q_grp h 3 (t := 47) 50 ((decide (a1 < 0)) || (decide (16 < a1))) rfl (fun hB2 => ?_) (fun hB2 => ?_) (fun a w h => ?_)
          · refine g_no h rfl rfl rfl rfl hB2 rfl (by decide) (fun a h => ?_)
            refine g_no h rfl rfl rfl rfl hB2 rfl (by decide) (fun a h => ?_)
            refine s_x h rfl rfl (by decide) (x_pick (u' := undef) h.k rfl rfl (fun _ => rfl) (fun hh => absurd (hB2.symm.trans hh) (by decide))) (fun a h => ?_)
            exact (h.mid 2 rfl).val (by first | rfl | (rw [hB2]; first | rfl | simp))
          · refine g_yes h rfl rfl rfl rfl hB2 ?_
            refine s_move h rfl _ rfl rfl (by decide) rfl (fun a h => ?_)
            refine g_yes h rfl rfl rfl rfl hB2 ?_
            refine s_x h rfl rfl (by decide) (x_bin h.k rfl rfl rfl ib_gtr) (fun a h => ?_)
            refine s_x h rfl rfl (by decide) (x_pick (u' := undef) h.k rfl rfl (fun hh => absurd (hB2.symm.trans hh) (by decide)) (fun _ => rfl)) (fun a h => ?_)
            exact (h.mid 2 rfl).val (by first | rfl | (rw [hB2]; first | rfl | simp))
          refine s_assign h rfl _ rfl rfl (by decide) rfl (fun a h => ?_)
          refine l_end ?_
          refine c_cond h rfl (fun hb => ?_) (fun hb => ?_)
          · rw [if_pos hb] at hf
            refine c_rs ?_ -- region 11
            refine s_move h rfl _ rfl rfl (by decide) rfl (fun a h => ?_)
            refine s_x h rfl rfl (by decide) (x_bin h.k rfl rfl rfl ib_eql) (fun a h => ?_)
            refine s_move h rfl _ rfl rfl (by decide) rfl (fun a h => ?_)
            refine q_grp h 4 (t := 53) 57 ((decide (x7.2 = 2)) && (decide (x7.1 = (List.replicate 32 ((0 : UInt8) : UInt8))))) rfl (fun hB2 => ?_) (fun hB2 => ?_) (fun a w h => ?_)
            · refine g_yes h rfl rfl rfl rfl hB2 ?_
              refine s_x h rfl rfl (by decide) (x_ldR h.k rfl ag_A32_uint8 rfl k10 ((hq15).len.trans (by rw [hl13]; rfl)) (h.m.range0 (i := 0) rfl)) (fun a h => ?_)
              refine g_yes h rfl rfl rfl rfl hB2 ?_
              refine s_x h rfl rfl (by decide) (x_build h.k rfl [] rfl (List.replicate 32 (.int .u8 0 : Value)) (by kernel_rfl)) (fun a h => ?_)
              refine g_yes h rfl rfl rfl rfl hB2 ?_
              refine s_x h rfl rfl (by decide) (x_eqlA8 (X := k10) (Y := (List.replicate 32 (.int .u8 0 : Value))) h.k rfl Try.underlying23 Try.underlying5 sz_uint8 gda_A32_uint8 rfl rfl hq15 (show reps ty8 S0 (List.replicate 32 (.int .u8 0 : Value)) (List.replicate 32 ((0 : UInt8) : UInt8)) from repsRep1 (x := ((0 : UInt8) : UInt8)) rfl) hl13 (show (List.replicate 32 ((0 : UInt8) : UInt8)).length = 32 from List.length_replicate)) (fun a h => ?_)
              refine s_x h rfl rfl (by decide) (x_pick (u' := undef) h.k rfl rfl (fun _ => rfl) (fun hh => absurd (hB2.symm.trans hh) (by decide))) (fun a h => ?_)
              exact (h.mid 3 rfl).val (by first | rfl | (rw [hB2]; first | rfl | simp))
            · refine g_no h rfl rfl rfl rfl hB2 rfl (by decide) (fun a h => ?_)
              refine g_no h rfl rfl rfl rfl hB2 rfl (by decide) (fun a h => ?_)
              refine g_no h rfl rfl rfl rfl hB2 rfl (by decide) (fun a h => ?_)
              refine s_x h rfl rfl (by decide) (x_pick (u' := undef) h.k rfl rfl (fun hh => absurd (hB2.symm.trans hh) (by decide)) (fun _ => rfl)) (fun a h => ?_)
              exact (h.mid 3 rfl).val (by first | rfl | (rw [hB2]; first | rfl | simp))
            refine s_move h rfl _ rfl rfl (by decide) rfl (fun a h => ?_)
            obtain ⟨z39, hz38, hf⟩ := bsome hf
            refine q_grp h 6 (t := 58) 64 z39 rfl (fun hB7 => ?_) (fun hB7 => ?_) (fun a w h => ?_)
            · rw [if_pos hB7] at hz38
              refine g_yes h rfl rfl rfl rfl hB7 ?_
              refine s_move h rfl _ rfl rfl (by decide) rfl (fun a h => ?_)
              refine g_yes h rfl rfl rfl rfl hB7 ?_
              refine s_move h rfl _ rfl rfl (by decide) rfl (fun a h => ?_)
              refine g_yes h rfl rfl rfl rfl hB7 ?_
              refine s_x h rfl rfl (by decide) (x_ldR h.k rfl ag_A32_uint8 rfl k10 ((hq15).len.trans (by rw [hl13]; rfl)) (h.m.range0 (i := 0) rfl)) (fun a h => ?_)
              refine g_yes h rfl rfl rfl rfl hB7 ?_
              obtain ⟨x41, h42, hz38⟩ := bsome hz38
              have hX := cred_Is_ok Fu (S0 := snapAll _) Aa0 ca0 a0 (hsa0.mono (h.m.leAll (i := 2) rfl)) a1 hra1 k10 x7.1 ((tyA 32 ty8).mono (h.m.leAll (i := 2) rfl) (show (tyA 32 ty8).rep S0 k10 x7.1 from ⟨hq15, hl13⟩)) _ h42 _ h.startAll
              refine q_callX hX h rfl rfl rfl (by decide) Try.func10 rfl rfl rfl (fun a w v L1 S1 hR hb1 h => ?_)
              obtain ⟨rfl, rfl, _⟩ := hR
              refine g_yes h rfl rfl rfl rfl hB7 ?_
              refine s_x h rfl rfl (by decide) (x_not h.k rfl rfl) (fun a h => ?_)
              refine s_x h rfl rfl (by decide) (x_pick (u' := undef) h.k rfl rfl (fun _ => rfl) (fun hh => absurd (hB7.symm.trans hh) (by decide))) (fun a h => ?_)
              exact (h.mid 5 rfl).val (by rw [Option.some.inj hz38])
            · refine g_no h rfl rfl rfl rfl hB7 rfl (by decide) (fun a h => ?_)
              refine g_no h rfl rfl rfl rfl hB7 rfl (by decide) (fun a h => ?_)
              refine g_no h rfl rfl rfl rfl hB7 rfl (by decide) (fun a h => ?_)
              refine g_no h rfl rfl rfl rfl hB7 rfl (by decide) (fun a h => ?_)
              refine g_no h rfl rfl rfl rfl hB7 rfl (by decide) (fun a h => ?_)
              rw [if_neg (by rw [hB7]; decide)] at hz38
              refine s_x h rfl rfl (by decide) (x_pick (u' := undef) h.k rfl rfl (fun hh => absurd (hB7.symm.trans hh) (by decide)) (fun _ => rfl)) (fun a h => ?_)
              exact (h.mid 5 rfl).val (by rw [Option.some.inj hz38])
            refine s_assign h rfl _ rfl rfl (by decide) rfl (fun a h => ?_)
            refine l_end ?_
            refine wp_ret ?_
            refine e_blkR ?_
            refine e_thenR ?_
            rw [← Option.some.inj hf]
            exact r_ret1 h rfl (rv_tmp h rfl) ⟨_, [], _, rfl, ⟨rfl, rfl, trivial⟩, rfl, (Up.refl _ _ _), (h.m.pick [2] _ (by decide) rfl)⟩
          · rw [if_neg (by rw [hb]; decide)] at hf
            refine wp_skip ?_
            refine e_blkN ?_
            refine e_thenN ?_
            refine c_rs ?_ -- region 12
            refine s_move h rfl _ rfl rfl (by decide) rfl (fun a h => ?_)
            refine s_move h rfl _ rfl rfl (by decide) rfl (fun a h => ?_)
            obtain ⟨x44, h45, hf⟩ := bsome hf
            have h := h.pick [2, 0, 1] (by decide) rfl
            have hX := chatelaineref22_Derived_ok Fu (S0 := S0) Aa0 ca0 a0 hsa0 ([99, 104, 101, 99, 107] : List UInt8) (by decide) a1 hra1 _ h45 _ (h.sub (Ls := []))
            refine q_callY (Ls := []) hX h (Up.refl _ _ _) rfl rfl rfl (by decide) Try.func11 rfl rfl rfl (fun a w v L1 S47 hR le49 up48 h => ?_)
            obtain ⟨A50, c51, rfl, rfl, hs52, _⟩ := hR
            refine s_assign h rfl _ rfl rfl (by decide) rfl (fun a h => ?_)
            refine l_end ?_
            refine wp_seq ?_
            -- region 13 draws
            obtain ⟨z53, hz54, hf⟩ := bsome hf
            obtain ⟨z67, hz68, hf⟩ := bsome hf
            obtain ⟨z72, hz73, hf⟩ := bsome hf
            refine c_fin (fun a w => St 91 w0 (ownL ([] ++ [.sn S0])) [(6, .bool z72)] [.sn S47] a w) ?_ (fun a w h => ?_)
            · refine d_start h (Mem _ _ _) 24 24 rfl (by kernel_rfl) (fun _ _ _ _ _ h => h) (fun _ h => h) (fun Q a w HE HN h HS => ?_)
              refine d_takeP h (fun _ => HS) HN 0 rfl (by kernel_rfl) (by kernel_rfl) (by kernel_rfl) (by decide) rfl rfl (by decide) (fun w' => x_move h.k _ rfl rfl) (fun a h => ?_)
              refine d_takeP h (fun _ => HS) HN 1 rfl (by kernel_rfl) (by kernel_rfl) (by kernel_rfl) (by decide) rfl rfl (by decide) (fun w' => x_bin h.k rfl rfl rfl ib_eql) (fun a h => ?_)
              refine d_takeP h (fun _ => HS) HN 2 rfl (by kernel_rfl) (by kernel_rfl) (by kernel_rfl) (by decide) rfl rfl (by decide) (fun w' => x_move h.k _ rfl rfl) (fun a h => ?_)
              refine d_split (t := 70) h rfl (fun hB2 => ?_) (fun hB2 => ?_)
              · rw [if_pos (of_decide_eq_true hB2)] at hz54
                obtain ⟨y55, h56, hz54⟩ := bsome hz54
                obtain ⟨x64, h65, hz54⟩ := bsome hz54
                obtain ⟨hi57, hi58, hm59, hm60⟩ := bnd_some h56
                obtain ⟨n61, hn62⟩ : ∃ n, y55.2 - y55.1 = n := ⟨_, rfl⟩
                refine d_takeP h (fun _ => HS) HN 3 rfl (by kernel_rfl) (by kernel_rfl) (by kernel_rfl) (by decide) (by rw [g_want h rfl rfl rfl rfl hB2]; rfl) rfl (by decide) (fun w' => x_viewB h.k rfl Try.underlying23 sz_uint8 rfl (bd_none (by omega)) (bd_none (by omega)) hm59 hm60 hn62) (fun a h => ?_)
                refine d_takeP h (fun _ => HS) HN 4 rfl (by kernel_rfl) (by kernel_rfl) (by kernel_rfl) (by decide) (by rw [g_want h rfl rfl rfl rfl hB2]; rfl) rfl (by decide) (fun w' => x_move h.k _ rfl rfl) (fun a h => ?_)
                refine d_alone 5 rfl (by kernel_rfl) (fun K hK => ?_)
                refine g_yes (j := 2) (t := 70) h rfl rfl rfl rfl hB2 ?_
                obtain rfl : n61 = ((x7.1.take y55.2).drop y55.1).length := cut_len (by have := hm60; have := hl13; omega) hn62
                have hX := chatelaineref01_Same_ok Fu (S0 := snapAll _) (vA g16 32 y55.1) (32 - y55.1) ((x7.1.take y55.2).drop y55.1) (slS_vA (T := ty8) (h.m.boxAll (i := 1) rfl) (((hq15.mono le49)).mono (h.m.leAll (i := 0) rfl)) rfl hl13 (by decide) hm59 hm60) A50 c51 x44 (hs52.mono (h.m.leAll (i := 0) rfl)) _ h65 _ h.startAll
                refine q_callX hX h rfl rfl rfl (by decide) Try.func12 rfl rfl rfl (fun a w v L1 S1 hR hb1 h => ?_)
                obtain ⟨rfl, rfl, _⟩ := hR
                refine hK _ _ (fun _ _ => HS.ext hb1) ?_
                replace HS := HS.ext hb1
                clear hK
                refine d_takeP h (fun _ => HS) HN 6 rfl (by kernel_rfl) (by kernel_rfl) (by kernel_rfl) (by decide) rfl rfl (by decide) (fun w' => x_pick (v := .bool z53) (u' := undef) h.k rfl rfl (fun _ => by rw [← Option.some.inj hz54]; rfl) (fun hh => absurd (hB2.symm.trans hh) (by decide))) (fun a h => ?_)
                refine d_takeP h (fun _ => HS) HN 7 rfl (by kernel_rfl) (by kernel_rfl) (by kernel_rfl) (by decide) rfl rfl (by decide) (fun w' => x_move h.k _ rfl rfl) (fun a h => ?_)
                refine d_split (t := 75) h rfl (fun hB7 => ?_) (fun hB7 => ?_)
                · rw [if_pos hB7] at hz68
                  obtain ⟨x69, h70, hz68⟩ := bsome hz68
                  refine d_takeP h (fun _ => HS) HN 8 rfl (by kernel_rfl) (by kernel_rfl) (by kernel_rfl) (by decide) (by rw [g_want h rfl rfl rfl rfl hB7]; rfl) rfl (by decide) (fun w' => x_move h.k _ rfl rfl) (fun a h => ?_)
                  refine d_takeP h (fun _ => HS) HN 9 rfl (by kernel_rfl) (by kernel_rfl) (by kernel_rfl) (by decide) (by rw [g_want h rfl rfl rfl rfl hB7]; rfl) rfl (by decide) (fun w' => x_move h.k _ rfl rfl) (fun a h => ?_)
                  refine d_takeY h HS HN 10 rfl (by kernel_rfl) (by kernel_rfl) (by kernel_rfl) (by kernel_rfl) (by kernel_rfl) (by rw [g_want h rfl rfl rfl rfl hB7]; rfl) rfl (by decide) (fun w' hw => x_ldR h.k rfl ag_A32_uint8 rfl k10 (((hq15.mono le49)).len.trans (by rw [hl13]; rfl)) (hw.range0 (i := 1) rfl)) (fun a h => ?_)
                  refine d_alone 11 rfl (by kernel_rfl) (fun K hK => ?_)
                  refine g_yes (j := 7) (t := 75) h rfl rfl rfl rfl hB7 ?_
                  have hX := cred_Is_ok Fu (S0 := snapAll _) Aa0 ca0 a0 ((hsa0.mono le49).mono (h.m.leAll (i := 0) rfl)) a1 hra1 k10 x7.1 ((tyA 32 ty8).mono (h.m.leAll (i := 0) rfl) (show (tyA 32 ty8).rep S47 k10 x7.1 from ⟨(hq15.mono le49), hl13⟩)) _ h70 _ h.startAll
                  refine q_callX hX h rfl rfl rfl (by decide) Try.func10 rfl rfl rfl (fun a w v L1 S1 hR hb1 h => ?_)
                  obtain ⟨rfl, rfl, _⟩ := hR
                  refine hK _ _ (fun _ _ => HS.ext hb1) ?_
                  replace HS := HS.ext hb1
                  clear hK
                  refine d_takeP h (fun _ => HS) HN 12 rfl (by kernel_rfl) (by kernel_rfl) (by kernel_rfl) (by decide) rfl rfl (by decide) (fun w' => x_pick (v := .bool z67) (u' := undef) h.k rfl rfl (fun _ => by rw [← Option.some.inj hz68]; rfl) (fun hh => absurd (hB7.symm.trans hh) (by decide))) (fun a h => ?_)
                  refine d_takeP h (fun _ => HS) HN 13 rfl (by kernel_rfl) (by kernel_rfl) (by kernel_rfl) (by decide) rfl rfl (by decide) (fun w' => x_move h.k _ rfl rfl) (fun a h => ?_)
                  refine d_split (t := 81) h rfl (fun hB13 => ?_) (fun hB13 => ?_)
                  · rw [if_pos hB13] at hz73
                    obtain ⟨x74, h75, hz73⟩ := bsome hz73
                    obtain ⟨y77, h78, hz73⟩ := bsome hz73
                    obtain ⟨x86, h87, hz73⟩ := bsome hz73
                    refine d_takeP h (fun _ => HS) HN 14 rfl (by kernel_rfl) (by kernel_rfl) (by kernel_rfl) (by decide) (by rw [g_want h rfl rfl rfl rfl hB13]; rfl) rfl (by decide) (fun w' => x_move h.k _ rfl rfl) (fun a h => ?_)
                    refine d_takeP h (fun _ => HS) HN 15 rfl (by kernel_rfl) (by kernel_rfl) (by kernel_rfl) (by decide) (by rw [g_want h rfl rfl rfl rfl hB13]; rfl) rfl (by decide) (fun w' => x_move h.k _ rfl rfl) (fun a h => ?_)
                    refine d_takeY h HS HN 16 rfl (by kernel_rfl) (by kernel_rfl) (by kernel_rfl) (by kernel_rfl) (by kernel_rfl) (by rw [g_want h rfl rfl rfl rfl hB13]; rfl) rfl (by decide) (fun w' hw => x_ldR h.k rfl ag_A32_uint8 rfl csa2 (((hs1.mono le49)).len.trans (by rw [hl2]; rfl)) (hw.range0 (i := 2) rfl)) (fun a h => ?_)
                    obtain ⟨hi79, hi80, hm81, hm82⟩ := bnd_some h78
                    obtain ⟨n83, hn84⟩ : ∃ n, y77.2 - y77.1 = n := ⟨_, rfl⟩
                    refine d_takeP h (fun _ => HS) HN 18 rfl (by kernel_rfl) (by kernel_rfl) (by kernel_rfl) (by decide) (by rw [g_want h rfl rfl rfl rfl hB13]; rfl) rfl (by decide) (fun w' => x_viewB h.k rfl Try.underlying23 sz_uint8 rfl (bd_none (by omega)) (bd_none (by omega)) hm81 hm82 hn84) (fun a h => ?_)
                    refine d_takeP h (fun _ => HS) HN 19 rfl (by kernel_rfl) (by kernel_rfl) (by kernel_rfl) (by decide) (by rw [g_want h rfl rfl rfl rfl hB13]; rfl) rfl (by decide) (fun w' => x_move h.k _ rfl rfl) (fun a h => ?_)
                    refine d_alone 17 rfl (by kernel_rfl) (fun K hK => ?_)
                    refine g_yes (j := 13) (t := 81) h rfl rfl rfl rfl hB13 ?_
                    have hX := cred_Is_ok Fu (S0 := snapAll _) Aa0 ca0 a0 ((hsa0.mono le49).mono (h.m.leAll (i := 0) rfl)) a1 hra1 csa2 a2 ((tyA 32 ty8).mono (h.m.leAll (i := 0) rfl) (show (tyA 32 ty8).rep S47 csa2 a2 from ⟨(hs1.mono le49), hl2⟩)) _ h75 _ h.startAll
                    refine q_callX hX h rfl rfl rfl (by decide) Try.func10 rfl rfl rfl (fun a w v L1 S1 hR hb1 h => ?_)
                    obtain ⟨rfl, rfl, _⟩ := hR
                    refine hK _ _ (fun _ _ => HS.ext hb1) ?_
                    replace HS := HS.ext hb1
                    clear hK
                    refine d_alone 20 rfl (by kernel_rfl) (fun K hK => ?_)
                    refine g_yes (j := 13) (t := 81) h rfl rfl rfl rfl hB13 ?_
                    obtain rfl : n83 = ((a2.take y77.2).drop y77.1).length := cut_len (by have := hm82; have := hl2; omega) hn84
                    have hX := chatelaineref01_Same_ok Fu (S0 := snapAll _) (vA g3 32 y77.1) (32 - y77.1) ((a2.take y77.2).drop y77.1) (slS_vA (T := ty8) (h.m.boxAll (i := 2) rfl) (((hs1.mono le49)).mono (h.m.leAll (i := 0) rfl)) rfl hl2 (by decide) hm81 hm82) A50 c51 x44 (hs52.mono (h.m.leAll (i := 0) rfl)) _ h87 _ h.startAll
                    refine q_callX hX h rfl rfl rfl (by decide) Try.func12 rfl rfl rfl (fun a w v L1 S1 hR hb1 h => ?_)
                    obtain ⟨rfl, rfl, _⟩ := hR
                    refine hK _ _ (fun _ _ => HS.ext hb1) ?_
                    replace HS := HS.ext hb1
                    clear hK
                    refine d_takeP h (fun _ => HS) HN 21 rfl (by kernel_rfl) (by kernel_rfl) (by kernel_rfl) (by decide) (by rw [g_want h rfl rfl rfl rfl hB13]; rfl) rfl (by decide) (fun w' => x_eqlB h.k rfl Try.underlying4 rfl rfl) (fun a h => ?_)
                    refine d_takeP h (fun _ => HS) HN 22 rfl (by kernel_rfl) (by kernel_rfl) (by kernel_rfl) (by decide) rfl rfl (by decide) (fun w' => x_pick (v := .bool z72) (u' := undef) h.k rfl rfl (fun _ => by rw [← Option.some.inj hz73]; rfl) (fun hh => absurd (hB13.symm.trans hh) (by decide))) (fun a h => ?_)
                    refine d_takeP h (fun _ => HS) HN 23 rfl (by kernel_rfl) (by kernel_rfl) (by kernel_rfl) (by decide) rfl rfl (by decide) (fun w' => x_assign h.k _ rfl rfl) (fun a h => ?_)
                    refine d_done (by kernel_rfl) (HE _ _ ?_) _
                    refine e_thenN ?_
                    have h := h.pick [0] (by decide) rfl
                    exact h.has (by exact ⟨rfl, trivial⟩)
                  · rw [if_neg (by rw [hB13]; decide)] at hz73
                    refine d_takeNP h (fun _ => HS) HN 14 rfl (by kernel_rfl) (by kernel_rfl) (by kernel_rfl) (by decide) (by rw [g_want h rfl rfl rfl rfl hB13]; rfl) rfl (by decide) (fun a h => ?_)
                    refine d_takeNP h (fun _ => HS) HN 15 rfl (by kernel_rfl) (by kernel_rfl) (by kernel_rfl) (by decide) (by rw [g_want h rfl rfl rfl rfl hB13]; rfl) rfl (by decide) (fun a h => ?_)
                    refine d_takeNP h (fun _ => HS) HN 16 rfl (by kernel_rfl) (by kernel_rfl) (by kernel_rfl) (by decide) (by rw [g_want h rfl rfl rfl rfl hB13]; rfl) rfl (by decide) (fun a h => ?_)
                    refine d_takeNP h (fun _ => HS) HN 17 rfl (by kernel_rfl) (by kernel_rfl) (by kernel_rfl) (by decide) (by rw [g_want h rfl rfl rfl rfl hB13]; rfl) rfl (by decide) (fun a h => ?_)
                    refine d_takeNP h (fun _ => HS) HN 18 rfl (by kernel_rfl) (by kernel_rfl) (by kernel_rfl) (by decide) (by rw [g_want h rfl rfl rfl rfl hB13]; rfl) rfl (by decide) (fun a h => ?_)
                    refine d_takeNP h (fun _ => HS) HN 19 rfl (by kernel_rfl) (by kernel_rfl) (by kernel_rfl) (by decide) (by rw [g_want h rfl rfl rfl rfl hB13]; rfl) rfl (by decide) (fun a h => ?_)
                    refine d_takeNP h (fun _ => HS) HN 20 rfl (by kernel_rfl) (by kernel_rfl) (by kernel_rfl) (by decide) (by rw [g_want h rfl rfl rfl rfl hB13]; rfl) rfl (by decide) (fun a h => ?_)
                    refine d_takeNP h (fun _ => HS) HN 21 rfl (by kernel_rfl) (by kernel_rfl) (by kernel_rfl) (by decide) (by rw [g_want h rfl rfl rfl rfl hB13]; rfl) rfl (by decide) (fun a h => ?_)
                    refine d_takeP h (fun _ => HS) HN 22 rfl (by kernel_rfl) (by kernel_rfl) (by kernel_rfl) (by decide) rfl rfl (by decide) (fun w' => x_pick (v := .bool z72) (u' := undef) h.k rfl rfl (fun hh => absurd (hB13.symm.trans hh) (by decide)) (fun _ => by rw [← Option.some.inj hz73]; rfl)) (fun a h => ?_)
                    refine d_takeP h (fun _ => HS) HN 23 rfl (by kernel_rfl) (by kernel_rfl) (by kernel_rfl) (by decide) rfl rfl (by decide) (fun w' => x_assign h.k _ rfl rfl) (fun a h => ?_)
                    refine d_done (by kernel_rfl) (HE _ _ ?_) _
                    refine e_thenN ?_
                    have h := h.pick [0] (by decide) rfl
                    exact h.has (by exact ⟨rfl, trivial⟩)
                · rw [if_neg (by rw [hB7]; decide)] at hz68
                  refine d_takeNP h (fun _ => HS) HN 8 rfl (by kernel_rfl) (by kernel_rfl) (by kernel_rfl) (by decide) (by rw [g_want h rfl rfl rfl rfl hB7]; rfl) rfl (by decide) (fun a h => ?_)
                  refine d_takeNP h (fun _ => HS) HN 9 rfl (by kernel_rfl) (by kernel_rfl) (by kernel_rfl) (by decide) (by rw [g_want h rfl rfl rfl rfl hB7]; rfl) rfl (by decide) (fun a h => ?_)
                  refine d_takeNP h (fun _ => HS) HN 10 rfl (by kernel_rfl) (by kernel_rfl) (by kernel_rfl) (by decide) (by rw [g_want h rfl rfl rfl rfl hB7]; rfl) rfl (by decide) (fun a h => ?_)
                  refine d_takeNP h (fun _ => HS) HN 11 rfl (by kernel_rfl) (by kernel_rfl) (by kernel_rfl) (by decide) (by rw [g_want h rfl rfl rfl rfl hB7]; rfl) rfl (by decide) (fun a h => ?_)
                  refine d_takeP h (fun _ => HS) HN 12 rfl (by kernel_rfl) (by kernel_rfl) (by kernel_rfl) (by decide) rfl rfl (by decide) (fun w' => x_pick (v := .bool z67) (u' := undef) h.k rfl rfl (fun hh => absurd (hB7.symm.trans hh) (by decide)) (fun _ => by rw [← Option.some.inj hz68]; rfl)) (fun a h => ?_)
                  refine d_takeP h (fun _ => HS) HN 13 rfl (by kernel_rfl) (by kernel_rfl) (by kernel_rfl) (by decide) rfl rfl (by decide) (fun w' => x_move h.k _ rfl rfl) (fun a h => ?_)
                  have hB13 : z67 = false := (Option.some.inj hz68).symm
                  rw [if_neg (by rw [hB13]; decide)] at hz73
                  refine d_takeNP h (fun _ => HS) HN 14 rfl (by kernel_rfl) (by kernel_rfl) (by kernel_rfl) (by decide) (by rw [g_want h rfl rfl rfl rfl hB13]; rfl) rfl (by decide) (fun a h => ?_)
                  refine d_takeNP h (fun _ => HS) HN 15 rfl (by kernel_rfl) (by kernel_rfl) (by kernel_rfl) (by decide) (by rw [g_want h rfl rfl rfl rfl hB13]; rfl) rfl (by decide) (fun a h => ?_)
                  refine d_takeNP h (fun _ => HS) HN 16 rfl (by kernel_rfl) (by kernel_rfl) (by kernel_rfl) (by decide) (by rw [g_want h rfl rfl rfl rfl hB13]; rfl) rfl (by decide) (fun a h => ?_)
                  refine d_takeNP h (fun _ => HS) HN 17 rfl (by kernel_rfl) (by kernel_rfl) (by kernel_rfl) (by decide) (by rw [g_want h rfl rfl rfl rfl hB13]; rfl) rfl (by decide) (fun a h => ?_)
                  refine d_takeNP h (fun _ => HS) HN 18 rfl (by kernel_rfl) (by kernel_rfl) (by kernel_rfl) (by decide) (by rw [g_want h rfl rfl rfl rfl hB13]; rfl) rfl (by decide) (fun a h => ?_)
                  refine d_takeNP h (fun _ => HS) HN 19 rfl (by kernel_rfl) (by kernel_rfl) (by kernel_rfl) (by decide) (by rw [g_want h rfl rfl rfl rfl hB13]; rfl) rfl (by decide) (fun a h => ?_)
                  refine d_takeNP h (fun _ => HS) HN 20 rfl (by kernel_rfl) (by kernel_rfl) (by kernel_rfl) (by decide) (by rw [g_want h rfl rfl rfl rfl hB13]; rfl) rfl (by decide) (fun a h => ?_)
                  refine d_takeNP h (fun _ => HS) HN 21 rfl (by kernel_rfl) (by kernel_rfl) (by kernel_rfl) (by decide) (by rw [g_want h rfl rfl rfl rfl hB13]; rfl) rfl (by decide) (fun a h => ?_)
                  refine d_takeP h (fun _ => HS) HN 22 rfl (by kernel_rfl) (by kernel_rfl) (by kernel_rfl) (by decide) rfl rfl (by decide) (fun w' => x_pick (v := .bool z72) (u' := undef) h.k rfl rfl (fun hh => absurd (hB13.symm.trans hh) (by decide)) (fun _ => by rw [← Option.some.inj hz73]; rfl)) (fun a h => ?_)
                  refine d_takeP h (fun _ => HS) HN 23 rfl (by kernel_rfl) (by kernel_rfl) (by kernel_rfl) (by decide) rfl rfl (by decide) (fun w' => x_assign h.k _ rfl rfl) (fun a h => ?_)
                  refine d_done (by kernel_rfl) (HE _ _ ?_) _
                  refine e_thenN ?_
                  have h := h.pick [0] (by decide) rfl
                  exact h.has (by exact ⟨rfl, trivial⟩)
              · rw [if_neg (of_decide_eq_false hB2)] at hz54
                refine d_takeNP h (fun _ => HS) HN 3 rfl (by kernel_rfl) (by kernel_rfl) (by kernel_rfl) (by decide) (by rw [g_want h rfl rfl rfl rfl hB2]; rfl) rfl (by decide) (fun a h => ?_)
                refine d_takeNP h (fun _ => HS) HN 4 rfl (by kernel_rfl) (by kernel_rfl) (by kernel_rfl) (by decide) (by rw [g_want h rfl rfl rfl rfl hB2]; rfl) rfl (by decide) (fun a h => ?_)
                refine d_takeNP h (fun _ => HS) HN 5 rfl (by kernel_rfl) (by kernel_rfl) (by kernel_rfl) (by decide) (by rw [g_want h rfl rfl rfl rfl hB2]; rfl) rfl (by decide) (fun a h => ?_)
                refine d_takeP h (fun _ => HS) HN 6 rfl (by kernel_rfl) (by kernel_rfl) (by kernel_rfl) (by decide) rfl rfl (by decide) (fun w' => x_pick (v := .bool z53) (u' := undef) h.k rfl rfl (fun hh => absurd (hB2.symm.trans hh) (by decide)) (fun _ => by rw [← Option.some.inj hz54]; rfl)) (fun a h => ?_)
                refine d_takeP h (fun _ => HS) HN 7 rfl (by kernel_rfl) (by kernel_rfl) (by kernel_rfl) (by decide) rfl rfl (by decide) (fun w' => x_move h.k _ rfl rfl) (fun a h => ?_)
                have hB7 : z53 = false := (Option.some.inj hz54).symm
                rw [if_neg (by rw [hB7]; decide)] at hz68
                refine d_takeNP h (fun _ => HS) HN 8 rfl (by kernel_rfl) (by kernel_rfl) (by kernel_rfl) (by decide) (by rw [g_want h rfl rfl rfl rfl hB7]; rfl) rfl (by decide) (fun a h => ?_)
                refine d_takeNP h (fun _ => HS) HN 9 rfl (by kernel_rfl) (by kernel_rfl) (by kernel_rfl) (by decide) (by rw [g_want h rfl rfl rfl rfl hB7]; rfl) rfl (by decide) (fun a h => ?_)
                refine d_takeNP h (fun _ => HS) HN 10 rfl (by kernel_rfl) (by kernel_rfl) (by kernel_rfl) (by decide) (by rw [g_want h rfl rfl rfl rfl hB7]; rfl) rfl (by decide) (fun a h => ?_)
                refine d_takeNP h (fun _ => HS) HN 11 rfl (by kernel_rfl) (by kernel_rfl) (by kernel_rfl) (by decide) (by rw [g_want h rfl rfl rfl rfl hB7]; rfl) rfl (by decide) (fun a h => ?_)
                refine d_takeP h (fun _ => HS) HN 12 rfl (by kernel_rfl) (by kernel_rfl) (by kernel_rfl) (by decide) rfl rfl (by decide) (fun w' => x_pick (v := .bool z67) (u' := undef) h.k rfl rfl (fun hh => absurd (hB7.symm.trans hh) (by decide)) (fun _ => by rw [← Option.some.inj hz68]; rfl)) (fun a h => ?_)
                refine d_takeP h (fun _ => HS) HN 13 rfl (by kernel_rfl) (by kernel_rfl) (by kernel_rfl) (by decide) rfl rfl (by decide) (fun w' => x_move h.k _ rfl rfl) (fun a h => ?_)
                have hB13 : z67 = false := (Option.some.inj hz68).symm
                rw [if_neg (by rw [hB13]; decide)] at hz73
                refine d_takeNP h (fun _ => HS) HN 14 rfl (by kernel_rfl) (by kernel_rfl) (by kernel_rfl) (by decide) (by rw [g_want h rfl rfl rfl rfl hB13]; rfl) rfl (by decide) (fun a h => ?_)
                refine d_takeNP h (fun _ => HS) HN 15 rfl (by kernel_rfl) (by kernel_rfl) (by kernel_rfl) (by decide) (by rw [g_want h rfl rfl rfl rfl hB13]; rfl) rfl (by decide) (fun a h => ?_)
                refine d_takeNP h (fun _ => HS) HN 16 rfl (by kernel_rfl) (by kernel_rfl) (by kernel_rfl) (by decide) (by rw [g_want h rfl rfl rfl rfl hB13]; rfl) rfl (by decide) (fun a h => ?_)
                refine d_takeNP h (fun _ => HS) HN 17 rfl (by kernel_rfl) (by kernel_rfl) (by kernel_rfl) (by decide) (by rw [g_want h rfl rfl rfl rfl hB13]; rfl) rfl (by decide) (fun a h => ?_)
                refine d_takeNP h (fun _ => HS) HN 18 rfl (by kernel_rfl) (by kernel_rfl) (by kernel_rfl) (by decide) (by rw [g_want h rfl rfl rfl rfl hB13]; rfl) rfl (by decide) (fun a h => ?_)
                refine d_takeNP h (fun _ => HS) HN 19 rfl (by kernel_rfl) (by kernel_rfl) (by kernel_rfl) (by decide) (by rw [g_want h rfl rfl rfl rfl hB13]; rfl) rfl (by decide) (fun a h => ?_)
                refine d_takeNP h (fun _ => HS) HN 20 rfl (by kernel_rfl) (by kernel_rfl) (by kernel_rfl) (by decide) (by rw [g_want h rfl rfl rfl rfl hB13]; rfl) rfl (by decide) (fun a h => ?_)
                refine d_takeNP h (fun _ => HS) HN 21 rfl (by kernel_rfl) (by kernel_rfl) (by kernel_rfl) (by decide) (by rw [g_want h rfl rfl rfl rfl hB13]; rfl) rfl (by decide) (fun a h => ?_)
                refine d_takeP h (fun _ => HS) HN 22 rfl (by kernel_rfl) (by kernel_rfl) (by kernel_rfl) (by decide) rfl rfl (by decide) (fun w' => x_pick (v := .bool z72) (u' := undef) h.k rfl rfl (fun hh => absurd (hB13.symm.trans hh) (by decide)) (fun _ => by rw [← Option.some.inj hz73]; rfl)) (fun a h => ?_)
                refine d_takeP h (fun _ => HS) HN 23 rfl (by kernel_rfl) (by kernel_rfl) (by kernel_rfl) (by decide) rfl rfl (by decide) (fun w' => x_assign h.k _ rfl rfl) (fun a h => ?_)
                refine d_done (by kernel_rfl) (HE _ _ ?_) _
                refine e_thenN ?_
                have h := h.pick [0] (by decide) rfl
                exact h.has (by exact ⟨rfl, trivial⟩)
            refine e_thenN ?_
            refine wp_ret ?_
            rw [← Option.some.inj hf]
            exact r_ret1 h rfl (rv_tmp h rfl) ⟨_, [], _, rfl, ⟨rfl, rfl, trivial⟩, rfl, up48, h.m⟩
end Go.Proofs.Ythaoiajbgadcjaa
