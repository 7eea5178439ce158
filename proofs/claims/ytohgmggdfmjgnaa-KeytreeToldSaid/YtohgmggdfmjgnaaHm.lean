/- Hm: Go functions as plain functions, and that they are so (written by xt.py). -/
import Derived.Test.YtohgmggdfmjgnaaPs
import Derived.Test.YtohgmggdfmjgnaaHi
set_option linter.unusedVariables false
set_option linter.unusedSimpArgs false
namespace Go.Proofs.Ytohgmggdfmjgnaa
open Go.RowKit
def hmac_Pads_l0 (Fu : Nat) (x6 : List UInt8) : Nat → Int → (List UInt8) → (List UInt8) → Option ((List UInt8) × (List UInt8))
  | 0, _, _, _ => none
  | k + 1, x62, x64, x68 => if x62 < 64 then ((idx x6 x62).bind fun x83 => (ix 64 x62).bind fun m91 => (ix 64 x62).bind fun m98 => hmac_Pads_l0 Fu x6 k (w64 (x62 + 1)) (x64.set m91 (x83 ^^^ (54 : UInt8))) (x68.set m98 (x83 ^^^ (92 : UInt8)))) else (some (x64, x68))
def hmac_Pads (Fu : Nat) (a0 : List UInt8) : Option ((List UInt8) × (List UInt8)) :=
  (if 64 < (a0.length : Int) then ((sha_Sum Fu ([a0])).bind fun x12 => (bnd 64 0 (64 : Int)).bind fun y21 => (bnd 32 0 (32 : Int)).bind fun y30 => some (cpy (List.replicate 64 ((0 : UInt8) : UInt8)) y21.1 y21.2 ((x12.take y30.2).drop y30.1))) else ((bnd 64 0 (64 : Int)).bind fun y44 => some (cpy (List.replicate 64 ((0 : UInt8) : UInt8)) y44.1 y44.2 a0))).bind fun x6 => (hmac_Pads_l0 Fu x6 Fu 0 (List.replicate 64 ((0 : UInt8) : UInt8)) (List.replicate 64 ((0 : UInt8) : UInt8))).bind fun (x72, x76) => some (x72, x76)
set_option maxRecDepth 100000 in
set_option maxHeartbeats 2000000 in
theorem hmac_Pads_ok (Fu : Nat) {S0 : Snap} (Aa0 : Option Addr) (ca0 : Nat) (a0 : List UInt8) (hsa0 : slS ty8 S0 Aa0 ca0 a0) (r : (List UInt8) × (List UInt8)) (hf : hmac_Pads Fu a0 = some r) (w0 : World) (hm : Mem w0 (ownL ([] ++ [.sn S0])) ([] ++ [.sn S0]) w0) :
    Calls Try.prog 82 #[.slice Aa0 a0.length ca0] w0 (Ret w0 S0 [] (fun v L1 S1 => ∃ (k107 : List Value), ∃ (k111 : List Value), v = .tuple #[.agg k107.toArray, .agg k111.toArray] ∧ L1 = [] ∧ (tyA 64 ty8).rep S1 k107 r.1 ∧ (tyA 64 ty8).rep S1 k111 r.2 ∧ True)) := by
  unfold hmac_Pads at hf
  refine c_enterM Try.func82 rfl 36 rfl (by simp) _ hm _ rfl (fun a h => ?_)
  refine c_rs ?_
  refine s_alloc h rfl rfl rfl (by decide) zi_A64_uint8 rfl (fun a w g1 h => ?_)
  refine s_alloc h rfl rfl rfl (by decide) zi_A64_uint8 rfl (fun a w g2 h => ?_)
  refine l_end ?_
  refine c_rs ?_
  refine s_alloc h rfl rfl rfl (by decide) zi_A64_uint8 rfl (fun a w g3 h => ?_)
  refine l_end ?_
  obtain ⟨o4, hc5, hf⟩ := bsome hf
  refine c_cut (fun a w => ∃ (x6 : List UInt8), ∃ (k7 : List Value), x6 = o4 ∧ reps ty8 S0 k7 x6 ∧ x6.length = 64 ∧ St 36 w0 (ownL ([] ++ [.sn S0])) [(2, .pointer (some ⟨g1, 0, none⟩)), (3, .pointer (some ⟨g2, 0, none⟩)), (4, .pointer (some ⟨g3, 0, none⟩))] [.box g1 112 (List.replicate 64 (.int .u8 0 : Value)), .box g2 112 (List.replicate 64 (.int .u8 0 : Value)), .box g3 112 k7, .sn S0] a w) ?_ ?_
  · refine c_rs ?_
    refine sMV h (fun a h => ?_)
    refine sX h (x_len h.k rfl Try.underlying22 rfl) (fun a h => ?_)
    refine sX h (x_bin h.k rfl rfl rfl ib_gtr) (fun a h => ?_)
    refine l_end ?_
    refine c_cond h rfl (fun hb => ?_) (fun hb => ?_)
    · rw [if_pos (of_decide_eq_true hb)] at hc5
      refine c_rs ?_
      refine sMV h (fun a h => ?_)
      refine q_bslice (T := tyL ty8) (S := S0) h rfl rfl rfl (by decide) Try.underlying24 zi_Suint8 (by decide) (by decide) (by decide) (by decide) [.slice Aa0 a0.length ca0] rfl rfl (C := [[.slice Aa0 a0.length ca0]]) rfl (xs := [a0]) ⟨[.slice Aa0 a0.length ca0], _, rfl, ⟨_, _, rfl, hsa0⟩, rfl⟩ (by intro c hc; simp only [List.mem_cons, List.not_mem_nil, or_false] at hc; subst hc; rfl) (fun a w A10 h => ?_)
      have hb11 : reps (tyL ty8) S0 ([[.slice Aa0 a0.length ca0]] : List (List Value)).flatten [a0] := ⟨[.slice Aa0 a0.length ca0], _, rfl, ⟨_, _, rfl, hsa0⟩, rfl⟩
      obtain ⟨x12, h13, hc5⟩ := bsome hc5
      have hX := sha_Sum_ok Fu (S0 := snapAll _) A10 1 ([a0]) (h.m.rowAll (i := 0) rfl (j := 4) rfl hb11) _ h13 _ h.startAll
      refine q_callX hX h rfl rfl rfl (by decide) Try.func83 rfl rfl rfl (fun a w v L1 S1 hR hb1 h => ?_)
      obtain ⟨k15, rfl, rfl, hv16, _⟩ := hR
      obtain ⟨hs17, hl18⟩ := hv16
      have hq19 := hs17.fl (S' := S0) fl_8
      refine s_alloc h rfl rfl rfl (by decide) zi_A32_uint8 rfl (fun a w g20 h => ?_)
      refine s_stW h rfl rfl rfl ag_A32_uint8 rfl (es := k15) rfl ((hq19).len.trans (by rw [hl18]; rfl)) (hq19).one 0 rfl (by first | rfl | simp_all) (fun a w h => ?_)
      refine l_end ?_
      -- region 4 draws
      obtain ⟨y21, h22, hc5⟩ := bsome hc5
      obtain ⟨y30, h31, hc5⟩ := bsome hc5
      refine d_start h (Mem _ _ _) 2 3 rfl (by kernel_rfl) (fun _ _ _ _ _ h => h) (fun _ h => h) (fun Q a w HE HN h HS => ?_)
      obtain ⟨hi23, hi24, hm25, hm26⟩ := bnd_some h22
      obtain ⟨n27, hn28⟩ : ∃ n, y21.2 - y21.1 = n := ⟨_, rfl⟩
      refine d_takeP h (fun _ => HS) HN 0 rfl (by kernel_rfl) (by kernel_rfl) (by kernel_rfl) (by decide) rfl rfl (by decide) (fun w' => x_viewB h.k rfl Try.underlying112 sz_uint8 rfl (bd_none (by omega)) (bd_none (by omega)) hm25 hm26 hn28) (fun a h => ?_)
      obtain ⟨hi32, hi33, hm34, hm35⟩ := bnd_some h31
      obtain ⟨n36, hn37⟩ : ∃ n, y30.2 - y30.1 = n := ⟨_, rfl⟩
      refine d_takeP h (fun _ => HS) HN 1 rfl (by kernel_rfl) (by kernel_rfl) (by kernel_rfl) (by decide) rfl rfl (by decide) (fun w' => x_viewB h.k rfl Try.underlying84 sz_uint8 rfl (bd_none (by omega)) (bd_none (by omega)) hm34 hm35 hn37) (fun a h => ?_)
      refine d_alone 2 rfl (by kernel_rfl) (fun K hK => ?_)
      have hl39 : y30.2 ≤ x12.length := (by have := hm35; have := hl18; omega)
      refine q_copyB (T := ty8) (S := S0) (l := y21.1) (g := y21.2) h rfl rfl rfl (by decide) Try.underlying22 sz_uint8 rfl rfl 2 rfl rfl (show reps ty8 S0 (List.replicate 64 (.int .u8 0 : Value)) (List.replicate 64 ((0 : UInt8) : UInt8)) from repsRep1 (x := ((0 : UInt8) : UInt8)) rfl) (reps.cut rfl hq19 y30.1 y30.2) ((h.m.rdBox0 (i := 0) rfl).vA (l := y30.1) hm35) (cut_len hl39 hn37) hn28 hm25 hm26 (show (List.replicate 64 ((0 : UInt8) : UInt8)).length = 64 from List.length_replicate) (fun a w cs40 n41 hq42 h => ?_)
      have hl43 : (cpy (List.replicate 64 ((0 : UInt8) : UInt8)) y21.1 y21.2 ((x12.take y30.2).drop y30.1)).length = 64 := (cpy_len _ hm25 (by have := hm26; have := (show (List.replicate 64 ((0 : UInt8) : UInt8)).length = 64 from List.length_replicate); omega)).trans (show (List.replicate 64 ((0 : UInt8) : UInt8)).length = 64 from List.length_replicate)
      refine hK _ _ (fun hne _ => absurd rfl hne) ?_
      clear hK
      refine d_done (by kernel_rfl) (HE _ _ ?_) _
      refine e_thenN ?_
      have h := h.pick [4, 3, 2, 5] (by decide) rfl
      exact ⟨(cpy (List.replicate 64 ((0 : UInt8) : UInt8)) y21.1 y21.2 ((x12.take y30.2).drop y30.1)), cs40, (Option.some.inj hc5), hq42, hl43, h.has (by exact ⟨rfl, rfl, rfl, trivial⟩)⟩
    · rw [if_neg (of_decide_eq_false hb)] at hc5
      refine c_r ?_
      obtain ⟨y44, h45, hc5⟩ := bsome hc5
      obtain ⟨hi46, hi47, hm48, hm49⟩ := bnd_some h45
      obtain ⟨n50, hn51⟩ : ∃ n, y44.2 - y44.1 = n := ⟨_, rfl⟩
      refine sX h (x_viewB h.k rfl Try.underlying112 sz_uint8 rfl (bd_none (by omega)) (bd_none (by omega)) hm48 hm49 hn51) (fun a h => ?_)
      refine sMV h (fun a h => ?_)
      obtain ⟨_, _, vs53, hrd54, hrp55⟩ := id hsa0
      refine q_copyB (T := ty8) (S := S0) (l := y44.1) (g := y44.2) h rfl rfl rfl (by decide) Try.underlying22 sz_uint8 rfl rfl 0 rfl rfl (show reps ty8 S0 (List.replicate 64 (.int .u8 0 : Value)) (List.replicate 64 ((0 : UInt8) : UInt8)) from repsRep1 (x := ((0 : UInt8) : UInt8)) rfl) hrp55 (hrd54 _ (h.m.snOK (i := 3) rfl)) rfl hn51 hm48 hm49 (show (List.replicate 64 ((0 : UInt8) : UInt8)).length = 64 from List.length_replicate) (fun a w cs56 n57 hq58 h => ?_)
      have hl59 : (cpy (List.replicate 64 ((0 : UInt8) : UInt8)) y44.1 y44.2 a0).length = 64 := (cpy_len _ hm48 (by have := hm49; have := (show (List.replicate 64 ((0 : UInt8) : UInt8)).length = 64 from List.length_replicate); omega)).trans (show (List.replicate 64 ((0 : UInt8) : UInt8)).length = 64 from List.length_replicate)
      refine l_nil ?_
      refine e_thenN ?_
      have h := h.pick [2, 1, 0, 3] (by decide) rfl
      exact ⟨(cpy (List.replicate 64 ((0 : UInt8) : UInt8)) y44.1 y44.2 a0), cs56, (Option.some.inj hc5), hq58, hl59, h.has (by exact ⟨rfl, rfl, rfl, trivial⟩)⟩
  · rintro a w ⟨x6, k7, rfl, hs8, hl9, h⟩
    refine wp_seq ?_
    refine c_rs ?_
    refine sX h (x_ldR h.k rfl ag_A64_uint8 rfl k7 ((hs8).len.trans (by rw [hl9]; rfl)) (h.m.range0 (i := 2) rfl)) (fun a h => ?_)
    refine sMV h (fun a h => ?_)
    refine l_end ?_
    obtain ⟨o60, hl61, hf⟩ := bsome hf
    refine c_fin (fun a w => ∃ (x72 : List UInt8), ∃ (k73 : List Value), ∃ (x76 : List UInt8), ∃ (k77 : List Value), (x72, x76) = o60 ∧ reps ty8 S0 k73 x72 ∧ x72.length = 64 ∧ reps ty8 S0 k77 x76 ∧ x76.length = 64 ∧ St 36 w0 (ownL ([] ++ [.sn S0])) [(2, .pointer (some ⟨g1, 0, none⟩)), (3, .pointer (some ⟨g2, 0, none⟩))] [.box g1 112 k73, .box g2 112 k77, .sn S0] a w) ?_ ?_
    · refine wp_block ?_
      have h := h.pick [0, 1, 3] (by decide) rfl
      refine c_loop (fun m81 a w => ∃ (x62 : Int), ∃ (x64 : List UInt8), ∃ (k65 : List Value), ∃ (x68 : List UInt8), ∃ (k69 : List Value), hmac_Pads_l0 Fu x6 m81 x62 x64 x68 = some o60 ∧ r64 x62 ∧ reps ty8 S0 k65 x64 ∧ x64.length = 64 ∧ reps ty8 S0 k69 x68 ∧ x68.length = 64 ∧ St 36 w0 (ownL ([] ++ [.sn S0])) [(2, .pointer (some ⟨g1, 0, none⟩)), (3, .pointer (some ⟨g2, 0, none⟩)), (20, .agg k7.toArray), (21, .int .i64 x62)] [.box g1 112 k65, .box g2 112 k69, .sn S0] a w) Fu ⟨0, (List.replicate 64 ((0 : UInt8) : UInt8)), (List.replicate 64 (.int .u8 0 : Value)), (List.replicate 64 ((0 : UInt8) : UInt8)), (List.replicate 64 (.int .u8 0 : Value)), hl61, (show r64 0 from ⟨by decide, by decide⟩), (show reps ty8 S0 (List.replicate 64 (.int .u8 0 : Value)) (List.replicate 64 ((0 : UInt8) : UInt8)) from repsRep1 (x := ((0 : UInt8) : UInt8)) rfl), (show (List.replicate 64 ((0 : UInt8) : UInt8)).length = 64 from List.length_replicate), (show reps ty8 S0 (List.replicate 64 (.int .u8 0 : Value)) (List.replicate 64 ((0 : UInt8) : UInt8)) from repsRep1 (x := ((0 : UInt8) : UInt8)) rfl), (show (List.replicate 64 ((0 : UInt8) : UInt8)).length = 64 from List.length_replicate), h.has (by exact ⟨rfl, rfl, rfl, rfl, trivial⟩)⟩ (fun m81 a w hI => ?_)
      obtain ⟨x62, x64, k65, x68, k69, hl80, hr63, hs66, hl67, hs70, hl71, h⟩ := hI
      obtain _ | m81 := m81
      · rw [hmac_Pads_l0] at hl80; cases hl80
      rw [hmac_Pads_l0] at hl80
      refine c_rs ?_
      refine sX h (x_bin h.k rfl rfl rfl ib_lss) (fun a h => ?_)
      refine l_end ?_
      refine c_cs h rfl (fun hb => ?_) (fun hb => ?_)
      · rw [if_pos (of_decide_eq_true hb)] at hl80
        refine wp_skip ?_
        refine e_thenN ?_
        refine wp_seq ?_
        refine wp_block ?_
        refine c_rs ?_
        refine sMV h (fun a h => ?_)
        obtain ⟨x83, h84, hl80⟩ := bsome hl80
        obtain ⟨m82, hi85, hm86, hx87⟩ := idx_some h84
        obtain ⟨u88, hv89, hu90⟩ := (hs8).cell rfl hx87
        cases hu90
        refine sX h (x_index h.k rfl Try.underlying112 Try.underlying5 rfl sz_uint8 rfl rfl hi85 (Nat.lt_of_lt_of_eq hm86 hl9) (by simpa using hv89)) (fun a h => ?_)
        refine sAV h (fun a h => ?_)
        refine sAV h (fun a h => ?_)
        refine l_end ?_
        refine c_r ?_
        refine sMV h (fun a h => ?_)
        refine sMV h (fun a h => ?_)
        refine sMV h (fun a h => ?_)
        refine sX h (x_bin h.k rfl rfl rfl (ib_xor (u8_xor_ x83 (54 : UInt8)))) (fun a h => ?_)
        refine sMV h (fun a h => ?_)
        refine sX h (x_bin h.k rfl rfl rfl (ib_xor (u8_xor_ x83 (92 : UInt8)))) (fun a h => ?_)
        obtain ⟨m91, h92, hl80⟩ := bsome hl80
        obtain ⟨hi93, hm94⟩ := ix_some h92
        refine sX h (x_iaddrA h.k rfl Try.underlying112 sz_uint8 rfl rfl hi93 hm94 rfl) (fun a h => ?_)
        refine q_setBox (T := ty8) (q := (x83 ^^^ (54 : UInt8))) h rfl rfl rfl sz_uint8 rfl rfl 0 rfl rfl hs66 rfl (by first | omega | (simp_all; done)) (fun a w cs95 hq96 h => ?_)
        have hl97 : (x64.set m91 (x83 ^^^ (54 : UInt8))).length = 64 := by rw [List.length_set]; exact hl67
        obtain ⟨m98, h99, hl80⟩ := bsome hl80
        obtain ⟨hi100, hm101⟩ := ix_some h99
        refine sX h (x_iaddrA h.k rfl Try.underlying112 sz_uint8 rfl rfl hi100 hm101 rfl) (fun a h => ?_)
        refine q_setBox (T := ty8) (q := (x83 ^^^ (92 : UInt8))) h rfl rfl rfl sz_uint8 rfl rfl 1 rfl rfl hs70 rfl (by first | omega | (simp_all; done)) (fun a w cs102 hq103 h => ?_)
        have hl104 : (x68.set m98 (x83 ^^^ (92 : UInt8))).length = 64 := by rw [List.length_set]; exact hl71
        refine l_nil ?_
        refine e_blkN ?_
        refine e_thenN ?_
        refine c_r ?_
        refine sX h (x_bin h.k rfl rfl rfl (ib_add rfl)) (fun a h => ?_)
        refine sMV h (fun a h => ?_)
        refine l_nil ?_
        exact e_thenN ⟨m81, Nat.lt_succ_self _, w64 (x62 + 1), (x64.set m91 (x83 ^^^ (54 : UInt8))), cs95, (x68.set m98 (x83 ^^^ (92 : UInt8))), cs102, hl80, (w64_r _), hq96, hl97, hq103, hl104, h.has (by exact ⟨rfl, rfl, rfl, rfl, trivial⟩)⟩
      · rw [if_neg (of_decide_eq_false hb)] at hl80
        refine wp_exit ?_
        refine e_thenX ?_
        refine e_thenX ?_
        refine e_blkX ?_
        refine e_thenN ?_
        exact ⟨x64, k65, x68, k69, (Option.some.inj hl80), hs66, hl67, hs70, hl71, h.has (by exact ⟨rfl, rfl, trivial⟩)⟩
    · rintro a w ⟨x72, k73, x76, k77, rfl, hs74, hl75, hs78, hl79, h⟩
      try dsimp only at hf
      refine e_thenN ?_
      refine wp_seq ?_
      -- region 11 draws
      refine c_fin (fun a w => St 36 w0 (ownL ([] ++ [.sn S0])) [(2, .pointer (some ⟨g1, 0, none⟩)), (3, .pointer (some ⟨g2, 0, none⟩))] [.box g1 112 k73, .box g2 112 k77, .sn S0] a w) ?_ (fun a w h => ?_)
      · refine d_start h (Mem _ _ _) 4 4 rfl (by kernel_rfl) (fun _ _ _ _ _ h => h) (fun _ h => h) (fun Q a w HE HN h HS => ?_)
        refine d_take h HS HN 0 rfl (by kernel_rfl) (by kernel_rfl) (by kernel_rfl) (by kernel_rfl) (by kernel_rfl) rfl rfl (by decide) (fun w' hw => x_ldR h.k rfl ag_A64_uint8 rfl k73 ((hs74).len.trans (by rw [hl75]; rfl)) (hw.range0 (i := 0) rfl)) (fun a h => ?_)
        refine d_take h HS HN 1 rfl (by kernel_rfl) (by kernel_rfl) (by kernel_rfl) (by kernel_rfl) (by kernel_rfl) rfl rfl (by decide) (fun w' hw => x_ldR h.k rfl ag_A64_uint8 rfl k77 ((hs78).len.trans (by rw [hl79]; rfl)) (hw.range0 (i := 1) rfl)) (fun a h => ?_)
        refine d_alone 2 rfl (by kernel_rfl) (fun K hK => ?_)
        refine s_stW h rfl rfl rfl ag_A64_uint8 rfl (es := k73) rfl ((hs74).len.trans (by rw [hl75]; rfl)) (hs74).one 0 rfl ((hs74).len.trans (by rw [hl75]; rfl)) (fun a w h => ?_)
        replace HS := h.m.pick [0, 1, 2] [.box g1 112 k73, .box g2 112 k77, .sn S0] (by decide) rfl
        refine hK _ _ (fun _ _ => HS) ?_
        clear hK
        refine d_alone 3 rfl (by kernel_rfl) (fun K hK => ?_)
        refine s_stW h rfl rfl rfl ag_A64_uint8 rfl (es := k77) rfl ((hs78).len.trans (by rw [hl79]; rfl)) (hs78).one 1 rfl ((hs78).len.trans (by rw [hl79]; rfl)) (fun a w h => ?_)
        replace HS := h.m.pick [0, 1, 2] [.box g1 112 k73, .box g2 112 k77, .sn S0] (by decide) rfl
        refine hK _ _ (fun _ _ => HS) ?_
        clear hK
        refine d_done (by kernel_rfl) (HE _ _ ?_) _
        refine e_thenN ?_
        exact h.has (by exact ⟨rfl, rfl, trivial⟩)
      refine e_thenN ?_
      refine wp_ret ?_
      obtain rfl := Option.some.inj hf
      exact r_ret2 h rfl (rv_cellA h rfl 0 rfl ag_A64_uint8 ((hs74).len.trans (by rw [hl75]; rfl))) (rv_cellA h rfl 1 rfl ag_A64_uint8 ((hs78).len.trans (by rw [hl79]; rfl))) ⟨_, [], _, rfl, ⟨k73, k77, rfl, rfl, ⟨hs74, hl75⟩, ⟨hs78, hl79⟩, trivial⟩, rfl, (Up.refl _ _ _), (h.m.pick [2] _ (by decide) rfl)⟩
def hmac_Tag (Fu : Nat) (a0 : List UInt8) (a1 : List (List UInt8)) : Option ((List UInt8)) :=
  (hmac_Pads Fu a0).bind fun x2 => (bnd 64 0 (64 : Int)).bind fun y17 => (app 24 ([((x2.1.take y17.2).drop y17.1)]) a1).bind fun x34 => (sha_Sum Fu x34).bind fun x43 => (bnd 64 0 (64 : Int)).bind fun y52 => (bnd 32 0 (32 : Int)).bind fun y61 => (sha_Sum Fu ([((x2.2.take y52.2).drop y52.1), ((x43.take y61.2).drop y61.1)])).bind fun x84 => some x84
set_option maxRecDepth 100000 in
set_option maxHeartbeats 2000000 in
theorem hmac_Tag_ok (Fu : Nat) {S0 : Snap} (Aa0 : Option Addr) (ca0 : Nat) (a0 : List UInt8) (hsa0 : slS ty8 S0 Aa0 ca0 a0) (Aa1 : Option Addr) (ca1 : Nat) (a1 : List (List UInt8)) (hsa1 : slS (tyL ty8) S0 Aa1 ca1 a1) (r : (List UInt8)) (hf : hmac_Tag Fu a0 a1 = some r) (w0 : World) (hm : Mem w0 (ownL ([] ++ [.sn S0])) ([] ++ [.sn S0]) w0) :
    Calls Try.prog 64 #[.slice Aa0 a0.length ca0, .slice Aa1 a1.length ca1] w0 (Ret w0 S0 [] (fun v L1 S1 => ∃ (k92 : List Value), v = .agg k92.toArray ∧ L1 = [] ∧ (tyA 32 ty8).rep S1 k92 r ∧ True)) := by
  unfold hmac_Tag at hf
  refine c_enterM Try.func64 rfl 22 rfl (by simp) _ hm _ rfl (fun a h => ?_)
  refine c_rs ?_
  refine s_alloc h rfl rfl rfl (by decide) zi_A32_uint8 rfl (fun a w g1 h => ?_)
  refine l_end ?_
  refine c_rs ?_
  refine sMV h (fun a h => ?_)
  obtain ⟨x2, h3, hf⟩ := bsome hf
  have hX := hmac_Pads_ok Fu (S0 := snapAll _) Aa0 ca0 a0 (hsa0.mono (h.m.leAll (i := 1) rfl)) _ h3 _ h.startAll
  refine q_callX hX h rfl rfl rfl (by decide) Try.func82 rfl rfl rfl (fun a w v L1 S1 hR hb1 h => ?_)
  obtain ⟨k5, k9, rfl, rfl, hv6, hv10, _⟩ := hR
  obtain ⟨hs7, hl8⟩ := hv6
  obtain ⟨hs11, hl12⟩ := hv10
  have hq13 := hs7.fl (S' := S0) fl_8
  have hq14 := hs11.fl (S' := S0) fl_8
  refine sMV h (fun a h => ?_)
  refine sX h (x_ext h.k rfl rfl rfl) (fun a h => ?_)
  refine sX h (x_ext h.k rfl rfl rfl) (fun a h => ?_)
  refine s_alloc h rfl rfl rfl (by decide) zi_A64_uint8 rfl (fun a w g15 h => ?_)
  refine s_alloc h rfl rfl rfl (by decide) zi_A64_uint8 rfl (fun a w g16 h => ?_)
  refine s_stW h rfl rfl rfl ag_A64_uint8 rfl (es := k5) rfl ((hq13).len.trans (by rw [hl8]; rfl)) (hq13).one 1 rfl (by first | rfl | simp_all) (fun a w h => ?_)
  refine s_stW h rfl rfl rfl ag_A64_uint8 rfl (es := k9) rfl ((hq14).len.trans (by rw [hl12]; rfl)) (hq14).one 0 rfl (by first | rfl | simp_all) (fun a w h => ?_)
  refine l_end ?_
  refine c_rs ?_
  obtain ⟨y17, h18, hf⟩ := bsome hf
  obtain ⟨hi19, hi20, hm21, hm22⟩ := bnd_some h18
  obtain ⟨n23, hn24⟩ : ∃ n, y17.2 - y17.1 = n := ⟨_, rfl⟩
  refine sX h (x_viewB h.k rfl Try.underlying112 sz_uint8 rfl (bd_none (by omega)) (bd_none (by omega)) hm21 hm22 hn24) (fun a h => ?_)
  have h := h.pick [1, 3, 0, 2] (by decide) rfl
  obtain ⟨S26, le27, up28, hc29, h⟩ := q_freezeBox h (Up.refl _ _ _)
  obtain rfl : n23 = ((x2.1.take y17.2).drop y17.1).length := cut_len (by have := hm22; have := hl8; omega) hn24
  have hs30 := slS_vA (T := ty8) hc29 (hq13.mono le27) rfl hl8 (by decide) hm21 hm22
  have hf31 : 64 - y17.1 ≤ ((x2.1.take y17.2).drop y17.1).length := by have := hl8; have := hi20; simp only [List.length_drop, List.length_take]; omega
  refine q_bslice (T := tyL ty8) (S := S26) h rfl rfl rfl (by decide) Try.underlying24 zi_Suint8 (by decide) (by decide) (by decide) (by decide) [.slice (vA g15 64 y17.1) ((x2.1.take y17.2).drop y17.1).length (64 - y17.1)] rfl rfl (C := [[.slice (vA g15 64 y17.1) ((x2.1.take y17.2).drop y17.1).length (64 - y17.1)]]) rfl (xs := [((x2.1.take y17.2).drop y17.1)]) ⟨[.slice (vA g15 64 y17.1) ((x2.1.take y17.2).drop y17.1).length (64 - y17.1)], _, rfl, ⟨_, _, rfl, hs30⟩, rfl⟩ (by intro c hc; simp only [List.mem_cons, List.not_mem_nil, or_false] at hc; subst hc; rfl) (fun a w A32 h => ?_)
  have hb33 : reps (tyL ty8) S26 ([[.slice (vA g15 64 y17.1) ((x2.1.take y17.2).drop y17.1).length (64 - y17.1)]] : List (List Value)).flatten [((x2.1.take y17.2).drop y17.1)] := ⟨[.slice (vA g15 64 y17.1) ((x2.1.take y17.2).drop y17.1).length (64 - y17.1)], _, rfl, ⟨_, _, rfl, hs30⟩, rfl⟩
  refine sMV h (fun a h => ?_)
  obtain ⟨x34, h35, hf⟩ := bsome hf
  obtain ⟨_, _, vs36, hrd37, hrp38⟩ := id (hsa1.mono le27)
  refine q_append (T := tyL ty8) (S := S26) h rfl rfl rfl (by decide) Try.underlying24 zb_Suint8 rfl (by decide) rfl 0 rfl hb33 rfl hrp38 (hrd37 _ (h.m.snOK (i := 1) rfl)) h35 (fun a w A39 c40 cs41 hq42 h => ?_)
  obtain ⟨x43, h44, hf⟩ := bsome hf
  have hX := sha_Sum_ok Fu (S0 := snapAll _) A39 c40 x34 (h.m.rowAll (i := 0) rfl (j := 1) rfl hq42) _ h44 _ h.startAll
  refine q_callX hX h rfl rfl rfl (by decide) Try.func83 rfl rfl rfl (fun a w v L1 S1 hR hb1 h => ?_)
  obtain ⟨k46, rfl, rfl, hv47, _⟩ := hR
  obtain ⟨hs48, hl49⟩ := hv47
  have hq50 := hs48.fl (S' := S26) fl_8
  refine s_alloc h rfl rfl rfl (by decide) zi_A32_uint8 rfl (fun a w g51 h => ?_)
  refine s_stW h rfl rfl rfl ag_A32_uint8 rfl (es := k46) rfl ((hq50).len.trans (by rw [hl49]; rfl)) (hq50).one 0 rfl (by first | rfl | simp_all) (fun a w h => ?_)
  refine l_end ?_
  refine wp_seq ?_
  -- region 3 draws
  obtain ⟨y52, h53, hf⟩ := bsome hf
  obtain ⟨y61, h62, hf⟩ := bsome hf
  obtain ⟨x84, h85, hf⟩ := bsome hf
  refine d_start h (Mem _ _ _) 4 5 rfl (by kernel_rfl) (fun _ _ _ _ _ h => h) (fun _ h => h.pick [1, 2, 4] [.row (.slice A39 x34.length c40) 22 1 x34.length cs41, .sn S26, .box g1 84 (List.replicate 32 (.int .u8 0 : Value))] (by decide) rfl) (fun Q a w HE HN h HS => ?_)
  obtain ⟨hi54, hi55, hm56, hm57⟩ := bnd_some h53
  obtain ⟨n58, hn59⟩ : ∃ n, y52.2 - y52.1 = n := ⟨_, rfl⟩
  refine d_takeP h (fun _ => HS) HN 0 rfl (by kernel_rfl) (by kernel_rfl) (by kernel_rfl) (by decide) rfl rfl (by decide) (fun w' => x_viewB h.k rfl Try.underlying112 sz_uint8 rfl (bd_none (by omega)) (bd_none (by omega)) hm56 hm57 hn59) (fun a h => ?_)
  obtain ⟨hi63, hi64, hm65, hm66⟩ := bnd_some h62
  obtain ⟨n67, hn68⟩ : ∃ n, y61.2 - y61.1 = n := ⟨_, rfl⟩
  refine d_takeP h (fun _ => HS) HN 1 rfl (by kernel_rfl) (by kernel_rfl) (by kernel_rfl) (by decide) rfl rfl (by decide) (fun w' => x_viewB h.k rfl Try.underlying84 sz_uint8 rfl (bd_none (by omega)) (bd_none (by omega)) hm65 hm66 hn68) (fun a h => ?_)
  refine d_alone 2 rfl (by kernel_rfl) (fun K hK => ?_)
  have h := h.pick [3, 2, 0, 1, 4] (by decide) rfl
  obtain ⟨S70, le71, up72, hc73, h⟩ := q_freezeBox h up28
  obtain rfl : n58 = ((x2.2.take y52.2).drop y52.1).length := cut_len (by have := hm57; have := hl12; omega) hn59
  have hs74 := slS_vA (T := ty8) hc73 (hq14.mono (le27.trans le71)) rfl hl12 (by decide) hm56 hm57
  have hf75 : 64 - y52.1 ≤ ((x2.2.take y52.2).drop y52.1).length := by have := hl12; have := hi55; simp only [List.length_drop, List.length_take]; omega
  have h := h.pick [1, 0, 2, 3] (by decide) rfl
  obtain ⟨S76, le77, up78, hc79, h⟩ := q_freezeBox h up72
  obtain rfl : n67 = ((x43.take y61.2).drop y61.1).length := cut_len (by have := hm66; have := hl49; omega) hn68
  have hs80 := slS_vA (T := ty8) hc79 (hq50.mono (le71.trans le77)) rfl hl49 (by decide) hm65 hm66
  have hf81 : 32 - y61.1 ≤ ((x43.take y61.2).drop y61.1).length := by have := hl49; have := hi64; simp only [List.length_drop, List.length_take]; omega
  refine q_bslice (T := tyL ty8) (S := S76) h rfl rfl rfl (by decide) Try.underlying24 zi_Suint8 (by decide) (by decide) (by decide) (by decide) [.slice (vA g16 64 y52.1) ((x2.2.take y52.2).drop y52.1).length (64 - y52.1), .slice (vA g51 32 y61.1) ((x43.take y61.2).drop y61.1).length (32 - y61.1)] rfl rfl (C := [[.slice (vA g16 64 y52.1) ((x2.2.take y52.2).drop y52.1).length (64 - y52.1)], [.slice (vA g51 32 y61.1) ((x43.take y61.2).drop y61.1).length (32 - y61.1)]]) rfl (xs := [((x2.2.take y52.2).drop y52.1), ((x43.take y61.2).drop y61.1)]) ⟨[.slice (vA g16 64 y52.1) ((x2.2.take y52.2).drop y52.1).length (64 - y52.1)], _, rfl, ⟨_, _, rfl, (hs74.mono le77)⟩, ⟨[.slice (vA g51 32 y61.1) ((x43.take y61.2).drop y61.1).length (32 - y61.1)], _, rfl, ⟨_, _, rfl, hs80⟩, rfl⟩⟩ (by simp only [List.mem_cons, List.not_mem_nil, or_false]; rintro c (rfl | rfl) <;> rfl) (fun a w A82 h => ?_)
  have hb83 : reps (tyL ty8) S76 ([[.slice (vA g16 64 y52.1) ((x2.2.take y52.2).drop y52.1).length (64 - y52.1)], [.slice (vA g51 32 y61.1) ((x43.take y61.2).drop y61.1).length (32 - y61.1)]] : List (List Value)).flatten [((x2.2.take y52.2).drop y52.1), ((x43.take y61.2).drop y61.1)] := ⟨[.slice (vA g16 64 y52.1) ((x2.2.take y52.2).drop y52.1).length (64 - y52.1)], _, rfl, ⟨_, _, rfl, (hs74.mono le77)⟩, ⟨[.slice (vA g51 32 y61.1) ((x43.take y61.2).drop y61.1).length (32 - y61.1)], _, rfl, ⟨_, _, rfl, hs80⟩, rfl⟩⟩
  replace HS := (h.m.pick [2, 1, 3] [.row (.slice A39 x34.length c40) 22 1 x34.length cs41, .sn S76, .box g1 84 (List.replicate 32 (.int .u8 0 : Value))] (by decide) rfl).snLe 1 rfl (le71.trans le77)
  refine hK _ _ (fun _ _ => HS) ?_
  clear hK
  refine d_alone 3 rfl (by kernel_rfl) (fun K hK => ?_)
  have hX := sha_Sum_ok Fu (S0 := snapAll _) A82 2 ([((x2.2.take y52.2).drop y52.1), ((x43.take y61.2).drop y61.1)]) (h.m.rowAll (i := 0) rfl (j := 1) rfl hb83) _ h85 _ h.startAll
  refine q_callX hX h rfl rfl rfl (by decide) Try.func83 rfl rfl rfl (fun a w v L1 S1 hR hb1 h => ?_)
  obtain ⟨k87, rfl, rfl, hv88, _⟩ := hR
  obtain ⟨hs89, hl90⟩ := hv88
  have hq91 := hs89.fl (S' := S76) fl_8
  refine hK _ _ (fun _ _ => HS.ext hb1) ?_
  replace HS := HS.ext hb1
  clear hK
  refine d_alone 4 rfl (by kernel_rfl) (fun K hK => ?_)
  refine s_stW h rfl rfl rfl ag_A32_uint8 rfl (es := k87) rfl ((hq91).len.trans (by rw [hl90]; rfl)) (hq91).one 3 rfl (by first | rfl | simp_all) (fun a w h => ?_)
  refine hK _ _ (fun hne _ => absurd rfl hne) ?_
  clear hK
  refine d_done (by kernel_rfl) (HE _ _ ?_) _
  refine e_thenN ?_
  refine wp_ret ?_
  rw [← Option.some.inj hf]
  exact r_ret1 h rfl (rv_cellA h rfl 3 rfl ag_A32_uint8 ((hq91).len.trans (by rw [hl90]; rfl))) ⟨_, [], _, rfl, ⟨k87, rfl, rfl, ⟨hq91, hl90⟩, trivial⟩, rfl, up78, (h.m.pick [1] _ (by decide) rfl)⟩
def kdf_Derive_l0 (Fu : Nat) (a3 : List (List UInt8)) : Nat → (List (List UInt8)) → Int → Option ((List (List UInt8)))
  | 0, _, _ => none
  | k + 1, x15, x20 => if x20 < (a3.length : Int) then ((idx a3 x20).bind fun x33 => (kdf_Number Fu (x33.length : Int)).bind fun x49 => (app 24 x15 ([x49, x33])).bind fun x63 => kdf_Derive_l0 Fu a3 k x63 (w64 (x20 + 1))) else (some x15)
def kdf_Derive_l1 (Fu : Nat) (a0 : List UInt8) (a1 : List UInt8) (a2 : Int) (x84 : List (List UInt8)) : Nat → (List UInt8) → UInt8 → Option ((List UInt8))
  | 0, _, _ => none
  | k + 1, x95, x100 => if (x95.length : Int) < a2 then ((app 1 ([x100]) a1).bind fun x115 => (app 1 x115 ([(0 : UInt8)])).bind fun x123 => (app 24 ([x123]) x84).bind fun x135 => (hmac_Tag Fu a0 x135).bind fun x141 => (bnd 32 0 (32 : Int)).bind fun y150 => (app 1 x95 ((x141.take y150.2).drop y150.1)).bind fun x165 => kdf_Derive_l1 Fu a0 a1 a2 x84 k x165 (x100 + (1 : UInt8))) else (some x95)
def kdf_Derive (Fu : Nat) (a0 : List UInt8) (a1 : List UInt8) (a2 : Int) (a3 : List (List UInt8)) : Option ((List UInt8) × Int) :=
  if (a0.length : Int) = 0 then (some ([], 20)) else (if ((decide (a2 < 1)) || (decide (128 < a2))) = true then (some ([], 2)) else ((if 64 < (a1.length : Int) then some true else (strings_IndexByte Fu a1 (0 : UInt8)).bind fun x6 => some (decide (0 ≤ x6))).bind fun z4 => if z4 = true then (some ([], 3)) else ((kdf_Derive_l0 Fu a3 Fu ([]) 0).bind fun x25 => (word_Put Fu a2 2).bind fun x69 => (app 24 x25 ([x69.1])).bind fun x84 => (kdf_Derive_l1 Fu a0 a1 a2 x84 Fu ([]) (1 : UInt8)).bind fun x104 => (sub x104 0 a2).bind fun x178 => some (x178, 0))))
set_option maxRecDepth 100000 in
set_option maxHeartbeats 2000000 in
theorem kdf_Derive_ok (Fu : Nat) {S0 : Snap} (Aa0 : Option Addr) (ca0 : Nat) (a0 : List UInt8) (hsa0 : slS ty8 S0 Aa0 ca0 a0) (a1 : List UInt8) (hra1 : a1.length ≤ maxLen) (a2 : Int) (hra2 : r64 a2) (Aa3 : Option Addr) (ca3 : Nat) (a3 : List (List UInt8)) (hsa3 : slS (tyL ty8) S0 Aa3 ca3 a3) (r : (List UInt8) × Int) (hf : kdf_Derive Fu a0 a1 a2 a3 = some r) (w0 : World) (hm : Mem w0 (ownL ([] ++ [.sn S0])) ([] ++ [.sn S0]) w0) :
    Calls Try.prog 45 #[.slice Aa0 a0.length ca0, .string (sb a1), .int .i64 a2, .slice Aa3 a3.length ca3] w0 (Ret w0 S0 [] (fun v L1 S1 => ∃ (A190 : Option Addr), ∃ (c191 : Nat), v = .tuple #[.slice A190 r.1.length c191, .int .i64 r.2] ∧ L1 = [] ∧ slS ty8 S1 A190 c191 r.1 ∧ r64 r.2 ∧ True)) := by
  unfold kdf_Derive at hf
  refine c_enterM Try.func45 rfl 87 rfl (by simp) _ hm _ rfl (fun a h => ?_)
  refine c_rs ?_
  refine sAV h (fun a h => ?_)
  refine sAV h (fun a h => ?_)
  refine l_end ?_
  refine wp_seq ?_
  refine wp_block ?_
  refine c_rs ?_
  refine sMV h (fun a h => ?_)
  refine sX h (x_len h.k rfl Try.underlying22 rfl) (fun a h => ?_)
  refine sX h (x_bin h.k rfl rfl rfl ib_eql) (fun a h => ?_)
  refine sAV h (fun a h => ?_)
  refine l_end ?_
  refine c_cond h rfl (fun hb => ?_) (fun hb => ?_)
  · rw [if_pos (of_decide_eq_true hb)] at hf
    refine c_rs ?_
    refine sAV h (fun a h => ?_)
    refine sAV h (fun a h => ?_)
    refine l_end ?_
    refine wp_ret ?_
    refine e_blkR ?_
    refine e_thenR ?_
    obtain rfl := Option.some.inj hf
    exact r_ret2 h rfl (rv_tmp h rfl) (rv_tmp h rfl) ⟨_, [], _, rfl, ⟨none, 0, rfl, rfl, (slS.nil ty8 S0), (show r64 20 from ⟨by decide, by decide⟩), trivial⟩, rfl, (Up.refl _ _ _), h.m⟩
  · rw [if_neg (of_decide_eq_false hb)] at hf
    refine c_rs ?_
    refine sMV h (fun a h => ?_)
    refine sX h (x_bin h.k rfl rfl rfl ib_lss) (fun a h => ?_)
    refine sMV h (fun a h => ?_)
    refine q_grp h 3 (t := 26) 29 ((decide (a2 < 1)) || (decide (128 < a2))) rfl (fun hB2 => ?_) (fun hB2 => ?_) (fun a w h => ?_)
    · refine g_no h rfl rfl rfl rfl hB2 rfl (by decide) (fun a h => ?_)
      refine g_no h rfl rfl rfl rfl hB2 rfl (by decide) (fun a h => ?_)
      refine sX h (x_pick (u' := undef) h.k rfl rfl (fun _ => rfl) (fun hh => absurd (hB2.symm.trans hh) (by decide))) (fun a h => ?_)
      exact (h.mid 2 rfl).val (by first | rfl | (rw [hB2]; first | rfl | simp))
    · refine g_yes h rfl rfl rfl rfl hB2 ?_
      refine sMV h (fun a h => ?_)
      refine g_yes h rfl rfl rfl rfl hB2 ?_
      refine sX h (x_bin h.k rfl rfl rfl ib_gtr) (fun a h => ?_)
      refine sX h (x_pick (u' := undef) h.k rfl rfl (fun hh => absurd (hB2.symm.trans hh) (by decide)) (fun _ => rfl)) (fun a h => ?_)
      exact (h.mid 2 rfl).val (by first | rfl | (rw [hB2]; first | rfl | simp))
    refine sAV h (fun a h => ?_)
    refine l_end ?_
    refine c_cond h rfl (fun hb => ?_) (fun hb => ?_)
    · rw [if_pos hb] at hf
      refine c_rs ?_
      refine sAV h (fun a h => ?_)
      refine sAV h (fun a h => ?_)
      refine l_end ?_
      refine wp_ret ?_
      refine e_blkR ?_
      refine e_thenR ?_
      obtain rfl := Option.some.inj hf
      exact r_ret2 h rfl (rv_tmp h rfl) (rv_tmp h rfl) ⟨_, [], _, rfl, ⟨none, 0, rfl, rfl, (slS.nil ty8 S0), (show r64 2 from ⟨by decide, by decide⟩), trivial⟩, rfl, (Up.refl _ _ _), h.m⟩
    · rw [if_neg (by rw [hb]; decide)] at hf
      refine c_rs ?_
      refine sMV h (fun a h => ?_)
      refine sX h (x_lenStr h.k rfl Try.underlying9 rfl) (fun a h => ?_)
      refine sX h (x_bin h.k rfl rfl rfl ib_gtr) (fun a h => ?_)
      refine sMV h (fun a h => ?_)
      obtain ⟨z4, hz3, hf⟩ := bsome hf
      refine q_grp h 4 (t := 34) 38 z4 rfl (fun hB3 => ?_) (fun hB3 => ?_) (fun a w h => ?_)
      · refine g_no h rfl rfl rfl rfl hB3 rfl (by decide) (fun a h => ?_)
        refine g_no h rfl rfl rfl rfl hB3 rfl (by decide) (fun a h => ?_)
        refine g_no h rfl rfl rfl rfl hB3 rfl (by decide) (fun a h => ?_)
        rw [if_pos (of_decide_eq_true hB3)] at hz3
        refine sX h (x_pick (u' := undef) h.k rfl rfl (fun _ => rfl) (fun hh => absurd (hB3.symm.trans hh) (by decide))) (fun a h => ?_)
        exact (h.mid 3 rfl).val (by rw [Option.some.inj hz3])
      · rw [if_neg (of_decide_eq_false hB3)] at hz3
        refine g_yes h rfl rfl rfl rfl hB3 ?_
        refine sMV h (fun a h => ?_)
        refine g_yes h rfl rfl rfl rfl hB3 ?_
        obtain ⟨x6, h7, hz3⟩ := bsome hz3
        have hX := strings_IndexByte_ok Fu (S0 := snapAll _) a1 hra1 (0 : UInt8) _ h7 _ h.startAll
        refine q_callX hX h rfl rfl rfl (by decide) Try.func62 rfl rfl rfl (fun a w v L1 S1 hR hb1 h => ?_)
        obtain ⟨rfl, rfl, hr9, _⟩ := hR
        refine g_yes h rfl rfl rfl rfl hB3 ?_
        refine sX h (x_bin h.k rfl rfl rfl ib_geq) (fun a h => ?_)
        refine sX h (x_pick (u' := undef) h.k rfl rfl (fun hh => absurd (hB3.symm.trans hh) (by decide)) (fun _ => rfl)) (fun a h => ?_)
        exact (h.mid 3 rfl).val (by rw [Option.some.inj hz3])
      refine sAV h (fun a h => ?_)
      refine l_end ?_
      refine c_cond h rfl (fun hb => ?_) (fun hb => ?_)
      · rw [if_pos hb] at hf
        refine c_rs ?_
        refine sAV h (fun a h => ?_)
        refine sAV h (fun a h => ?_)
        refine l_end ?_
        refine wp_ret ?_
        refine e_blkR ?_
        refine e_thenR ?_
        obtain rfl := Option.some.inj hf
        exact r_ret2 h rfl (rv_tmp h rfl) (rv_tmp h rfl) ⟨_, [], _, rfl, ⟨none, 0, rfl, rfl, (slS.nil ty8 S0), (show r64 3 from ⟨by decide, by decide⟩), trivial⟩, rfl, (Up.refl _ _ _), h.m⟩
      · rw [if_neg (by rw [hb]; decide)] at hf
        refine wp_skip ?_
        refine e_blkN ?_
        refine e_thenN ?_
        refine c_rs ?_
        refine sAV h (fun a h => ?_)
        refine l_end ?_
        refine wp_seq ?_
        refine c_rs ?_
        refine sMV h (fun a h => ?_)
        refine sX h (x_len h.k rfl Try.underlying24 rfl) (fun a h => ?_)
        refine sMV h (fun a h => ?_)
        refine l_end ?_
        obtain ⟨o10, hl11, hf⟩ := bsome hf
        refine c_fin (fun a w => ∃ (S22 : Snap), ∃ (x25 : List (List UInt8)), ∃ (A26 : Option Addr), ∃ (c27 : Nat), ∃ (cs28 : List Value), x25 = o10 ∧ Snap.le S0 S22 ∧ Up (ownL ([] ++ [.sn S0])) w0 S0 S22 ∧ reps (tyL ty8) S22 cs28 x25 ∧ St 87 w0 (ownL ([] ++ [.sn S0])) [(0, .slice Aa0 a0.length ca0), (1, .string (sb a1)), (2, .int .i64 a2), (10, .slice A26 x25.length c27)] [.row (.slice A26 x25.length c27) 22 1 x25.length cs28, .sn S22] a w) ?_ ?_
        · refine wp_block ?_
          have h := h.mem (h.m.nilrow 22 1)
          refine c_loop (fun m31 a w => ∃ (S12 : Snap), ∃ (x15 : List (List UInt8)), ∃ (A16 : Option Addr), ∃ (c17 : Nat), ∃ (cs18 : List Value), ∃ (x20 : Int), kdf_Derive_l0 Fu a3 m31 x15 x20 = some o10 ∧ Snap.le S0 S12 ∧ Up (ownL ([] ++ [.sn S0])) w0 S0 S12 ∧ reps (tyL ty8) S12 cs18 x15 ∧ r64 x20 ∧ St 87 w0 (ownL ([] ++ [.sn S0])) [(0, .slice Aa0 a0.length ca0), (1, .string (sb a1)), (2, .int .i64 a2), (10, .slice A16 x15.length c17), (39, .slice Aa3 a3.length ca3), (40, .int .i64 (a3.length : Int)), (41, .int .i64 x20)] [.row (.slice A16 x15.length c17) 22 1 x15.length cs18, .sn S12] a w) Fu ⟨S0, [], none, 0, [], 0, hl11, (Snap.le.refl _), (Up.refl _ _ _), (show reps (tyL ty8) S0 [] [] from rfl), (show r64 0 from ⟨by decide, by decide⟩), h.has (by exact ⟨rfl, rfl, rfl, rfl, rfl, rfl, rfl, trivial⟩)⟩ (fun m31 a w hI => ?_)
          obtain ⟨S12, x15, A16, c17, cs18, x20, hl30, le13, up14, hq19, hr21, h⟩ := hI
          obtain _ | m31 := m31
          · rw [kdf_Derive_l0] at hl30; cases hl30
          rw [kdf_Derive_l0] at hl30
          refine c_rs ?_
          refine sX h (x_bin h.k rfl rfl rfl ib_lss) (fun a h => ?_)
          refine l_end ?_
          refine c_cs h rfl (fun hb => ?_) (fun hb => ?_)
          · rw [if_pos (of_decide_eq_true hb)] at hl30
            refine wp_skip ?_
            refine e_thenN ?_
            refine wp_seq ?_
            refine wp_block ?_
            refine c_rs ?_
            obtain ⟨x33, h37, hl30⟩ := bsome hl30
            obtain ⟨m34, hi38, hm39, hx40⟩ := idx_some h37
            obtain ⟨b35, off36, k41, hA42, hu43, hc44⟩ := ((hsa3.mono le13)).at1 rfl hx40 (h.m.snOK (i := 1) rfl)
            obtain ⟨A45, c46, e48, hs47⟩ := hu43
            cases e48
            refine sX h (x_iaddrE h.k rfl Try.underlying24 sz_Suint8 hA42 rfl rfl hi38 hm39) (fun a h => ?_)
            refine sX h (x_ld h.k rfl Try.underlying22 rfl rfl (hc44 _ (h.m.snOK (i := 1) rfl))) (fun a h => ?_)
            refine sAV h (fun a h => ?_)
            refine l_end ?_
            refine c_r ?_
            refine sMV h (fun a h => ?_)
            refine sMV h (fun a h => ?_)
            refine sX h (x_len h.k rfl Try.underlying22 rfl) (fun a h => ?_)
            obtain ⟨x49, h50, hl30⟩ := bsome hl30
            have hX := kdf_Number_ok Fu (S0 := snapAll _) (x33.length : Int) (len_r (hs47).len) _ h50 _ h.startAll
            refine q_callX hX h rfl rfl rfl (by decide) Try.func46 rfl rfl rfl (fun a w v L1 S1 hR hb1 h => ?_)
            obtain ⟨A52, c53, cs54, rfl, rfl, hq55, _⟩ := hR
            have hq56 := hq55.fl (S' := S12) fl_8
            refine sMV h (fun a h => ?_)
            have h := h.pick [0, 2, 1] (by decide) rfl
            obtain ⟨S57, le58, up59, hs60, h⟩ := q_freeze (T := ty8) h up14 hq56
            refine q_bslice (T := tyL ty8) (S := S57) h rfl rfl rfl (by decide) Try.underlying24 zi_Suint8 (by decide) (by decide) (by decide) (by decide) [.slice A52 x49.length c53, .slice A45 x33.length c46] rfl rfl (C := [[.slice A52 x49.length c53], [.slice A45 x33.length c46]]) rfl (xs := [x49, x33]) ⟨[.slice A52 x49.length c53], _, rfl, ⟨_, _, rfl, hs60⟩, ⟨[.slice A45 x33.length c46], _, rfl, ⟨_, _, rfl, (hs47.mono le58)⟩, rfl⟩⟩ (by simp only [List.mem_cons, List.not_mem_nil, or_false]; rintro c (rfl | rfl) <;> rfl) (fun a w A61 h => ?_)
            have hb62 : reps (tyL ty8) S57 ([[.slice A52 x49.length c53], [.slice A45 x33.length c46]] : List (List Value)).flatten [x49, x33] := ⟨[.slice A52 x49.length c53], _, rfl, ⟨_, _, rfl, hs60⟩, ⟨[.slice A45 x33.length c46], _, rfl, ⟨_, _, rfl, (hs47.mono le58)⟩, rfl⟩⟩
            obtain ⟨x63, h64, hl30⟩ := bsome hl30
            refine q_append (T := tyL ty8) (S := S57) h rfl rfl rfl (by decide) Try.underlying24 zb_Suint8 rfl (by decide) rfl 2 rfl (hq19.mono le58) rfl hb62 (h.m.rdRowA (i := 0) rfl) h64 (fun a w A65 c66 cs67 hq68 h => ?_)
            refine sAV h (fun a h => ?_)
            refine l_nil ?_
            refine e_blkN ?_
            refine e_thenN ?_
            refine c_r ?_
            refine sX h (x_bin h.k rfl rfl rfl (ib_add rfl)) (fun a h => ?_)
            refine sMV h (fun a h => ?_)
            refine l_nil ?_
            have h := h.pick [2, 1] (by decide) rfl
            exact e_thenN ⟨m31, Nat.lt_succ_self _, S57, x63, A65, c66, cs67, w64 (x20 + 1), hl30, (le13.trans le58), up59, hq68, (w64_r _), h.has (by exact ⟨rfl, rfl, rfl, rfl, rfl, rfl, rfl, trivial⟩)⟩
          · rw [if_neg (of_decide_eq_false hb)] at hl30
            refine wp_exit ?_
            refine e_thenX ?_
            refine e_thenX ?_
            refine e_blkX ?_
            refine e_thenN ?_
            exact ⟨S12, x15, A16, c17, cs18, (Option.some.inj hl30), le13, up14, hq19, h.has (by exact ⟨rfl, rfl, rfl, rfl, trivial⟩)⟩
        · rintro a w ⟨S22, x25, A26, c27, cs28, rfl, le23, up24, hq29, h⟩
          refine e_thenN ?_
          refine c_rs ?_
          refine sMV h (fun a h => ?_)
          obtain ⟨x69, h70, hf⟩ := bsome hf
          have hX := word_Put_ok Fu (S0 := snapAll _) a2 hra2 2 (show r64 2 from ⟨by decide, by decide⟩) _ h70 _ h.startAll
          refine q_callX hX h rfl rfl rfl (by decide) Try.func63 rfl rfl rfl (fun a w v L1 S1 hR hb1 h => ?_)
          obtain ⟨A72, c73, cs74, rfl, rfl, hq75, hr76, _⟩ := hR
          have hq77 := hq75.fl (S' := S22) fl_8
          refine sMV h (fun a h => ?_)
          refine sX h (x_ext h.k rfl rfl rfl) (fun a h => ?_)
          refine sX h (x_ext h.k rfl rfl rfl) (fun a h => ?_)
          refine sAV h (fun a h => ?_)
          refine sAV h (fun a h => ?_)
          refine l_end ?_
          refine c_rs ?_
          refine sMV h (fun a h => ?_)
          refine sMV h (fun a h => ?_)
          have h := h.pick [0, 2, 1] (by decide) rfl
          obtain ⟨S78, le79, up80, hs81, h⟩ := q_freeze (T := ty8) h up24 hq77
          refine q_bslice (T := tyL ty8) (S := S78) h rfl rfl rfl (by decide) Try.underlying24 zi_Suint8 (by decide) (by decide) (by decide) (by decide) [.slice A72 x69.1.length c73] rfl rfl (C := [[.slice A72 x69.1.length c73]]) rfl (xs := [x69.1]) ⟨[.slice A72 x69.1.length c73], _, rfl, ⟨_, _, rfl, hs81⟩, rfl⟩ (by intro c hc; simp only [List.mem_cons, List.not_mem_nil, or_false] at hc; subst hc; rfl) (fun a w A82 h => ?_)
          have hb83 : reps (tyL ty8) S78 ([[.slice A72 x69.1.length c73]] : List (List Value)).flatten [x69.1] := ⟨[.slice A72 x69.1.length c73], _, rfl, ⟨_, _, rfl, hs81⟩, rfl⟩
          obtain ⟨x84, h85, hf⟩ := bsome hf
          refine q_append (T := tyL ty8) (S := S78) h rfl rfl rfl (by decide) Try.underlying24 zb_Suint8 rfl (by decide) rfl 2 rfl (hq29.mono le79) rfl hb83 (h.m.rdRowA (i := 0) rfl) h85 (fun a w A86 c87 cs88 hq89 h => ?_)
          refine sAV h (fun a h => ?_)
          refine l_end ?_
          refine c_rs ?_
          refine sAV h (fun a h => ?_)
          refine l_end ?_
          refine wp_seq ?_
          refine c_rs ?_
          refine sAV h (fun a h => ?_)
          refine l_end ?_
          obtain ⟨o90, hl91, hf⟩ := bsome hf
          refine c_fin (fun a w => ∃ (S101 : Snap), ∃ (x104 : List UInt8), ∃ (A105 : Option Addr), ∃ (c106 : Nat), ∃ (cs107 : List Value), x104 = o90 ∧ Snap.le S78 S101 ∧ Up (ownL ([] ++ [.sn S0])) w0 S0 S101 ∧ reps ty8 S101 cs107 x104 ∧ St 87 w0 (ownL ([] ++ [.sn S0])) [(2, .int .i64 a2), (15, .slice A105 x104.length c106)] [.row (.slice A105 x104.length c106) 5 1 x104.length cs107, .sn S101] a w) ?_ ?_
          · refine wp_block ?_
            have h := h.mem (h.m.nilrow 5 1)
            have h := h.pick [3, 0, 2] (by decide) rfl
            refine c_loop (fun m110 a w => ∃ (S92 : Snap), ∃ (x95 : List UInt8), ∃ (A96 : Option Addr), ∃ (c97 : Nat), ∃ (cs98 : List Value), ∃ (x100 : UInt8), kdf_Derive_l1 Fu a0 a1 a2 x84 m110 x95 x100 = some o90 ∧ Snap.le S78 S92 ∧ Up (ownL ([] ++ [.sn S0])) w0 S0 S92 ∧ reps ty8 S92 cs98 x95 ∧ St 87 w0 (ownL ([] ++ [.sn S0])) [(0, .slice Aa0 a0.length ca0), (1, .string (sb a1)), (2, .int .i64 a2), (10, .slice A86 x84.length c87), (15, .slice A96 x95.length c97), (16, .int .u8 (x100.toNat : Int))] [.row (.slice A86 x84.length c87) 22 1 x84.length cs88, .row (.slice A96 x95.length c97) 5 1 x95.length cs98, .sn S92] a w) Fu ⟨S78, [], none, 0, [], (1 : UInt8), hl91, (Snap.le.refl _), up80, (show reps ty8 S78 [] [] from rfl), h.has (by exact ⟨rfl, rfl, rfl, rfl, rfl, rfl, trivial⟩)⟩ (fun m110 a w hI => ?_)
            obtain ⟨S92, x95, A96, c97, cs98, x100, hl109, le93, up94, hq99, h⟩ := hI
            obtain _ | m110 := m110
            · rw [kdf_Derive_l1] at hl109; cases hl109
            rw [kdf_Derive_l1] at hl109
            refine wp_seq ?_
            refine c_rs ?_
            refine sMV h (fun a h => ?_)
            have hr112 : r64 (x95.length : Int) := len_r (h.m.rowLen (i := 1) rfl)
            refine sX h (x_len h.k rfl Try.underlying22 rfl) (fun a h => ?_)
            refine sMV h (fun a h => ?_)
            refine sX h (x_bin h.k rfl rfl rfl ib_lss) (fun a h => ?_)
            refine l_end ?_
            refine c_cond h rfl (fun hb => ?_) (fun hb => ?_)
            · rw [if_pos (of_decide_eq_true hb)] at hl109
              refine wp_skip ?_
              refine e_thenN ?_
              refine wp_seq ?_
              refine wp_block ?_
              refine c_rs ?_
              refine sMV h (fun a h => ?_)
              refine q_bslice (T := ty8) (S := S92) h rfl rfl rfl (by decide) Try.underlying22 zi_uint8 (by decide) (by decide) (by decide) (by decide) [.int .u8 (x100.toNat : Int)] rfl rfl (C := [[.int .u8 (x100.toNat : Int)]]) rfl (xs := [x100]) ⟨[.int .u8 (x100.toNat : Int)], _, rfl, rfl, rfl⟩ (by intro c hc; simp only [List.mem_cons, List.not_mem_nil, or_false] at hc; subst hc; rfl) (fun a w A113 h => ?_)
              have hb114 : reps ty8 S92 ([[.int .u8 (x100.toNat : Int)]] : List (List Value)).flatten [x100] := ⟨[.int .u8 (x100.toNat : Int)], _, rfl, rfl, rfl⟩
              refine sMV h (fun a h => ?_)
              obtain ⟨x115, h116, hl109⟩ := bsome hl109
              refine q_appendStr (S := S92) h rfl rfl rfl (by decide) Try.underlying22 Try.underlying9 zb_uint8 rfl 0 rfl hb114 rfl h116 (fun a w A117 c118 cs119 hq120 h => ?_)
              refine sAV h (fun a h => ?_)
              refine l_end ?_
              refine c_rs ?_
              refine sMV h (fun a h => ?_)
              refine sMV h (fun a h => ?_)
              refine q_bslice (T := ty8) (S := S92) h rfl rfl rfl (by decide) Try.underlying22 zi_uint8 (by decide) (by decide) (by decide) (by decide) [.int .u8 0] rfl rfl (C := [[.int .u8 0]]) rfl (xs := [(0 : UInt8)]) ⟨[.int .u8 0], _, rfl, rfl, rfl⟩ (by intro c hc; simp only [List.mem_cons, List.not_mem_nil, or_false] at hc; subst hc; rfl) (fun a w A121 h => ?_)
              have hb122 : reps ty8 S92 ([[.int .u8 0]] : List (List Value)).flatten [(0 : UInt8)] := ⟨[.int .u8 0], _, rfl, rfl, rfl⟩
              obtain ⟨x123, h124, hl109⟩ := bsome hl109
              refine q_append (T := ty8) (S := S92) h rfl rfl rfl (by decide) Try.underlying22 zb_uint8 rfl (by decide) rfl 1 rfl hq120 rfl hb122 (h.m.rdRowA (i := 0) rfl) h124 (fun a w A125 c126 cs127 hq128 h => ?_)
              have h := h.pick [1, 4, 0, 2, 3] (by decide) rfl
              obtain ⟨S129, le130, up131, hs132, h⟩ := q_freeze (T := ty8) h up94 hq128
              refine q_bslice (T := tyL ty8) (S := S129) h rfl rfl rfl (by decide) Try.underlying24 zi_Suint8 (by decide) (by decide) (by decide) (by decide) [.slice A125 x123.length c126] rfl rfl (C := [[.slice A125 x123.length c126]]) rfl (xs := [x123]) ⟨[.slice A125 x123.length c126], _, rfl, ⟨_, _, rfl, hs132⟩, rfl⟩ (by intro c hc; simp only [List.mem_cons, List.not_mem_nil, or_false] at hc; subst hc; rfl) (fun a w A133 h => ?_)
              have hb134 : reps (tyL ty8) S129 ([[.slice A125 x123.length c126]] : List (List Value)).flatten [x123] := ⟨[.slice A125 x123.length c126], _, rfl, ⟨_, _, rfl, hs132⟩, rfl⟩
              refine sMV h (fun a h => ?_)
              obtain ⟨x135, h136, hl109⟩ := bsome hl109
              refine q_append (T := tyL ty8) (S := S129) h rfl rfl rfl (by decide) Try.underlying24 zb_Suint8 rfl (by decide) rfl 0 rfl hb134 rfl (hq89.mono (le93.trans le130)) (h.m.rdRowA (i := 3) rfl) h136 (fun a w A137 c138 cs139 hq140 h => ?_)
              obtain ⟨x141, h142, hl109⟩ := bsome hl109
              have hX := hmac_Tag_ok Fu (S0 := snapAll _) Aa0 ca0 a0 ((hsa0.mono (((le23.trans le79).trans le93).trans le130)).mono (h.m.leAll (i := 1) rfl)) A137 c138 x135 (h.m.rowAll (i := 0) rfl (j := 1) rfl hq140) _ h142 _ h.startAll
              refine q_callX hX h rfl rfl rfl (by decide) Try.func64 rfl rfl rfl (fun a w v L1 S1 hR hb1 h => ?_)
              obtain ⟨k144, rfl, rfl, hv145, _⟩ := hR
              obtain ⟨hs146, hl147⟩ := hv145
              have hq148 := hs146.fl (S' := S129) fl_8
              refine s_alloc h rfl rfl rfl (by decide) zi_A32_uint8 rfl (fun a w g149 h => ?_)
              refine s_stW h rfl rfl rfl ag_A32_uint8 rfl (es := k144) rfl ((hq148).len.trans (by rw [hl147]; rfl)) (hq148).one 0 rfl (by first | rfl | simp_all) (fun a w h => ?_)
              refine l_end ?_
              refine c_r ?_
              refine sMV h (fun a h => ?_)
              obtain ⟨y150, h151, hl109⟩ := bsome hl109
              obtain ⟨hi152, hi153, hm154, hm155⟩ := bnd_some h151
              obtain ⟨n156, hn157⟩ : ∃ n, y150.2 - y150.1 = n := ⟨_, rfl⟩
              refine sX h (x_viewB h.k rfl Try.underlying84 sz_uint8 rfl (bd_none (by omega)) (bd_none (by omega)) hm154 hm155 hn157) (fun a h => ?_)
              have h := h.pick [0, 2, 1, 3, 4, 5] (by decide) rfl
              obtain ⟨S159, le160, up161, hc162, h⟩ := q_freezeBox h up131
              obtain rfl : n156 = ((x141.take y150.2).drop y150.1).length := cut_len (by have := hm155; have := hl147; omega) hn157
              have hs163 := slS_vA (T := ty8) hc162 (hq148.mono le160) rfl hl147 (by decide) hm154 hm155
              have hf164 : 32 - y150.1 ≤ ((x141.take y150.2).drop y150.1).length := by have := hl147; have := hi153; simp only [List.length_drop, List.length_take]; omega
              obtain ⟨x165, h166, hl109⟩ := bsome hl109
              obtain ⟨_, _, vs167, hrd168, hrp169⟩ := id hs163
              refine q_append (T := ty8) (S := S159) h rfl rfl rfl (by decide) Try.underlying22 zb_uint8 rfl (by decide) rfl 4 rfl (hq99.mono (le130.trans le160)) rfl hrp169 (hrd168 _ (h.m.snOK (i := 0) rfl)) h166 (fun a w A170 c171 cs172 hq173 h => ?_)
              refine sAV h (fun a h => ?_)
              refine l_nil ?_
              refine e_blkN ?_
              refine e_thenN ?_
              refine c_r ?_
              refine sMV h (fun a h => ?_)
              refine sX h (x_bin h.k rfl rfl rfl (ib_add (u8_add x100 (1 : UInt8)))) (fun a h => ?_)
              refine sAV h (fun a h => ?_)
              refine l_nil ?_
              have h := h.pick [3, 4, 0] (by decide) rfl
              exact e_thenN ⟨m110, Nat.lt_succ_self _, S159, x165, A170, c171, cs172, (x100 + (1 : UInt8)), hl109, ((le93.trans le130).trans le160), up161, hq173, h.has (by exact ⟨rfl, rfl, rfl, rfl, rfl, rfl, trivial⟩)⟩
            · rw [if_neg (of_decide_eq_false hb)] at hl109
              refine wp_exit ?_
              refine e_thenX ?_
              refine e_thenX ?_
              refine e_blkX ?_
              refine e_thenN ?_
              have h := h.pick [1, 2] (by decide) rfl
              exact ⟨S92, x95, A96, c97, cs98, (Option.some.inj hl109), le93, up94, hq99, h.has (by exact ⟨rfl, rfl, trivial⟩)⟩
          · rintro a w ⟨S101, x104, A105, c106, cs107, rfl, le102, up103, hq108, h⟩
            refine e_thenN ?_
            refine c_rs ?_
            refine sMV h (fun a h => ?_)
            refine sMV h (fun a h => ?_)
            refine sMV h (fun a h => ?_)
            obtain ⟨S174, le175, up176, hs177, h⟩ := q_freeze (T := ty8) h up103 hq108
            obtain ⟨x178, h179, hf⟩ := bsome hf
            obtain ⟨m180, n181, hi182, hi183, hm184, hm185, hr186⟩ := sub_some h179
            have hs187 := slS.sub (hs177) hm184 hm185 (Nat.le_refl _) (Nat.le_trans hm185 (hs177).1) hr186
            refine sX h (x_sliceE h.k rfl Try.underlying22 sz_uint8 rfl n181 hr186 (bd_none (by omega)) (bd_some rfl hi183) (bd_some rfl hi183) (by intro hh; cases hh) hm184 hm185 (Nat.le_refl _) (Nat.le_trans hm185 (hs177).1)) (fun a h => ?_)
            refine sAV h (fun a h => ?_)
            refine sAV h (fun a h => ?_)
            refine l_end ?_
            refine wp_ret ?_
            obtain rfl := Option.some.inj hf
            exact r_ret2 h rfl (rv_tmp h rfl) (rv_tmp h rfl) ⟨_, [], _, rfl, ⟨(sA A105 n181 m180 1), (n181 - m180), rfl, rfl, hs187, (show r64 0 from ⟨by decide, by decide⟩), trivial⟩, rfl, up176, h.m⟩
end Go.Proofs.Ytohgmggdfmjgnaa
