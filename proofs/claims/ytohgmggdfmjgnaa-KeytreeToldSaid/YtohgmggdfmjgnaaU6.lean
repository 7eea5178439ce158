/- Texts put together. -/
import Derived.Test.YtohgmggdfmjgnaaEa
import Derived.Test.YtohgmggdfmjgnaaPs
import Derived.Test.YtohgmggdfmjgnaaOpen
import Derived.Test.YtohgmggdfmjgnaaPx
import Derived.Test.YtohgmggdfmjgnaaK
set_option linter.unusedVariables false
set_option linter.unusedSimpArgs false
namespace Go.Proofs.Ytohgmggdfmjgnaa
open Go.RowKit
section
def chatelaineref01_Same_l0 (Fu : Nat) (a0 : List UInt8) (a1 : List UInt8) : Nat → Int → Option (Sum Bool Unit)
  | 0, _ => none
  | k + 1, x3 => if x3 < (a0.length : Int) then ((idx a0 x3).bind fun x7 => (idx a1 x3).bind fun x19 => if (x7.toNat : Int) ≠ (x19.toNat : Int) then (some (.inl false)) else (chatelaineref01_Same_l0 Fu a0 a1 k (w64 (x3 + 1)))) else (some (.inr ()))
def chatelaineref01_Same (Fu : Nat) (a0 : List UInt8) (a1 : List UInt8) : Option Bool :=
  if (a0.length : Int) ≠ (a1.length : Int) then (some false) else ((chatelaineref01_Same_l0 Fu a0 a1 Fu 0).bind fun o => match o with | .inl r31 => some r31 | .inr _ => some true)
set_option maxRecDepth 100000 in
set_option maxHeartbeats 2000000 in
theorem chatelaineref01_Same_ok (Fu : Nat) {S0 : Snap} (Aa0 : Option Addr) (ca0 : Nat) (a0 : List UInt8) (hsa0 : slS ty8 S0 Aa0 ca0 a0) (Aa1 : Option Addr) (ca1 : Nat) (a1 : List UInt8) (hsa1 : slS ty8 S0 Aa1 ca1 a1) (r : Bool) (hf : chatelaineref01_Same Fu a0 a1 = some r) (w0 : World) (hm : Mem w0 (ownL ([] ++ [.sn S0])) ([] ++ [.sn S0]) w0) :
    Calls Try.prog 13 #[.slice Aa0 a0.length ca0, .slice Aa1 a1.length ca1] w0 (Ret w0 S0 [] (fun v L1 S1 => v = .bool r ∧ L1 = [] ∧ True)) := by
  unfold chatelaineref01_Same at hf
  refine c_enterM Try.func13 rfl 26 rfl (by simp) _ hm _ rfl (fun a h => ?_)
  refine c_rs ?_
  refine sAV h (fun a h => ?_)
  refine l_end ?_
  refine wp_seq ?_
  refine c_rs ?_
  refine sMV h (fun a h => ?_)
  refine sX h (x_len h.k rfl Try.underlying22 rfl) (fun a h => ?_)
  refine sMV h (fun a h => ?_)
  refine sX h (x_len h.k rfl Try.underlying22 rfl) (fun a h => ?_)
  refine sX h (x_bin h.k rfl rfl rfl ib_neq) (fun a h => ?_)
  refine l_end ?_
  refine c_cond h rfl (fun hb => ?_) (fun hb => ?_)
  · rw [if_pos (of_decide_eq_true hb)] at hf
    refine c_rs ?_
    refine sAV h (fun a h => ?_)
    refine l_end ?_
    refine wp_ret ?_
    refine e_thenR ?_
    rw [← Option.some.inj hf]
    exact r_ret1 h rfl (rv_tmp h rfl) ⟨_, [], _, rfl, ⟨rfl, rfl, trivial⟩, rfl, (Up.refl _ _ _), h.m⟩
  · rw [if_neg (of_decide_eq_false hb)] at hf
    refine wp_skip ?_
    refine e_thenN ?_
    refine wp_seq ?_
    refine c_rs ?_
    refine sAV h (fun a h => ?_)
    refine l_end ?_
    obtain ⟨o1, hl2, hf⟩ := bsome hf
    refine c_fin (fun a w => (.inr ()) = o1 ∧ St 26 w0 (ownL ([] ++ [.sn S0])) [] [.sn S0] a w) ?_ ?_
    · refine wp_block ?_
      refine c_loop (fun m6 a w => ∃ (x3 : Int), chatelaineref01_Same_l0 Fu a0 a1 m6 x3 = some o1 ∧ r64 x3 ∧ St 26 w0 (ownL ([] ++ [.sn S0])) [(0, .slice Aa0 a0.length ca0), (1, .slice Aa1 a1.length ca1), (5, .int .i64 x3)] [.sn S0] a w) Fu ⟨0, hl2, (show r64 0 from ⟨by decide, by decide⟩), h.has (by exact ⟨rfl, rfl, rfl, trivial⟩)⟩ (fun m6 a w hI => ?_)
      obtain ⟨x3, hl5, hr4, h⟩ := hI
      obtain _ | m6 := m6
      · rw [chatelaineref01_Same_l0] at hl5; cases hl5
      rw [chatelaineref01_Same_l0] at hl5
      refine wp_seq ?_
      refine c_rs ?_
      refine sMV h (fun a h => ?_)
      refine sMV h (fun a h => ?_)
      refine sX h (x_len h.k rfl Try.underlying22 rfl) (fun a h => ?_)
      refine sX h (x_bin h.k rfl rfl rfl ib_lss) (fun a h => ?_)
      refine l_end ?_
      refine c_cond h rfl (fun hb => ?_) (fun hb => ?_)
      · rw [if_pos (of_decide_eq_true hb)] at hl5
        refine wp_skip ?_
        refine e_thenN ?_
        refine wp_seq ?_
        refine wp_block ?_
        refine wp_seq ?_
        -- region 6 draws
        obtain ⟨x7, h11, hl5⟩ := bsome hl5
        obtain ⟨x19, h23, hl5⟩ := bsome hl5
        refine d_start h (Mem _ _ _) 9 9 rfl (by kernel_rfl) (fun _ _ _ _ _ h => h) (fun _ h => h) (fun Q a w HE HN h HS => ?_)
        refine d_takeP h (fun _ => HS) HN 0 rfl (by kernel_rfl) (by kernel_rfl) (by kernel_rfl) (by decide) rfl rfl (by decide) (fun w' => x_move h.k _ rfl rfl) (fun a h => ?_)
        refine d_takeP h (fun _ => HS) HN 1 rfl (by kernel_rfl) (by kernel_rfl) (by kernel_rfl) (by decide) rfl rfl (by decide) (fun w' => x_move h.k _ rfl rfl) (fun a h => ?_)
        obtain ⟨m8, hi12, hm13, hx14⟩ := idx_some h11
        obtain ⟨b9, off10, k15, hA16, hu17, hc18⟩ := (hsa0).at1 rfl hx14 (h.m.snOK (i := 0) rfl)
        cases hu17
        refine d_takeP h (fun _ => HS) HN 2 rfl (by kernel_rfl) (by kernel_rfl) (by kernel_rfl) (by decide) rfl rfl (by decide) (fun w' => x_iaddrE h.k rfl Try.underlying22 sz_uint8 hA16 rfl rfl hi12 hm13) (fun a h => ?_)
        refine d_take h HS HN 3 rfl (by kernel_rfl) (by kernel_rfl) (by kernel_rfl) (by kernel_rfl) (by kernel_rfl) rfl rfl (by decide) (fun w' hw => x_ld h.k rfl Try.underlying5 rfl rfl (hc18 _ (hw.snOK (i := 0) rfl))) (fun a h => ?_)
        refine d_takeP h (fun _ => HS) HN 4 rfl (by kernel_rfl) (by kernel_rfl) (by kernel_rfl) (by decide) rfl rfl (by decide) (fun w' => x_move h.k _ rfl rfl) (fun a h => ?_)
        refine d_takeP h (fun _ => HS) HN 5 rfl (by kernel_rfl) (by kernel_rfl) (by kernel_rfl) (by decide) rfl rfl (by decide) (fun w' => x_move h.k _ rfl rfl) (fun a h => ?_)
        obtain ⟨m20, hi24, hm25, hx26⟩ := idx_some h23
        obtain ⟨b21, off22, k27, hA28, hu29, hc30⟩ := (hsa1).at1 rfl hx26 (h.m.snOK (i := 0) rfl)
        cases hu29
        refine d_takeP h (fun _ => HS) HN 6 rfl (by kernel_rfl) (by kernel_rfl) (by kernel_rfl) (by decide) rfl rfl (by decide) (fun w' => x_iaddrE h.k rfl Try.underlying22 sz_uint8 hA28 rfl rfl hi24 hm25) (fun a h => ?_)
        refine d_take h HS HN 7 rfl (by kernel_rfl) (by kernel_rfl) (by kernel_rfl) (by kernel_rfl) (by kernel_rfl) rfl rfl (by decide) (fun w' hw => x_ld h.k rfl Try.underlying5 rfl rfl (hc30 _ (hw.snOK (i := 0) rfl))) (fun a h => ?_)
        refine d_takeP h (fun _ => HS) HN 8 rfl (by kernel_rfl) (by kernel_rfl) (by kernel_rfl) (by decide) rfl rfl (by decide) (fun w' => x_bin h.k rfl rfl rfl ib_neq) (fun a h => ?_)
        refine d_done (by kernel_rfl) (HE _ _ ?_) _
        refine e_thenN ?_
        refine c_cond h rfl (fun hb => ?_) (fun hb => ?_)
        · rw [if_pos (of_decide_eq_true hb)] at hl5
          refine c_rs ?_
          refine sAV h (fun a h => ?_)
          refine l_end ?_
          refine wp_ret ?_
          refine e_blkR ?_
          refine e_thenR ?_
          refine e_thenR ?_
          refine e_blkR ?_
          refine e_thenR ?_
          cases hl5
          try dsimp only at hf
          refine e_thenR ?_
          rw [← Option.some.inj hf]
          exact r_ret1 h rfl (rv_tmp h rfl) ⟨_, [], _, rfl, ⟨rfl, rfl, trivial⟩, rfl, (Up.refl _ _ _), h.m⟩
        · rw [if_neg (of_decide_eq_false hb)] at hl5
          refine wp_skip ?_
          refine e_blkN ?_
          refine e_thenN ?_
          refine c_r ?_
          refine sMV h (fun a h => ?_)
          refine sX h (x_bin h.k rfl rfl rfl (ib_add rfl)) (fun a h => ?_)
          refine sAV h (fun a h => ?_)
          refine l_nil ?_
          exact e_thenN ⟨m6, Nat.lt_succ_self _, w64 (x3 + 1), hl5, (w64_r _), h.has (by exact ⟨rfl, rfl, rfl, trivial⟩)⟩
      · rw [if_neg (of_decide_eq_false hb)] at hl5
        refine wp_exit ?_
        refine e_thenX ?_
        refine e_thenX ?_
        refine e_blkX ?_
        refine e_thenN ?_
        exact ⟨(Option.some.inj hl5), h.has trivial⟩
    · rintro a w ⟨rfl, h⟩
      try dsimp only at hf
      refine e_thenN ?_
      refine c_rs ?_
      refine sAV h (fun a h => ?_)
      refine l_end ?_
      refine wp_ret ?_
      rw [← Option.some.inj hf]
      exact r_ret1 h rfl (rv_tmp h rfl) ⟨_, [], _, rfl, ⟨rfl, rfl, trivial⟩, rfl, (Up.refl _ _ _), h.m⟩
end
section
def ty16 : Ty UInt16 := ⟨1, fun _ cs n => cs = [.int .u16 (n.toNat : Int)], fun _ h => h, fun h => by rw [h]; rfl, fun h u hu => by rw [h] at hu; simp at hu; subst hu; rfl⟩
theorem u16_r (x : UInt16) : r64 (x.toNat : Int) := by have := x.toNat_lt; unfold r64; omega
def Kn.u16 : Kn UInt16 := ⟨1, fun _ b cs => cs = [.int .u16 (b.toNat : Int)], fun _ h => h, fun h => by rw [h]; rfl⟩
theorem u16_wf {n : Int} (h : (Lit.int .u16 n).wf = true) : ∃ x : UInt16, n = (x.toNat : Int) := by
  simp [Lit.wf, IntKind.min, IntKind.max, IntKind.bits, IntKind.signed] at h
  refine ⟨UInt16.ofNat n.toNat, ?_⟩
  rw [UInt16.toNat_ofNat', Nat.mod_eq_of_lt (by omega)]
  omega
theorem Opens.u16 {P : Program} {t : TypeId} (ht : P.underlying t = some (.int .u16)) : Opens P t Kn.u16 := by
  intro H enc w spare held fuel cs y h
  obtain ⟨n, rfl, rfl, hw⟩ := DataW.trod_int ht h
  obtain ⟨x, rfl⟩ := u16_wf hw
  exact ⟨x, rfl⟩
theorem kt_16 : KT Kn.u16 ty16 id := fun h => h
end
end Go.Proofs.Ytohgmggdfmjgnaa
