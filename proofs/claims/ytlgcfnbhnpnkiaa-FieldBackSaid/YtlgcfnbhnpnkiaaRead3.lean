/- The readers of the package field: bytes as they are; done; none. -/
import Derived.Test.YtlgcfnbhnpnkiaaRead2
set_option linter.unusedVariables false
set_option linter.unusedSimpArgs false
namespace Go.Proofs.Ytlgcfnbhnpnkiaa
open Go.RowKit
def negR (n : Int) (s : RSt) : RSt := if n < 0 then failR 2 s else s
def fixR (n : Int) (s : RSt) : RSt := takeR n (negR n s)
def fixV (n : Int) (s : RSt) : List UInt8 := takeV n (negR n s)
theorem chg_new {w0 w w' : World} {F : Nat → Prop} (h : Chg w0 w F) (k : Below w.heap.size w w') : Chg w0 w' F := h.trans (Chg.of_below k (fun _ => False)) (fun k hk => hk.elim)
theorem rdfix_ok (w : World) (g : Nat) (s : RSt) (n : Int) (h : RO w g s) (hm : s.2.length ≤ 140737488355328) :
    Calls Try.prog 56 #[.pointer (some ⟨g, 0, none⟩), .int .i64 n] w fun e w' => ∃ v, e = .returned v ∧ w'.ownsRow w.heap.size 5 1 v (fixV n s).length (by8 (fixV n s)) ∧ RO w' g (fixR n s) ∧ Chg w w' (fun k => k = g) := by
  have H := hid h
  have HM := hid hm
  clear h hm
  go_enter Try.func56, Try.ntmps56
  go_wp2_with fail
  refine (rmade_ok w g s H.out).mono ?_
  rintro e w1 ⟨rfl, rfl⟩
  by_cases hn : n < 0
  · have g1 : decide (n < 0) = true := decide_eq_true hn
    have HS : Hid (negR n s = failR 2 s) := hid (by simp [negR, hn])
    clear hn
    go_wp2_with fail
    refine (rfail_ok w1 g s 2 H.out).mono ?_
    rintro e w2 ⟨rfl, hr2, hk2⟩
    rw [← HS.out] at hr2
    have HR2 := hid hr2
    have HK2 := hid hk2
    clear hr2 hk2
    go_wp2_with fail
    refine (rtake_ok w2 g (negR n s) n HR2.out).mono ?_
    rintro e w3 ⟨v, rfl, hv, hr3, hk3⟩
    obtain ⟨A, c, rfl, hvc, hvm, hvr⟩ := hv
    have hl := takeV_len n (negR n s)
    have hl2 : (negR n s).2.length = s.2.length := by simp [negR, failR]; split <;> rfl
    have HR3 := hid hr3
    have HK3 := hid hk3
    have HV := hid hvr
    have HL : Hid ((takeV n (negR n s)).length ≤ 140737488355328) := hid (by have := HM.out; omega)
    clear hr3 hk3 hvr hl hl2
    go_wp2_with fail
    refine (clone_ok w3 A (takeV n (negR n s)) c HV.out hvc HL.out).mono ?_
    rintro e w4 ⟨v, rfl, hb4, hown⟩
    go_wp2_with fail
    go_ret
    have hk : Chg w1 w3 (fun k => k = g) := HK2.out.trans HK3.out (fun k hk => .inl hk)
    exact ⟨v, rfl, own_lower hown hk.size, HR3.out.below hb4, chg_new hk hb4⟩
  · have g1 : decide (n < 0) = false := decide_eq_false hn
    have HS : Hid (negR n s = s) := hid (by simp [negR, hn])
    clear hn
    go_wp2_with fail
    refine (rtake_ok w1 g (negR n s) n (by rw [HS.out]; exact H.out)).mono ?_
    rintro e w3 ⟨v, rfl, hv, hr3, hk3⟩
    obtain ⟨A, c, rfl, hvc, hvm, hvr⟩ := hv
    have hl := takeV_len n (negR n s)
    have hl2 : (negR n s).2.length = s.2.length := by simp [negR, failR]; split <;> rfl
    have HR3 := hid hr3
    have HK3 := hid hk3
    have HV := hid hvr
    have HL : Hid ((takeV n (negR n s)).length ≤ 140737488355328) := hid (by have := HM.out; omega)
    clear hr3 hk3 hvr hl hl2
    go_wp2_with fail
    refine (clone_ok w3 A (takeV n (negR n s)) c HV.out hvc HL.out).mono ?_
    rintro e w4 ⟨v, rfl, hb4, hown⟩
    go_wp2_with fail
    go_ret
    exact ⟨v, rfl, own_lower hown HK3.out.size, HR3.out.below hb4, chg_new HK3.out hb4⟩
def bytesMost (most : Int) : Int := if most ≤ 65535 then most else 65535
def bytR (most : Int) (s : RSt) : RSt := fixR (numV 2 (bytesMost most) s) (numR 2 (bytesMost most) s)
def bytV (most : Int) (s : RSt) : List UInt8 := fixV (numV 2 (bytesMost most) s) (numR 2 (bytesMost most) s)
theorem takeR_len (n : Int) (s : RSt) : (takeR n s).2.length ≤ s.2.length := by
  unfold takeR; split
  · split
    · simp
    · exact Nat.le_refl _
  · exact Nat.le_refl _
theorem numR_len (z most : Int) (s : RSt) : (numR z most s).2.length ≤ s.2.length := by
  have h1 := takeR_len z (sizeR z s)
  have h2 : (sizeR z s).2.length = s.2.length := by unfold sizeR failR; split <;> rfl
  unfold numR
  split
  · split
    · simp only [failR]; omega
    · omega
  · omega
theorem rdbytes_ok (w : World) (g : Nat) (s : RSt) (most : Int) (h : RO w g s) (hm : s.2.length ≤ 140737488355328) :
    Calls Try.prog 55 #[.pointer (some ⟨g, 0, none⟩), .int .i64 most] w fun e w' => ∃ v, e = .returned v ∧ w'.ownsRow w.heap.size 5 1 v (bytV most s).length (by8 (bytV most s)) ∧ RO w' g (bytR most s) ∧ Chg w w' (fun k => k = g) := by
  have H := hid h
  have HM := hid hm
  clear h hm
  go_enter Try.func55, Try.ntmps55
  go_wp2_with fail
  refine (rmade_ok w g s H.out).mono ?_
  rintro e w1 ⟨rfl, rfl⟩
  by_cases hmm : most ≤ 65535
  · have HB : Hid (bytesMost most = most) := hid (by simp [bytesMost, hmm])
    go_wp2_with fail
    refine (rdnum_ok w1 g s 2 most H.out).mono ?_
    rintro e w2 ⟨rfl, hr2, hk2⟩
    have HR2 := hid hr2
    have HK2 := hid hk2
    clear hr2 hk2
    go_wp2_with fail
    refine (rdfix_ok w2 g _ _ HR2.out (Nat.le_trans (numR_len 2 most s) HM.out)).mono ?_
    rintro e w3 ⟨v, rfl, hown, hr3, hk3⟩
    have H3 := hid (⟨hown, hr3, hk3⟩ : _ ∧ _ ∧ _)
    clear hown hr3 hk3
    go_wp2_with fail
    go_ret
    refine ⟨v, rfl, ?_, ?_, HK2.out.trans H3.out.2.2 (fun k hk => .inl hk)⟩
    · rw [bytV, HB.out]; exact own_lower H3.out.1 HK2.out.size
    · rw [bytR, HB.out]; exact H3.out.2.1
  · have HB : Hid (bytesMost most = 65535) := hid (by simp [bytesMost, hmm])
    have hmm2 : 65535 < most := by omega
    go_wp2_with fail
    refine (rdnum_ok w1 g s 2 65535 H.out).mono ?_
    rintro e w2 ⟨rfl, hr2, hk2⟩
    have HR2 := hid hr2
    have HK2 := hid hk2
    clear hr2 hk2
    go_wp2_with fail
    refine (rdfix_ok w2 g _ _ HR2.out (Nat.le_trans (numR_len 2 65535 s) HM.out)).mono ?_
    rintro e w3 ⟨v, rfl, hown, hr3, hk3⟩
    have H3 := hid (⟨hown, hr3, hk3⟩ : _ ∧ _ ∧ _)
    clear hown hr3 hk3
    go_wp2_with fail
    go_ret
    refine ⟨v, rfl, ?_, ?_, HK2.out.trans H3.out.2.2 (fun k hk => .inl hk)⟩
    · rw [bytV, HB.out]; exact own_lower H3.out.1 HK2.out.size
    · rw [bytR, HB.out]; exact H3.out.2.1
def doneR (s : RSt) : Int := if s.1 = 0 then (if s.2 = [] then 0 else 13) else s.1
theorem rddone_ok (w : World) (g : Nat) (s : RSt) (h : RO w g s) :
    Calls Try.prog 53 #[.pointer (some ⟨g, 0, none⟩)] w fun e w' => e = .returned (.int .i64 (doneR s)) ∧ w' = w := by
  obtain ⟨A, c, h1, h2, h3, h4, h5⟩ := id h
  have c0 : w.cell? ⟨g, 0, none⟩ = some (.int .i64 s.1) := by rw [blk_cell h1]; rfl
  have c1 : w.cell? ⟨g, 1, none⟩ = some (.slice A s.2.length c) := by rw [blk_cell h1]; rfl
  have H := hid h
  clear h h1 h4 h5
  go_enter Try.func53, Try.ntmps53
  go_wp2_with fail
  refine (rmade_ok w g s H.out).mono ?_
  rintro e w1 ⟨rfl, rfl⟩
  go_wp2_with fail
  refine (rgood_ok w1 g s H.out).mono ?_
  rintro e w2 ⟨rfl, rfl⟩
  by_cases he : s.1 = 0
  · have ge : (s.1 == 0) = true := beq_iff_eq.mpr he
    by_cases hl : s.2 = []
    · have hq : decide (0 < s.2.length) = false := by rw [hl]; rfl
      have HE := hid he
      have HL := hid hl
      clear he hl
      go_wp2_with fail
      go_ret
      exact ⟨by rw [doneR, if_pos HE.out, if_pos HL.out]; rfl, rfl⟩
    · have hq : decide (0 < s.2.length) = true := decide_eq_true (List.length_pos_iff.2 hl)
      have HE := hid he
      have HL := hid hl
      clear he hl
      go_wp2_with fail
      go_ret
      exact ⟨by rw [doneR, if_pos HE.out, if_neg HL.out]; rfl, rfl⟩
  · have ge : (s.1 == 0) = false := beq_eq_false_iff_ne.mpr he
    have HE := hid he
    clear he
    go_wp2_with fail
    go_ret
    exact ⟨by rw [doneR, if_neg HE.out]; rfl, rfl⟩
theorem nomade_ok (w : World) : Calls Try.prog 88 #[.pointer none] w fun e w' => e = .returned (.bool false) ∧ w' = w := by
  go_enter Try.func88, Try.ntmps88
  go_wp2
  go_ret
  exact ⟨rfl, rfl⟩
theorem nonum_ok (w : World) (z m : Int) : Calls Try.prog 54 #[.pointer none, .int .i64 z, .int .i64 m] w fun e w' => e = .returned (.int .i64 0) ∧ w' = w := by
  go_enter Try.func54, Try.ntmps54
  go_wp2_with fail
  refine (nomade_ok w).mono ?_
  rintro e w1 ⟨rfl, rfl⟩
  go_wp2_with fail
  go_ret
  exact ⟨rfl, rfl⟩
theorem nofix_ok (w : World) (n : Int) : Calls Try.prog 56 #[.pointer none, .int .i64 n] w fun e w' => e = .returned (.slice none 0 0) ∧ w' = w := by
  go_enter Try.func56, Try.ntmps56
  go_wp2_with fail
  refine (nomade_ok w).mono ?_
  rintro e w1 ⟨rfl, rfl⟩
  go_wp2_with fail
  go_ret
  exact ⟨rfl, rfl⟩
theorem nobytes_ok (w : World) (n : Int) : Calls Try.prog 55 #[.pointer none, .int .i64 n] w fun e w' => e = .returned (.slice none 0 0) ∧ w' = w := by
  go_enter Try.func55, Try.ntmps55
  go_wp2_with fail
  refine (nomade_ok w).mono ?_
  rintro e w1 ⟨rfl, rfl⟩
  go_wp2_with fail
  go_ret
  exact ⟨rfl, rfl⟩
theorem nodone_ok (w : World) : Calls Try.prog 53 #[.pointer none] w fun e w' => e = .returned (.int .i64 1) ∧ w' = w := by
  go_enter Try.func53, Try.ntmps53
  go_wp2_with fail
  refine (nomade_ok w).mono ?_
  rintro e w1 ⟨rfl, rfl⟩
  go_wp2_with fail
  go_ret
  exact ⟨rfl, rfl⟩
theorem nownum_ok (w : World) (n z : Int) : Calls Try.prog 49 #[.pointer none, .int .i64 n, .int .i64 z] w fun e w' => e = .returned (.tuple #[]) ∧ w' = w := by
  go_enter Try.func49, Try.ntmps49
  go_wp2
  go_end0
  exact ⟨rfl, rfl⟩
theorem nowfix_ok (w : World) (v : Value) : Calls Try.prog 51 #[.pointer none, v] w fun e w' => e = .returned (.tuple #[]) ∧ w' = w := by
  go_enter Try.func51, Try.ntmps51
  go_wp2
  go_end0
  exact ⟨rfl, rfl⟩
theorem nowbytes_ok (w : World) (v : Value) : Calls Try.prog 50 #[.pointer none, v] w fun e w' => e = .returned (.tuple #[]) ∧ w' = w := by
  go_enter Try.func50, Try.ntmps50
  go_wp2
  refine bodyPost_ret (results_none rfl _ _ _) rfl ?_
  exact ⟨rfl, rfl⟩
theorem nowout_ok (w : World) : Calls Try.prog 52 #[.pointer none] w fun e w' => e = .returned (.tuple #[.slice none 0 0, .int .i64 1]) ∧ w' = w := by
  go_enter Try.func52, Try.ntmps52
  go_wp2
  go_ret2
  exact ⟨rfl, rfl⟩
end Go.Proofs.Ytlgcfnbhnpnkiaa
