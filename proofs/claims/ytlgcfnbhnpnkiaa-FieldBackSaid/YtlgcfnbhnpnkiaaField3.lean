/- The document's writer: its methods. -/
import Derived.Test.YtlgcfnbhnpnkiaaField2
set_option linter.unusedVariables false
set_option linter.unusedSimpArgs false
namespace Go.Proofs.Ytlgcfnbhnpnkiaa
open Go.RowKit

theorem putE_cases (n z : Int) : putE n z = 0 ∨ putE n z = 2 := by
  cases h : mayPut n z
  · exact .inr (putE_bad h)
  · exact .inl (putE_good h)
set_option maxRecDepth 100000 in
theorem rnum_ok (w : World) (F : Nat → Prop) (g : Nat) (s : WSt) (n z : Int) (hw : WQ w F g s) (hm : s.2.length ≤ 70368744177664) :
    Calls Try.prog 91 #[.pointer (some ⟨g, 0, none⟩), .int .i64 n, .int .i64 z] w fun e' w' => e' = .returned (.tuple #[]) ∧ QR w w' F g (numS n z s) := by
  have HW := hid hw
  clear hw
  go_enter Try.func91, Try.ntmps91
  go_wp2_with fail
  refine (rput_ok n z _).mono ?_
  rintro e w1 ⟨v2, rfl, hb, hown2⟩
  obtain ⟨A, c, rfl, hcc, hmx, hr⟩ := rd_of_own hown2
  have hl := putL_length n z
  obtain ⟨v, hg, hown, hF, hFv⟩ := HW.out.below hb
  have HB := hid hb
  obtain ⟨wr, bs⟩ := s
  simp only at hg hown hm
  have c0 : w1.cell? ⟨g, 1, none⟩ = some (.int .i64 wr) := (blk_cell hg 1).trans rfl
  have f0 := blk_frozen hg 1
  have c1 : w1.cell? ⟨g, 0, none⟩ = some v := (blk_cell hg 0).trans rfl
  have hgl := blk_lt hg
  have hne := own_ne hown hg (by decide)
  have HG := hid hg
  have HO := hid hown
  have HF := hid hF
  have HFv := hid hFv
  have HN := hid hne
  have HR := hid hr
  have HE := hid (putE_cases n z)
  clear hg hown hF hFv hr hne hb hown2
  by_cases h1 : wr = 0
  · subst h1
    rcases HE.out with he | he
    · have e1 : (putE n z != 0) = false := by simp [he]
      have HEE := hid he
      clear he
      go_wp2_with (at_builtin; go_must (refine append_any (w0 := w1) rfl (.tmp 35) (.tmp 36) 52 5 (.int .u8 0) 1 1 rfl Try.underlying52 info_u8 rfl (by decide) v bs.length (by8 bs) rfl A (putL n z).length c (by8 (putL n z)) rfl (by simp [by8_length]) HR.out (by8_one _) 0 HO.out (Below.refl _ _) (Nat.zero_le _) (by omega) (by unfold maxLen; omega) ?_; intro v1 w3 hown1 hb3 hk3 hk5; obtain ⟨A1, c9, rfl, _, _, _⟩ := rd_of_own hown1; have d1 : w3.heap[g]? = some (.cells #[v, .int .i64 0] 135 (0, 0)) := (hk3.block g hgl HN.out.symm).trans HG.out; have d2 : w3.cell? ⟨g, 0, none⟩ = some v := (blk_cell d1 0).trans rfl; have d3 := blk_frozen d1 0; have D1 := hid d1; have HK3 := hid hk3; have HO1 := hid hown1; have HK5 := hid hk5; clear d1 hk3 hk5 hown1 hb3 c0 c1))
      go_end0
      refine ⟨rfl, QR.after HB.out ?_⟩
      unfold numS putS
      rw [HEE.out]
      exact qr_appended HF.out HFv.out D1.out HO1.out HK3.out HK5.out
    · have e1 : (putE n z != 0) = true := by simp [he]
      have HEE := hid he
      clear he
      go_wp2
      go_end0
      refine ⟨rfl, QR.after HB.out ⟨fun k => k = g ∨ v.ownBlock = some k, ⟨v, ?_, ?_, .inl rfl, fun k hk => .inr hk⟩, (Chg.refl w1 F).setCell (.inl HF.out) _, ?_⟩⟩
      · have := blk_set HG.out 1 (.int .i64 2)
        unfold numS putS; rw [HEE.out]; exact this
      · have := own_chg HO.out ((Chg.refl w1 (fun k => k = g)).setCell (p := ⟨g, 1, none⟩) (.inl rfl) (.int .i64 2)) (fun b' hb' e => HN.out (e ▸ hb'))
        unfold numS putS; rw [HEE.out]; exact this
      · rintro k (rfl | hk)
        · exact .inl HF.out
        · exact .inl (HFv.out k hk)
  · have g1 : (wr == 0) = false := beq_eq_false_iff_ne.mpr h1
    have hend : QR w w1 F g (numS n z (wr, bs)) := by
      refine QR.after HB.out ⟨F, ⟨v, ?_, ?_, HF.out, HFv.out⟩, Chg.refl w1 F, fun k hk => .inl hk⟩
      · simp only [numS, putS, if_neg h1]; exact HG.out
      · simp only [numS, putS, if_neg h1]; exact HO.out
    have HH := hid hend
    clear hend
    rcases HE.out with he | he
    · have e1 : (putE n z != 0) = false := by simp [he]
      clear he
      go_wp2
      go_end0
      exact ⟨rfl, HH.out⟩
    · have e1 : (putE n z != 0) = true := by simp [he]
      clear he
      go_wp2
      go_end0
      exact ⟨rfl, HH.out⟩
set_option maxRecDepth 100000 in
theorem rbytes_ok (w : World) (F : Nat → Prop) (g : Nat) (s : WSt) (A : Option Addr) (b : List UInt8) (c : Nat) (hw : WQ w F g s) (hr : Rd w A (by8 b)) (hbF : ∀ a, A = some a → by8 b ≠ [] → ¬ F a.block) (hm : s.2.length ≤ 35184372088832) (hm2 : b.length ≤ 35184372088832) :
    Calls Try.prog 92 #[.pointer (some ⟨g, 0, none⟩), .slice A b.length c] w fun e' w' => e' = .returned (.tuple #[]) ∧ QR w w' F g (bytesS b s) := by
  obtain ⟨v, hg, hown, hF, hFv⟩ := hw
  obtain ⟨wr, bs⟩ := s
  simp only at hg hown hm
  have c0 : w.cell? ⟨g, 1, none⟩ = some (.int .i64 wr) := (blk_cell hg 1).trans rfl
  have f0 := blk_frozen hg 1
  have hne := own_ne hown hg (by decide)
  have HR := hid hr
  have HBF := hid hbF
  by_cases h1 : wr = 0
  · subst h1
    by_cases hl : b.length ≤ 65535
    · have g1 : decide (65535 < (b.length : Int)) = false := decide_eq_false (by omega)
      have HS := hid (bytes_short b (0, bs) hl)
      have HW : Hid (WQ w F g (0, bs)) := hid ⟨v, hg, hown, hF, hFv⟩
      clear hg hown hF hFv hr hbF hne
      go_enter Try.func92, Try.ntmps92
      go_wp2_with fail
      refine (rnum_ok w F g _ b.length 2 HW.out (by show bs.length ≤ _; omega)).mono ?_
      rintro e w2 ⟨rfl, h⟩
      obtain ⟨F', q1, q2, q3⟩ := h
      have Q1 := hid q1
      have Q2 := hid q2
      have Q3 := hid q3
      clear q1 q2 q3
      have hlen : (numS b.length 2 (0, bs)).2.length ≤ bs.length + 8 := by
        have := putL_length b.length 2
        unfold numS putS; split <;> (try split) <;> simp <;> omega
      have hR2 := rd_chg HR.out Q2.out HBF.out
      have HR2 := hid hR2
      clear hR2
      go_wp2_with fail
      refine (rfix_ok w2 F' g _ A b c Q1.out HR2.out (by show (numS b.length 2 (0, bs)).2.length + _ ≤ _; omega)).mono ?_
      rintro e w3 ⟨rfl, h⟩
      have H := hid (QR.then Q2.out Q3.out h)
      clear h
      go_wp2_with fail
      go_end0
      refine ⟨rfl, ?_⟩
      rw [← HS.out]; exact H.out
    · have g1 : decide (65535 < (b.length : Int)) = true := decide_eq_true (by omega)
      have HG := hid hg
      have HO := hid hown
      have HF := hid hF
      have HFv := hid hFv
      have HN := hid hne
      clear hg hown hF hFv hr hbF hne
      go_enter Try.func92, Try.ntmps92
      go_wp2
      go_end0
      refine ⟨rfl, fun k => k = g ∨ v.ownBlock = some k, ⟨v, ?_, ?_, .inl rfl, fun k hk => .inr hk⟩, (Chg.refl w F).setCell (.inl HF.out) _, ?_⟩
      · have := blk_set HG.out 1 (.int .i64 2)
        simp only [bytesS, if_true, if_neg hl]; exact this
      · have := own_chg HO.out ((Chg.refl w (fun k => k = g)).setCell (p := ⟨g, 1, none⟩) (.inl rfl) (.int .i64 2)) (fun b' hb' e => HN.out (e ▸ hb'))
        simp only [bytesS, if_true, if_neg hl]; exact this
      · rintro k (rfl | hk)
        · exact .inl HF.out
        · exact .inl (HFv.out k hk)
  · have g1 : (wr == 0) = false := beq_eq_false_iff_ne.mpr h1
    have hend : QR w w F g (bytesS b (wr, bs)) := by
      refine ⟨F, ⟨v, ?_, ?_, hF, hFv⟩, Chg.refl w F, fun k hk => .inl hk⟩
      · simp only [bytesS, if_neg h1]; exact hg
      · simp only [bytesS, if_neg h1]; exact hown
    have HH := hid hend
    clear hend hg hown hF hFv hr hbF hne
    by_cases hl : b.length ≤ 65535
    all_goals
      first
        | (have g1 : decide (65535 < (b.length : Int)) = false := decide_eq_false (by omega))
        | (have g1 : decide (65535 < (b.length : Int)) = true := decide_eq_true (by omega))
      go_enter Try.func92, Try.ntmps92
      go_wp2
      go_end0
      exact ⟨rfl, HH.out⟩
end Go.Proofs.Ytlgcfnbhnpnkiaa
