/- The writers of the packages field and chatelaineref12. -/
import Derived.Test.YtlgcfnbhnpnkiaaWord2
import Derived.Test.YtlgcfnbhnpnkiaaObj
set_option linter.unusedVariables false
set_option linter.unusedSimpArgs false
namespace Go.Proofs.Ytlgcfnbhnpnkiaa
open Go.RowKit

/-- what a writer has: the first error, and bytes -/
abbrev WSt := Int × List UInt8
def putS (e : Int) (b : List UInt8) (s : WSt) : WSt := if s.1 = 0 then (if e = 0 then (0, s.2 ++ b) else (2, s.2)) else s
def numS (n z : Int) (s : WSt) : WSt := putS (putE n z) (putL n z) s
def bytesS (b : List UInt8) (s : WSt) : WSt := if s.1 = 0 then (if b.length ≤ 65535 then (0, s.2 ++ be 2 b.length ++ b) else (2, s.2)) else s

/-- a writer at block g: its blocks are F's -/
def WO (w : World) (F : Nat → Prop) (g : Nat) (s : WSt) : Prop := ∃ v, w.heap[g]? = some (.cells #[.int .i64 s.1, v] 126 (0, 0)) ∧ w.ownsRow 0 5 1 v s.2.length (by8 s.2) ∧ F g ∧ (∀ k, v.ownBlock = some k → F k)
theorem WO.chg {w w' : World} {F G : Nat → Prop} {g : Nat} {s : WSt} (h : WO w F g s) (k : Chg w w' G) (hd : ∀ k, F k → ¬ G k) : WO w' F g s := by
  obtain ⟨v, h1, h2, h3, h4⟩ := h
  exact ⟨v, blk_chg h1 k (hd g h3), own_chg h2 k (fun b hb => hd b (h4 b hb)), h3, h4⟩
theorem WO.below {w w' : World} {F : Nat → Prop} {g : Nat} {s : WSt} (h : WO w F g s) (k : Below w.heap.size w w') : WO w' F g s := by
  obtain ⟨v, h1, h2, h3, h4⟩ := h
  exact ⟨v, blk_below h1 k, own_below h2 k, h3, h4⟩
/-- what a call does to a writer: s' for s; nothing else that was there has changed -/
def WR (w w' : World) (F : Nat → Prop) (g : Nat) (s' : WSt) : Prop := ∃ F', WO w' F' g s' ∧ Chg w w' F ∧ ∀ k, F' k → F k ∨ w.heap.size ≤ k

theorem fail_sets (w : World) (g : Nat) (e : Int) (h0 : w.cell? ⟨g, 0, none⟩ = some (.int .i64 0)) (h1 : w.frozen? ⟨g, 0, none⟩ = false) :
    Calls Try.prog 85 #[.pointer (some ⟨g, 0, none⟩), .int .i64 e] w fun e' w' => e' = .returned (.tuple #[]) ∧ w' = w.setCell ⟨g, 0, none⟩ (.int .i64 e) := by
  go_enter Try.func85, Try.ntmps85
  go_wp2
  go_end0
  exact ⟨rfl, rfl⟩
theorem fail_stays (w : World) (g : Nat) (e wr : Int) (h0 : w.cell? ⟨g, 0, none⟩ = some (.int .i64 wr)) (h1 : (wr == 0) = false) :
    Calls Try.prog 85 #[.pointer (some ⟨g, 0, none⟩), .int .i64 e] w fun e' w' => e' = .returned (.tuple #[]) ∧ w' = w := by
  go_enter Try.func85, Try.ntmps85
  go_wp2
  go_end0
  exact ⟨rfl, rfl⟩
theorem good_ok (w : World) (g : Nat) (wr : Int) (h0 : w.cell? ⟨g, 0, none⟩ = some (.int .i64 wr)) :
    Calls Try.prog 86 #[.pointer (some ⟨g, 0, none⟩)] w fun e' w' => e' = .returned (.bool (wr == 0)) ∧ w' = w := by
  go_enter Try.func86, Try.ntmps86
  go_wp2
  go_ret
  exact ⟨rfl, rfl⟩
set_option maxRecDepth 100000 in
theorem wput_ok (w : World) (F : Nat → Prop) (g : Nat) (s : WSt) (A : Option Addr) (b : List UInt8) (c : Nat) (e : Int) (hw : WO w F g s) (hr : Rd w A (by8 b)) (hm : s.2.length + b.length ≤ 140737488355328) :
    Calls Try.prog 83 #[.pointer (some ⟨g, 0, none⟩), .slice A b.length c, .int .i64 e] w fun e' w' => e' = .returned (.tuple #[]) ∧ WR w w' F g (putS e b s) := by
  obtain ⟨v, hg, hown, hF, hFv⟩ := hw
  obtain ⟨wr, bs⟩ := s
  simp only at hg hown hm
  have c0 : w.cell? ⟨g, 0, none⟩ = some (.int .i64 wr) := by rw [blk_cell hg]; rfl
  have c1 : w.cell? ⟨g, 1, none⟩ = some v := by rw [blk_cell hg]; rfl
  have f0 := blk_frozen hg 0
  have f1 := blk_frozen hg 1
  have hgl := blk_lt hg
  have hne := own_ne hown hg (by decide)
  have HG := hid hg
  have HO := hid hown
  have HF := hid hF
  have HFv := hid hFv
  have HN := hid hne
  have HR := hid hr
  clear hg hown hF hFv hr hne
  by_cases h1 : wr = 0
  · subst h1
    by_cases h2 : e = 0
    · subst h2
      go_enter Try.func83, Try.ntmps83
      go_wp2_with (first | (at_builtin; go_must (refine append_any (w0 := w) rfl (.tmp 20) (.tmp 21) 52 5 (.int .u8 0) 1 1 rfl Try.underlying52 info_u8 rfl (by decide) v bs.length (by8 bs) rfl A b.length c (by8 b) rfl (by simp [by8_length]) HR.out (by8_one _) 0 HO.out (Below.refl _ _) (Nat.zero_le _) (by omega) (by unfold maxLen; omega) ?_; intro v1 w3 hown1 hb3 hk3 hk5; obtain ⟨A1, c9, rfl, _, _, _⟩ := rd_of_own hown1; have d1 : w3.heap[g]? = some (.cells #[.int .i64 0, v] 126 (0, 0)) := (hk3.block g hgl HN.out.symm).trans HG.out; have d2 : w3.cell? ⟨g, 1, none⟩ = some v := (blk_cell d1 1).trans rfl; have d3 := blk_frozen d1 1; have D1 := hid d1; have HK3 := hid hk3; have HO1 := hid hown1; have HK5 := hid hk5; clear d1 hk3 hk5 hown1 hb3 c0 c1)) | go_in)
      go_end0
      refine ⟨rfl, ?_⟩
      have hg2 := blk_set D1.out 1 (.slice A1 (bs.length + b.length) c9)
      have hne2 := own_ne HO1.out D1.out (by decide)
      have hc : Chg w w3 F := Chg.grown HK3.out F (fun k hk => HFv.out k hk)
      refine ⟨fun k => k = g ∨ (Value.slice A1 (bs.length + b.length) c9).ownBlock = some k, ⟨.slice A1 (bs.length + b.length) c9, ?_, ?_, .inl rfl, fun k hk => .inr hk⟩, hc.setCell (.inl HF.out) _, ?_⟩
      · exact hg2
      · have := own_chg HO1.out ((Chg.refl w3 (fun k => k = g)).setCell (p := ⟨g, 1, none⟩) (.inl rfl) (.slice A1 (bs.length + b.length) c9)) (fun b' hb' e => hne2 (e ▸ hb'))
        simp only [putS, if_true, List.length_append, by8_append]
        exact this
      · rintro k (rfl | hk)
        · exact .inl HF.out
        · rcases HK5.out k hk with h | h
          · exact .inl (HFv.out k h)
          · exact .inr h
    · have g2 : (e != 0) = true := bne_iff_ne.mpr h2
      go_enter Try.func83, Try.ntmps83
      go_wp2_with fail
      refine (fail_sets w g 2 c0 f0).mono ?_
      rintro e' w1 ⟨rfl, rfl⟩
      have hg2 := blk_set HG.out 0 (.int .i64 2)
      have d0 : (w.setCell ⟨g, 0, none⟩ (.int .i64 2)).cell? ⟨g, 0, none⟩ = some (.int .i64 2) := (blk_cell hg2 0).trans rfl
      have HG2 := hid hg2
      clear hg2 c0
      go_wp2_with fail
      refine (good_ok _ g 2 d0).mono ?_
      rintro e' w1 ⟨rfl, rfl⟩
      go_wp2_with fail
      go_end0
      refine ⟨rfl, fun k => k = g ∨ v.ownBlock = some k, ⟨v, ?_, ?_, .inl rfl, fun k hk => .inr hk⟩, (Chg.refl w F).setCell (.inl HF.out) _, ?_⟩
      · have := HG2.out
        simp only [putS, if_true, if_neg h2]; exact this
      · have := own_chg HO.out ((Chg.refl w (fun k => k = g)).setCell (p := ⟨g, 0, none⟩) (.inl rfl) (.int .i64 2)) (fun b' hb' e => HN.out (e ▸ hb'))
        simp only [putS, if_true, if_neg h2]; exact this
      · rintro k (rfl | hk)
        · exact .inl HF.out
        · exact .inl (HFv.out k hk)
  · have g1 : (wr == 0) = false := beq_eq_false_iff_ne.mpr h1
    have hend : WR w w F g (putS e b (wr, bs)) := by
      refine ⟨F, ⟨v, ?_, ?_, HF.out, HFv.out⟩, Chg.refl w F, fun k hk => .inl hk⟩
      · simp only [putS, if_neg h1]; exact HG.out
      · simp only [putS, if_neg h1]; exact HO.out
    have HE := hid hend
    clear hend
    by_cases h2 : e = 0
    · subst h2
      go_enter Try.func83, Try.ntmps83
      go_wp2_with fail
      refine (good_ok _ g wr c0).mono ?_
      rintro e' w1 ⟨rfl, rfl⟩
      go_wp2_with fail
      go_end0
      exact ⟨rfl, HE.out⟩
    · have g2 : (e != 0) = true := bne_iff_ne.mpr h2
      go_enter Try.func83, Try.ntmps83
      go_wp2_with fail
      refine (fail_stays w g 2 wr c0 g1).mono ?_
      rintro e' w1 ⟨rfl, rfl⟩
      go_wp2_with fail
      refine (good_ok _ g wr c0).mono ?_
      rintro e' w2 ⟨rfl, rfl⟩
      go_wp2_with fail
      go_end0
      exact ⟨rfl, HE.out⟩
end Go.Proofs.Ytlgcfnbhnpnkiaa
