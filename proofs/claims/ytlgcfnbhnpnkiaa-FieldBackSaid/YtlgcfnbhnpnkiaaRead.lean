/- The readers of the package field. -/
import Derived.Test.YtlgcfnbhnpnkiaaField3
set_option linter.unusedVariables false
set_option linter.unusedSimpArgs false
namespace Go.Proofs.Ytlgcfnbhnpnkiaa
open Go.RowKit

/-- what a reader has: the first error, and what is left -/
abbrev RSt := Int × List UInt8
def takeR (n : Int) (s : RSt) : RSt := if 0 ≤ n ∧ n ≤ s.2.length then (if s.1 = 0 then (0, s.2.drop n.toNat) else s) else (if s.1 = 0 then 10 else s.1, s.2)
def takeV (n : Int) (s : RSt) : List UInt8 := if 0 ≤ n ∧ n ≤ s.2.length then (if s.1 = 0 then s.2.take n.toNat else []) else []
def failR (e : Int) (s : RSt) : RSt := (if s.1 = 0 then e else s.1, s.2)
/-- a reader at block g -/
def RO (w : World) (g : Nat) (s : RSt) : Prop := ∃ A c, w.heap[g]? = some (.cells #[.int .i64 s.1, .slice A s.2.length c, .bool true] 132 (0, 0)) ∧ s.2.length ≤ c ∧ c ≤ 9223372036854775807 ∧ Rd w A (by8 s.2) ∧ (∀ a, A = some a → s.2 ≠ [] → a.block ≠ g)
theorem RO.chg {w w' : World} {G : Nat → Prop} {g : Nat} {s : RSt} (h : RO w g s) (k : Chg w w' G) (hg : ¬ G g) (hG : ∀ A, Rd w A (by8 s.2) → ∀ a, A = some a → s.2 ≠ [] → ¬ G a.block) : RO w' g s := by
  obtain ⟨A, c, h1, h2, h3, h4, h5⟩ := h
  exact ⟨A, c, blk_chg h1 k hg, h2, h3, rd_chg h4 k (fun a ha hne => hG A h4 a ha (by rintro e; rw [e] at hne; exact hne rfl)), h5⟩
theorem RO.below {w w' : World} {g : Nat} {s : RSt} (h : RO w g s) (k : Below w.heap.size w w') : RO w' g s := by
  obtain ⟨A, c, h1, h2, h3, h4, h5⟩ := h
  exact ⟨A, c, blk_below h1 k, h2, h3, h4.below k, h5⟩
theorem RO.drewN {w : World} {g : Nat} {s : RSt} (h : RO w g s) (n : Nat) : RO (w.drewN n) g s := h
theorem RO.lt {w : World} {g : Nat} {s : RSt} (h : RO w g s) : g < w.heap.size := by obtain ⟨A, c, h1, _⟩ := h; exact blk_lt h1
theorem rfail_ok (w : World) (g : Nat) (s : RSt) (e : Int) (h : RO w g s) :
    Calls Try.prog 85 #[.pointer (some ⟨g, 0, none⟩), .int .i64 e] w fun e' w' => e' = .returned (.tuple #[]) ∧ RO w' g (failR e s) ∧ Chg w w' (fun k => k = g) := by
  obtain ⟨A, c, h1, h2, h3, h4, h5⟩ := h
  have c0 : w.cell? ⟨g, 0, none⟩ = some (.int .i64 s.1) := by rw [blk_cell h1]; rfl
  by_cases hs : s.1 = 0
  · refine (fail_sets w g e (by rw [c0, hs]) (blk_frozen h1 0)).mono ?_
    rintro e' w' ⟨rfl, rfl⟩
    have hk : Chg w (w.setCell ⟨g, 0, none⟩ (.int .i64 e)) (fun k => k = g) := Chg.setCell (F := fun k => k = g) (Chg.refl w _) (.inl rfl) _
    refine ⟨rfl, ⟨A, c, ?_, h2, h3, rd_chg h4 hk (fun a ha hne => h5 a ha (by rintro e; simp [failR, e, by8] at hne)), h5⟩, hk⟩
    have := blk_set h1 0 (.int .i64 e)
    simp only [failR, if_pos hs]; exact this
  · refine (fail_stays w g e s.1 c0 (beq_eq_false_iff_ne.mpr hs)).mono ?_
    rintro e' w' ⟨rfl, rfl⟩
    refine ⟨rfl, ?_, Chg.refl _ _⟩
    have : failR e s = s := by simp [failR, hs]
    rw [this]; exact ⟨A, c, h1, h2, h3, h4, h5⟩
theorem rgood_ok (w : World) (g : Nat) (s : RSt) (h : RO w g s) :
    Calls Try.prog 86 #[.pointer (some ⟨g, 0, none⟩)] w fun e' w' => e' = .returned (.bool (s.1 == 0)) ∧ w' = w := by
  obtain ⟨A, c, h1, _⟩ := h
  exact good_ok w g s.1 (by rw [blk_cell h1]; rfl)
theorem rmade_ok (w : World) (g : Nat) (s : RSt) (h : RO w g s) :
    Calls Try.prog 88 #[.pointer (some ⟨g, 0, none⟩)] w fun e w' => e = .returned (.bool true) ∧ w' = w := by
  obtain ⟨A, c, h1, _⟩ := h
  have c2 : w.cell? ⟨g, 2, none⟩ = some (.bool true) := by rw [blk_cell h1]; rfl
  clear h1
  go_enter Try.func88, Try.ntmps88
  go_wp2
  go_ret
  exact ⟨rfl, rfl⟩
theorem read_ok (w : World) (A : Option Addr) (l : List UInt8) (c : Nat) (hr : Rd w A (by8 l)) (hc : l.length ≤ c) (hm : c ≤ 9223372036854775807) :
    Calls Try.prog 60 #[.slice A l.length c] w fun e w' => e = .returned (.pointer (some ⟨w.heap.size, 0, none⟩)) ∧ RO w' w.heap.size (0, l) ∧ Below w.heap.size w w' := by
  have HR := hid hr
  clear hr
  go_enter Try.func60, Try.ntmps60
  go_wp2
  go_ret
  refine ⟨rfl, ⟨A, c, heap_alloc_new w _, hc, hm, HR.out.below (below_alloc (Below.refl _ _) _), fun a ha hne => ?_⟩, below_alloc (Below.refl _ _) _⟩
  have := rd_lt HR.out a ha (by intro e; apply hne; simpa [by8] using e)
  omega
/-- bytes that a call hands over, as they are read in memory -/
def RV (w : World) (v : Value) (l : List UInt8) : Prop := ∃ A c, v = .slice A l.length c ∧ l.length ≤ c ∧ c ≤ 9223372036854775807 ∧ Rd w A (by8 l)
theorem rtake_ok (w : World) (g : Nat) (s : RSt) (n : Int) (h : RO w g s) :
    Calls Try.prog 89 #[.pointer (some ⟨g, 0, none⟩), .int .i64 n] w fun e w' => ∃ v, e = .returned v ∧ RV w' v (takeV n s) ∧ RO w' g (takeR n s) ∧ Chg w w' (fun k => k = g) := by
  obtain ⟨A, c, h1, h2, h3, h4, h5⟩ := id h
  obtain ⟨e0, l⟩ := s
  simp only at h1 h2 h3 h4 h5
  have c1 : w.cell? ⟨g, 1, none⟩ = some (.slice A l.length c) := by rw [blk_cell h1]; rfl
  have f1 := blk_frozen h1 1
  have hgl := blk_lt h1
  have H := hid h
  have H1 := hid h1
  have H4 := hid h4
  have H5 := hid h5
  clear h h1 h4 h5
  by_cases hn : 0 ≤ n ∧ n ≤ l.length
  · go_enter Try.func89, Try.ntmps89
    go_wp2_with fail
    refine (cut_ok A l.length c n w hn.1 hn.2 h2 h3).mono ?_
    rintro e w1 ⟨rfl, j, rfl⟩
    have hR := Rd.tail H4.out n.toNat c (by rw [by8_length]; exact h2)
    rw [by8_drop] at hR
    have hRb : ∀ a, (if c = n.toNat then A else A.map (·.add n.toNat)) = some a → ∃ a0, A = some a0 ∧ a.block = a0.block := by
      intro a ha
      split at ha
      · exact ⟨a, ha, rfl⟩
      · cases A with
        | none => simp at ha
        | some a0 => 
          simp at ha; subst ha
          refine ⟨a0, rfl, ?_⟩
          unfold Addr.add; split <;> rfl
    generalize (if c = n.toNat then A else A.map (·.add n.toNat)) = R at hR hRb
    have HR := hid hR
    have HRb := hid hRb
    clear hR hRb
    go_wp2_with fail
    refine (rgood_ok _ g (e0, l) (H.out.drewN j)).mono ?_
    rintro e w1 ⟨rfl, rfl⟩
    by_cases he : e0 = 0
    · subst he
      go_wp2_with fail
      go_ret
      have hk : Chg w ((w.drewN j).setCell ⟨g, 1, none⟩ (.slice R (l.length - n.toNat) (c - n.toNat))) (fun k => k = g) := Chg.setCell (F := fun k => k = g) (Chg.of_below (below_drewN (Below.refl _ _) j) _) (.inl rfl) _
      have hlen : n.toNat ≤ l.length := by omega
      refine ⟨_, rfl, ?_, ?_, hk⟩
      · simp only [takeV, if_pos hn, if_true]
        refine ⟨A, n.toNat, by simp [hlen], by rw [List.length_take]; omega, by omega, ?_⟩
        rw [← by8_take]
        exact rd_chg (H4.out.take n.toNat) hk (fun a ha hne => H5.out a ha (by rintro rfl; simp [by8] at hne))
      · simp only [takeR, if_pos hn, if_true]
        refine ⟨R, c - n.toNat, ?_, by simp; omega, by omega, ?_, ?_⟩
        · have := blk_set (w := w.drewN j) H1.out 1 (.slice R (l.length - n.toNat) (c - n.toNat))
          simpa using this
        · refine rd_chg HR.out hk (fun a ha hne => ?_)
          obtain ⟨a0, h0, h1⟩ := HRb.out a ha
          rw [h1]
          exact H5.out a0 h0 (by rintro rfl; simp [by8] at hne)
        · intro a ha hne
          obtain ⟨a0, h0, h1⟩ := HRb.out a ha
          rw [h1]
          exact H5.out a0 h0 (by rintro rfl; simp at hne)
    · have ge : (e0 == 0) = false := beq_eq_false_iff_ne.mpr he
      go_wp2_with fail
      go_ret
      refine ⟨_, rfl, ?_, ?_, Chg.of_below (below_drewN (Below.refl _ _) j) _⟩
      · simp only [takeV, if_pos hn, if_neg he]
        exact ⟨none, 0, rfl, Nat.le_refl _, Nat.zero_le _, Rd.nil _ _⟩
      · simp only [takeR, if_pos hn, if_neg he]
        exact H.out.drewN j
  · go_enter Try.func89, Try.ntmps89
    go_wp2_with fail
    refine (cut_no A l.length c n w (by omega)).mono ?_
    rintro e w1 ⟨rfl, rfl⟩
    go_wp2_with fail
    refine (rfail_ok w1 g (e0, l) 10 H.out).mono ?_
    rintro e w2 ⟨rfl, hro, hch⟩
    have HRO := hid hro
    clear hro c1
    go_wp2_with fail
    refine (rgood_ok _ g _ HRO.out).mono ?_
    rintro e w3 ⟨rfl, rfl⟩
    have ge : ((failR 10 (e0, l)).1 == 0) = false := by
      simp only [failR]; by_cases h0 : e0 = 0 <;> simp [h0]
    go_wp2_with fail
    go_ret
    refine ⟨_, rfl, ?_, ?_, hch⟩
    · simp only [takeV, if_neg hn]
      exact ⟨none, 0, rfl, Nat.le_refl _, Nat.zero_le _, Rd.nil _ _⟩
    · simp only [takeR, if_neg hn]
      exact HRO.out
end Go.Proofs.Ytlgcfnbhnpnkiaa
