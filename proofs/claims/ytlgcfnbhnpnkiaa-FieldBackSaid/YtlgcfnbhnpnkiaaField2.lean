/- The writers of the packages field and chatelaineref12: their methods. -/
import Derived.Test.YtlgcfnbhnpnkiaaField
set_option linter.unusedVariables false
set_option linter.unusedSimpArgs false
namespace Go.Proofs.Ytlgcfnbhnpnkiaa
open Go.RowKit

theorem WR.after {w w1 w2 : World} {F : Nat → Prop} {g : Nat} {s : WSt} (hb : Below w.heap.size w w1) (h : WR w1 w2 F g s) : WR w w2 F g s := by
  obtain ⟨F', h1, h2, h3⟩ := h
  exact ⟨F', h1, (Chg.of_below hb F).trans h2 (fun k hk => .inl hk), fun k hk => (h3 k hk).imp id (fun h => Nat.le_trans hb.size h)⟩
theorem WR.then {w w1 w2 : World} {F F' : Nat → Prop} {g : Nat} {s : WSt} (hc : Chg w w1 F) (hF : ∀ k, F' k → F k ∨ w.heap.size ≤ k) (h : WR w1 w2 F' g s) : WR w w2 F g s := by
  obtain ⟨F2, h1, h2, h3⟩ := h
  refine ⟨F2, h1, hc.trans h2 hF, fun k hk => ?_⟩
  rcases h3 k hk with h | h
  · exact hF k h
  · exact .inr (Nat.le_trans hc.size h)
theorem putL_length (n s : Int) : (putL n s).length ≤ 8 := by
  cases h : mayPut n s
  · rw [putL_bad h]; simp
  · rw [putL_good h, be_length]; have := (mayPut_iff n s).1 h; omega
set_option maxRecDepth 100000 in
theorem wnum_ok (w : World) (F : Nat → Prop) (g : Nat) (s : WSt) (n z : Int) (hw : WO w F g s) (hm : s.2.length ≤ 70368744177664) (hn : -9223372036854775808 ≤ n ∧ n ≤ 9223372036854775807) :
    Calls Try.prog 49 #[.pointer (some ⟨g, 0, none⟩), .int .i64 n, .int .i64 z] w fun e' w' => e' = .returned (.tuple #[]) ∧ WR w w' F g (numS n z s) := by
  have HW := hid hw
  clear hw
  go_enter Try.func49, Try.ntmps49
  go_wp2_with fail
  refine (put_ok n z _ hn).mono ?_
  rintro e w1 ⟨v, rfl, hb, hown⟩
  obtain ⟨A, c, rfl, hc, hmx, hr⟩ := rd_of_own hown
  have HB := hid hb
  have HR := hid hr
  clear hb hr hown
  have hl := putL_length n z
  go_wp2_with fail
  refine (wput_ok w1 F g s A (putL n z) c (putE n z) (HW.out.below HB.out) HR.out (by omega)).mono ?_
  rintro e w2 ⟨rfl, h⟩
  have H := hid (WR.after HB.out h)
  clear h
  go_wp2_with fail
  go_end0
  exact ⟨rfl, H.out⟩
theorem wfix_ok (w : World) (F : Nat → Prop) (g : Nat) (s : WSt) (A : Option Addr) (b : List UInt8) (c : Nat) (hw : WO w F g s) (hr : Rd w A (by8 b)) (hm : s.2.length + b.length ≤ 140737488355328) :
    Calls Try.prog 51 #[.pointer (some ⟨g, 0, none⟩), .slice A b.length c] w fun e' w' => e' = .returned (.tuple #[]) ∧ WR w w' F g (putS 0 b s) := by
  have HW := hid hw
  have HR := hid hr
  clear hw hr
  go_enter Try.func51, Try.ntmps51
  go_wp2_with fail
  refine (wput_ok w F g s A b c 0 HW.out HR.out hm).mono ?_
  rintro e w2 ⟨rfl, h⟩
  have H := hid h
  clear h
  go_wp2_with fail
  go_end0
  exact ⟨rfl, H.out⟩
/-- bytes, ahead of them how many -/
theorem bytes_short (b : List UInt8) (s : WSt) (h : b.length ≤ 65535) : putS 0 b (numS b.length 2 s) = bytesS b s := by
  have hp : mayPut b.length 2 = true := by
    rw [mayPut_iff]; refine ⟨by omega, by omega, by omega, by omega, .inr ?_⟩
    show (b.length : Int) < 256 ^ 2
    have : (256 : Int) ^ 2 = 65536 := by decide
    omega
  obtain ⟨wr, bs⟩ := s
  unfold numS bytesS
  rw [putE_good hp, putL_good hp]
  simp only [Int.toNat_natCast]
  by_cases hw : wr = 0
  · subst hw; simp [putS, h]
  · simp [putS, hw]
theorem bytes_long (b : List UInt8) (s : WSt) (h : ¬ b.length ≤ 65535) (e1 e2 : Int) (b1 : List UInt8) : putS e2 b (putS e1 b1 (putS 2 [] s)) = bytesS b s := by
  obtain ⟨wr, bs⟩ := s
  unfold bytesS
  by_cases hw : wr = 0
  · subst hw; simp [putS, h]
  · simp [putS, hw]
theorem wfail_ok (w : World) (F : Nat → Prop) (g : Nat) (s : WSt) (hw : WO w F g s) :
    Calls Try.prog 85 #[.pointer (some ⟨g, 0, none⟩), .int .i64 2] w fun e' w' => e' = .returned (.tuple #[]) ∧ WR w w' F g (putS 2 [] s) := by
  obtain ⟨v, hg, hown, hF, hFv⟩ := hw
  obtain ⟨wr, bs⟩ := s
  have c0 : w.cell? ⟨g, 0, none⟩ = some (.int .i64 wr) := (blk_cell hg 0).trans rfl
  have f0 := blk_frozen hg 0
  have hne := own_ne hown hg (by decide)
  by_cases h1 : wr = 0
  · subst h1
    refine (fail_sets w g 2 c0 f0).mono ?_
    rintro e' w1 ⟨rfl, rfl⟩
    refine ⟨rfl, fun k => k = g ∨ v.ownBlock = some k, ⟨v, ?_, ?_, .inl rfl, fun k hk => .inr hk⟩, (Chg.refl w F).setCell (.inl hF) _, ?_⟩
    · exact blk_set hg 0 (.int .i64 2)
    · exact own_chg hown ((Chg.refl w (fun k => k = g)).setCell (p := ⟨g, 0, none⟩) (.inl rfl) (.int .i64 2)) (fun b' hb' e => hne (e ▸ hb'))
    · rintro k (rfl | hk)
      · exact .inl hF
      · exact .inl (hFv k hk)
  · refine (fail_stays w g 2 wr c0 (beq_eq_false_iff_ne.mpr h1)).mono ?_
    rintro e' w1 ⟨rfl, rfl⟩
    refine ⟨rfl, F, ⟨v, ?_, ?_, hF, hFv⟩, Chg.refl _ F, fun k hk => .inl hk⟩
    · simp only [putS, if_neg h1]; exact hg
    · simp only [putS, if_neg h1]; exact hown
set_option maxRecDepth 100000 in
theorem wbytes_ok (w : World) (F : Nat → Prop) (g : Nat) (s : WSt) (A : Option Addr) (b : List UInt8) (c : Nat) (hw : WO w F g s) (hr : Rd w A (by8 b)) (hbF : ∀ a, A = some a → by8 b ≠ [] → ¬ F a.block) (hm : s.2.length ≤ 35184372088832) (hm2 : b.length ≤ 35184372088832) :
    Calls Try.prog 50 #[.pointer (some ⟨g, 0, none⟩), .slice A b.length c] w fun e' w' => e' = .returned (.tuple #[]) ∧ WR w w' F g (bytesS b s) := by
  have HW := hid hw
  have HR := hid hr
  have HBF := hid hbF
  clear hw hr hbF
  by_cases hl : b.length ≤ 65535
  · have g1 : decide (65535 < (b.length : Int)) = false := decide_eq_false (by omega)
    have HS := hid (bytes_short b s hl)
    go_enter Try.func50, Try.ntmps50
    go_wp2_with fail
    refine (put_ok b.length 2 w (by omega)).mono ?_
    rintro e w1 ⟨v, rfl, hb, hown⟩
    obtain ⟨A1, c1, rfl, hc, hmx, hr1⟩ := rd_of_own hown
    have HB := hid hb
    have HR1 := hid hr1
    clear hb hr1 hown
    have hl2 := putL_length b.length 2
    go_wp2_with fail
    refine (wput_ok w1 F g s A1 (putL b.length 2) c1 (putE b.length 2) (HW.out.below HB.out) HR1.out (by omega)).mono ?_
    rintro e w2 ⟨rfl, h⟩
    obtain ⟨F', q1, q2, q3⟩ := WR.after HB.out h
    have Q1 := hid q1
    have Q2 := hid q2
    have Q3 := hid q3
    clear h q1 q2 q3
    have hlen : (numS b.length 2 s).2.length ≤ s.2.length + 8 := by
      unfold numS putS; split <;> (try split) <;> simp <;> omega
    have hR2 := rd_chg HR.out Q2.out HBF.out
    have HR2 := hid hR2
    clear hR2
    go_wp2_with fail
    refine (wput_ok w2 F' g _ A b c 0 Q1.out HR2.out (by show (numS b.length 2 s).2.length + _ ≤ _; omega)).mono ?_
    rintro e w3 ⟨rfl, h⟩
    have H := hid (WR.then Q2.out Q3.out h)
    clear h
    go_wp2_with fail
    go_end0
    refine ⟨rfl, ?_⟩
    rw [← HS.out]; exact H.out
  · have g1 : decide (65535 < (b.length : Int)) = true := decide_eq_true (by omega)
    have HS := hid (bytes_long b s hl)
    go_enter Try.func50, Try.ntmps50
    go_wp2_with fail
    refine (wfail_ok w F g s HW.out).mono ?_
    rintro e w0 ⟨rfl, h⟩
    obtain ⟨F0, q1, q2, q3⟩ := h
    have Q1 := hid q1
    have Q2 := hid q2
    have Q3 := hid q3
    clear q1 q2 q3
    have hR2 := rd_chg HR.out Q2.out HBF.out
    have HR2 := hid hR2
    clear hR2
    have hA0 : ∀ a, A = some a → b ≠ [] → a.block < w.heap.size := by
      intro a ha hne
      obtain ⟨ad, e, h1⟩ := HR.out.byte 0 (List.length_pos_iff.2 hne)
      rw [ha] at e; cases e
      have := World.block_lt_of_cell? w _ h1
      simpa [Addr.add] using this
    have HA0 := hid hA0
    clear hA0
    go_wp2_with fail
    refine (put_ok 65535 2 w0 (by omega)).mono ?_
    rintro e w1 ⟨v, rfl, hb, hown⟩
    obtain ⟨A1, c1, rfl, hc, hmx, hr1⟩ := rd_of_own hown
    have HB := hid hb
    have HR1 := hid hr1
    clear hb hr1 hown
    have hl2 := putL_length 65535 2
    have hs0 : (putS 2 [] s).2.length = s.2.length := by unfold putS; split <;> (try split) <;> simp
    go_wp2_with fail
    refine (wput_ok w1 F0 g _ A1 (putL 65535 2) c1 (putE 65535 2) (Q1.out.below HB.out) HR1.out (by omega)).mono ?_
    rintro e w2 ⟨rfl, h⟩
    obtain ⟨F', q1, q2, q3⟩ := WR.after HB.out h
    have q2' := Q2.out.trans q2 Q3.out
    have q3' : ∀ k, F' k → F k ∨ w.heap.size ≤ k := fun k hk => by
      rcases q3 k hk with h | h
      · exact Q3.out k h
      · exact .inr (Nat.le_trans Q2.out.size h)
    have R1 := hid q1
    have R2 := hid q2'
    have R3 := hid q3'
    clear h q1 q2 q3 q2' q3'
    have hR3 := rd_chg HR.out R2.out HBF.out
    have HR3 := hid hR3
    clear hR3
    have hs1 : (putS (putE 65535 2) (putL 65535 2) (putS 2 [] s)).2.length ≤ s.2.length + 8 := by
      rw [← hs0]
      generalize putS 2 [] s = t
      unfold putS; split <;> (try split) <;> simp <;> omega
    go_wp2_with fail
    refine (wput_ok w2 F' g _ A b c 0 R1.out HR3.out (by omega)).mono ?_
    rintro e w3 ⟨rfl, h⟩
    have H := hid (WR.then R2.out R3.out h)
    clear h
    go_wp2_with fail
    go_end0
    refine ⟨rfl, ?_⟩
    have := H.out
    rw [HS.out] at this; exact this

/-! ### slices.Clone of bytes; Out -/
set_option maxRecDepth 100000 in
theorem clone_ok (w : World) (A : Option Addr) (b : List UInt8) (c : Nat) (hr : Rd w A (by8 b)) (hc : b.length ≤ c) (hm : b.length ≤ 140737488355328) :
    Calls Try.prog 87 #[.slice A b.length c] w fun e' w' => ∃ v, e' = .returned v ∧ New w w' 5 v b.length (by8 b) := by
  have HR := hid hr
  clear hr
  have en := fun w a n c => Lib.run_eql_slice_nil (P := Try.prog) w 52 5 a n c 0 0 Try.underlying52
  cases A with
  | none =>
    have hb : b = [] := by
      cases b with
      | nil => rfl
      | cons x b => obtain ⟨_, e, _⟩ := HR.out.byte 0 (by simp); cases e
    subst hb
    go_enter Try.func87, Try.ntmps87
    go_wp2
    go_ret
    exact ⟨_, rfl, Below.refl _ _, World.ownsRow_nil _ _ _ _⟩
  | some a =>
    go_enter Try.func87, Try.ntmps87
    go_wp2_with (at_builtin; go_must (refine append_any (w0 := w) rfl (.tmp 5) (.tmp 6) 52 5 (.int .u8 0) 1 1 rfl Try.underlying52 info_u8 rfl (by decide) _ 0 [] rfl (some a) b.length c (by8 b) rfl (by simp [by8_length]) (HR.out.below (below_alloc (Below.refl _ _) _)) (by8_one _) w.heap.size (World.ownsRow_lit _ #[] 0 (Nat.le_refl _) (by simp [maxLen]) rfl) (below_alloc (Below.refl _ _) _) (le_alloc (Nat.le_refl _)) (by omega) (by unfold maxLen; omega) ?_; intro v1 w3 hown1 hb3 hk3 _))
    go_ret
    refine ⟨v1, rfl, hb3, ?_⟩
    simpa using hown1
/-- what is told of a writer: bytes, or why none -/
def outL (s : WSt) : List UInt8 := if s.1 = 0 then s.2 else []
set_option maxRecDepth 100000 in
theorem wout_ok (w : World) (F : Nat → Prop) (g : Nat) (s : WSt) (hw : WO w F g s) (hm : s.2.length ≤ 140737488355328) :
    Calls Try.prog 52 #[.pointer (some ⟨g, 0, none⟩)] w fun e' w' => ∃ v, e' = .returned (.tuple #[v, .int .i64 s.1]) ∧ New w w' 5 v (outL s).length (by8 (outL s)) := by
  obtain ⟨v, hg, hown, hF, hFv⟩ := hw
  obtain ⟨wr, bs⟩ := s
  simp only at hg hown hm
  have c0 : w.cell? ⟨g, 0, none⟩ = some (.int .i64 wr) := (blk_cell hg 0).trans rfl
  have c1 : w.cell? ⟨g, 1, none⟩ = some v := (blk_cell hg 1).trans rfl
  by_cases h1 : wr = 0
  · subst h1
    obtain ⟨A, c, rfl, hc, hmx, hr⟩ := rd_of_own hown
    have HR := hid hr
    clear hr hown hg
    go_enter Try.func52, Try.ntmps52
    go_wp2_with fail
    refine (good_ok _ g 0 c0).mono ?_
    rintro e' w1 ⟨rfl, rfl⟩
    go_wp2_with fail
    refine (clone_ok w1 A bs c HR.out hc hm).mono ?_
    rintro e' w2 ⟨v, rfl, h⟩
    have H := hid h
    clear h
    go_wp2_with fail
    go_ret2
    exact ⟨v, rfl, by simp only [outL, if_true]; exact H.out⟩
  · have g1 : (wr == 0) = false := beq_eq_false_iff_ne.mpr h1
    clear hown hg
    go_enter Try.func52, Try.ntmps52
    go_wp2_with fail
    refine (good_ok _ g wr c0).mono ?_
    rintro e' w1 ⟨rfl, rfl⟩
    go_wp2_with fail
    go_quiet (fail)
    go_wp2
    go_ret2
    exact ⟨_, rfl, by simp only [outL, if_neg h1]; exact ⟨below_drewN (Below.refl _ _) _, World.ownsRow_nil _ _ _ _⟩⟩
/-! ### the document's writer -/
def WQ (w : World) (F : Nat → Prop) (g : Nat) (s : WSt) : Prop := ∃ v, w.heap[g]? = some (.cells #[v, .int .i64 s.1] 135 (0, 0)) ∧ w.ownsRow 0 5 1 v s.2.length (by8 s.2) ∧ F g ∧ (∀ k, v.ownBlock = some k → F k)
theorem WQ.chg {w w' : World} {F G : Nat → Prop} {g : Nat} {s : WSt} (h : WQ w F g s) (k : Chg w w' G) (hd : ∀ k, F k → ¬ G k) : WQ w' F g s := by
  obtain ⟨v, h1, h2, h3, h4⟩ := h
  exact ⟨v, blk_chg h1 k (hd g h3), own_chg h2 k (fun b hb => hd b (h4 b hb)), h3, h4⟩
theorem WQ.below {w w' : World} {F : Nat → Prop} {g : Nat} {s : WSt} (h : WQ w F g s) (k : Below w.heap.size w w') : WQ w' F g s := by
  obtain ⟨v, h1, h2, h3, h4⟩ := h
  exact ⟨v, blk_below h1 k, own_below h2 k, h3, h4⟩
def QR (w w' : World) (F : Nat → Prop) (g : Nat) (s' : WSt) : Prop := ∃ F', WQ w' F' g s' ∧ Chg w w' F ∧ ∀ k, F' k → F k ∨ w.heap.size ≤ k
theorem QR.after {w w1 w2 : World} {F : Nat → Prop} {g : Nat} {s : WSt} (hb : Below w.heap.size w w1) (h : QR w1 w2 F g s) : QR w w2 F g s := by
  obtain ⟨F', h1, h2, h3⟩ := h
  exact ⟨F', h1, (Chg.of_below hb F).trans h2 (fun k hk => .inl hk), fun k hk => (h3 k hk).imp id (fun h => Nat.le_trans hb.size h)⟩
theorem QR.then {w w1 w2 : World} {F F' : Nat → Prop} {g : Nat} {s : WSt} (hc : Chg w w1 F) (hF : ∀ k, F' k → F k ∨ w.heap.size ≤ k) (h : QR w1 w2 F' g s) : QR w w2 F g s := by
  obtain ⟨F2, h1, h2, h3⟩ := h
  refine ⟨F2, h1, hc.trans h2 hF, fun k hk => ?_⟩
  rcases h3 k hk with h | h
  · exact hF k h
  · exact .inr (Nat.le_trans hc.size h)
/-- what stands behind a writer's append -/
theorem qr_appended {w w3 : World} {F : Nat → Prop} {g : Nat} {bs b : List UInt8} {v : Value} {A1 : Option Addr} {c9 : Nat} (hF : F g) (hFv : ∀ k, v.ownBlock = some k → F k)
    (d : w3.heap[g]? = some (.cells #[v, .int .i64 0] 135 (0, 0))) (ho : w3.ownsRow 0 5 1 (.slice A1 (bs.length + b.length) c9) (bs.length + b.length) (by8 bs ++ by8 b))
    (hk : w.grownBy w3 v.ownBlock) (h5 : ∀ k, (Value.slice A1 (bs.length + b.length) c9).ownBlock = some k → v.ownBlock = some k ∨ w.heap.size ≤ k) :
    QR w (w3.setCell ⟨g, 0, none⟩ (.slice A1 (bs.length + b.length) c9)) F g (0, bs ++ b) := by
  have hne2 := own_ne ho d (by decide)
  have hc : Chg w w3 F := Chg.grown hk F hFv
  refine ⟨fun k => k = g ∨ (Value.slice A1 (bs.length + b.length) c9).ownBlock = some k, ⟨.slice A1 (bs.length + b.length) c9, ?_, ?_, .inl rfl, fun k hk => .inr hk⟩, hc.setCell (.inl hF) _, ?_⟩
  · exact blk_set d 0 _
  · have := own_chg ho ((Chg.refl w3 (fun k => k = g)).setCell (p := ⟨g, 0, none⟩) (.inl rfl) (.slice A1 (bs.length + b.length) c9)) (fun b' hb' e => hne2 (e ▸ hb'))
    simp only [List.length_append, by8_append]
    exact this
  · rintro k (rfl | hk)
    · exact .inl hF
    · rcases h5 k hk with h | h
      · exact .inl (hFv k h)
      · exact .inr h
set_option maxRecDepth 100000 in
theorem rfix_ok (w : World) (F : Nat → Prop) (g : Nat) (s : WSt) (A : Option Addr) (b : List UInt8) (c : Nat) (hw : WQ w F g s) (hr : Rd w A (by8 b)) (hm : s.2.length + b.length ≤ 140737488355328) :
    Calls Try.prog 93 #[.pointer (some ⟨g, 0, none⟩), .slice A b.length c] w fun e' w' => e' = .returned (.tuple #[]) ∧ QR w w' F g (putS 0 b s) := by
  obtain ⟨v, hg, hown, hF, hFv⟩ := hw
  obtain ⟨wr, bs⟩ := s
  simp only at hg hown hm
  have c0 : w.cell? ⟨g, 1, none⟩ = some (.int .i64 wr) := (blk_cell hg 1).trans rfl
  have c1 : w.cell? ⟨g, 0, none⟩ = some v := (blk_cell hg 0).trans rfl
  have hgl := blk_lt hg
  have hne := own_ne hown hg (by decide)
  have HG := hid hg
  have HO := hid hown
  have HF := hid hF
  have HFv := hid hFv
  have HN := hid hne
  have HR := hid hr
  clear hg hown hF hFv hr hne
  by_cases h1 : wr = 0
  · subst h1
    go_enter Try.func93, Try.ntmps93
    go_wp2_with (at_builtin; go_must (refine append_any (w0 := w) rfl (.tmp 13) (.tmp 14) 52 5 (.int .u8 0) 1 1 rfl Try.underlying52 info_u8 rfl (by decide) v bs.length (by8 bs) rfl A b.length c (by8 b) rfl (by simp [by8_length]) HR.out (by8_one _) 0 HO.out (Below.refl _ _) (Nat.zero_le _) (by omega) (by unfold maxLen; omega) ?_; intro v1 w3 hown1 hb3 hk3 hk5; obtain ⟨A1, c9, rfl, _, _, _⟩ := rd_of_own hown1; have d1 : w3.heap[g]? = some (.cells #[v, .int .i64 0] 135 (0, 0)) := (hk3.block g hgl HN.out.symm).trans HG.out; have d2 : w3.cell? ⟨g, 0, none⟩ = some v := (blk_cell d1 0).trans rfl; have d3 := blk_frozen d1 0; have D1 := hid d1; have HK3 := hid hk3; have HO1 := hid hown1; have HK5 := hid hk5; clear d1 hk3 hk5 hown1 hb3 c0 c1))
    go_end0
    exact ⟨rfl, by simp only [putS, if_true]; exact qr_appended HF.out HFv.out D1.out HO1.out HK3.out HK5.out⟩
  · have g1 : (wr == 0) = false := beq_eq_false_iff_ne.mpr h1
    go_enter Try.func93, Try.ntmps93
    go_wp2
    go_end0
    refine ⟨rfl, F, ⟨v, ?_, ?_, HF.out, HFv.out⟩, Chg.refl w F, fun k hk => .inl hk⟩
    · simp only [putS, if_neg h1]; exact HG.out
    · simp only [putS, if_neg h1]; exact HO.out
end Go.Proofs.Ytlgcfnbhnpnkiaa
