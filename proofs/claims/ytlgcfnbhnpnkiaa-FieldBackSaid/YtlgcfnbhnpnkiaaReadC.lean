/- The statement FieldBack: the closure that reads, walked. -/
import Derived.Test.YtlgcfnbhnpnkiaaReadP
import Derived.Test.YtlgcfnbhnpnkiaaArr
set_option linter.unusedVariables false
set_option linter.unusedSimpArgs false
namespace Go.Proofs.Ytlgcfnbhnpnkiaa
open Go.RowKit
theorem fixR_len (n : Int) (s : RSt) : (fixR n s).2.length ≤ s.2.length := by
  have h1 := takeR_len n (negR n s)
  have h2 : (negR n s).2.length = s.2.length := by unfold negR failR; split <;> rfl
  unfold fixR; omega
theorem readStep_len (p : RSt × Bool) (x : It) : (readStep p x).1.2.length ≤ p.1.2.length := by
  unfold readStep
  split
  · exact numR_len _ _ _
  · split
    · exact Nat.le_trans (fixR_len _ _) (numR_len _ _ _)
    · split
      · exact fixR_len _ _
      · exact Nat.le_refl _
theorem readS_take (l : List It) (b : List UInt8) (k : Nat) (h : k < l.length) : readS (l.take (k + 1)) b = readStep (readS (l.take k) b) l[k] := by
  unfold readS; rw [List.take_succ_eq_append_getElem h, List.foldl_append]; rfl
set_option maxRecDepth 100000 in
set_option maxHeartbeats 4000000 in
theorem readClosure_ok (w : World) (A : Option Addr) (l : List It) (c : Nat) (h : kIt.At w A l) (hc : l.length ≤ c) (hm : c ≤ maxLen) (hf : fewB l = true) (bx : Nat) (hbx : w.cell? ⟨bx, 0, none⟩ = some (.slice A l.length c)) (A2 : Option Addr) (b : List UInt8) (c2 : Nat) (hb : Rd w A2 (by8 b)) (hc2 : b.length ≤ c2) (hm2 : c2 ≤ 9223372036854775807) (hm3 : b.length ≤ 140737488355328) :
    Calls Try.prog 59 #[.slice A2 b.length c2, .pointer (some ⟨bx, 0, none⟩)] w fun e w' => e = .returned (.tuple #[.int .i64 (doneR (readS l b).1), .bool (readS l b).2]) ∧ Below w.heap.size w w' := by
  have H := hid h
  obtain ⟨hf1, hf2⟩ := few_at hf
  have HF := hid hf1
  have HB := hid hb
  clear h hf hf1 hb
  unfold maxLen at hm
  have hbl := World.block_lt_of_cell? w _ hbx
  simp only at hbl
  go_enter Try.func59, Try.ntmps59
  go_wp2_with fail
  refine (read_ok w A2 b c2 HB.out hc2 hm2).mono ?_
  rintro e w1 ⟨rfl, hro, hb1⟩
  have hbx1 : w1.cell? ⟨bx, 0, none⟩ = some (.slice A l.length c) := (hb1.cell hbl).trans hbx
  have HRO := hid hro
  have HB1 := hid hb1
  clear hro hb1
  go_wp2_with fail
  go_loopw [13, 6] (fun i v wr => ∃ k : Nat, i = .int .i64 k ∧ k ≤ l.length ∧ v = .bool (readS (l.take k) b).2 ∧ Hid (RO wr w.heap.size (readS (l.take k) b).1 ∧ Below w.heap.size w wr ∧ (readS (l.take k) b).1.2.length ≤ 140737488355328)) (fun i _ _ => l.length - (intOf i).toNat)
  case atStart => exact ⟨0, rfl, Nat.zero_le _, rfl, hid ⟨HRO.out, HB1.out, hm3⟩⟩
  case round =>
    obtain ⟨k, rfl, hk, rfl, hh⟩ := hrel
    by_cases hlt : k < l.length
    · obtain ⟨w5, rfl⟩ : ∃ w5 : World, w5 = wr := ⟨_, rfl⟩
      obtain ⟨bl, off, rfl, hbq0, B, bc, q1, q2, q30, qn, d00, d10, d20, d30⟩ := it_at H.out k hlt
      have q3 := q30.below hh.out.2.1
      have d0 := (hh.out.2.1.cell hbq0).trans d00
      have d1 := (hh.out.2.1.cell hbq0).trans d10
      have d2 := (hh.out.2.1.cell hbq0).trans d20
      have d3 := (hh.out.2.1.cell hbq0).trans d30
      have hbq : bl < w5.heap.size := Nat.lt_of_lt_of_le hbq0 hh.out.2.1.size
      have HLT := hid (rd_lt q30)
      clear d00 d10 d20 d30 q30
      have HQ := hid q3
      have hfk := HF.out k hlt
      have hst := hid (readS_take l b k hlt)
      obtain ⟨X, hX⟩ : ∃ X, X = l[k] := ⟨_, rfl⟩
      rw [← hX] at HQ q1 d0 d1 d2 d3 hst qn hfk HLT
      obtain ⟨p, hp⟩ : ∃ p, p = readS (l.take k) b := ⟨_, rfl⟩
      rw [← hp] at hh hst ⊢
      have hsz : w.heap.size < w5.heap.size := hh.out.1.lt
      clear q3 hX hp
      have HNE : Hid (¬ (w5.heap.size = w.heap.size)) := hid (by omega)
      have HNB : Hid (∀ a, B = some a → by8 X.b ≠ [] → a.block ≠ w.heap.size) := hid (fun a ha hne => by have := HLT.out a ha hne; omega)
      by_cases k1 : X.kind = 1
      · have gk : (X.kind == 1) = true := beq_iff_eq.mpr k1
        have HK1 := hid k1
        clear k1
        go_wp2_with fail
        obtain ⟨wq, hwq⟩ : ∃ wq, wq = w5.alloc (Obj.cells #[Value.int .i64 X.kind, Value.int .i64 X.n, Value.int .i64 X.size, Value.slice B X.b.length bc] 97) := ⟨_, rfl⟩
        rw [← hwq]
        have HRq : Hid (RO wq w.heap.size p.1) := hid (by rw [hwq]; exact hh.out.1.below (below_alloc (Below.refl _ _) _))
        have HBq : Hid (Below w.heap.size w wq) := hid (by rw [hwq]; exact below_alloc hh.out.2.1 _)
        have HQq : Hid (Rd wq B (by8 X.b)) := hid (by rw [hwq]; exact HQ.out.below (below_alloc (Below.refl _ _) _))
        have HBl : Hid (∀ a, B = some a → by8 X.b ≠ [] → a.block ≠ w.heap.size) := hid HNB.out
        have HZ : Hid (wq.cell? ⟨w5.heap.size, 1, none⟩ = some (.int .i64 X.n) ∧ wq.cell? ⟨w5.heap.size, 2, none⟩ = some (.int .i64 X.size) ∧ wq.cell? ⟨w5.heap.size, 3, none⟩ = some (.slice B X.b.length bc)) := hid (by rw [hwq]; refine ⟨?_, ?_, ?_⟩ <;> (rw [cell_of_row _ _ _ _ _ (0, 0) (heap_alloc_new w5 _)]; rfl))
        clear hwq d0 d1 d2 d3
        refine rstart (fun w' => w'.cell? ⟨w5.heap.size, 1, none⟩ = some (.int .i64 X.n) ∧ w'.cell? ⟨w5.heap.size, 2, none⟩ = some (.int .i64 X.size) ∧ w'.cell? ⟨w5.heap.size, 3, none⟩ = some (.slice B X.b.length bc)) 13 rfl (by kernel_rfl) (HZ.out) (fun _ _ _ _ _ h => h) (fun Q2 HN HQp HHeld => ?_)
        refine rtake 0 (.pointer (some ⟨w.heap.size, 0, none⟩)) rfl (by kernel_rfl) (by kernel_rfl) (by kernel_rfl) HQp HHeld (Or.inl ⟨by rfl, fun w' _ => by go_simp⟩) rfl (by simp only [Act.put, List.setIfInBounds_toArray, List.set_cons_zero, List.set_cons_succ]; rfl) ?_
        refine rtake 1 (.pointer (some ⟨w5.heap.size, 2, none⟩)) rfl (by kernel_rfl) (by kernel_rfl) (by kernel_rfl) HQp HHeld (Or.inl ⟨by rfl, fun w' _ => by go_simp⟩) rfl (by simp only [Act.put, List.setIfInBounds_toArray, List.set_cons_zero, List.set_cons_succ]; rfl) ?_
        refine rtake 2 (.int .i64 X.size) rfl (by kernel_rfl) (by kernel_rfl) (by kernel_rfl) HQp HHeld (Or.inl ⟨by rfl, fun w' hw' => by obtain ⟨z1, z2, z3⟩ := hw'; go_simp⟩) rfl (by simp only [Act.put, List.setIfInBounds_toArray, List.set_cons_zero, List.set_cons_succ]; rfl) ?_
        refine rtake 3 (.pointer (some ⟨w5.heap.size, 1, none⟩)) rfl (by kernel_rfl) (by kernel_rfl) (by kernel_rfl) HQp HHeld (Or.inl ⟨by rfl, fun w' _ => by go_simp⟩) rfl (by simp only [Act.put, List.setIfInBounds_toArray, List.set_cons_zero, List.set_cons_succ]; rfl) ?_
        refine rtake 4 (.int .i64 X.n) rfl (by kernel_rfl) (by kernel_rfl) (by kernel_rfl) HQp HHeld (Or.inl ⟨by rfl, fun w' hw' => by obtain ⟨z1, z2, z3⟩ := hw'; go_simp⟩) rfl (by simp only [Act.put, List.setIfInBounds_toArray, List.set_cons_zero, List.set_cons_succ]; rfl) ?_
        refine rtake 6 (.pointer (some ⟨w5.heap.size, 1, none⟩)) rfl (by kernel_rfl) (by kernel_rfl) (by kernel_rfl) HQp HHeld (Or.inl ⟨by rfl, fun w' _ => by go_simp⟩) rfl (by simp only [Act.put, List.setIfInBounds_toArray, List.set_cons_zero, List.set_cons_succ]; rfl) ?_
        refine rtake 7 (.int .i64 X.n) rfl (by kernel_rfl) (by kernel_rfl) (by kernel_rfl) HQp HHeld (Or.inl ⟨by rfl, fun w' hw' => by obtain ⟨z1, z2, z3⟩ := hw'; go_simp⟩) rfl (by simp only [Act.put, List.setIfInBounds_toArray, List.set_cons_zero, List.set_cons_succ]; rfl) ?_
        refine ralone 5 rfl (by kernel_rfl) (by rfl) (fun K hK => ?_)
        go_wp2_with fail
        refine (rdnum_ok _ w.heap.size p.1 X.size X.n (HRq.out.drewN 1)).mono ?_
        rintro e w7 ⟨rfl, hr7, hk7⟩
        have HRN := hid hr7
        have HK7 := hid hk7
        have HBN : Hid (Below w.heap.size w w7) := hid (below_chg (below_drewN HBq.out 1) hk7 HBq.out.size (fun k hk => by rw [hk]; exact Nat.le_refl _))
        clear hr7 hk7
        dsimp only
        refine hK.out _ _ ⟨HK7.out.cell HHeld.out.1 HNE.out, HK7.out.cell HHeld.out.2.1 HNE.out, HK7.out.cell HHeld.out.2.2 HNE.out⟩ (fun HHeld2 => ?_)
        clear HHeld hK K
        have HHeld := HHeld2
        clear HHeld2
        by_cases hv : numV X.size X.n p.1 = X.n
        · have hvb : (numV X.size X.n p.1 == X.n) = true := by simp [hv]
          have HV := hid hv
          clear hv
          refine rtake 8 (.bool true) rfl (by kernel_rfl) (by kernel_rfl) (by kernel_rfl) HQp HHeld (Or.inl ⟨by rfl, fun w' _ => by go_simp⟩) rfl (by simp only [Act.put, List.setIfInBounds_toArray, List.set_cons_zero, List.set_cons_succ]; rfl) ?_
          refine rtake 9 (.bool true) rfl (by kernel_rfl) (by kernel_rfl) (by kernel_rfl) HQp HHeld (Or.inl ⟨by rfl, fun w' _ => by go_simp⟩) rfl (by simp only [Act.put, List.setIfInBounds_toArray, List.set_cons_zero, List.set_cons_succ]; rfl) ?_
          refine rtake 10 (.bool p.2) rfl (by kernel_rfl) (by kernel_rfl) (by kernel_rfl) HQp HHeld (Or.inl ⟨by rfl, fun w' _ => by go_simp⟩) rfl (by simp only [Act.put, List.setIfInBounds_toArray, List.set_cons_zero, List.set_cons_succ]; rfl) ?_
          refine rtake 11 (.bool p.2) rfl (by kernel_rfl) (by kernel_rfl) (by kernel_rfl) HQp HHeld (Or.inl ⟨by rfl, fun w' _ => by go_simp⟩) rfl (by simp only [Act.put, List.setIfInBounds_toArray, List.set_cons_zero, List.set_cons_succ]; rfl) ?_
          refine rtake 12 (.bool p.2) rfl (by kernel_rfl) (by kernel_rfl) (by kernel_rfl) HQp HHeld (Or.inl ⟨by rfl, fun w' _ => by go_simp⟩) rfl (by simp only [Act.put, List.setIfInBounds_toArray, List.set_cons_zero, List.set_cons_succ]; rfl) ?_
          refine wpAnyH_done (by kernel_rfl) (HN.out _ _ ?_) _
          go_wp2_with fail
          go_roundw
          case rel => exact ⟨k + 1, by go_num, by omega, by rw [hst.out]; simp [readStep, HK1.out, HV.out], hid ⟨by rw [hst.out]; simp only [readStep, if_pos HK1.out]; exact HRN.out, HBN.out, Nat.le_trans (by rw [hst.out]; exact readStep_len _ _) hh.out.2.2⟩⟩
          case measure => simp [intOf]; omega
        · have hvb : (numV X.size X.n p.1 == X.n) = false := by simp [hv]
          have HV := hid hv
          clear hv
          refine rtake 8 (.bool false) rfl (by kernel_rfl) (by kernel_rfl) (by kernel_rfl) HQp HHeld (Or.inl ⟨by rfl, fun w' _ => by go_simp⟩) rfl (by simp only [Act.put, List.setIfInBounds_toArray, List.set_cons_zero, List.set_cons_succ]; rfl) ?_
          refine rtake 9 (.bool false) rfl (by kernel_rfl) (by kernel_rfl) (by kernel_rfl) HQp HHeld (Or.inl ⟨by rfl, fun w' _ => by go_simp⟩) rfl (by simp only [Act.put, List.setIfInBounds_toArray, List.set_cons_zero, List.set_cons_succ]; rfl) ?_
          refine rtake 10 (undef) rfl (by kernel_rfl) (by kernel_rfl) (by kernel_rfl) HQp HHeld (Or.inr ⟨by rfl, rfl⟩) rfl (by simp only [Act.put, List.setIfInBounds_toArray, List.set_cons_zero, List.set_cons_succ]; rfl) ?_
          refine rtake 11 (.bool false) rfl (by kernel_rfl) (by kernel_rfl) (by kernel_rfl) HQp HHeld (Or.inl ⟨by rfl, fun w' _ => by go_simp⟩) rfl (by simp only [Act.put, List.setIfInBounds_toArray, List.set_cons_zero, List.set_cons_succ]; rfl) ?_
          refine rtake 12 (.bool false) rfl (by kernel_rfl) (by kernel_rfl) (by kernel_rfl) HQp HHeld (Or.inl ⟨by rfl, fun w' _ => by go_simp⟩) rfl (by simp only [Act.put, List.setIfInBounds_toArray, List.set_cons_zero, List.set_cons_succ]; rfl) ?_
          refine wpAnyH_done (by kernel_rfl) (HN.out _ _ ?_) _
          go_wp2_with fail
          go_roundw
          case rel => exact ⟨k + 1, by go_num, by omega, by rw [hst.out]; simp [readStep, HK1.out, HV.out], hid ⟨by rw [hst.out]; simp only [readStep, if_pos HK1.out]; exact HRN.out, HBN.out, Nat.le_trans (by rw [hst.out]; exact readStep_len _ _) hh.out.2.2⟩⟩
          case measure => simp [intOf]; omega
      have gk : (X.kind == 1) = false := beq_eq_false_iff_ne.mpr k1
      have HK1 := hid k1
      clear k1
      by_cases k2 : X.kind = 2
      · have gk2 : (X.kind == 2) = true := beq_iff_eq.mpr k2
        have HK2 := hid k2
        clear k2
        go_wp2_with fail
        obtain ⟨wq, hwq⟩ : ∃ wq, wq = w5.alloc (Obj.cells #[Value.int .i64 X.kind, Value.int .i64 X.n, Value.int .i64 X.size, Value.slice B X.b.length bc] 97) := ⟨_, rfl⟩
        rw [← hwq]
        have HRq : Hid (RO wq w.heap.size p.1) := hid (by rw [hwq]; exact hh.out.1.below (below_alloc (Below.refl _ _) _))
        have HBq : Hid (Below w.heap.size w wq) := hid (by rw [hwq]; exact below_alloc hh.out.2.1 _)
        have HQq : Hid (Rd wq B (by8 X.b)) := hid (by rw [hwq]; exact HQ.out.below (below_alloc (Below.refl _ _) _))
        have HBl : Hid (∀ a, B = some a → by8 X.b ≠ [] → a.block ≠ w.heap.size) := hid HNB.out
        have HZ : Hid (wq.cell? ⟨w5.heap.size, 1, none⟩ = some (.int .i64 X.n) ∧ wq.cell? ⟨w5.heap.size, 2, none⟩ = some (.int .i64 X.size) ∧ wq.cell? ⟨w5.heap.size, 3, none⟩ = some (.slice B X.b.length bc)) := hid (by rw [hwq]; refine ⟨?_, ?_, ?_⟩ <;> (rw [cell_of_row _ _ _ _ _ (0, 0) (heap_alloc_new w5 _)]; rfl))
        clear hwq d0 d1 d2 d3
        refine rstart (fun w' => w'.cell? ⟨w5.heap.size, 1, none⟩ = some (.int .i64 X.n) ∧ w'.cell? ⟨w5.heap.size, 2, none⟩ = some (.int .i64 X.size) ∧ w'.cell? ⟨w5.heap.size, 3, none⟩ = some (.slice B X.b.length bc)) 12 rfl (by kernel_rfl) (HZ.out) (fun _ _ _ _ _ h => h) (fun Q2 HN HQp HHeld => ?_)
        refine rtake 0 (.pointer (some ⟨w.heap.size, 0, none⟩)) rfl (by kernel_rfl) (by kernel_rfl) (by kernel_rfl) HQp HHeld (Or.inl ⟨by rfl, fun w' _ => by go_simp⟩) rfl (by simp only [Act.put, List.setIfInBounds_toArray, List.set_cons_zero, List.set_cons_succ]; rfl) ?_
        refine rtake 1 (.pointer (some ⟨w5.heap.size, 3, none⟩)) rfl (by kernel_rfl) (by kernel_rfl) (by kernel_rfl) HQp HHeld (Or.inl ⟨by rfl, fun w' _ => by go_simp⟩) rfl (by simp only [Act.put, List.setIfInBounds_toArray, List.set_cons_zero, List.set_cons_succ]; rfl) ?_
        refine rtake 2 (.slice B X.b.length bc) rfl (by kernel_rfl) (by kernel_rfl) (by kernel_rfl) HQp HHeld (Or.inl ⟨by rfl, fun w' hw' => by obtain ⟨z1, z2, z3⟩ := hw'; go_simp⟩) rfl (by simp only [Act.put, List.setIfInBounds_toArray, List.set_cons_zero, List.set_cons_succ]; rfl) ?_
        refine rtake 3 (.int .i64 X.b.length) rfl (by kernel_rfl) (by kernel_rfl) (by kernel_rfl) HQp HHeld (Or.inl ⟨by rfl, fun w' _ => by go_simp⟩) rfl (by simp only [Act.put, List.setIfInBounds_toArray, List.set_cons_zero, List.set_cons_succ]; rfl) ?_
        refine rtake 5 (.pointer (some ⟨w5.heap.size, 3, none⟩)) rfl (by kernel_rfl) (by kernel_rfl) (by kernel_rfl) HQp HHeld (Or.inl ⟨by rfl, fun w' _ => by go_simp⟩) rfl (by simp only [Act.put, List.setIfInBounds_toArray, List.set_cons_zero, List.set_cons_succ]; rfl) ?_
        refine rtake 6 (.slice B X.b.length bc) rfl (by kernel_rfl) (by kernel_rfl) (by kernel_rfl) HQp HHeld (Or.inl ⟨by rfl, fun w' hw' => by obtain ⟨z1, z2, z3⟩ := hw'; go_simp⟩) rfl (by simp only [Act.put, List.setIfInBounds_toArray, List.set_cons_zero, List.set_cons_succ]; rfl) ?_
        refine ralone 4 rfl (by kernel_rfl) (by rfl) (fun K hK => ?_)
        go_wp2_with fail
        refine (rdbytes_ok _ w.heap.size p.1 X.b.length (HRq.out.drewN 1) hh.out.2.2).mono ?_
        rintro e w7 ⟨v, rfl, hown, hr7, hk7⟩
        obtain ⟨A3, c3, rfl, hn3, hm3b, hrd3⟩ := rd_of_own hown
        have HR7 := hid hr7
        have HK7 := hid hk7
        have HV7 := hid hrd3
        have HB7 := hid (rd_chg (HQq.out.drewN 1) hk7 HBl.out)
        have HW7 : Hid (Below w.heap.size w w7) := hid (below_chg (below_drewN HBq.out 1) hk7 HBq.out.size (fun k hk => by rw [hk]; exact Nat.le_refl _))
        have HL7 : Hid ((bytV X.b.length p.1).length ≤ 9223372036854775807) := hid (by unfold maxLen at hm3b; omega)
        clear hr7 hk7 hown hrd3 hn3 hm3b
        dsimp only
        refine hK.out _ _ ⟨HK7.out.cell HHeld.out.1 HNE.out, HK7.out.cell HHeld.out.2.1 HNE.out, HK7.out.cell HHeld.out.2.2 HNE.out⟩ (fun HHeld2 => ?_)
        clear HHeld hK K
        have HHeld := HHeld2
        clear HHeld2
        by_cases hv : bytV X.b.length p.1 = X.b
        · have HV := hid hv
          have HVB : Hid (decide (bytV X.b.length p.1 = X.b) = true) := hid (by simp [hv])
          clear hv
          refine ralone 7 rfl (by kernel_rfl) (by rfl) (fun K hK => ?_)
          go_wp2_with fail
          refine (same_b A3 B (bytV X.b.length p.1) X.b c3 bc w7 HV7.out HB7.out HL7.out).mono ?_
          rintro e w8 ⟨rfl, hb8⟩
          rw [HVB.out]
          have HC8 := hid (Chg.of_below hb8 (fun _ => False))
          have HRN := hid (HR7.out.below hb8)
          have HBN := hid (below_step HW7.out hb8)
          clear hb8
          dsimp only
          refine hK.out _ _ ⟨HC8.out.cell HHeld.out.1 (fun h => h), HC8.out.cell HHeld.out.2.1 (fun h => h), HC8.out.cell HHeld.out.2.2 (fun h => h)⟩ (fun HHeld2 => ?_)
          clear HHeld hK K
          have HHeld := HHeld2
          clear HHeld2
          refine rtake 8 (.bool true) rfl (by kernel_rfl) (by kernel_rfl) (by kernel_rfl) HQp HHeld (Or.inl ⟨by rfl, fun w' _ => by go_simp⟩) rfl (by simp only [Act.put, List.setIfInBounds_toArray, List.set_cons_zero, List.set_cons_succ]; rfl) ?_
          refine rtake 9 (.bool p.2) rfl (by kernel_rfl) (by kernel_rfl) (by kernel_rfl) HQp HHeld (Or.inl ⟨by rfl, fun w' _ => by go_simp⟩) rfl (by simp only [Act.put, List.setIfInBounds_toArray, List.set_cons_zero, List.set_cons_succ]; rfl) ?_
          refine rtake 10 (.bool p.2) rfl (by kernel_rfl) (by kernel_rfl) (by kernel_rfl) HQp HHeld (Or.inl ⟨by rfl, fun w' _ => by go_simp⟩) rfl (by simp only [Act.put, List.setIfInBounds_toArray, List.set_cons_zero, List.set_cons_succ]; rfl) ?_
          refine rtake 11 (.bool p.2) rfl (by kernel_rfl) (by kernel_rfl) (by kernel_rfl) HQp HHeld (Or.inl ⟨by rfl, fun w' _ => by go_simp⟩) rfl (by simp only [Act.put, List.setIfInBounds_toArray, List.set_cons_zero, List.set_cons_succ]; rfl) ?_
          refine wpAnyH_done (by kernel_rfl) (HN.out _ _ ?_) _
          go_wp2_with fail
          go_roundw
          case rel => exact ⟨k + 1, by go_num, by omega, by rw [hst.out]; simp [readStep, HK2.out, HV.out], hid ⟨by rw [hst.out]; simp only [readStep, if_neg HK1.out, if_pos HK2.out]; exact HRN.out, HBN.out, Nat.le_trans (by rw [hst.out]; exact readStep_len _ _) hh.out.2.2⟩⟩
          case measure => simp [intOf]; omega
        · have HV := hid hv
          have HVB : Hid (decide (bytV X.b.length p.1 = X.b) = false) := hid (by simp [hv])
          clear hv
          refine ralone 7 rfl (by kernel_rfl) (by rfl) (fun K hK => ?_)
          go_wp2_with fail
          refine (same_b A3 B (bytV X.b.length p.1) X.b c3 bc w7 HV7.out HB7.out HL7.out).mono ?_
          rintro e w8 ⟨rfl, hb8⟩
          rw [HVB.out]
          have HC8 := hid (Chg.of_below hb8 (fun _ => False))
          have HRN := hid (HR7.out.below hb8)
          have HBN := hid (below_step HW7.out hb8)
          clear hb8
          dsimp only
          refine hK.out _ _ ⟨HC8.out.cell HHeld.out.1 (fun h => h), HC8.out.cell HHeld.out.2.1 (fun h => h), HC8.out.cell HHeld.out.2.2 (fun h => h)⟩ (fun HHeld2 => ?_)
          clear HHeld hK K
          have HHeld := HHeld2
          clear HHeld2
          refine rtake 8 (.bool false) rfl (by kernel_rfl) (by kernel_rfl) (by kernel_rfl) HQp HHeld (Or.inl ⟨by rfl, fun w' _ => by go_simp⟩) rfl (by simp only [Act.put, List.setIfInBounds_toArray, List.set_cons_zero, List.set_cons_succ]; rfl) ?_
          refine rtake 9 (undef) rfl (by kernel_rfl) (by kernel_rfl) (by kernel_rfl) HQp HHeld (Or.inr ⟨by rfl, rfl⟩) rfl (by simp only [Act.put, List.setIfInBounds_toArray, List.set_cons_zero, List.set_cons_succ]; rfl) ?_
          refine rtake 10 (.bool false) rfl (by kernel_rfl) (by kernel_rfl) (by kernel_rfl) HQp HHeld (Or.inl ⟨by rfl, fun w' _ => by go_simp⟩) rfl (by simp only [Act.put, List.setIfInBounds_toArray, List.set_cons_zero, List.set_cons_succ]; rfl) ?_
          refine rtake 11 (.bool false) rfl (by kernel_rfl) (by kernel_rfl) (by kernel_rfl) HQp HHeld (Or.inl ⟨by rfl, fun w' _ => by go_simp⟩) rfl (by simp only [Act.put, List.setIfInBounds_toArray, List.set_cons_zero, List.set_cons_succ]; rfl) ?_
          refine wpAnyH_done (by kernel_rfl) (HN.out _ _ ?_) _
          go_wp2_with fail
          go_roundw
          case rel => exact ⟨k + 1, by go_num, by omega, by rw [hst.out]; simp [readStep, HK2.out, HV.out], hid ⟨by rw [hst.out]; simp only [readStep, if_neg HK1.out, if_pos HK2.out]; exact HRN.out, HBN.out, Nat.le_trans (by rw [hst.out]; exact readStep_len _ _) hh.out.2.2⟩⟩
          case measure => simp [intOf]; omega
      have gk2 : (X.kind == 2) = false := beq_eq_false_iff_ne.mpr k2
      have HK2 := hid k2
      clear k2
      by_cases k3 : X.kind = 3
      · have gk3 : (X.kind == 3) = true := beq_iff_eq.mpr k3
        have HK3 := hid k3
        clear k3
        go_wp2_with fail
        obtain ⟨wq, hwq⟩ : ∃ wq, wq = w5.alloc (Obj.cells #[Value.int .i64 X.kind, Value.int .i64 X.n, Value.int .i64 X.size, Value.slice B X.b.length bc] 97) := ⟨_, rfl⟩
        rw [← hwq]
        have HRq : Hid (RO wq w.heap.size p.1) := hid (by rw [hwq]; exact hh.out.1.below (below_alloc (Below.refl _ _) _))
        have HBq : Hid (Below w.heap.size w wq) := hid (by rw [hwq]; exact below_alloc hh.out.2.1 _)
        have HQq : Hid (Rd wq B (by8 X.b)) := hid (by rw [hwq]; exact HQ.out.below (below_alloc (Below.refl _ _) _))
        have HBl : Hid (∀ a, B = some a → by8 X.b ≠ [] → a.block ≠ w.heap.size) := hid HNB.out
        have HZ : Hid (wq.cell? ⟨w5.heap.size, 1, none⟩ = some (.int .i64 X.n) ∧ wq.cell? ⟨w5.heap.size, 2, none⟩ = some (.int .i64 X.size) ∧ wq.cell? ⟨w5.heap.size, 3, none⟩ = some (.slice B X.b.length bc)) := hid (by rw [hwq]; refine ⟨?_, ?_, ?_⟩ <;> (rw [cell_of_row _ _ _ _ _ (0, 0) (heap_alloc_new w5 _)]; rfl))
        clear hwq d0 d1 d2 d3
        refine rstart (fun w' => w'.cell? ⟨w5.heap.size, 1, none⟩ = some (.int .i64 X.n) ∧ w'.cell? ⟨w5.heap.size, 2, none⟩ = some (.int .i64 X.size) ∧ w'.cell? ⟨w5.heap.size, 3, none⟩ = some (.slice B X.b.length bc)) 12 rfl (by kernel_rfl) (HZ.out) (fun _ _ _ _ _ h => h) (fun Q2 HN HQp HHeld => ?_)
        refine rtake 0 (.pointer (some ⟨w.heap.size, 0, none⟩)) rfl (by kernel_rfl) (by kernel_rfl) (by kernel_rfl) HQp HHeld (Or.inl ⟨by rfl, fun w' _ => by go_simp⟩) rfl (by simp only [Act.put, List.setIfInBounds_toArray, List.set_cons_zero, List.set_cons_succ]; rfl) ?_
        refine rtake 1 (.pointer (some ⟨w5.heap.size, 3, none⟩)) rfl (by kernel_rfl) (by kernel_rfl) (by kernel_rfl) HQp HHeld (Or.inl ⟨by rfl, fun w' _ => by go_simp⟩) rfl (by simp only [Act.put, List.setIfInBounds_toArray, List.set_cons_zero, List.set_cons_succ]; rfl) ?_
        refine rtake 2 (.slice B X.b.length bc) rfl (by kernel_rfl) (by kernel_rfl) (by kernel_rfl) HQp HHeld (Or.inl ⟨by rfl, fun w' hw' => by obtain ⟨z1, z2, z3⟩ := hw'; go_simp⟩) rfl (by simp only [Act.put, List.setIfInBounds_toArray, List.set_cons_zero, List.set_cons_succ]; rfl) ?_
        refine rtake 3 (.int .i64 X.b.length) rfl (by kernel_rfl) (by kernel_rfl) (by kernel_rfl) HQp HHeld (Or.inl ⟨by rfl, fun w' _ => by go_simp⟩) rfl (by simp only [Act.put, List.setIfInBounds_toArray, List.set_cons_zero, List.set_cons_succ]; rfl) ?_
        refine rtake 5 (.pointer (some ⟨w5.heap.size, 3, none⟩)) rfl (by kernel_rfl) (by kernel_rfl) (by kernel_rfl) HQp HHeld (Or.inl ⟨by rfl, fun w' _ => by go_simp⟩) rfl (by simp only [Act.put, List.setIfInBounds_toArray, List.set_cons_zero, List.set_cons_succ]; rfl) ?_
        refine rtake 6 (.slice B X.b.length bc) rfl (by kernel_rfl) (by kernel_rfl) (by kernel_rfl) HQp HHeld (Or.inl ⟨by rfl, fun w' hw' => by obtain ⟨z1, z2, z3⟩ := hw'; go_simp⟩) rfl (by simp only [Act.put, List.setIfInBounds_toArray, List.set_cons_zero, List.set_cons_succ]; rfl) ?_
        refine ralone 4 rfl (by kernel_rfl) (by rfl) (fun K hK => ?_)
        go_wp2_with fail
        refine (rdfix_ok _ w.heap.size p.1 X.b.length (HRq.out.drewN 1) hh.out.2.2).mono ?_
        rintro e w7 ⟨v, rfl, hown, hr7, hk7⟩
        obtain ⟨A3, c3, rfl, hn3, hm3b, hrd3⟩ := rd_of_own hown
        have HR7 := hid hr7
        have HK7 := hid hk7
        have HV7 := hid hrd3
        have HB7 := hid (rd_chg (HQq.out.drewN 1) hk7 HBl.out)
        have HW7 : Hid (Below w.heap.size w w7) := hid (below_chg (below_drewN HBq.out 1) hk7 HBq.out.size (fun k hk => by rw [hk]; exact Nat.le_refl _))
        have HL7 : Hid ((fixV X.b.length p.1).length ≤ 9223372036854775807) := hid (by unfold maxLen at hm3b; omega)
        clear hr7 hk7 hown hrd3 hn3 hm3b
        dsimp only
        refine hK.out _ _ ⟨HK7.out.cell HHeld.out.1 HNE.out, HK7.out.cell HHeld.out.2.1 HNE.out, HK7.out.cell HHeld.out.2.2 HNE.out⟩ (fun HHeld2 => ?_)
        clear HHeld hK K
        have HHeld := HHeld2
        clear HHeld2
        by_cases hv : fixV X.b.length p.1 = X.b
        · have HV := hid hv
          have HVB : Hid (decide (fixV X.b.length p.1 = X.b) = true) := hid (by simp [hv])
          clear hv
          refine ralone 7 rfl (by kernel_rfl) (by rfl) (fun K hK => ?_)
          go_wp2_with fail
          refine (same_b A3 B (fixV X.b.length p.1) X.b c3 bc w7 HV7.out HB7.out HL7.out).mono ?_
          rintro e w8 ⟨rfl, hb8⟩
          rw [HVB.out]
          have HC8 := hid (Chg.of_below hb8 (fun _ => False))
          have HRN := hid (HR7.out.below hb8)
          have HBN := hid (below_step HW7.out hb8)
          clear hb8
          dsimp only
          refine hK.out _ _ ⟨HC8.out.cell HHeld.out.1 (fun h => h), HC8.out.cell HHeld.out.2.1 (fun h => h), HC8.out.cell HHeld.out.2.2 (fun h => h)⟩ (fun HHeld2 => ?_)
          clear HHeld hK K
          have HHeld := HHeld2
          clear HHeld2
          refine rtake 8 (.bool true) rfl (by kernel_rfl) (by kernel_rfl) (by kernel_rfl) HQp HHeld (Or.inl ⟨by rfl, fun w' _ => by go_simp⟩) rfl (by simp only [Act.put, List.setIfInBounds_toArray, List.set_cons_zero, List.set_cons_succ]; rfl) ?_
          refine rtake 9 (.bool p.2) rfl (by kernel_rfl) (by kernel_rfl) (by kernel_rfl) HQp HHeld (Or.inl ⟨by rfl, fun w' _ => by go_simp⟩) rfl (by simp only [Act.put, List.setIfInBounds_toArray, List.set_cons_zero, List.set_cons_succ]; rfl) ?_
          refine rtake 10 (.bool p.2) rfl (by kernel_rfl) (by kernel_rfl) (by kernel_rfl) HQp HHeld (Or.inl ⟨by rfl, fun w' _ => by go_simp⟩) rfl (by simp only [Act.put, List.setIfInBounds_toArray, List.set_cons_zero, List.set_cons_succ]; rfl) ?_
          refine rtake 11 (.bool p.2) rfl (by kernel_rfl) (by kernel_rfl) (by kernel_rfl) HQp HHeld (Or.inl ⟨by rfl, fun w' _ => by go_simp⟩) rfl (by simp only [Act.put, List.setIfInBounds_toArray, List.set_cons_zero, List.set_cons_succ]; rfl) ?_
          refine wpAnyH_done (by kernel_rfl) (HN.out _ _ ?_) _
          go_wp2_with fail
          go_roundw
          case rel => exact ⟨k + 1, by go_num, by omega, by rw [hst.out]; simp [readStep, HK3.out, HV.out], hid ⟨by rw [hst.out]; simp only [readStep, if_neg HK1.out, if_neg HK2.out, if_pos HK3.out]; exact HRN.out, HBN.out, Nat.le_trans (by rw [hst.out]; exact readStep_len _ _) hh.out.2.2⟩⟩
          case measure => simp [intOf]; omega
        · have HV := hid hv
          have HVB : Hid (decide (fixV X.b.length p.1 = X.b) = false) := hid (by simp [hv])
          clear hv
          refine ralone 7 rfl (by kernel_rfl) (by rfl) (fun K hK => ?_)
          go_wp2_with fail
          refine (same_b A3 B (fixV X.b.length p.1) X.b c3 bc w7 HV7.out HB7.out HL7.out).mono ?_
          rintro e w8 ⟨rfl, hb8⟩
          rw [HVB.out]
          have HC8 := hid (Chg.of_below hb8 (fun _ => False))
          have HRN := hid (HR7.out.below hb8)
          have HBN := hid (below_step HW7.out hb8)
          clear hb8
          dsimp only
          refine hK.out _ _ ⟨HC8.out.cell HHeld.out.1 (fun h => h), HC8.out.cell HHeld.out.2.1 (fun h => h), HC8.out.cell HHeld.out.2.2 (fun h => h)⟩ (fun HHeld2 => ?_)
          clear HHeld hK K
          have HHeld := HHeld2
          clear HHeld2
          refine rtake 8 (.bool false) rfl (by kernel_rfl) (by kernel_rfl) (by kernel_rfl) HQp HHeld (Or.inl ⟨by rfl, fun w' _ => by go_simp⟩) rfl (by simp only [Act.put, List.setIfInBounds_toArray, List.set_cons_zero, List.set_cons_succ]; rfl) ?_
          refine rtake 9 (undef) rfl (by kernel_rfl) (by kernel_rfl) (by kernel_rfl) HQp HHeld (Or.inr ⟨by rfl, rfl⟩) rfl (by simp only [Act.put, List.setIfInBounds_toArray, List.set_cons_zero, List.set_cons_succ]; rfl) ?_
          refine rtake 10 (.bool false) rfl (by kernel_rfl) (by kernel_rfl) (by kernel_rfl) HQp HHeld (Or.inl ⟨by rfl, fun w' _ => by go_simp⟩) rfl (by simp only [Act.put, List.setIfInBounds_toArray, List.set_cons_zero, List.set_cons_succ]; rfl) ?_
          refine rtake 11 (.bool false) rfl (by kernel_rfl) (by kernel_rfl) (by kernel_rfl) HQp HHeld (Or.inl ⟨by rfl, fun w' _ => by go_simp⟩) rfl (by simp only [Act.put, List.setIfInBounds_toArray, List.set_cons_zero, List.set_cons_succ]; rfl) ?_
          refine wpAnyH_done (by kernel_rfl) (HN.out _ _ ?_) _
          go_wp2_with fail
          go_roundw
          case rel => exact ⟨k + 1, by go_num, by omega, by rw [hst.out]; simp [readStep, HK3.out, HV.out], hid ⟨by rw [hst.out]; simp only [readStep, if_neg HK1.out, if_neg HK2.out, if_pos HK3.out]; exact HRN.out, HBN.out, Nat.le_trans (by rw [hst.out]; exact readStep_len _ _) hh.out.2.2⟩⟩
          case measure => simp [intOf]; omega
      have gk3 : (X.kind == 3) = false := beq_eq_false_iff_ne.mpr k3
      have HK3 := hid k3
      clear k3
      go_wp2_with fail
      go_roundw
      case rel => exact ⟨k + 1, by go_num, by omega, by rw [hst.out]; simp [readStep, HK1.out, HK2.out, HK3.out], hid ⟨by rw [hst.out]; simp only [readStep, if_neg HK1.out, if_neg HK2.out, if_neg HK3.out]; exact hh.out.1.below (below_alloc (Below.refl _ _) _), below_alloc hh.out.2.1 _, Nat.le_trans (by rw [hst.out]; exact readStep_len _ _) hh.out.2.2⟩⟩
      case measure => simp [intOf]; omega
    · have e : k = l.length := by omega
      subst e
      rw [List.take_length] at hh ⊢
      go_wp2_with fail
      refine (rddone_ok _ _ _ hh.out.1).mono ?_
      rintro e w6 ⟨rfl, rfl⟩
      go_wp2_with fail
      go_ret2
      exact ⟨rfl, hh.out.2.1⟩
end Go.Proofs.Ytlgcfnbhnpnkiaa
