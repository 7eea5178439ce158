/- The statement FieldBack, walked. -/
import Derived.Test.YtlgcfnbhnpnkiaaReadC
set_option linter.unusedVariables false
set_option linter.unusedSimpArgs false
namespace Go.Proofs.Ytlgcfnbhnpnkiaa
open Go.RowKit
set_option maxRecDepth 100000 in
theorem fieldBack_ok (A : Option Addr) (l : List It) (c : Nat) (w : World) (h : kIt.At w A l) (hc : l.length ≤ c) (hm : c ≤ maxLen) :
    Calls Try.prog 13 #[.slice A l.length c] w fun e w' => e = .returned (.bool true) ∧ Below w.heap.size w w' := by
  have H := hid h
  clear h
  have F0 := fun w h => few12_ok w A l c h hc hm
  have W0 := fun w h => write12_ok w A l c h hc hm
  have C0 := fun w h hf => readClosure_ok w A l c h hc hm hf
  have FF := hid F0
  have WW := hid W0
  have CC := hid C0
  clear F0 W0 C0
  have HFA : Hid (fewB l = true → ∀ x ∈ l, x.b.length ≤ 100) := hid (fun hf x hx => by
    obtain ⟨i, hi, rfl⟩ := List.mem_iff_getElem.1 hx
    exact (few_at hf).1 i hi)
  go_enter Try.func13, Try.ntmps13
  go_wp2_with fail
  refine (awake12_ok _).mono ?_
  rintro e w1 ⟨rfl, hb1⟩
  have HB1 := hid (below_step (below_alloc (Below.refl w.heap.size w) _) hb1)
  have hbx1 : w1.cell? ⟨w.heap.size, 0, none⟩ = some (.slice A l.length c) := by
    refine (hb1.cell (by simp)).trans ?_
    rw [cell_of_row _ _ _ _ _ (0, 0) (heap_alloc_new w _)]; rfl
  clear hb1
  go_wp2_with fail
  refine (nownum_ok w1 1 1).mono ?_
  rintro e w2 ⟨rfl, rfl⟩
  go_wp2_with fail
  refine (nowbytes_ok w2 _).mono ?_
  rintro e w3 ⟨rfl, rfl⟩
  go_wp2_with fail
  refine (nowfix_ok w3 _).mono ?_
  rintro e w4 ⟨rfl, rfl⟩
  go_wp2_with fail
  refine (nowout_ok w4).mono ?_
  rintro e w5 ⟨rfl, rfl⟩
  go_wp2_with fail
  refine (nodone_ok w5).mono ?_
  rintro e w6 ⟨rfl, rfl⟩
  go_wp2_with fail
  refine (nonum_ok w6 1 1).mono ?_
  rintro e w7 ⟨rfl, rfl⟩
  go_wp2_with fail
  refine (nobytes_ok w7 1).mono ?_
  rintro e w8 ⟨rfl, rfl⟩
  go_wp2_with fail
  refine (nofix_ok w8 1).mono ?_
  rintro e w9 ⟨rfl, rfl⟩
  go_wp2_with fail
  refine (FF.out w9 (H.out.below HB1.out)).mono ?_
  rintro e w10 ⟨rfl, hb2⟩
  have hbl : w.heap.size < w9.heap.size := World.block_lt_of_cell? w9 _ hbx1
  have hbx2 : w10.cell? ⟨w.heap.size, 0, none⟩ = some (.slice A l.length c) := (hb2.cell hbl).trans hbx1
  have HB2 := hid (below_step HB1.out hb2)
  clear hb2 hbx1
  cases hf : fewB l
  · go_wp2_with fail
    go_ret
    exact ⟨rfl, HB2.out⟩
  have HF := hid hf
  go_wp2_with fail
  refine (WW.out w10 (H.out.below HB2.out) HF.out).mono ?_
  rintro e w11 ⟨g1, g2, rfl, hb3, hT, hl⟩
  obtain ⟨F1, F2, t1, t2, _, _, _⟩ := hT.ex
  have hbl2 : w.heap.size < w10.heap.size := World.block_lt_of_cell? w10 _ hbx2
  have hbx3 : w11.cell? ⟨w.heap.size, 0, none⟩ = some (.slice A l.length c) := (hb3.cell hbl2).trans hbx2
  have HB3 := hid (below_step HB2.out hb3)
  have T1 := hid t1
  have HL := hid hl
  have HS := hid (stS_ok l (0, []))
  clear hb3 hT t1 t2 hl hbx2
  obtain ⟨s, hs⟩ : ∃ s, s = stS l := ⟨_, rfl⟩
  rw [← hs] at T1 HL
  have HSS := hid hs
  clear hs hf
  go_wp2_with fail
  refine (wout_ok w11 F1 g1 s T1.out (by have := HL.out; omega)).mono ?_
  rintro e w12 ⟨v, rfl, hb4, hown⟩
  obtain ⟨A1, c1, rfl, hc1, hm1, hr1⟩ := rd_of_own hown
  have hbl3 : w.heap.size < w11.heap.size := World.block_lt_of_cell? w11 _ hbx3
  have hbx4 : w12.cell? ⟨w.heap.size, 0, none⟩ = some (.slice A l.length c) := (hb4.cell hbl3).trans hbx3
  have HB4 := hid (below_step HB3.out hb4)
  have HR1 := hid hr1
  clear hb4 hown hr1 hbx3
  by_cases he : s.1 = 0
  case neg =>
    have ge : (s.1 != 0) = true := bne_iff_ne.mpr he
    have ho : outL s = [] := by simp [outL, he]
    rw [ho]
    clear ho he
    go_wp2_with fail
    go_ret
    exact ⟨rfl, HB4.out⟩
  have ge : (s.1 != 0) = false := by rw [he]; rfl
  have HE := hid he
  clear he
  go_wp2_with fail
  have hd : outL s = (l.map encI).flatten ∧ (∀ x ∈ l, okI x) := by
    have h0 : (l.foldl stepS (0, [])).1 = 0 := by have := HE.out; rw [HSS.out] at this; exact this
    obtain ⟨_, k2, k3⟩ := HS.out h0 (HFA.out HF.out)
    refine ⟨?_, k2⟩
    rw [outL, if_pos HE.out, HSS.out]
    exact k3
  have hlen : (outL s).length ≤ 3300 := by rw [outL, if_pos HE.out]; exact HL.out
  obtain ⟨D, hD⟩ : ∃ D, D = outL s := ⟨_, rfl⟩
  rw [← hD] at hd hlen hc1 HR1 ⊢
  have r1 : readS l D = ((0, []), true) := by rw [hd.1]; have := fold_good l [] true hd.2; simpa [readS] using this
  have r2 : readS l (D ++ [0]) = ((0, [0]), true) := by rw [hd.1]; exact fold_good l [0] true hd.2
  have r3 : D ≠ [] → (readS l D.dropLast).1.1 = 10 := by
    intro hne
    have hp : D.dropLast <+: (l.map encI).flatten := by rw [← hd.1]; exact List.dropLast_prefix D
    exact fold_short l D.dropLast true hd.2 hp (by rw [← hd.1]; have := List.length_pos_iff.2 hne; rw [List.length_dropLast]; omega)
  have R1 := hid r1
  have R2 := hid r2
  have R3 := hid r3
  have HC1 := hid hc1
  unfold maxLen at hm1
  clear r1 r2 r3 hd hD
  refine (CC.out w12 (H.out.below HB4.out) HF.out w.heap.size hbx4 A1 D c1 HR1.out hc1 (by omega) (by omega)).mono ?_
  rintro e w13 ⟨rfl, hb5⟩
  rw [R1.out]
  have hbl4 : w.heap.size < w12.heap.size := World.block_lt_of_cell? w12 _ hbx4
  have hbx5 : w13.cell? ⟨w.heap.size, 0, none⟩ = some (.slice A l.length c) := (hb5.cell hbl4).trans hbx4
  have HB5 := hid (below_step HB4.out hb5)
  have HR2 := hid (HR1.out.below hb5)
  have hdr : doneR (0, []) = 0 := rfl
  have HRA := hid (HR2.out.below (below_alloc (Below.refl w13.heap.size w13) (.cells #[] 5)))
  have HOL := hid (World.ownsRow_lit (base := w13.heap.size) (e := 5) (size := 1) w13 #[] 0 (Nat.le_refl _) (Nat.zero_le _) rfl)
  clear hb5 hbx4
  go_wp2_with (first
    | (have tok := HO14; clear tok; at_builtin; go_must (refine append1 (w0 := w13) rfl (.tmp 82) (.tmp 83) 52 5 (.int .u8 0) 1 rfl Try.underlying52 info_u8 rfl v14 D.length ([] ++ by8 D) rfl (.int .u8 0) rfl rfl w13.heap.size (by have := HO14.out; rwa [Nat.zero_add] at this) HB14.out HB14.out.size (by omega) (by unfold maxLen; omega) ?_; intro v15 w15 hown15 hb15 _ _; have HO15 := hid hown15; have HB15 := hid hb15; clear hown15 hb15))
    | (at_builtin; go_must (refine append_any (w0 := w13) rfl (.tmp 80) (.tmp 81) 52 5 (.int .u8 0) 1 1 rfl Try.underlying52 info_u8 rfl (by decide) (.slice (some ⟨w13.heap.size, 0, none⟩) 0 0) 0 [] rfl A1 D.length c1 (by8 D) rfl (by simp [by8_length]) HRA.out (by8_one _) w13.heap.size HOL.out (below_alloc (Below.refl _ _) _) (le_alloc (Nat.le_refl _)) (by omega) (by unfold maxLen; omega) ?_; intro v14 w14 hown14 hb14 _ _; have HO14 := hid hown14; have HB14 := hid hb14; clear hown14 hb14)))
  obtain ⟨A5, c5, rfl, hc5, hm5, hr5⟩ := rd_of_own HO15.out
  have hr5' : Rd w15 A5 (by8 (D ++ [0])) := by
    have e : by8 [(0 : UInt8)] = [Value.int .u8 0] := rfl
    rw [by8_append, e]; simpa using hr5
  have hl5 : (D ++ [(0 : UInt8)]).length = D.length + 1 := by simp
  unfold maxLen at hm5
  have HBB : Hid (Below w.heap.size w w15) := hid (below_step HB5.out HB15.out)
  have hbl5 : w.heap.size < w13.heap.size := World.block_lt_of_cell? w13 _ hbx5
  have hbx6 : w15.cell? ⟨w.heap.size, 0, none⟩ = some (.slice A l.length c) := (HB15.out.cell hbl5).trans hbx5
  have HRD := hid ((HR2.out.below HB15.out))
  have C5 := CC.out w15 (H.out.below HBB.out) HF.out w.heap.size hbx6 A5 (D ++ [0]) c5 hr5' (by rw [hl5]; exact hc5) (by omega) (by rw [hl5]; omega)
  rw [R2.out, hl5] at C5
  clear hr5 hr5' hl5 hbx5 HO15 HB15 HO14 HB14
  refine C5.mono ?_
  clear C5
  rintro e w16 ⟨rfl, hb6⟩
  have hbl6 : w.heap.size < w15.heap.size := World.block_lt_of_cell? w15 _ hbx6
  have hbx7 : w16.cell? ⟨w.heap.size, 0, none⟩ = some (.slice A l.length c) := (hb6.cell hbl6).trans hbx6
  have HB6 := hid (below_step HBB.out hb6)
  have HR6 := hid (HRD.out.below hb6)
  have hdr2 : doneR (0, [0]) = 13 := rfl
  clear hb6 hbx6
  by_cases hD0 : D = []
  · have HD0 := hid hD0
    subst hD0
    go_wp2_with fail
    go_ret
    exact ⟨rfl, HB6.out⟩
  have hpos : 0 < D.length := List.length_pos_iff.2 hD0
  have HD0 := hid hD0
  have gz : ((D.length : Int) == 0) = false := beq_eq_false_iff_ne.mpr (by omega)
  clear hD0
  go_wp2_with fail
  have hl7 : D.dropLast.length = D.length - 1 := List.length_dropLast
  have hr7 : Rd w16 A1 (by8 D.dropLast) := by
    rw [List.dropLast_eq_take, ← by8_take]; exact HR6.out.take _
  have C7 := CC.out w16 (H.out.below HB6.out) HF.out w.heap.size hbx7 A1 D.dropLast c1 hr7 (by rw [hl7]; have := HC1.out; omega) (by omega) (by rw [hl7]; omega)
  have hdr3 : doneR (readS l D.dropLast).1 = 10 := by
    have := R3.out HD0.out
    unfold doneR; rw [this]; rfl
  rw [hl7, hdr3] at C7
  clear hl7 hr7 hdr3
  refine C7.mono ?_
  clear C7
  rintro e w17 ⟨rfl, hb7⟩
  have HB7 := hid (below_step HB6.out hb7)
  clear hb7
  go_wp2_with fail
  go_ret
  exact ⟨rfl, HB7.out⟩
end Go.Proofs.Ytlgcfnbhnpnkiaa
