/- The statement ShowParses: for every input the law returns true, and the input reads as it did. No condition. -/
import Derived.Test.YtnmeelkfpmodgaaDoorRows
import Derived.Test.YtnmeelkfpmodgaaDoorE42P
import Derived.Test.YtnmeelkfpmodgaaDoorPo
import Derived.WalkKit
import Derived.ProofKit
import Derived.OpenShut
import Derived.ShutString
import Derived.ChangeOld
import Derived.Below
import Derived.SizedLaws
import Derived.Test.YtnmeelkfpmodgaaDoorGl
import Derived.Test.YtnmeelkfpmodgaaDoorCards
import Derived.Test.YtnmeelkfpmodgaaDoorTie
import Derived.LaidMore
import Derived.Lay
import Derived.SevenTiedAt
import Derived.Stop.Joined
set_option linter.unusedVariables false
namespace Go.Proofs.YtnmeelkfpmodgaaDoor.showParsesRow
open Go.ChangeShapes Go.WideShapes Go.ChangeAt Go.RowKit
open Go.ChangeMaps (open_string shut_string)
theorem own : ownKnob Tryd.prog.godebug = none := by kernel_rfl
theorem laidOut : laidOutB Tryd.prog = true := by kernel_rfl
theorem op_string : Opens Tryd.prog 9 (Kn.str) := (Opens.str Tryd.underlying9)
theorem kt_string : KT (Kn.str) (tyS) (fun s => s.data.toList) := kt_str
theorem op_Sapi_Extent : Opens Tryd.prog 29 (((Kn.int).pair ((Kn.int).pair Kn.unit)).slice) := (Opens.slice Tryd.underlying29 (by kernel_rfl) (by decide) (Opens.struct Tryd.underlying46 (by kernel_rfl) (l := [(3, 1), (3, 1)]) (by kernel_rfl) (OpensF.cons (s := 1) rfl (Opens.int Tryd.underlying3) (OpensF.cons (s := 1) rfl (Opens.int Tryd.underlying3) OpensF.nil))))
theorem kt_Sapi_Extent : KT (((Kn.int).pair ((Kn.int).pair Kn.unit)).slice) (tyL (tyP tyI tyI)) (List.map (fun x => (id x.1, (fun x => id x.1) x.2))) := (kt_slice (kt_pair kt_int (kt_last kt_int)) rfl (by decide))
set_option maxRecDepth 100000 in
set_option maxHeartbeats 1000000 in
theorem lifted (os : Os) (started : os.Started) (H : Type) (enc : TypeId × Value → H) :
    ReturnsInHanded {} Tryd.checked os 5 .any (fun w args => (Rows.showParsesSpec.pre enc Tryd.prog Tryd.f5 Rows.showParsesRow.domain false w args ∧ laidMetH Tryd.prog Rows.showParsesRow.laid w) ∧ sizedMet enc Tryd.prog Tryd.f5 (OpenSpec.ofChange Rows.showParsesSpec) false w args) (Rows.showParsesSpec.post enc Tryd.prog Tryd.f5 false true false false) := by
  refine returnsInHanded_of_change_both (C := Tryd.checked) (X := fun w _ => laidMetH Tryd.prog Rows.showParsesRow.laid w) (fun _ _ _ hh h => h.of_heap hh) own started (by kernel_rfl) Tryd.func5
    (ChangeSpec.witness_shaped (enc := enc) (C := Tryd.checked) (os := os) (X := fun w _ => laidMetH Tryd.prog Rows.showParsesRow.laid w) false (World.laidAll Tryd.prog os Rows.showParsesRow.laid) #[.string ⟨#[]⟩, .slice none 0 0] 8 (World.laidAll_os _ _ _) (World.shaped_of_ZipB (by kernel_rfl) (by kernel_rfl)) (by kernel_rfl) (by kernel_rfl) (by kernel_rfl) (by rw [MakeChecks.laidMetH_plain _ _ _ (by kernel_rfl)]; exact laidMet_laidAll _ (by kernel_rfl) (by kernel_rfl))) ?_
  intro W base args ds gs before hval0 hW hcnd hsz0 hL hSh _
  have hval : ∀ (j : Nat) t v, Tryd.f5.params[j]? = some t → args[j]? = some v → Value.okWide Tryd.prog W .any base t v := hval0
  have hW' := hW
  obtain ⟨p, q, hA0, hV, rfl, hfz, hnd⟩ := hW
  have hA : DataW.TrodAll enc Tryd.prog W 0 (fun _ => true) true Tryd.f5.params.toList args.toList ds p := hA0
  rw [Tryd.params5] at hA hval
  obtain ⟨v0, vs0, d0, ds0, p0, q0, hargs, rfl, rfl, h0, r0⟩ := trodAll_cons hA
  obtain ⟨v1, vs1, d1, ds1, p1, q1, rfl, rfl, rfl, h1, r1⟩ := trodAll_cons r0
  obtain ⟨rfl, rfl, rfl⟩ := trodAll_nil r1
  obtain rfl : args = #[v0, v1] := by cases args; simp_all
  obtain ⟨rfl, rfl⟩ := trodVars_none hV
  have k0 := h0
  have lt0 : ∀ x ∈ p0, x.block < W.heap.size := by obtain ⟨m, hm⟩ := k0; exact DataW.trod_lt m _ _ _ hm
  obtain ⟨fuel0, hf0⟩ := h0
  obtain ⟨l0, hK0⟩ := op_string hf0
  obtain ⟨y0, hT0⟩ : ∃ y, (tyS).rep (snapAll W) v0.cells.toList y := ⟨_, kt_string hK0⟩
  obtain ⟨hcs0, hs0⟩ := hT0
  obtain ⟨s0, rfl⟩ : ∃ s, v0 = .string s := okWide_string Tryd.underlying9 (hval 0 9 v0 rfl rfl)
  simp [Value.cells] at hcs0
  subst hcs0
  have k1 := h1
  have lt1 : ∀ x ∈ p1, x.block < W.heap.size := by obtain ⟨m, hm⟩ := k1; exact DataW.trod_lt m _ _ _ hm
  obtain ⟨fuel1, hf1⟩ := h1
  obtain ⟨l1, hK1⟩ := op_Sapi_Extent hf1
  obtain ⟨y1, hT1⟩ : ∃ y, (tyL (tyP tyI tyI)).rep (snapAll W) v1.cells.toList y := ⟨_, kt_Sapi_Extent hK1⟩
  obtain ⟨a1, len1, cap1, rfl⟩ := okWide_slice Tryd.underlying29 (hval 1 29 v1 rfl rfl)
  obtain ⟨a1', c1, hcs1, hs1⟩ := hT1
  simp [Value.cells] at hcs1
  obtain ⟨rfl, rfl, rfl⟩ := hcs1
  clear hA0 hval0 hsz0
  obtain ⟨Fu, hF⟩ := chatelainelaw42_ShowParses_true _ hs0 _ hs1.has
  have hGL : GL (snapAll W) := gl_start hSh
  have hGT : GT (snapAll W) := gt_start (tab_of (by rw [MakeChecks.laidMetH_plain _ _ _ (by kernel_rfl)] at hL; exact hL) (List.mem_iff_getElem?.2 ⟨2, by kernel_rfl⟩))
  refine (chatelainelaw42_ShowParses_ok Fu (S0 := snapAll W) hGL hGT _ hs0 _ _ _ hs1 true hF W (Mem.startS (snapAll_ok W))).mono fun e W' hlaw => ?_
  obtain ⟨he, bel⟩ := law_yes hlaw
  subst he
  exact ⟨_, rfl, _, _, _, [], _, [], hW', trodAll_mk1 (shut_bool Tryd.underlying4 _), (trodAll_cons_mk (Below.trod laidOut (by kernel_rfl) (of_decide_eq_true (by kernel_rfl)) k0 bel lt0) (trodAll_cons_mk (Below.trod laidOut (by kernel_rfl) (of_decide_eq_true (by kernel_rfl)) k1 bel lt1) trodAll_mk0)), rfl, bel.frame _, fun h => by cases h⟩
theorem over : Rows.showParsesRow.holds Tryd.pinned (OpenSpec.ofChange Rows.showParsesSpec) :=
  OpenClaim.holds_of_wide 5 Tryd.f5 rfl rfl rfl rfl rfl rfl rfl ⟨rfl, rfl, rfl, rfl, rfl⟩ rfl rfl rfl rfl rfl (by kernel_rfl) Tryd.func5 (by kernel_rfl)
    (of_decide_eq_true (by kernel_rfl)) (by unfold Func.isWrapper; first | (rw [if_pos (by decide +kernel)]; kernel_rfl) | (rw [if_neg (by decide +kernel)]; exact ⟨rfl, rfl⟩))
    (fun os started H enc _ => lifted os started H enc)
theorem proved : Rows.ShowParsesSaid := over
#print axioms proved
theorem carded : Rows.ShowParsesCardSaid :=
  Claim7.holds_tied_plain_at .later [] [.data, .data, .data, .data, .pinned] true (true, "8421887a44578ac11fa0e2a3a48d4a88a51f3b4d3f31db4981c38b4aac86b501") false proved (fun _ h => by cases h) (by kernel_rfl) (fun _ h => by cases h) showParses_row_tie rfl ⟨rfl, rfl⟩ (by kernel_rfl) rfl
    (fun f fn hf hfn => by
      obtain rfl : f = 5 := Option.some.inj ((show Tryd.prog.funcNamed "chatelaine/chatelainelaw42.ShowParses" = some 5 by kernel_rfl).symm.trans hf) |>.symm
      obtain rfl : fn = Tryd.f5 := (Option.some.inj (Tryd.func5.symm.trans hfn)).symm
      exact ⟨by kernel_rfl, fun j t ht => by
        rw [Tryd.params5] at ht
        have hm : t ∈ ([9, 29] : List TypeId) := by simpa using Array.mem_of_getElem? ht
        have hall : (([9, 29] : List TypeId).all fun u => !Tryd.prog.wantsStandIn u) = true := by kernel_rfl
        exact (show Tryd.prog.wantsStandIn t = false by simpa using List.all_eq_true.1 hall t hm)⟩)
    (by kernel_rfl)
#print axioms carded
end Go.Proofs.YtnmeelkfpmodgaaDoor.showParsesRow
namespace Go.Proofs.YtnmeelkfpmodgaaDoor
/-- The statement ShowParses. -/
theorem showParses_holds : Rows.ShowParsesCardSaid := showParsesRow.carded
end Go.Proofs.YtnmeelkfpmodgaaDoor
