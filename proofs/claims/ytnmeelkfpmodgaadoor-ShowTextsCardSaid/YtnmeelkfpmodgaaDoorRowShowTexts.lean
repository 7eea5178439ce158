/- The statement ShowTexts: for every input the law returns true, and the input reads as it did. No condition. -/
import Derived.Test.YtnmeelkfpmodgaaDoorRows
import Derived.Test.YtnmeelkfpmodgaaDoorE42X
import Derived.Test.YtnmeelkfpmodgaaDoorPo
import Derived.WalkKit
import Derived.ProofKit
import Derived.OpenShut
import Derived.ShutString
import Derived.ChangeOld
import Derived.Below
import Derived.SizedLaws
import Derived.Test.YtnmeelkfpmodgaaDoorGl
import Derived.Test.YtnmeelkfpmodgaaDoorCards
import Derived.Test.YtnmeelkfpmodgaaDoorTie
import Derived.LaidMore
import Derived.Lay
import Derived.SevenTiedAt
import Derived.Stop.Joined
set_option linter.unusedVariables false
namespace Go.Proofs.YtnmeelkfpmodgaaDoor.showTextsRow
open Go.ChangeShapes Go.WideShapes Go.ChangeAt Go.RowKit
open Go.ChangeMaps (open_string shut_string)
theorem own : ownKnob Tryd.prog.godebug = none := by kernel_rfl
theorem laidOut : laidOutB Tryd.prog = true := by kernel_rfl
theorem op_api_State : Opens Tryd.prog 26 ((Kn.int).pair ((((Kn.u8).arr 32)).pair ((((Kn.int).pair ((Kn.int).pair ((Kn.int).pair ((((Kn.u8).arr 32)).pair Kn.unit)))).slice).pair ((((Kn.int).pair ((Kn.int).pair ((Kn.int).pair (((Kn.u8).slice).pair ((((Kn.int).pair ((Kn.int).pair Kn.unit)).slice).pair ((((Kn.u8).slice).slice).pair (((((Kn.u8).arr 32)).slice).pair Kn.unit))))))).slice).pair Kn.unit)))) := (Opens.struct Tryd.underlying26 (by kernel_rfl) (l := [(3, 1), (22, 32), (23, 1), (24, 1)]) (by kernel_rfl) (OpensF.cons (s := 1) rfl (Opens.int Tryd.underlying3) (OpensF.cons (s := 32) rfl (Opens.arr Tryd.underlying22 (by kernel_rfl) (by kernel_rfl) (Opens.u8 Tryd.underlying5)) (OpensF.cons (s := 1) rfl (Opens.slice Tryd.underlying23 (by kernel_rfl) (by decide) (Opens.struct Tryd.underlying58 (by kernel_rfl) (l := [(3, 1), (3, 1), (3, 1), (22, 32)]) (by kernel_rfl) (OpensF.cons (s := 1) rfl (Opens.int Tryd.underlying3) (OpensF.cons (s := 1) rfl (Opens.int Tryd.underlying3) (OpensF.cons (s := 1) rfl (Opens.int Tryd.underlying3) (OpensF.cons (s := 32) rfl (Opens.arr Tryd.underlying22 (by kernel_rfl) (by kernel_rfl) (Opens.u8 Tryd.underlying5)) OpensF.nil)))))) (OpensF.cons (s := 1) rfl (Opens.slice Tryd.underlying24 (by kernel_rfl) (by decide) (Opens.struct Tryd.underlying33 (by kernel_rfl) (l := [(3, 1), (3, 1), (3, 1), (28, 1), (29, 1), (30, 1), (31, 1)]) (by kernel_rfl) (OpensF.cons (s := 1) rfl (Opens.int Tryd.underlying3) (OpensF.cons (s := 1) rfl (Opens.int Tryd.underlying3) (OpensF.cons (s := 1) rfl (Opens.int Tryd.underlying3) (OpensF.cons (s := 1) rfl (Opens.slice Tryd.underlying28 (by kernel_rfl) (by decide) (Opens.u8 Tryd.underlying5)) (OpensF.cons (s := 1) rfl (Opens.slice Tryd.underlying29 (by kernel_rfl) (by decide) (Opens.struct Tryd.underlying46 (by kernel_rfl) (l := [(3, 1), (3, 1)]) (by kernel_rfl) (OpensF.cons (s := 1) rfl (Opens.int Tryd.underlying3) (OpensF.cons (s := 1) rfl (Opens.int Tryd.underlying3) OpensF.nil)))) (OpensF.cons (s := 1) rfl (Opens.slice Tryd.underlying30 (by kernel_rfl) (by decide) (Opens.slice Tryd.underlying28 (by kernel_rfl) (by decide) (Opens.u8 Tryd.underlying5))) (OpensF.cons (s := 1) rfl (Opens.slice Tryd.underlying31 (by kernel_rfl) (by decide) (Opens.arr Tryd.underlying22 (by kernel_rfl) (by kernel_rfl) (Opens.u8 Tryd.underlying5))) OpensF.nil))))))))) OpensF.nil)))))
theorem kt_api_State : KT ((Kn.int).pair ((((Kn.u8).arr 32)).pair ((((Kn.int).pair ((Kn.int).pair ((Kn.int).pair ((((Kn.u8).arr 32)).pair Kn.unit)))).slice).pair ((((Kn.int).pair ((Kn.int).pair ((Kn.int).pair (((Kn.u8).slice).pair ((((Kn.int).pair ((Kn.int).pair Kn.unit)).slice).pair ((((Kn.u8).slice).slice).pair (((((Kn.u8).arr 32)).slice).pair Kn.unit))))))).slice).pair Kn.unit)))) (tyP tyI (tyP (tyA 32 ty8) (tyP (tyL (tyP tyI (tyP tyI (tyP tyI (tyA 32 ty8))))) (tyL (tyP tyI (tyP tyI (tyP tyI (tyP (tyL ty8) (tyP (tyL (tyP tyI tyI)) (tyP (tyL (tyL ty8)) (tyL (tyA 32 ty8)))))))))))) (fun x => (id x.1, (fun x => ((List.map id) x.1, (fun x => ((List.map (fun x => (id x.1, (fun x => (id x.1, (fun x => (id x.1, (fun x => (List.map id) x.1) x.2)) x.2)) x.2))) x.1, (fun x => (List.map (fun x => (id x.1, (fun x => (id x.1, (fun x => (id x.1, (fun x => ((List.map id) x.1, (fun x => ((List.map (fun x => (id x.1, (fun x => id x.1) x.2))) x.1, (fun x => ((List.map (List.map id)) x.1, (fun x => (List.map (List.map id)) x.1) x.2)) x.2)) x.2)) x.2)) x.2)) x.2))) x.1) x.2)) x.2)) x.2)) := (kt_pair kt_int (kt_pair (kt_arr kt_8 rfl (by decide)) (kt_pair (kt_slice (kt_pair kt_int (kt_pair kt_int (kt_pair kt_int (kt_last (kt_arr kt_8 rfl (by decide)))))) rfl (by decide)) (kt_last (kt_slice (kt_pair kt_int (kt_pair kt_int (kt_pair kt_int (kt_pair (kt_slice kt_8 rfl (by decide)) (kt_pair (kt_slice (kt_pair kt_int (kt_last kt_int)) rfl (by decide)) (kt_pair (kt_slice (kt_slice kt_8 rfl (by decide)) rfl (by decide)) (kt_last (kt_slice (kt_arr kt_8 rfl (by decide)) rfl (by decide))))))))) rfl (by decide))))))
set_option maxRecDepth 100000 in
set_option maxHeartbeats 1000000 in
theorem lifted (os : Os) (started : os.Started) (H : Type) (enc : TypeId × Value → H) :
    ReturnsInHanded {} Tryd.checked os 3 .any (fun w args => (Rows.showTextsSpec.pre enc Tryd.prog Tryd.f3 Rows.showTextsRow.domain false w args ∧ laidMetH Tryd.prog Rows.showTextsRow.laid w) ∧ sizedMet enc Tryd.prog Tryd.f3 (OpenSpec.ofChange Rows.showTextsSpec) false w args) (Rows.showTextsSpec.post enc Tryd.prog Tryd.f3 false true false false) := by
  refine returnsInHanded_of_change_both (C := Tryd.checked) (X := fun w _ => laidMetH Tryd.prog Rows.showTextsRow.laid w) (fun _ _ _ hh h => h.of_heap hh) own started (by kernel_rfl) Tryd.func3
    (ChangeSpec.witness_shaped (enc := enc) (C := Tryd.checked) (os := os) (X := fun w _ => laidMetH Tryd.prog Rows.showTextsRow.laid w) false (World.laidAll Tryd.prog os Rows.showTextsRow.laid) #[.agg #[.int .i64 0, .int .u8 0, .int .u8 0, .int .u8 0, .int .u8 0, .int .u8 0, .int .u8 0, .int .u8 0, .int .u8 0, .int .u8 0, .int .u8 0, .int .u8 0, .int .u8 0, .int .u8 0, .int .u8 0, .int .u8 0, .int .u8 0, .int .u8 0, .int .u8 0, .int .u8 0, .int .u8 0, .int .u8 0, .int .u8 0, .int .u8 0, .int .u8 0, .int .u8 0, .int .u8 0, .int .u8 0, .int .u8 0, .int .u8 0, .int .u8 0, .int .u8 0, .int .u8 0, .slice none 0 0, .slice none 0 0]] 8 (World.laidAll_os _ _ _) (World.shaped_of_ZipB (by kernel_rfl) (by kernel_rfl)) (by kernel_rfl) (by kernel_rfl) (by kernel_rfl) (by rw [MakeChecks.laidMetH_plain _ _ _ (by kernel_rfl)]; exact laidMet_laidAll _ (by kernel_rfl) (by kernel_rfl))) ?_
  intro W base args ds gs before hval0 hW hcnd hsz0 hL hSh _
  have hval : ∀ (j : Nat) t v, Tryd.f3.params[j]? = some t → args[j]? = some v → Value.okWide Tryd.prog W .any base t v := hval0
  have hW' := hW
  obtain ⟨p, q, hA0, hV, rfl, hfz, hnd⟩ := hW
  have hA : DataW.TrodAll enc Tryd.prog W 0 (fun _ => true) true Tryd.f3.params.toList args.toList ds p := hA0
  rw [Tryd.params3] at hA hval
  obtain ⟨v0, vs0, d0, ds0, p0, q0, hargs, rfl, rfl, h0, r0⟩ := trodAll_cons hA
  obtain ⟨rfl, rfl, rfl⟩ := trodAll_nil r0
  obtain rfl : args = #[v0] := by cases args; simp_all
  obtain ⟨rfl, rfl⟩ := trodVars_none hV
  have k0 := h0
  have lt0 : ∀ x ∈ p0, x.block < W.heap.size := by obtain ⟨m, hm⟩ := k0; exact DataW.trod_lt m _ _ _ hm
  obtain ⟨fuel0, hf0⟩ := h0
  obtain ⟨l0, hK0⟩ := op_api_State hf0
  obtain ⟨y0, hT0⟩ : ∃ y, (tyP tyI (tyP (tyA 32 ty8) (tyP (tyL (tyP tyI (tyP tyI (tyP tyI (tyA 32 ty8))))) (tyL (tyP tyI (tyP tyI (tyP tyI (tyP (tyL ty8) (tyP (tyL (tyP tyI tyI)) (tyP (tyL (tyL ty8)) (tyL (tyA 32 ty8)))))))))))).rep (snapAll W) v0.cells.toList y := ⟨_, kt_api_State hK0⟩
  obtain ⟨cs0, rfl, hcs0⟩ := agg_of ((tyP tyI (tyP (tyA 32 ty8) (tyP (tyL (tyP tyI (tyP tyI (tyP tyI (tyA 32 ty8))))) (tyL (tyP tyI (tyP tyI (tyP tyI (tyP (tyL ty8) (tyP (tyL (tyP tyI tyI)) (tyP (tyL (tyL ty8)) (tyL (tyA 32 ty8)))))))))))).len hT0) (by decide)
  rw [hcs0] at hT0
  clear hA0 hval0 hsz0
  obtain ⟨Fu, hF⟩ := chatelainelaw42_ShowTexts_true _ ⟨_, _, hT0⟩
  have hGT : GT (snapAll W) := gt_start (tab_of (by rw [MakeChecks.laidMetH_plain _ _ _ (by kernel_rfl)] at hL; exact hL) (List.mem_iff_getElem?.2 ⟨2, by kernel_rfl⟩))
  refine (chatelainelaw42_ShowTexts_ok Fu (S0 := snapAll W) hGT _ _ hT0 true hF W (Mem.startS (snapAll_ok W))).mono fun e W' hlaw => ?_
  obtain ⟨he, bel⟩ := law_yes hlaw
  subst he
  exact ⟨_, rfl, _, _, _, [], _, [], hW', trodAll_mk1 (shut_bool Tryd.underlying4 _), (trodAll_cons_mk (Below.trod laidOut (by kernel_rfl) (of_decide_eq_true (by kernel_rfl)) k0 bel lt0) trodAll_mk0), rfl, bel.frame _, fun h => by cases h⟩
theorem over : Rows.showTextsRow.holds Tryd.pinned (OpenSpec.ofChange Rows.showTextsSpec) :=
  OpenClaim.holds_of_wide 3 Tryd.f3 rfl rfl rfl rfl rfl rfl rfl ⟨rfl, rfl, rfl, rfl, rfl⟩ rfl rfl rfl rfl rfl (by kernel_rfl) Tryd.func3 (by kernel_rfl)
    (of_decide_eq_true (by kernel_rfl)) (by unfold Func.isWrapper; first | (rw [if_pos (by decide +kernel)]; kernel_rfl) | (rw [if_neg (by decide +kernel)]; exact ⟨rfl, rfl⟩))
    (fun os started H enc _ => lifted os started H enc)
theorem proved : Rows.ShowTextsSaid := over
#print axioms proved
theorem carded : Rows.ShowTextsCardSaid :=
  Claim7.holds_tied_plain_at .later [] [.data, .data, .data] true (true, "8421887a44578ac11fa0e2a3a48d4a88a51f3b4d3f31db4981c38b4aac86b501") false proved (fun _ h => by cases h) (by kernel_rfl) (fun _ h => by cases h) showTexts_row_tie rfl ⟨rfl, rfl⟩ (by kernel_rfl) rfl
    (fun f fn hf hfn => by
      obtain rfl : f = 3 := Option.some.inj ((show Tryd.prog.funcNamed "chatelaine/chatelainelaw42.ShowTexts" = some 3 by kernel_rfl).symm.trans hf) |>.symm
      obtain rfl : fn = Tryd.f3 := (Option.some.inj (Tryd.func3.symm.trans hfn)).symm
      exact ⟨by kernel_rfl, fun j t ht => by
        rw [Tryd.params3] at ht
        have hm : t ∈ ([26] : List TypeId) := by simpa using Array.mem_of_getElem? ht
        have hall : (([26] : List TypeId).all fun u => !Tryd.prog.wantsStandIn u) = true := by kernel_rfl
        exact (show Tryd.prog.wantsStandIn t = false by simpa using List.all_eq_true.1 hall t hm)⟩)
    (by kernel_rfl)
#print axioms carded
end Go.Proofs.YtnmeelkfpmodgaaDoor.showTextsRow
namespace Go.Proofs.YtnmeelkfpmodgaaDoor
/-- The statement ShowTexts. -/
theorem showTexts_holds : Rows.ShowTextsCardSaid := showTextsRow.carded
end Go.Proofs.YtnmeelkfpmodgaaDoor
