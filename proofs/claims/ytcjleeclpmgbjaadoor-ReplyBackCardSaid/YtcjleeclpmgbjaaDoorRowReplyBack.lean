/- The statement ReplyBack: for every input the law returns true, and the input reads as it did. No condition. -/
import Derived.Test.YtcjleeclpmgbjaaDoorRows
import Derived.Test.YtcjleeclpmgbjaaDoorE32
import Derived.Test.YtcjleeclpmgbjaaDoorPo
import Derived.WalkKit
import Derived.ProofKit
import Derived.OpenShut
import Derived.ShutString
import Derived.ChangeOld
import Derived.Below
import Derived.SizedLaws
import Derived.Test.YtcjleeclpmgbjaaDoorGl
import Derived.Test.YtcjleeclpmgbjaaDoorCards
import Derived.Test.YtcjleeclpmgbjaaDoorTie
import Derived.LaidMore
import Derived.Lay
import Derived.SevenTiedAt
import Derived.Stop.Joined
set_option linter.unusedVariables false
namespace Go.Proofs.YtcjleeclpmgbjaaDoor.replyBackRow
open Go.ChangeShapes Go.WideShapes Go.ChangeAt Go.RowKit
open Go.ChangeMaps (open_string shut_string)
theorem own : ownKnob Tryd.prog.godebug = none := by kernel_rfl
theorem laidOut : laidOutB Tryd.prog = true := by kernel_rfl
theorem op_Suint8 : Opens Tryd.prog 23 ((Kn.u8).slice) := (Opens.slice Tryd.underlying23 (by kernel_rfl) (by decide) (Opens.u8 Tryd.underlying5))
theorem kt_Suint8 : KT ((Kn.u8).slice) (tyL ty8) (List.map id) := (kt_slice kt_8 rfl (by decide))
theorem op_api_Reply : Opens Tryd.prog 25 ((Kn.int).pair (((Kn.u8).slice).pair Kn.unit)) := (Opens.struct Tryd.underlying25 (by kernel_rfl) (l := [(22, 1), (23, 1)]) (by kernel_rfl) (OpensF.cons (s := 1) rfl (Opens.int Tryd.underlying22) (OpensF.cons (s := 1) rfl (Opens.slice Tryd.underlying23 (by kernel_rfl) (by decide) (Opens.u8 Tryd.underlying5)) OpensF.nil)))
theorem kt_api_Reply : KT ((Kn.int).pair (((Kn.u8).slice).pair Kn.unit)) (tyP tyI (tyL ty8)) (fun x => (id x.1, (fun x => (List.map id) x.1) x.2)) := (kt_pair kt_int (kt_last (kt_slice kt_8 rfl (by decide))))
set_option maxRecDepth 100000 in
set_option maxHeartbeats 1000000 in
theorem lifted (os : Os) (started : os.Started) (H : Type) (enc : TypeId × Value → H) :
    ReturnsInHanded {} Tryd.checked os 3 .any (fun w args => (Rows.replyBackSpec.pre enc Tryd.prog Tryd.f3 Rows.replyBackRow.domain false w args ∧ laidMetH Tryd.prog Rows.replyBackRow.laid w) ∧ sizedMet enc Tryd.prog Tryd.f3 (OpenSpec.ofChange Rows.replyBackSpec) false w args) (Rows.replyBackSpec.post enc Tryd.prog Tryd.f3 false true false false) := by
  refine returnsInHanded_of_change_both (C := Tryd.checked) (X := fun w _ => laidMetH Tryd.prog Rows.replyBackRow.laid w) (fun _ _ _ hh h => h.of_heap hh) own started (by kernel_rfl) Tryd.func3
    (ChangeSpec.witness_shaped (enc := enc) (C := Tryd.checked) (os := os) (X := fun w _ => laidMetH Tryd.prog Rows.replyBackRow.laid w) false (World.laidAll Tryd.prog os Rows.replyBackRow.laid) #[.agg #[.int .i64 0, .slice none 0 0], .slice none 0 0] 8 (World.laidAll_os _ _ _) (World.shaped_of_ZipB (by kernel_rfl) (by kernel_rfl)) (by kernel_rfl) (by kernel_rfl) (by kernel_rfl) (by rw [MakeChecks.laidMetH_plain _ _ _ (by kernel_rfl)]; exact laidMet_laidAll _ (by kernel_rfl) (by kernel_rfl))) ?_
  intro W base args ds gs before hval0 hW hcnd hsz0 hL hSh _
  have hval : ∀ (j : Nat) t v, Tryd.f3.params[j]? = some t → args[j]? = some v → Value.okWide Tryd.prog W .any base t v := hval0
  have hW' := hW
  obtain ⟨p, q, hA0, hV, rfl, hfz, hnd⟩ := hW
  have hA : DataW.TrodAll enc Tryd.prog W 0 (fun _ => true) true Tryd.f3.params.toList args.toList ds p := hA0
  rw [Tryd.params3] at hA hval
  obtain ⟨v0, vs0, d0, ds0, p0, q0, hargs, rfl, rfl, h0, r0⟩ := trodAll_cons hA
  obtain ⟨v1, vs1, d1, ds1, p1, q1, rfl, rfl, rfl, h1, r1⟩ := trodAll_cons r0
  obtain ⟨rfl, rfl, rfl⟩ := trodAll_nil r1
  obtain rfl : args = #[v0, v1] := by cases args; simp_all
  obtain ⟨rfl, rfl⟩ := trodVars_none hV
  have k0 := h0
  have lt0 : ∀ x ∈ p0, x.block < W.heap.size := by obtain ⟨m, hm⟩ := k0; exact DataW.trod_lt m _ _ _ hm
  obtain ⟨fuel0, hf0⟩ := h0
  obtain ⟨l0, hK0⟩ := op_api_Reply hf0
  obtain ⟨y0, hT0⟩ : ∃ y, (tyP tyI (tyL ty8)).rep (snapAll W) v0.cells.toList y := ⟨_, kt_api_Reply hK0⟩
  obtain ⟨cs0, rfl, hcs0⟩ := agg_of ((tyP tyI (tyL ty8)).len hT0) (by decide)
  rw [hcs0] at hT0
  have k1 := h1
  have lt1 : ∀ x ∈ p1, x.block < W.heap.size := by obtain ⟨m, hm⟩ := k1; exact DataW.trod_lt m _ _ _ hm
  obtain ⟨fuel1, hf1⟩ := h1
  obtain ⟨l1, hK1⟩ := op_Suint8 hf1
  obtain ⟨y1, hT1⟩ : ∃ y, (tyL ty8).rep (snapAll W) v1.cells.toList y := ⟨_, kt_Suint8 hK1⟩
  obtain ⟨a1, len1, cap1, rfl⟩ := okWide_slice Tryd.underlying23 (hval 1 23 v1 rfl rfl)
  obtain ⟨a1', c1, hcs1, hs1⟩ := hT1
  simp [Value.cells] at hcs1
  obtain ⟨rfl, rfl, rfl⟩ := hcs1
  clear hA0 hval0 hsz0
  obtain ⟨Fu, hF⟩ := chatelainelaw32_ReplyBack_true _ ⟨_, _, hT0⟩ _ hs1.has
  have hGT : GT (snapAll W) := gt_start (tab_of (by rw [MakeChecks.laidMetH_plain _ _ _ (by kernel_rfl)] at hL; exact hL) (List.mem_iff_getElem?.2 ⟨2, by kernel_rfl⟩))
  refine (chatelainelaw32_ReplyBack_ok Fu (S0 := snapAll W) hGT _ _ hT0 _ _ _ hs1 true hF W (Mem.startS (snapAll_ok W))).mono fun e W' hlaw => ?_
  obtain ⟨he, bel⟩ := law_yes hlaw
  subst he
  exact ⟨_, rfl, _, _, _, [], _, [], hW', trodAll_mk1 (shut_bool Tryd.underlying4 _), (trodAll_cons_mk (Below.trod laidOut (by kernel_rfl) (of_decide_eq_true (by kernel_rfl)) k0 bel lt0) (trodAll_cons_mk (Below.trod laidOut (by kernel_rfl) (of_decide_eq_true (by kernel_rfl)) k1 bel lt1) trodAll_mk0)), rfl, bel.frame _, fun h => by cases h⟩
theorem over : Rows.replyBackRow.holds Tryd.pinned (OpenSpec.ofChange Rows.replyBackSpec) :=
  OpenClaim.holds_of_wide 3 Tryd.f3 rfl rfl rfl rfl rfl rfl rfl ⟨rfl, rfl, rfl, rfl, rfl⟩ rfl rfl rfl rfl rfl (by kernel_rfl) Tryd.func3 (by kernel_rfl)
    (of_decide_eq_true (by kernel_rfl)) (by unfold Func.isWrapper; first | (rw [if_pos (by decide +kernel)]; kernel_rfl) | (rw [if_neg (by decide +kernel)]; exact ⟨rfl, rfl⟩))
    (fun os started H enc _ => lifted os started H enc)
theorem proved : Rows.ReplyBackSaid := over
#print axioms proved
theorem carded : Rows.ReplyBackCardSaid :=
  Claim7.holds_tied_plain_at .later [] [.data, .data, .data] true (true, "cc82158abb63c3ae0b3c180120a3f2aac014685777f97496d28528bf119834ab") false proved (fun _ h => by cases h) (by kernel_rfl) (fun _ h => by cases h) replyBack_row_tie rfl ⟨rfl, rfl⟩ (by kernel_rfl) rfl
    (fun f fn hf hfn => by
      obtain rfl : f = 3 := Option.some.inj ((show Tryd.prog.funcNamed "chatelaine/chatelainelaw32.ReplyBack" = some 3 by kernel_rfl).symm.trans hf) |>.symm
      obtain rfl : fn = Tryd.f3 := (Option.some.inj (Tryd.func3.symm.trans hfn)).symm
      exact ⟨by kernel_rfl, fun j t ht => by
        rw [Tryd.params3] at ht
        have hm : t ∈ ([25, 23] : List TypeId) := by simpa using Array.mem_of_getElem? ht
        have hall : (([25, 23] : List TypeId).all fun u => !Tryd.prog.wantsStandIn u) = true := by kernel_rfl
        exact (show Tryd.prog.wantsStandIn t = false by simpa using List.all_eq_true.1 hall t hm)⟩)
    (by kernel_rfl)
#print axioms carded
end Go.Proofs.YtcjleeclpmgbjaaDoor.replyBackRow
namespace Go.Proofs.YtcjleeclpmgbjaaDoor
/-- The statement ReplyBack. -/
theorem replyBack_holds : Rows.ReplyBackCardSaid := replyBackRow.carded
end Go.Proofs.YtcjleeclpmgbjaaDoor
