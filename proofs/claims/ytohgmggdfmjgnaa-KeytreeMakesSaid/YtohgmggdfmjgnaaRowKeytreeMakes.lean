/- The statement KeytreeMakes: for every input the law returns true, and the input reads as it did. No condition. -/
import Derived.Test.YtohgmggdfmjgnaaRows
import Derived.Test.YtohgmggdfmjgnaaE21M
import Derived.Test.YtohgmggdfmjgnaaPs
import Derived.WalkKit
import Derived.ProofKit
import Derived.OpenShut
import Derived.ShutString
import Derived.ChangeOld
import Derived.Below
import Derived.SizedLaws
set_option linter.unusedVariables false
namespace Go.Proofs.Ytohgmggdfmjgnaa.keytreeMakesRow
open Go.ChangeShapes Go.WideShapes Go.ChangeAt Go.RowKit
open Go.ChangeMaps (open_string shut_string)
theorem own : ownKnob Try.prog.godebug = none := by kernel_rfl
theorem laidOut : laidOutB Try.prog = true := by kernel_rfl
theorem op_Suint8 : Opens Try.prog 22 ((Kn.u8).slice) := (Opens.slice Try.underlying22 (by kernel_rfl) (by decide) (Opens.u8 Try.underlying5))
theorem kt_Suint8 : KT ((Kn.u8).slice) (tyL ty8) (List.map id) := (kt_slice kt_8 rfl (by decide))
set_option maxRecDepth 100000 in
set_option maxHeartbeats 1000000 in
theorem lifted (os : Os) (started : os.Started) (H : Type) (enc : TypeId × Value → H) :
    ReturnsInHanded {} Try.checked os 3 .any (Rows.keytreeMakesSpec.pre6 enc Try.prog Try.f3 Rows.keytreeMakesRow.domain false) (Rows.keytreeMakesSpec.post enc Try.prog Try.f3 false true false false) := by
  refine returnsInHanded_of_change_sized (C := Try.checked) own started (by kernel_rfl) Try.func3
    (ChangeSpec.witness6 (enc := enc) (C := Try.checked) false ⟨#[], #[.slice none 0 0, .slice none 0 0, .int .i64 0], []⟩ 8 (by kernel_rfl) (by kernel_rfl) (by kernel_rfl) (by kernel_rfl)) ?_
  intro W base args ds gs before hval0 hW hcnd hsz0 _
  have hval : ∀ (j : Nat) t v, Try.f3.params[j]? = some t → args[j]? = some v → Value.okWide Try.prog W .any base t v := hval0
  have hW' := hW
  obtain ⟨p, q, hA0, hV, rfl, hfz, hnd⟩ := hW
  have hA : DataW.TrodAll enc Try.prog W 0 (fun _ => true) true Try.f3.params.toList args.toList ds p := hA0
  rw [Try.params3] at hA hval
  obtain ⟨v0, vs0, d0, ds0, p0, q0, hargs, rfl, rfl, h0, r0⟩ := trodAll_cons hA
  obtain ⟨v1, vs1, d1, ds1, p1, q1, rfl, rfl, rfl, h1, r1⟩ := trodAll_cons r0
  obtain ⟨v2, vs2, d2, ds2, p2, q2, rfl, rfl, rfl, h2, r2⟩ := trodAll_cons r1
  obtain ⟨rfl, rfl, rfl⟩ := trodAll_nil r2
  obtain rfl : args = #[v0, v1, v2] := by cases args; simp_all
  obtain ⟨rfl, rfl⟩ := trodVars_none hV
  have k0 := h0
  have lt0 : ∀ x ∈ p0, x.block < W.heap.size := by obtain ⟨m, hm⟩ := k0; exact DataW.trod_lt m _ _ _ hm
  obtain ⟨fuel0, hf0⟩ := h0
  obtain ⟨l0, hK0⟩ := op_Suint8 hf0
  obtain ⟨y0, hT0⟩ : ∃ y, (tyL ty8).rep (snapAll W) v0.cells.toList y := ⟨_, kt_Suint8 hK0⟩
  obtain ⟨a0, len0, cap0, rfl⟩ := okWide_slice Try.underlying22 (hval 0 22 v0 rfl rfl)
  obtain ⟨a0', c0, hcs0, hs0⟩ := hT0
  simp [Value.cells] at hcs0
  obtain ⟨rfl, rfl, rfl⟩ := hcs0
  have k1 := h1
  have lt1 : ∀ x ∈ p1, x.block < W.heap.size := by obtain ⟨m, hm⟩ := k1; exact DataW.trod_lt m _ _ _ hm
  obtain ⟨fuel1, hf1⟩ := h1
  obtain ⟨l1, hK1⟩ := op_Suint8 hf1
  obtain ⟨y1, hT1⟩ : ∃ y, (tyL ty8).rep (snapAll W) v1.cells.toList y := ⟨_, kt_Suint8 hK1⟩
  obtain ⟨a1, len1, cap1, rfl⟩ := okWide_slice Try.underlying22 (hval 1 22 v1 rfl rfl)
  obtain ⟨a1', c1, hcs1, hs1⟩ := hT1
  simp [Value.cells] at hcs1
  obtain ⟨rfl, rfl, rfl⟩ := hcs1
  obtain ⟨a2, rfl, rfl, rfl, w2⟩ := open_int Try.underlying3 (hval 2 3 v2 rfl rfl) h2
  clear hA0 hval0 hsz0
  obtain ⟨Fu, hF⟩ := chatelainelaw21_KeytreeMakes_true _ hs0.has _ hs1.has a2 (i64_wf w2)
  refine (chatelainelaw21_KeytreeMakes_ok Fu (S0 := snapAll W) _ _ _ hs0 _ _ _ hs1 a2 (i64_wf w2) true hF W (Mem.startS (snapAll_ok W))).mono fun e W' hlaw => ?_
  obtain ⟨he, bel⟩ := law_yes hlaw
  subst he
  exact ⟨_, rfl, _, _, _, [], _, [], hW', trodAll_mk1 (shut_bool Try.underlying4 _), (trodAll_cons_mk (Below.trod laidOut (by kernel_rfl) (of_decide_eq_true (by kernel_rfl)) k0 bel lt0) (trodAll_cons_mk (Below.trod laidOut (by kernel_rfl) (of_decide_eq_true (by kernel_rfl)) k1 bel lt1) (trodAll_cons_mk (shut_int Try.underlying3 w2) trodAll_mk0))), rfl, bel.frame _, fun h => by cases h⟩
theorem over : Rows.keytreeMakesRow.holds Try.pinned (OpenSpec.ofChange Rows.keytreeMakesSpec) :=
  OpenClaim.holds_of_wide 3 Try.f3 rfl rfl rfl rfl rfl rfl rfl ⟨rfl, rfl, rfl, rfl, rfl⟩ rfl rfl rfl rfl rfl (by kernel_rfl) Try.func3 (by kernel_rfl)
    (of_decide_eq_true (by kernel_rfl)) (by unfold Func.isWrapper; first | (rw [if_pos (by decide +kernel)]; kernel_rfl) | (rw [if_neg (by decide +kernel)]; exact ⟨rfl, rfl⟩))
    (fun os started H enc _ => lifted os started H enc)
theorem proved : Rows.KeytreeMakesSaid := over
#print axioms proved
end Go.Proofs.Ytohgmggdfmjgnaa.keytreeMakesRow
namespace Go.Proofs.Ytohgmggdfmjgnaa
/-- The statement KeytreeMakes. -/
theorem keytreeMakes_holds : Rows.KeytreeMakesSaid := keytreeMakesRow.proved
end Go.Proofs.Ytohgmggdfmjgnaa
