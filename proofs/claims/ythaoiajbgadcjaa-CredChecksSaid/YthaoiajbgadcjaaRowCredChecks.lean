/- The statement CredChecks: for every input the law returns true, and the input reads as it did. No condition. -/
import Derived.Test.YthaoiajbgadcjaaRows
import Derived.Test.YthaoiajbgadcjaaE22A
import Derived.Test.YthaoiajbgadcjaaPs
import Derived.WalkKit
import Derived.ProofKit
import Derived.OpenShut
import Derived.ShutString
import Derived.ChangeOld
import Derived.Below
import Derived.SizedLaws
set_option linter.unusedVariables false
namespace Go.Proofs.Ythaoiajbgadcjaa.credChecksRow
open Go.ChangeShapes Go.WideShapes Go.ChangeAt Go.RowKit
open Go.ChangeMaps (open_string shut_string)
theorem own : ownKnob Try.prog.godebug = none := by kernel_rfl
theorem laidOut : laidOutB Try.prog = true := by kernel_rfl
theorem op_Suint8 : Opens Try.prog 22 ((Kn.u8).slice) := (Opens.slice Try.underlying22 (by kernel_rfl) (by decide) (Opens.u8 Try.underlying5))
theorem kt_Suint8 : KT ((Kn.u8).slice) (tyL ty8) (List.map id) := (kt_slice kt_8 rfl (by decide))
theorem op_A32_uint8 : Opens Try.prog 23 (((Kn.u8).arr 32)) := (Opens.arr Try.underlying23 (by kernel_rfl) (by kernel_rfl) (Opens.u8 Try.underlying5))
theorem kt_A32_uint8 : KT (((Kn.u8).arr 32)) (tyA 32 ty8) (List.map id) := (kt_arr kt_8 rfl (by decide))
set_option maxRecDepth 100000 in
set_option maxHeartbeats 1000000 in
theorem lifted (os : Os) (started : os.Started) (H : Type) (enc : TypeId × Value → H) :
    ReturnsInHanded {} Try.checked os 3 .any (Rows.credChecksSpec.pre6 enc Try.prog Try.f3 Rows.credChecksRow.domain false) (Rows.credChecksSpec.post enc Try.prog Try.f3 false true false false) := by
  refine returnsInHanded_of_change_sized (C := Try.checked) own started (by kernel_rfl) Try.func3
    (ChangeSpec.witness6 (enc := enc) (C := Try.checked) false ⟨#[], #[.slice none 0 0, .int .i64 0, .agg #[.int .u8 0, .int .u8 0, .int .u8 0, .int .u8 0, .int .u8 0, .int .u8 0, .int .u8 0, .int .u8 0, .int .u8 0, .int .u8 0, .int .u8 0, .int .u8 0, .int .u8 0, .int .u8 0, .int .u8 0, .int .u8 0, .int .u8 0, .int .u8 0, .int .u8 0, .int .u8 0, .int .u8 0, .int .u8 0, .int .u8 0, .int .u8 0, .int .u8 0, .int .u8 0, .int .u8 0, .int .u8 0, .int .u8 0, .int .u8 0, .int .u8 0, .int .u8 0]], []⟩ 8 (by kernel_rfl) (by kernel_rfl) (by kernel_rfl) (by kernel_rfl)) ?_
  intro W base args ds gs before hval0 hW hcnd hsz0 _
  have hval : ∀ (j : Nat) t v, Try.f3.params[j]? = some t → args[j]? = some v → Value.okWide Try.prog W .any base t v := hval0
  have hW' := hW
  obtain ⟨p, q, hA0, hV, rfl, hfz, hnd⟩ := hW
  have hA : DataW.TrodAll enc Try.prog W 0 (fun _ => true) true Try.f3.params.toList args.toList ds p := hA0
  rw [Try.params3] at hA hval
  obtain ⟨v0, vs0, d0, ds0, p0, q0, hargs, rfl, rfl, h0, r0⟩ := trodAll_cons hA
  obtain ⟨v1, vs1, d1, ds1, p1, q1, rfl, rfl, rfl, h1, r1⟩ := trodAll_cons r0
  obtain ⟨v2, vs2, d2, ds2, p2, q2, rfl, rfl, rfl, h2, r2⟩ := trodAll_cons r1
  obtain ⟨rfl, rfl, rfl⟩ := trodAll_nil r2
  obtain rfl : args = #[v0, v1, v2] := by cases args; simp_all
  obtain ⟨rfl, rfl⟩ := trodVars_none hV
  have k0 := h0
  have lt0 : ∀ x ∈ p0, x.block < W.heap.size := by obtain ⟨m, hm⟩ := k0; exact DataW.trod_lt m _ _ _ hm
  obtain ⟨fuel0, hf0⟩ := h0
  obtain ⟨l0, hK0⟩ := op_Suint8 hf0
  obtain ⟨y0, hT0⟩ : ∃ y, (tyL ty8).rep (snapAll W) v0.cells.toList y := ⟨_, kt_Suint8 hK0⟩
  obtain ⟨a0, len0, cap0, rfl⟩ := okWide_slice Try.underlying22 (hval 0 22 v0 rfl rfl)
  obtain ⟨a0', c0, hcs0, hs0⟩ := hT0
  simp [Value.cells] at hcs0
  obtain ⟨rfl, rfl, rfl⟩ := hcs0
  obtain ⟨a1, rfl, rfl, rfl, w1⟩ := open_int Try.underlying3 (hval 1 3 v1 rfl rfl) h1
  have k2 := h2
  have lt2 : ∀ x ∈ p2, x.block < W.heap.size := by obtain ⟨m, hm⟩ := k2; exact DataW.trod_lt m _ _ _ hm
  obtain ⟨fuel2, hf2⟩ := h2
  obtain ⟨l2, hK2⟩ := op_A32_uint8 hf2
  obtain ⟨y2, hT2⟩ : ∃ y, (tyA 32 ty8).rep (snapAll W) v2.cells.toList y := ⟨_, kt_A32_uint8 hK2⟩
  obtain ⟨cs2, rfl, hcs2⟩ := agg_of ((tyA 32 ty8).len hT2) (by decide)
  rw [hcs2] at hT2
  clear hA0 hval0 hsz0
  obtain ⟨Fu, hF⟩ := chatelainelaw22_CredChecks_true _ hs0.has (Nat.le_trans hs0.1 hs0.2.1) a1 (i64_wf w1) _ ⟨_, _, hT2⟩
  refine (chatelainelaw22_CredChecks_ok Fu (S0 := snapAll W) _ _ _ hs0 a1 (i64_wf w1) _ _ hT2 true hF W (Mem.startS (snapAll_ok W))).mono fun e W' hlaw => ?_
  obtain ⟨he, bel⟩ := law_yes hlaw
  subst he
  exact ⟨_, rfl, _, _, _, [], _, [], hW', trodAll_mk1 (shut_bool Try.underlying4 _), (trodAll_cons_mk (Below.trod laidOut (by kernel_rfl) (of_decide_eq_true (by kernel_rfl)) k0 bel lt0) (trodAll_cons_mk (shut_int Try.underlying3 w1) (trodAll_cons_mk (Below.trod laidOut (by kernel_rfl) (of_decide_eq_true (by kernel_rfl)) k2 bel lt2) trodAll_mk0))), rfl, bel.frame _, fun h => by cases h⟩
theorem over : Rows.credChecksRow.holds Try.pinned (OpenSpec.ofChange Rows.credChecksSpec) :=
  OpenClaim.holds_of_wide 3 Try.f3 rfl rfl rfl rfl rfl rfl rfl ⟨rfl, rfl, rfl, rfl, rfl⟩ rfl rfl rfl rfl rfl (by kernel_rfl) Try.func3 (by kernel_rfl)
    (of_decide_eq_true (by kernel_rfl)) (by unfold Func.isWrapper; first | (rw [if_pos (by decide +kernel)]; kernel_rfl) | (rw [if_neg (by decide +kernel)]; exact ⟨rfl, rfl⟩))
    (fun os started H enc _ => lifted os started H enc)
theorem proved : Rows.CredChecksSaid := over
#print axioms proved
end Go.Proofs.Ythaoiajbgadcjaa.credChecksRow
namespace Go.Proofs.Ythaoiajbgadcjaa
/-- The statement CredChecks. -/
theorem credChecks_holds : Rows.CredChecksSaid := credChecksRow.proved
end Go.Proofs.Ythaoiajbgadcjaa
