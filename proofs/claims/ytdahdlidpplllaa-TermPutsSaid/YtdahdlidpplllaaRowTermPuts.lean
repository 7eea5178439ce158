/- The statement TermPuts: for every input the law returns true, and the input reads as it did. No condition. -/
import Derived.Test.YtdahdlidpplllaaRows
import Derived.Test.YtdahdlidpplllaaE36
import Derived.Test.YtdahdlidpplllaaPo
import Derived.WalkKit
import Derived.ProofKit
import Derived.OpenShut
import Derived.ShutString
import Derived.ChangeOld
import Derived.Below
import Derived.SizedLaws
set_option linter.unusedVariables false
namespace Go.Proofs.Ytdahdlidpplllaa.termPutsRow
open Go.ChangeShapes Go.WideShapes Go.ChangeAt Go.RowKit
open Go.ChangeMaps (open_string shut_string)
theorem own : ownKnob Try.prog.godebug = none := by kernel_rfl
theorem laidOut : laidOutB Try.prog = true := by kernel_rfl
theorem op_Schatelainelaw36_Do : Opens Try.prog 96 (((Kn.bool).pair ((Kn.int).pair (((Kn.int).pair ((Kn.int).pair ((Kn.int).pair Kn.unit))).pair Kn.unit))).slice) := (Opens.slice Try.underlying96 (by kernel_rfl) (by decide) (Opens.struct Try.underlying103 (by kernel_rfl) (l := [(4, 1), (3, 1), (89, 3)]) (by kernel_rfl) (OpensF.cons (s := 1) rfl (Opens.bool Try.underlying4) (OpensF.cons (s := 1) rfl (Opens.int Try.underlying3) (OpensF.cons (s := 3) rfl (Opens.struct Try.underlying89 (by kernel_rfl) (l := [(3, 1), (3, 1), (3, 1)]) (by kernel_rfl) (OpensF.cons (s := 1) rfl (Opens.int Try.underlying3) (OpensF.cons (s := 1) rfl (Opens.int Try.underlying3) (OpensF.cons (s := 1) rfl (Opens.int Try.underlying3) OpensF.nil)))) OpensF.nil)))))
theorem kt_Schatelainelaw36_Do : KT (((Kn.bool).pair ((Kn.int).pair (((Kn.int).pair ((Kn.int).pair ((Kn.int).pair Kn.unit))).pair Kn.unit))).slice) (tyL (tyP tyB (tyP tyI (tyP tyI (tyP tyI tyI))))) (List.map (fun x => (id x.1, (fun x => (id x.1, (fun x => (fun x => (id x.1, (fun x => (id x.1, (fun x => id x.1) x.2)) x.2)) x.1) x.2)) x.2))) := (kt_slice (kt_pair kt_bool (kt_pair kt_int (kt_last (kt_pair kt_int (kt_pair kt_int (kt_last kt_int)))))) rfl (by decide))
set_option maxRecDepth 100000 in
set_option maxHeartbeats 1000000 in
theorem lifted (os : Os) (started : os.Started) (H : Type) (enc : TypeId × Value → H) :
    ReturnsInHanded {} Try.checked os 13 .any (Rows.termPutsSpec.pre6 enc Try.prog Try.f13 Rows.termPutsRow.domain false) (Rows.termPutsSpec.post enc Try.prog Try.f13 false true false false) := by
  refine returnsInHanded_of_change_sized (C := Try.checked) own started (by kernel_rfl) Try.func13
    (ChangeSpec.witness6 (enc := enc) (C := Try.checked) false ⟨#[], #[.slice none 0 0], []⟩ 8 (by kernel_rfl) (by kernel_rfl) (by kernel_rfl) (by kernel_rfl)) ?_
  intro W base args ds gs before hval0 hW hcnd hsz0 _
  have hval : ∀ (j : Nat) t v, Try.f13.params[j]? = some t → args[j]? = some v → Value.okWide Try.prog W .any base t v := hval0
  have hW' := hW
  obtain ⟨p, q, hA0, hV, rfl, hfz, hnd⟩ := hW
  have hA : DataW.TrodAll enc Try.prog W 0 (fun _ => true) true Try.f13.params.toList args.toList ds p := hA0
  rw [Try.params13] at hA hval
  obtain ⟨v0, vs0, d0, ds0, p0, q0, hargs, rfl, rfl, h0, r0⟩ := trodAll_cons hA
  obtain ⟨rfl, rfl, rfl⟩ := trodAll_nil r0
  obtain rfl : args = #[v0] := by cases args; simp_all
  obtain ⟨rfl, rfl⟩ := trodVars_none hV
  have k0 := h0
  have lt0 : ∀ x ∈ p0, x.block < W.heap.size := by obtain ⟨m, hm⟩ := k0; exact DataW.trod_lt m _ _ _ hm
  obtain ⟨fuel0, hf0⟩ := h0
  obtain ⟨l0, hK0⟩ := op_Schatelainelaw36_Do hf0
  obtain ⟨y0, hT0⟩ : ∃ y, (tyL (tyP tyB (tyP tyI (tyP tyI (tyP tyI tyI))))).rep (snapAll W) v0.cells.toList y := ⟨_, kt_Schatelainelaw36_Do hK0⟩
  obtain ⟨a0, len0, cap0, rfl⟩ := okWide_slice Try.underlying96 (hval 0 96 v0 rfl rfl)
  obtain ⟨a0', c0, hcs0, hs0⟩ := hT0
  simp [Value.cells] at hcs0
  obtain ⟨rfl, rfl, rfl⟩ := hcs0
  clear hA0 hval0 hsz0
  obtain ⟨Fu, hF⟩ := chatelainelaw36_TermPuts_true _ hs0.has
  refine (chatelainelaw36_TermPuts_ok Fu (S0 := snapAll W) _ _ _ hs0 true hF W (Mem.startS (snapAll_ok W))).mono fun e W' hlaw => ?_
  obtain ⟨he, bel⟩ := law_yes hlaw
  subst he
  exact ⟨_, rfl, _, _, _, [], _, [], hW', trodAll_mk1 (shut_bool Try.underlying4 _), (trodAll_cons_mk (Below.trod laidOut (by kernel_rfl) (of_decide_eq_true (by kernel_rfl)) k0 bel lt0) trodAll_mk0), rfl, bel.frame _, fun h => by cases h⟩
theorem over : Rows.termPutsRow.holds Try.pinned (OpenSpec.ofChange Rows.termPutsSpec) :=
  OpenClaim.holds_of_wide 13 Try.f13 rfl rfl rfl rfl rfl rfl rfl ⟨rfl, rfl, rfl, rfl, rfl⟩ rfl rfl rfl rfl rfl (by kernel_rfl) Try.func13 (by kernel_rfl)
    (of_decide_eq_true (by kernel_rfl)) (by unfold Func.isWrapper; first | (rw [if_pos (by decide +kernel)]; kernel_rfl) | (rw [if_neg (by decide +kernel)]; exact ⟨rfl, rfl⟩))
    (fun os started H enc _ => lifted os started H enc)
theorem proved : Rows.TermPutsSaid := over
#print axioms proved
end Go.Proofs.Ytdahdlidpplllaa.termPutsRow
namespace Go.Proofs.Ytdahdlidpplllaa
/-- The statement TermPuts. -/
theorem termPuts_holds : Rows.TermPutsSaid := termPutsRow.proved
end Go.Proofs.Ytdahdlidpplllaa
