/- The statement KeytreePunctures: for every input the law returns true, and the input reads as it did. No condition. -/
import Derived.Test.YtohgmggdfmjgnaaRows
import Derived.Test.YtohgmggdfmjgnaaE21P
import Derived.Test.YtohgmggdfmjgnaaPs
import Derived.WalkKit
import Derived.ProofKit
import Derived.OpenShut
import Derived.ShutString
import Derived.ChangeOld
import Derived.Below
import Derived.SizedLaws
set_option linter.unusedVariables false
namespace Go.Proofs.Ytohgmggdfmjgnaa.keytreePuncturesRow
open Go.ChangeShapes Go.WideShapes Go.ChangeAt Go.RowKit
open Go.ChangeMaps (open_string shut_string)
theorem own : ownKnob Try.prog.godebug = none := by kernel_rfl
theorem laidOut : laidOutB Try.prog = true := by kernel_rfl
theorem op_chatelainelaw21_Case : Opens Try.prog 42 (((Kn.u8).slice).pair (((Kn.u8).slice).pair ((Kn.int).pair ((Kn.int).pair ((Kn.int).pair (((Kn.u8).slice).pair (((Kn.u8).slice).pair ((Kn.int).pair Kn.unit)))))))) := (Opens.struct Try.underlying42 (by kernel_rfl) (l := [(22, 1), (22, 1), (3, 1), (3, 1), (3, 1), (22, 1), (22, 1), (3, 1)]) (by kernel_rfl) (OpensF.cons (s := 1) rfl (Opens.slice Try.underlying22 (by kernel_rfl) (by decide) (Opens.u8 Try.underlying5)) (OpensF.cons (s := 1) rfl (Opens.slice Try.underlying22 (by kernel_rfl) (by decide) (Opens.u8 Try.underlying5)) (OpensF.cons (s := 1) rfl (Opens.int Try.underlying3) (OpensF.cons (s := 1) rfl (Opens.int Try.underlying3) (OpensF.cons (s := 1) rfl (Opens.int Try.underlying3) (OpensF.cons (s := 1) rfl (Opens.slice Try.underlying22 (by kernel_rfl) (by decide) (Opens.u8 Try.underlying5)) (OpensF.cons (s := 1) rfl (Opens.slice Try.underlying22 (by kernel_rfl) (by decide) (Opens.u8 Try.underlying5)) (OpensF.cons (s := 1) rfl (Opens.int Try.underlying3) OpensF.nil)))))))))
theorem kt_chatelainelaw21_Case : KT (((Kn.u8).slice).pair (((Kn.u8).slice).pair ((Kn.int).pair ((Kn.int).pair ((Kn.int).pair (((Kn.u8).slice).pair (((Kn.u8).slice).pair ((Kn.int).pair Kn.unit)))))))) (tyP (tyL ty8) (tyP (tyL ty8) (tyP tyI (tyP tyI (tyP tyI (tyP (tyL ty8) (tyP (tyL ty8) tyI))))))) (fun x => ((List.map id) x.1, (fun x => ((List.map id) x.1, (fun x => (id x.1, (fun x => (id x.1, (fun x => (id x.1, (fun x => ((List.map id) x.1, (fun x => ((List.map id) x.1, (fun x => id x.1) x.2)) x.2)) x.2)) x.2)) x.2)) x.2)) x.2)) := (kt_pair (kt_slice kt_8 rfl (by decide)) (kt_pair (kt_slice kt_8 rfl (by decide)) (kt_pair kt_int (kt_pair kt_int (kt_pair kt_int (kt_pair (kt_slice kt_8 rfl (by decide)) (kt_pair (kt_slice kt_8 rfl (by decide)) (kt_last kt_int))))))))
set_option maxRecDepth 100000 in
set_option maxHeartbeats 1000000 in
theorem lifted (os : Os) (started : os.Started) (H : Type) (enc : TypeId × Value → H) :
    ReturnsInHanded {} Try.checked os 6 .any (Rows.keytreePuncturesSpec.pre6 enc Try.prog Try.f6 Rows.keytreePuncturesRow.domain false) (Rows.keytreePuncturesSpec.post enc Try.prog Try.f6 false true false false) := by
  refine returnsInHanded_of_change_sized (C := Try.checked) own started (by kernel_rfl) Try.func6
    (ChangeSpec.witness6 (enc := enc) (C := Try.checked) false ⟨#[], #[.agg #[.slice none 0 0, .slice none 0 0, .int .i64 0, .int .i64 0, .int .i64 0, .slice none 0 0, .slice none 0 0, .int .i64 0]], []⟩ 8 (by kernel_rfl) (by kernel_rfl) (by kernel_rfl) (by kernel_rfl)) ?_
  intro W base args ds gs before hval0 hW hcnd hsz0 _
  have hval : ∀ (j : Nat) t v, Try.f6.params[j]? = some t → args[j]? = some v → Value.okWide Try.prog W .any base t v := hval0
  have hW' := hW
  obtain ⟨p, q, hA0, hV, rfl, hfz, hnd⟩ := hW
  have hA : DataW.TrodAll enc Try.prog W 0 (fun _ => true) true Try.f6.params.toList args.toList ds p := hA0
  rw [Try.params6] at hA hval
  obtain ⟨v0, vs0, d0, ds0, p0, q0, hargs, rfl, rfl, h0, r0⟩ := trodAll_cons hA
  obtain ⟨rfl, rfl, rfl⟩ := trodAll_nil r0
  obtain rfl : args = #[v0] := by cases args; simp_all
  obtain ⟨rfl, rfl⟩ := trodVars_none hV
  have k0 := h0
  have lt0 : ∀ x ∈ p0, x.block < W.heap.size := by obtain ⟨m, hm⟩ := k0; exact DataW.trod_lt m _ _ _ hm
  obtain ⟨fuel0, hf0⟩ := h0
  obtain ⟨l0, hK0⟩ := op_chatelainelaw21_Case hf0
  obtain ⟨y0, hT0⟩ : ∃ y, (tyP (tyL ty8) (tyP (tyL ty8) (tyP tyI (tyP tyI (tyP tyI (tyP (tyL ty8) (tyP (tyL ty8) tyI))))))).rep (snapAll W) v0.cells.toList y := ⟨_, kt_chatelainelaw21_Case hK0⟩
  obtain ⟨cs0, rfl, hcs0⟩ := agg_of ((tyP (tyL ty8) (tyP (tyL ty8) (tyP tyI (tyP tyI (tyP tyI (tyP (tyL ty8) (tyP (tyL ty8) tyI))))))).len hT0) (by decide)
  rw [hcs0] at hT0
  clear hA0 hval0 hsz0
  obtain ⟨Fu, hF⟩ := chatelainelaw21_KeytreePunctures_true _ ⟨_, _, hT0⟩
  refine (chatelainelaw21_KeytreePunctures_ok Fu (S0 := snapAll W) _ _ hT0 true hF W (Mem.startS (snapAll_ok W))).mono fun e W' hlaw => ?_
  obtain ⟨he, bel⟩ := law_yes hlaw
  subst he
  exact ⟨_, rfl, _, _, _, [], _, [], hW', trodAll_mk1 (shut_bool Try.underlying4 _), (trodAll_cons_mk (Below.trod laidOut (by kernel_rfl) (of_decide_eq_true (by kernel_rfl)) k0 bel lt0) trodAll_mk0), rfl, bel.frame _, fun h => by cases h⟩
theorem over : Rows.keytreePuncturesRow.holds Try.pinned (OpenSpec.ofChange Rows.keytreePuncturesSpec) :=
  OpenClaim.holds_of_wide 6 Try.f6 rfl rfl rfl rfl rfl rfl rfl ⟨rfl, rfl, rfl, rfl, rfl⟩ rfl rfl rfl rfl rfl (by kernel_rfl) Try.func6 (by kernel_rfl)
    (of_decide_eq_true (by kernel_rfl)) (by unfold Func.isWrapper; first | (rw [if_pos (by decide +kernel)]; kernel_rfl) | (rw [if_neg (by decide +kernel)]; exact ⟨rfl, rfl⟩))
    (fun os started H enc _ => lifted os started H enc)
theorem proved : Rows.KeytreePuncturesSaid := over
#print axioms proved
end Go.Proofs.Ytohgmggdfmjgnaa.keytreePuncturesRow
namespace Go.Proofs.Ytohgmggdfmjgnaa
/-- The statement KeytreePunctures. -/
theorem keytreePunctures_holds : Rows.KeytreePuncturesSaid := keytreePuncturesRow.proved
end Go.Proofs.Ytohgmggdfmjgnaa
