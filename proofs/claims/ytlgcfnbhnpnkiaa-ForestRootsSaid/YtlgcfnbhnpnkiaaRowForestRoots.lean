/- The statement ForestRoots: for every input the law returns true, and the input reads as it did. No condition. -/
import Derived.Test.YtlgcfnbhnpnkiaaRows
import Derived.Test.YtlgcfnbhnpnkiaaE24
import Derived.Test.YtlgcfnbhnpnkiaaPo
import Derived.WalkKit
import Derived.ProofKit
import Derived.OpenShut
import Derived.ShutString
import Derived.ChangeOld
import Derived.Below
import Derived.SizedLaws
set_option linter.unusedVariables false
namespace Go.Proofs.Ytlgcfnbhnpnkiaa.forestRootsRow
open Go.ChangeShapes Go.WideShapes Go.ChangeAt Go.RowKit
open Go.ChangeMaps (open_string shut_string)
theorem own : ownKnob Try.prog.godebug = none := by kernel_rfl
theorem laidOut : laidOutB Try.prog = true := by kernel_rfl
theorem op_Sapi_Space : Opens Try.prog 61 (((Kn.int).pair ((Kn.int).pair ((Kn.int).pair (((Kn.u8).slice).pair ((((Kn.int).pair ((Kn.int).pair Kn.unit)).slice).pair ((((Kn.u8).slice).slice).pair (((((Kn.u8).arr 32)).slice).pair Kn.unit))))))).slice) := (Opens.slice Try.underlying61 (by kernel_rfl) (by decide) (Opens.struct Try.underlying66 (by kernel_rfl) (l := [(3, 1), (3, 1), (3, 1), (52, 1), (63, 1), (64, 1), (39, 1)]) (by kernel_rfl) (OpensF.cons (s := 1) rfl (Opens.int Try.underlying3) (OpensF.cons (s := 1) rfl (Opens.int Try.underlying3) (OpensF.cons (s := 1) rfl (Opens.int Try.underlying3) (OpensF.cons (s := 1) rfl (Opens.slice Try.underlying52 (by kernel_rfl) (by decide) (Opens.u8 Try.underlying5)) (OpensF.cons (s := 1) rfl (Opens.slice Try.underlying63 (by kernel_rfl) (by decide) (Opens.struct Try.underlying184 (by kernel_rfl) (l := [(3, 1), (3, 1)]) (by kernel_rfl) (OpensF.cons (s := 1) rfl (Opens.int Try.underlying3) (OpensF.cons (s := 1) rfl (Opens.int Try.underlying3) OpensF.nil)))) (OpensF.cons (s := 1) rfl (Opens.slice Try.underlying64 (by kernel_rfl) (by decide) (Opens.slice Try.underlying52 (by kernel_rfl) (by decide) (Opens.u8 Try.underlying5))) (OpensF.cons (s := 1) rfl (Opens.slice Try.underlying39 (by kernel_rfl) (by decide) (Opens.arr Try.underlying40 (by kernel_rfl) (by kernel_rfl) (Opens.u8 Try.underlying5))) OpensF.nil)))))))))
theorem kt_Sapi_Space : KT (((Kn.int).pair ((Kn.int).pair ((Kn.int).pair (((Kn.u8).slice).pair ((((Kn.int).pair ((Kn.int).pair Kn.unit)).slice).pair ((((Kn.u8).slice).slice).pair (((((Kn.u8).arr 32)).slice).pair Kn.unit))))))).slice) (tyL (tyP tyI (tyP tyI (tyP tyI (tyP (tyL ty8) (tyP (tyL (tyP tyI tyI)) (tyP (tyL (tyL ty8)) (tyL (tyA 32 ty8))))))))) (List.map (fun x => (id x.1, (fun x => (id x.1, (fun x => (id x.1, (fun x => ((List.map id) x.1, (fun x => ((List.map (fun x => (id x.1, (fun x => id x.1) x.2))) x.1, (fun x => ((List.map (List.map id)) x.1, (fun x => (List.map (List.map id)) x.1) x.2)) x.2)) x.2)) x.2)) x.2)) x.2))) := (kt_slice (kt_pair kt_int (kt_pair kt_int (kt_pair kt_int (kt_pair (kt_slice kt_8 rfl (by decide)) (kt_pair (kt_slice (kt_pair kt_int (kt_last kt_int)) rfl (by decide)) (kt_pair (kt_slice (kt_slice kt_8 rfl (by decide)) rfl (by decide)) (kt_last (kt_slice (kt_arr kt_8 rfl (by decide)) rfl (by decide))))))))) rfl (by decide))
set_option maxRecDepth 100000 in
set_option maxHeartbeats 1000000 in
theorem lifted (os : Os) (started : os.Started) (H : Type) (enc : TypeId × Value → H) :
    ReturnsInHanded {} Try.checked os 9 .any (Rows.forestRootsSpec.pre6 enc Try.prog Try.f9 Rows.forestRootsRow.domain false) (Rows.forestRootsSpec.post enc Try.prog Try.f9 false true false false) := by
  refine returnsInHanded_of_change_sized (C := Try.checked) own started (by kernel_rfl) Try.func9
    (ChangeSpec.witness6 (enc := enc) (C := Try.checked) false ⟨#[], #[.slice none 0 0], []⟩ 8 (by kernel_rfl) (by kernel_rfl) (by kernel_rfl) (by kernel_rfl)) ?_
  intro W base args ds gs before hval0 hW hcnd hsz0 _
  have hval : ∀ (j : Nat) t v, Try.f9.params[j]? = some t → args[j]? = some v → Value.okWide Try.prog W .any base t v := hval0
  have hW' := hW
  obtain ⟨p, q, hA0, hV, rfl, hfz, hnd⟩ := hW
  have hA : DataW.TrodAll enc Try.prog W 0 (fun _ => true) true Try.f9.params.toList args.toList ds p := hA0
  rw [Try.params9] at hA hval
  obtain ⟨v0, vs0, d0, ds0, p0, q0, hargs, rfl, rfl, h0, r0⟩ := trodAll_cons hA
  obtain ⟨rfl, rfl, rfl⟩ := trodAll_nil r0
  obtain rfl : args = #[v0] := by cases args; simp_all
  obtain ⟨rfl, rfl⟩ := trodVars_none hV
  have k0 := h0
  have lt0 : ∀ x ∈ p0, x.block < W.heap.size := by obtain ⟨m, hm⟩ := k0; exact DataW.trod_lt m _ _ _ hm
  obtain ⟨fuel0, hf0⟩ := h0
  obtain ⟨l0, hK0⟩ := op_Sapi_Space hf0
  obtain ⟨y0, hT0⟩ : ∃ y, (tyL (tyP tyI (tyP tyI (tyP tyI (tyP (tyL ty8) (tyP (tyL (tyP tyI tyI)) (tyP (tyL (tyL ty8)) (tyL (tyA 32 ty8))))))))).rep (snapAll W) v0.cells.toList y := ⟨_, kt_Sapi_Space hK0⟩
  obtain ⟨a0, len0, cap0, rfl⟩ := okWide_slice Try.underlying61 (hval 0 61 v0 rfl rfl)
  obtain ⟨a0', c0, hcs0, hs0⟩ := hT0
  simp [Value.cells] at hcs0
  obtain ⟨rfl, rfl, rfl⟩ := hcs0
  clear hA0 hval0 hsz0
  obtain ⟨Fu, hF⟩ := chatelainelaw24_ForestRoots_true _ hs0.has (Nat.le_trans hs0.1 hs0.2.1)
  refine (chatelainelaw24_ForestRoots_ok Fu (S0 := snapAll W) _ _ _ hs0 true hF W (Mem.startS (snapAll_ok W))).mono fun e W' hlaw => ?_
  obtain ⟨he, bel⟩ := law_yes hlaw
  subst he
  exact ⟨_, rfl, _, _, _, [], _, [], hW', trodAll_mk1 (shut_bool Try.underlying4 _), (trodAll_cons_mk (Below.trod laidOut (by kernel_rfl) (of_decide_eq_true (by kernel_rfl)) k0 bel lt0) trodAll_mk0), rfl, bel.frame _, fun h => by cases h⟩
theorem over : Rows.forestRootsRow.holds Try.pinned (OpenSpec.ofChange Rows.forestRootsSpec) :=
  OpenClaim.holds_of_wide 9 Try.f9 rfl rfl rfl rfl rfl rfl rfl ⟨rfl, rfl, rfl, rfl, rfl⟩ rfl rfl rfl rfl rfl (by kernel_rfl) Try.func9 (by kernel_rfl)
    (of_decide_eq_true (by kernel_rfl)) (by unfold Func.isWrapper; first | (rw [if_pos (by decide +kernel)]; kernel_rfl) | (rw [if_neg (by decide +kernel)]; exact ⟨rfl, rfl⟩))
    (fun os started H enc _ => lifted os started H enc)
theorem proved : Rows.ForestRootsSaid := over
#print axioms proved
end Go.Proofs.Ytlgcfnbhnpnkiaa.forestRootsRow
namespace Go.Proofs.Ytlgcfnbhnpnkiaa
/-- The statement ForestRoots. -/
theorem forestRoots_holds : Rows.ForestRootsSaid := forestRootsRow.proved
end Go.Proofs.Ytlgcfnbhnpnkiaa
