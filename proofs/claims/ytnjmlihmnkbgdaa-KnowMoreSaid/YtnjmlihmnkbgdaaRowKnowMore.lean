/- The statement KnowMore: for every input the law returns true, and the input reads as it did. No condition. -/
import Derived.Test.YtnjmlihmnkbgdaaRows
import Derived.Test.YtnjmlihmnkbgdaaE37M
import Derived.Test.YtnjmlihmnkbgdaaPo
import Derived.WalkKit
import Derived.ProofKit
import Derived.OpenShut
import Derived.ShutString
import Derived.ChangeOld
import Derived.Below
import Derived.SizedLaws
set_option linter.unusedVariables false
namespace Go.Proofs.Ytnjmlihmnkbgdaa.knowMoreRow
open Go.ChangeShapes Go.WideShapes Go.ChangeAt Go.RowKit
open Go.ChangeMaps (open_string shut_string)
theorem own : ownKnob Try.prog.godebug = none := by kernel_rfl
theorem laidOut : laidOutB Try.prog = true := by kernel_rfl
theorem op_Sapi_Term : Opens Try.prog 22 (((Kn.int).pair ((Kn.int).pair ((Kn.int).pair Kn.unit))).slice) := (Opens.slice Try.underlying22 (by kernel_rfl) (by decide) (Opens.struct Try.underlying46 (by kernel_rfl) (l := [(3, 1), (3, 1), (3, 1)]) (by kernel_rfl) (OpensF.cons (s := 1) rfl (Opens.int Try.underlying3) (OpensF.cons (s := 1) rfl (Opens.int Try.underlying3) (OpensF.cons (s := 1) rfl (Opens.int Try.underlying3) OpensF.nil)))))
theorem kt_Sapi_Term : KT (((Kn.int).pair ((Kn.int).pair ((Kn.int).pair Kn.unit))).slice) (tyL (tyP tyI (tyP tyI tyI))) (List.map (fun x => (id x.1, (fun x => (id x.1, (fun x => id x.1) x.2)) x.2))) := (kt_slice (kt_pair kt_int (kt_pair kt_int (kt_last kt_int))) rfl (by decide))
theorem op_Sint : Opens Try.prog 23 ((Kn.int).slice) := (Opens.slice Try.underlying23 (by kernel_rfl) (by decide) (Opens.int Try.underlying3))
theorem kt_Sint : KT ((Kn.int).slice) (tyL tyI) (List.map id) := (kt_slice kt_int rfl (by decide))
set_option maxRecDepth 100000 in
set_option maxHeartbeats 1000000 in
theorem lifted (os : Os) (started : os.Started) (H : Type) (enc : TypeId × Value → H) :
    ReturnsInHanded {} Try.checked os 4 .any (Rows.knowMoreSpec.pre6 enc Try.prog Try.f4 Rows.knowMoreRow.domain false) (Rows.knowMoreSpec.post enc Try.prog Try.f4 false true false false) := by
  refine returnsInHanded_of_change_sized (C := Try.checked) own started (by kernel_rfl) Try.func4
    (ChangeSpec.witness6 (enc := enc) (C := Try.checked) false ⟨#[], #[.slice none 0 0, .slice none 0 0, .slice none 0 0], []⟩ 8 (by kernel_rfl) (by kernel_rfl) (by kernel_rfl) (by kernel_rfl)) ?_
  intro W base args ds gs before hval0 hW hcnd hsz0 _
  have hval : ∀ (j : Nat) t v, Try.f4.params[j]? = some t → args[j]? = some v → Value.okWide Try.prog W .any base t v := hval0
  have hW' := hW
  obtain ⟨p, q, hA0, hV, rfl, hfz, hnd⟩ := hW
  have hA : DataW.TrodAll enc Try.prog W 0 (fun _ => true) true Try.f4.params.toList args.toList ds p := hA0
  rw [Try.params4] at hA hval
  obtain ⟨v0, vs0, d0, ds0, p0, q0, hargs, rfl, rfl, h0, r0⟩ := trodAll_cons hA
  obtain ⟨v1, vs1, d1, ds1, p1, q1, rfl, rfl, rfl, h1, r1⟩ := trodAll_cons r0
  obtain ⟨v2, vs2, d2, ds2, p2, q2, rfl, rfl, rfl, h2, r2⟩ := trodAll_cons r1
  obtain ⟨rfl, rfl, rfl⟩ := trodAll_nil r2
  obtain rfl : args = #[v0, v1, v2] := by cases args; simp_all
  obtain ⟨rfl, rfl⟩ := trodVars_none hV
  have k0 := h0
  have lt0 : ∀ x ∈ p0, x.block < W.heap.size := by obtain ⟨m, hm⟩ := k0; exact DataW.trod_lt m _ _ _ hm
  obtain ⟨fuel0, hf0⟩ := h0
  obtain ⟨l0, hK0⟩ := op_Sapi_Term hf0
  obtain ⟨y0, hT0⟩ : ∃ y, (tyL (tyP tyI (tyP tyI tyI))).rep (snapAll W) v0.cells.toList y := ⟨_, kt_Sapi_Term hK0⟩
  obtain ⟨a0, len0, cap0, rfl⟩ := okWide_slice Try.underlying22 (hval 0 22 v0 rfl rfl)
  obtain ⟨a0', c0, hcs0, hs0⟩ := hT0
  simp [Value.cells] at hcs0
  obtain ⟨rfl, rfl, rfl⟩ := hcs0
  have k1 := h1
  have lt1 : ∀ x ∈ p1, x.block < W.heap.size := by obtain ⟨m, hm⟩ := k1; exact DataW.trod_lt m _ _ _ hm
  obtain ⟨fuel1, hf1⟩ := h1
  obtain ⟨l1, hK1⟩ := op_Sint hf1
  obtain ⟨y1, hT1⟩ : ∃ y, (tyL tyI).rep (snapAll W) v1.cells.toList y := ⟨_, kt_Sint hK1⟩
  obtain ⟨a1, len1, cap1, rfl⟩ := okWide_slice Try.underlying23 (hval 1 23 v1 rfl rfl)
  obtain ⟨a1', c1, hcs1, hs1⟩ := hT1
  simp [Value.cells] at hcs1
  obtain ⟨rfl, rfl, rfl⟩ := hcs1
  have k2 := h2
  have lt2 : ∀ x ∈ p2, x.block < W.heap.size := by obtain ⟨m, hm⟩ := k2; exact DataW.trod_lt m _ _ _ hm
  obtain ⟨fuel2, hf2⟩ := h2
  obtain ⟨l2, hK2⟩ := op_Sint hf2
  obtain ⟨y2, hT2⟩ : ∃ y, (tyL tyI).rep (snapAll W) v2.cells.toList y := ⟨_, kt_Sint hK2⟩
  obtain ⟨a2, len2, cap2, rfl⟩ := okWide_slice Try.underlying23 (hval 2 23 v2 rfl rfl)
  obtain ⟨a2', c2, hcs2, hs2⟩ := hT2
  simp [Value.cells] at hcs2
  obtain ⟨rfl, rfl, rfl⟩ := hcs2
  clear hA0 hval0 hsz0
  obtain ⟨Fu, hF⟩ := chatelainelaw37_KnowMore_true _ hs0.has _ hs1.has _ hs2.has
  refine (chatelainelaw37_KnowMore_ok Fu (S0 := snapAll W) _ _ _ hs0 _ _ _ hs1 _ _ _ hs2 true hF W (Mem.startS (snapAll_ok W))).mono fun e W' hlaw => ?_
  obtain ⟨he, bel⟩ := law_yes hlaw
  subst he
  exact ⟨_, rfl, _, _, _, [], _, [], hW', trodAll_mk1 (shut_bool Try.underlying4 _), (trodAll_cons_mk (Below.trod laidOut (by kernel_rfl) (of_decide_eq_true (by kernel_rfl)) k0 bel lt0) (trodAll_cons_mk (Below.trod laidOut (by kernel_rfl) (of_decide_eq_true (by kernel_rfl)) k1 bel lt1) (trodAll_cons_mk (Below.trod laidOut (by kernel_rfl) (of_decide_eq_true (by kernel_rfl)) k2 bel lt2) trodAll_mk0))), rfl, bel.frame _, fun h => by cases h⟩
theorem over : Rows.knowMoreRow.holds Try.pinned (OpenSpec.ofChange Rows.knowMoreSpec) :=
  OpenClaim.holds_of_wide 4 Try.f4 rfl rfl rfl rfl rfl rfl rfl ⟨rfl, rfl, rfl, rfl, rfl⟩ rfl rfl rfl rfl rfl (by kernel_rfl) Try.func4 (by kernel_rfl)
    (of_decide_eq_true (by kernel_rfl)) (by unfold Func.isWrapper; first | (rw [if_pos (by decide +kernel)]; kernel_rfl) | (rw [if_neg (by decide +kernel)]; exact ⟨rfl, rfl⟩))
    (fun os started H enc _ => lifted os started H enc)
theorem proved : Rows.KnowMoreSaid := over
#print axioms proved
end Go.Proofs.Ytnjmlihmnkbgdaa.knowMoreRow
namespace Go.Proofs.Ytnjmlihmnkbgdaa
/-- The statement KnowMore. -/
theorem knowMore_holds : Rows.KnowMoreSaid := knowMoreRow.proved
end Go.Proofs.Ytnjmlihmnkbgdaa
