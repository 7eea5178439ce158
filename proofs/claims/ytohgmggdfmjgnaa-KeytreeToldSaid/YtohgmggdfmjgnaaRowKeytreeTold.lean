/- The statement KeytreeTold: for every input the law returns true, and the input reads as it did. No condition. -/
import Derived.Test.YtohgmggdfmjgnaaRows
import Derived.Test.YtohgmggdfmjgnaaE21T
import Derived.Test.YtohgmggdfmjgnaaPs
import Derived.WalkKit
import Derived.ProofKit
import Derived.OpenShut
import Derived.ShutString
import Derived.ChangeOld
import Derived.Below
import Derived.SizedLaws
set_option linter.unusedVariables false
namespace Go.Proofs.Ytohgmggdfmjgnaa.keytreeToldRow
open Go.ChangeShapes Go.WideShapes Go.ChangeAt Go.RowKit
open Go.ChangeMaps (open_string shut_string)
theorem own : ownKnob Try.prog.godebug = none := by kernel_rfl
theorem laidOut : laidOutB Try.prog = true := by kernel_rfl
theorem op_SSuint8 : Opens Try.prog 24 (((Kn.u8).slice).slice) := (Opens.slice Try.underlying24 (by kernel_rfl) (by decide) (Opens.slice Try.underlying22 (by kernel_rfl) (by decide) (Opens.u8 Try.underlying5)))
theorem kt_SSuint8 : KT (((Kn.u8).slice).slice) (tyL (tyL ty8)) (List.map (List.map id)) := (kt_slice (kt_slice kt_8 rfl (by decide)) rfl (by decide))
theorem op_A2_uint16 : Opens Try.prog 37 (((Kn.u16).arr 2)) := (Opens.arr Try.underlying37 (by kernel_rfl) (by kernel_rfl) (Opens.u16 Try.underlying36))
theorem kt_A2_uint16 : KT (((Kn.u16).arr 2)) (tyA 2 ty16) (List.map id) := (kt_arr kt_16 rfl (by decide))
set_option maxRecDepth 100000 in
set_option maxHeartbeats 1000000 in
theorem lifted (os : Os) (started : os.Started) (H : Type) (enc : TypeId × Value → H) :
    ReturnsInHanded {} Try.checked os 4 .any (Rows.keytreeToldSpec.pre6 enc Try.prog Try.f4 Rows.keytreeToldRow.domain false) (Rows.keytreeToldSpec.post enc Try.prog Try.f4 false true false false) := by
  refine returnsInHanded_of_change_sized (C := Try.checked) own started (by kernel_rfl) Try.func4
    (ChangeSpec.witness6 (enc := enc) (C := Try.checked) false ⟨#[], #[.int .i64 0, .slice none 0 0, .agg #[.int .u16 0, .int .u16 0]], []⟩ 8 (by kernel_rfl) (by kernel_rfl) (by kernel_rfl) (by kernel_rfl)) ?_
  intro W base args ds gs before hval0 hW hcnd hsz0 _
  have hval : ∀ (j : Nat) t v, Try.f4.params[j]? = some t → args[j]? = some v → Value.okWide Try.prog W .any base t v := hval0
  have hW' := hW
  obtain ⟨p, q, hA0, hV, rfl, hfz, hnd⟩ := hW
  have hA : DataW.TrodAll enc Try.prog W 0 (fun _ => true) true Try.f4.params.toList args.toList ds p := hA0
  rw [Try.params4] at hA hval
  obtain ⟨v0, vs0, d0, ds0, p0, q0, hargs, rfl, rfl, h0, r0⟩ := trodAll_cons hA
  obtain ⟨v1, vs1, d1, ds1, p1, q1, rfl, rfl, rfl, h1, r1⟩ := trodAll_cons r0
  obtain ⟨v2, vs2, d2, ds2, p2, q2, rfl, rfl, rfl, h2, r2⟩ := trodAll_cons r1
  obtain ⟨rfl, rfl, rfl⟩ := trodAll_nil r2
  obtain rfl : args = #[v0, v1, v2] := by cases args; simp_all
  obtain ⟨rfl, rfl⟩ := trodVars_none hV
  obtain ⟨a0, rfl, rfl, rfl, w0⟩ := open_int Try.underlying3 (hval 0 3 v0 rfl rfl) h0
  have k1 := h1
  have lt1 : ∀ x ∈ p1, x.block < W.heap.size := by obtain ⟨m, hm⟩ := k1; exact DataW.trod_lt m _ _ _ hm
  obtain ⟨fuel1, hf1⟩ := h1
  obtain ⟨l1, hK1⟩ := op_SSuint8 hf1
  obtain ⟨y1, hT1⟩ : ∃ y, (tyL (tyL ty8)).rep (snapAll W) v1.cells.toList y := ⟨_, kt_SSuint8 hK1⟩
  obtain ⟨a1, len1, cap1, rfl⟩ := okWide_slice Try.underlying24 (hval 1 24 v1 rfl rfl)
  obtain ⟨a1', c1, hcs1, hs1⟩ := hT1
  simp [Value.cells] at hcs1
  obtain ⟨rfl, rfl, rfl⟩ := hcs1
  have k2 := h2
  have lt2 : ∀ x ∈ p2, x.block < W.heap.size := by obtain ⟨m, hm⟩ := k2; exact DataW.trod_lt m _ _ _ hm
  obtain ⟨fuel2, hf2⟩ := h2
  obtain ⟨l2, hK2⟩ := op_A2_uint16 hf2
  obtain ⟨y2, hT2⟩ : ∃ y, (tyA 2 ty16).rep (snapAll W) v2.cells.toList y := ⟨_, kt_A2_uint16 hK2⟩
  obtain ⟨cs2, rfl, hcs2⟩ := agg_of ((tyA 2 ty16).len hT2) (by decide)
  rw [hcs2] at hT2
  clear hA0 hval0 hsz0
  obtain ⟨Fu, hF⟩ := chatelainelaw21_KeytreeTold_true a0 (i64_wf w0) _ hs1.has _ ⟨_, _, hT2⟩
  refine (chatelainelaw21_KeytreeTold_ok Fu (S0 := snapAll W) a0 (i64_wf w0) _ _ _ hs1 _ _ hT2 true hF W (Mem.startS (snapAll_ok W))).mono fun e W' hlaw => ?_
  obtain ⟨he, bel⟩ := law_yes hlaw
  subst he
  exact ⟨_, rfl, _, _, _, [], _, [], hW', trodAll_mk1 (shut_bool Try.underlying4 _), (trodAll_cons_mk (shut_int Try.underlying3 w0) (trodAll_cons_mk (Below.trod laidOut (by kernel_rfl) (of_decide_eq_true (by kernel_rfl)) k1 bel lt1) (trodAll_cons_mk (Below.trod laidOut (by kernel_rfl) (of_decide_eq_true (by kernel_rfl)) k2 bel lt2) trodAll_mk0))), rfl, bel.frame _, fun h => by cases h⟩
theorem over : Rows.keytreeToldRow.holds Try.pinned (OpenSpec.ofChange Rows.keytreeToldSpec) :=
  OpenClaim.holds_of_wide 4 Try.f4 rfl rfl rfl rfl rfl rfl rfl ⟨rfl, rfl, rfl, rfl, rfl⟩ rfl rfl rfl rfl rfl (by kernel_rfl) Try.func4 (by kernel_rfl)
    (of_decide_eq_true (by kernel_rfl)) (by unfold Func.isWrapper; first | (rw [if_pos (by decide +kernel)]; kernel_rfl) | (rw [if_neg (by decide +kernel)]; exact ⟨rfl, rfl⟩))
    (fun os started H enc _ => lifted os started H enc)
theorem proved : Rows.KeytreeToldSaid := over
#print axioms proved
end Go.Proofs.Ytohgmggdfmjgnaa.keytreeToldRow
namespace Go.Proofs.Ytohgmggdfmjgnaa
/-- The statement KeytreeTold. -/
theorem keytreeTold_holds : Rows.KeytreeToldSaid := keytreeToldRow.proved
end Go.Proofs.Ytohgmggdfmjgnaa
