/- strings.Builder over memory of one's own: copyCheck and String by hand (the shelf's contracts, laid at this program; printed by the shelf's lay-plain, turned to this seat). -/
import Derived.Test.YtnmeelkfpmodgaaDoorPk
import Derived.Test.YtnmeelkfpmodgaaDoorPs
import Derived.Test.YtnmeelkfpmodgaaDoorPc
import Derived.Test.YtnmeelkfpmodgaaDoorTy
import Derived.Shelf.Strings.OnBuilder
import Derived.Test.YtnmeelkfpmodgaaDoorProg
set_option linter.unusedVariables false
namespace Go.Proofs.YtnmeelkfpmodgaaDoor
open Go.RowKit
section
open Go.Shelf
def lays156_ren : Go.Shelf.Ren := ⟨fun | 156 => 20 | 165 => 34 | 166 => 24 | 169 => 26 | 240 => 35 | 241 => 46 | 276 => 47 | 277 => 60 | n => n, fun | 31 => 39 | 9 => 9 | 3 => 3 | 4 => 4 | 0 => 0 | 20 => 20 | 72 => 54 | 76 => 61 | 70 => 52 | 37 => 28 | 75 => 60 | 127 => 75 | 164 => 89 | 5 => 5 | 80 => 64 | n => n, fun | n => n⟩
theorem lays156 : Go.Proofs.Lays.n156 Tryd.prog lays156_ren := {
  mixed := by kernel_rfl
  f156 := Tryd.func20.trans (congrArg some (by kernel_rfl))
  f165 := Tryd.func34.trans (congrArg some (by kernel_rfl))
  f166 := Tryd.func24.trans (congrArg some (by kernel_rfl))
  f169 := Tryd.func26.trans (congrArg some (by kernel_rfl))
  f240 := Tryd.func35.trans (congrArg some (by kernel_rfl))
  f241 := Tryd.func46.trans (congrArg some (by kernel_rfl))
  f276 := Tryd.func47.trans (congrArg some (by kernel_rfl))
  f277 := Tryd.func60.trans (congrArg some (by kernel_rfl))
  t0 := Tryd.underlying0
  a0 := Tryd.isAgg0
  z0 := Tryd.sizeOf0
  v0 := Tryd.zeroValue0
  t3 := Tryd.underlying3
  a3 := Tryd.isAgg3
  z3 := Tryd.sizeOf3
  v3 := Tryd.zeroValue3
  t4 := Tryd.underlying4
  a4 := Tryd.isAgg4
  z4 := Tryd.sizeOf4
  v4 := Tryd.zeroValue4
  t9 := Tryd.underlying9
  a9 := Tryd.isAgg9
  z9 := Tryd.sizeOf9
  v9 := Tryd.zeroValue9
  t20 := Tryd.underlying20
  a20 := Tryd.isAgg20
  z20 := Tryd.sizeOf20
  v20 := Tryd.zeroValue20
  t31 := Tryd.underlying39
  a31 := Tryd.isAgg39
  z31 := Tryd.sizeOf39
  v31 := Tryd.zeroValue39
  t37 := Tryd.underlying28
  a37 := Tryd.isAgg28
  z37 := Tryd.sizeOf28
  v37 := Tryd.zeroValue28
  t70 := Tryd.underlying52
  a70 := Tryd.isAgg52
  z70 := Tryd.sizeOf52
  v70 := Tryd.zeroValue52
  t72 := Tryd.underlying54
  a72 := Tryd.isAgg54
  z72 := Tryd.sizeOf54
  v72 := Tryd.zeroValue54
  t75 := Tryd.underlying60
  a75 := Tryd.isAgg60
  z75 := Tryd.sizeOf60
  v75 := Tryd.zeroValue60
  t76 := Tryd.underlying61
  a76 := Tryd.isAgg61
  z76 := Tryd.sizeOf61
  v76 := Tryd.zeroValue61
  t127 := Tryd.underlying75
  a127 := Tryd.isAgg75
  z127 := Tryd.sizeOf75
  v127 := Tryd.zeroValue75
  t164 := Tryd.underlying89
  a164 := Tryd.isAgg89
  z164 := Tryd.sizeOf89
  v164 := Tryd.zeroValue89 }
theorem extra156 : Builder.Extra Tryd.prog lays156_ren := {
  sizeBuilder := by kernel_rfl
  liesBuilder := by kernel_rfl
  t5 := Tryd.underlying5
  a5 := Tryd.isAgg5
  z5 := Tryd.sizeOf5
  v5 := Tryd.zeroValue5
  infoByte := by kernel_rfl
  cellsByte := by kernel_rfl
  sizeByte := by kernel_rfl
  neB5 := by decide }
end
section
open Go.Shelf
variable {P : Program} {ρ : Ren}
set_option maxHeartbeats 2000000 in
set_option maxRecDepth 100000 in
theorem str_row (L : Lays.n169 P ρ) (X : Builder.Extra P ρ) (b g cap : Nat) (p : Value) (cur : Array Value) (l : List UInt8) (w : World) (h0 : l ≠ []) (hbk : w.heap[b]? = some (.cells #[p, .slice (some ⟨g, 0, none⟩) l.length cap] (ρ.t 72) (0, 0))) (hg : w.heap[g]? = some (.cells cur (ρ.t 5) (0, 0))) (hnc : l.length ≤ cap) (hcm : cap ≤ maxLen) (hcs : cur.size = cap)
    (hcell : ∀ (j : Nat) (x : UInt8), l[j]? = some x → w.cell? ⟨g, j, none⟩ = some (.int .u8 x.toNat)) :
    Calls P (ρ.f 169) #[.pointer (some ⟨b, 0, none⟩)] w fun e w' => e = .returned (.string ⟨l.toArray⟩) ∧ w' = w.drew.freeze ⟨g, 0, none⟩ l.length := by
  have hl0 : l.length ≠ 0 := by simpa using h0
  have c1 : w.drew.cell? ⟨b, 1, none⟩ = some (.slice (some ⟨g, 0, none⟩) l.length cap) := by
    have : w.drew.heap[b]? = some (.cells #[p, .slice (some ⟨g, 0, none⟩) l.length cap] (ρ.t 72) (0, 0)) := hbk
    rw [Lib.cell_of_heap this]; rfl
  have hSD : (Builtin.unsafeSliceData_ #[(ρ.t 37)] (ρ.t 127) #[.slice (some ⟨g, 0, none⟩) l.length cap]).run P w.drew = .ok (.pointer (some ⟨g, 0, none⟩)) w.drew :=
    Lib.run_unsafeSliceData_row _ _ _ _ _ _ (by omega)
  have hUS : (Builtin.unsafeString_ #[(ρ.t 127), (ρ.t 3)] (ρ.t 9) #[.pointer (some ⟨g, 0, none⟩), .int .i64 l.length]).run P w.drew = .ok (.string ⟨l.toArray⟩) (w.drew.freeze ⟨g, 0, none⟩ l.length) := by
    refine Lib.run_unsafeString_row w.drew (ρ.t 127) (ρ.t 3) (ρ.t 9) (ρ.t 5) L.t127 X.cellsByte g cur.size (by have hg' : w.drew.heap[g]? = some (.cells cur (ρ.t 5) (0, 0)) := hg; simp [World.shape?, hg']) l h0 (by omega) (by unfold maxLen at hcm; omega) ?_
    intro j x hx
    have e : (⟨g, 0, none⟩ : Addr).add j = ⟨g, j, none⟩ := by
      unfold Addr.add
      by_cases hj : j = 0
      · subst hj; simp
      · simp [hj]
    rw [e]
    exact hcell j x hx
  have mixed := L.mixed
  have t72 := L.t72; have a72 := L.a72; have z72 := L.z72; have v72 := L.v72; have u72 := run_underlying L.t72
  have t70 := L.t70; have a70 := L.a70; have z70 := L.z70; have v70 := L.v70; have u70 := run_underlying L.t70
  have t37 := L.t37; have a37 := L.a37; have z37 := L.z37; have v37 := L.v37; have u37 := run_underlying L.t37
  have t127 := L.t127; have a127 := L.a127; have z127 := L.z127; have v127 := L.v127; have u127 := run_underlying L.t127
  have t3 := L.t3; have a3 := L.a3; have z3 := L.z3; have v3 := L.v3; have u3 := run_underlying L.t3
  have t9 := L.t9; have a9 := L.a9; have z9 := L.z9; have v9 := L.v9; have u9 := run_underlying L.t9
  have t5 := X.t5; have a5 := X.a5; have z5 := X.z5; have v5 := X.v5; have u5 := run_underlying X.t5
  go_enter L.f169, Body.n169_ntmps ρ
  go_wp2
  go_region_o
  all_goals (go_wp2; go_ret; exact ⟨rfl, rfl⟩)
end
def selfA : Bool → Nat → Option Addr
  | true, g => some ⟨g, 0, none⟩
  | false, _ => none
def strings_Builder_copyCheck (Fu : Nat) (a0 : Bool × List UInt8) : Option (Bool × List UInt8) := some (true, a0.2)
def strings_Builder_String (Fu : Nat) (a0 : Bool × List UInt8) : Option (List UInt8) := some a0.2
theorem strings_Builder_copyCheck_ok (Fu : Nat) {S0 : Snap} (a0 : Bool × (List UInt8)) (g1 : Nat) (A2 : Option Addr) (c3 : Nat) (cs4 : List Value) (hq5 : reps ty8 S0 cs4 a0.2) (r : Bool × (List UInt8)) (hf : strings_Builder_copyCheck Fu a0 = some r) (w0 : World) (hm : Mem w0 (ownL ([.box g1 54 ([.pointer (selfA a0.1 g1), .slice A2 a0.2.length c3]), .row (.slice A2 a0.2.length c3) 5 1 a0.2.length cs4] ++ [.sn S0])) ([.box g1 54 ([.pointer (selfA a0.1 g1), .slice A2 a0.2.length c3]), .row (.slice A2 a0.2.length c3) 5 1 a0.2.length cs4] ++ [.sn S0]) w0) :
    Calls Tryd.prog 35 #[.pointer (some ⟨g1, 0, none⟩)] w0 (Ret w0 S0 [.box g1 54 ([.pointer (selfA a0.1 g1), .slice A2 a0.2.length c3]), .row (.slice A2 a0.2.length c3) 5 1 a0.2.length cs4] (fun v L1 S1 => ∃ (A12 : Option Addr), ∃ (c13 : Nat), ∃ (cs14 : List Value), v = .tuple #[] ∧ L1 = [.box g1 54 ([.pointer (selfA r.1 g1), .slice A12 r.2.length c13]), .row (.slice A12 r.2.length c13) 5 1 r.2.length cs14] ∧ reps ty8 S1 cs14 r.2 ∧ True)) := by
  obtain rfl := Option.some.inj hf
  obtain ⟨b, l⟩ := a0
  have hc := hm.cell (i := 0) rfl 0
  have hb : w0.heap[g1]? = some (.cells #[.pointer (selfA b g1), .slice A2 l.length c3] 54 (0, 0)) := hm.ok 0 _ rfl
  cases b with
  | true =>
    refine (Go.Proofs.Any.Builder_copyCheck_used { lays156 with } extra156.toX72 g1 w0 hc).mono ?_
    rintro e w' ⟨rfl, rfl⟩
    exact ⟨_, _, S0, rfl, ⟨A2, c3, cs4, rfl, rfl, hq5, trivial⟩, rfl, Up.refl _ _ _, hm⟩
  | false =>
    refine (Go.Proofs.Any.Builder_copyCheck_fresh { lays156 with } extra156.toX72 g1 w0 hc (by simp [World.shape?, hb]; rfl) (hm.frozen (i := 0) rfl 0)).mono ?_
    rintro e w' ⟨rfl, rfl⟩
    exact ⟨_, _, S0, rfl, ⟨A2, c3, cs4, rfl, rfl, hq5, trivial⟩, rfl, Up.refl _ _ _, hm.set (i := 0) rfl 0 _⟩
theorem chg_freeze (w : World) (g n : Nat) : Chg w (w.drew.freeze ⟨g, 0, none⟩ n) (fun k => k = g) := by
  unfold World.freeze
  split
  · exact ⟨rfl, rfl, rfl, Nat.le_refl _, fun _ _ _ => rfl⟩
  · refine ⟨rfl, rfl, rfl, by show w.heap.size ≤ (w.drew.heap.modify _ _).size; rw [Array.size_modify]; exact Nat.le_refl _, fun k hk hne => ?_⟩
    simp only [Array.getElem?_modify]
    rw [if_neg (fun e => hne e.symm)]; rfl
def noRP : RP := ⟨fun _ => False, fun _ => True, fun _ _ _ _ h => h, fun _ _ k hk => hk.elim⟩
theorem strings_Builder_String_ok (Fu : Nat) {S0 : Snap} (a0 : Bool × (List UInt8)) (g1 : Nat) (A2 : Option Addr) (c3 : Nat) (cs4 : List Value) (hq5 : reps ty8 S0 cs4 a0.2) (r : List UInt8) (hf : strings_Builder_String Fu a0 = some r) (w0 : World) (hm : Mem w0 (ownL ([.box g1 54 ([.pointer (selfA a0.1 g1), .slice A2 a0.2.length c3]), .row (.slice A2 a0.2.length c3) 5 1 a0.2.length cs4] ++ [.sn S0])) ([.box g1 54 ([.pointer (selfA a0.1 g1), .slice A2 a0.2.length c3]), .row (.slice A2 a0.2.length c3) 5 1 a0.2.length cs4] ++ [.sn S0]) w0) :
    Calls Tryd.prog 26 #[.pointer (some ⟨g1, 0, none⟩)] w0 (Ret w0 S0 [.box g1 54 ([.pointer (selfA a0.1 g1), .slice A2 a0.2.length c3]), .row (.slice A2 a0.2.length c3) 5 1 a0.2.length cs4] (fun v L1 S1 => v = .string (sb r) ∧ L1 = [] ∧ r.length ≤ maxLen ∧ True)) := by
  obtain rfl := Option.some.inj hf
  obtain ⟨b, l⟩ := a0
  have hb : w0.heap[g1]? = some (.cells #[.pointer (selfA b g1), .slice A2 l.length c3] 54 (0, 0)) := hm.ok 0 _ rfl
  have hk := hm.ok 1 _ rfl
  have fin : ∀ {e w'}, (e = Ending.returned (.string ⟨([] : List UInt8).toArray⟩) ∧ Below w0.heap.size w0 w') → l = [] → Ret w0 S0 [.box g1 54 ([.pointer (selfA b g1), .slice A2 l.length c3]), .row (.slice A2 l.length c3) 5 1 l.length cs4] (fun v L1 S1 => v = .string (sb l) ∧ L1 = [] ∧ l.length ≤ maxLen ∧ True) e w' := by
    rintro e w' ⟨rfl, hB⟩ rfl
    exact ⟨_, [], S0, rfl, ⟨rfl, rfl, Nat.zero_le _, trivial⟩, rfl, Up.refl _ _ _, (hm.ext hB).pick [2] _ (by decide) rfl⟩
  by_cases h0 : l = []
  · rcases hk.2 with ⟨hv, hz⟩ | ⟨g, cap, cur, hv, _, hg, _, _, _, _⟩
    · injection hv with h1 h2 h3
      subst h1 h0 h3
      exact (Go.Proofs.Any.Builder_String_nil { lays156 with } extra156 w0.heap.size g1 _ w0 hb).mono fun e w' h => fin h rfl
    · injection hv with h1 h2 h3
      subst h1 h0 h3
      by_cases hc0 : c3 = 0
      · subst hc0
        exact (Go.Proofs.Any.Builder_String_noroom { lays156 with } extra156 w0.heap.size g1 g _ cur w0 (Nat.le_refl _) hb hg).mono fun e w' h => fin h rfl
      · exact (Go.Proofs.Any.Builder_String_room { lays156 with } extra156 w0.heap.size g1 g c3 _ w0 hc0 hb).mono fun e w' h => fin h rfl
  · obtain rfl := reps8 hq5
    rcases hk.2 with ⟨hv, hz⟩ | ⟨g, cap, cur, hv, _, hg, hnc, hcm, hcs, htk⟩
    · exact absurd (List.length_eq_zero_iff.1 hz) h0
    · injection hv with h1 h2 h3
      subst h1 h3
      refine (str_row { lays156 with } extra156 g1 g c3 _ cur l w0 h0 hb hg hnc hcm (by omega) (fun j x hx => ?_)).mono ?_
      · have hj := (List.getElem?_eq_some_iff.1 hx).1
        have h5 : (cur.toList.take (l.length * 1))[j]? = (by8 l)[j]? := by rw [htk]
        rw [List.getElem?_take_of_lt (by omega)] at h5
        simp only [World.cell?, hg, Option.isSome_none, Bool.false_eq_true, if_false]
        rw [← Array.getElem?_toList, h5]
        simp [by8, byc, hx]
      · rintro e w' ⟨rfl, rfl⟩
        have hm2 := hm.write (i := 1) (x' := .ro noRP) rfl ((chg_freeze w0 g l.length).mono (fun k _ hk => by subst hk; rfl)) trivial (fun k hk => hk.elim)
        exact ⟨_, [], S0, rfl, ⟨rfl, rfl, by omega, trivial⟩, rfl, Up.refl _ _ _, hm2.pick [2] _ (by decide) rfl⟩
end Go.Proofs.YtnmeelkfpmodgaaDoor
