/- Rounds of a range over a function, and what follows such a loop: the code is walked in a round's frame, or beside a mark among the deferred calls, by the same steps as anywhere. -/
import Derived.Test.YtnmeelkfpmodgaaDoorPm
import Derived.RangeFuncRecord
import Derived.RangeFuncCalls
set_option linter.unusedVariables false
set_option linter.unusedSimpArgs false
namespace Go.Proofs.YtnmeelkfpmodgaaDoor
open Go.RowKit
section
variable {P : Program} {ops : Array Oper} {Q Q' : Exit → Act → World → Prop} {a : Act} {w : World} {o : Oper}
def NoOut (Q : Exit → Act → World → Prop) : Prop := ∀ a w, ¬ Q .outgrown a w
theorem NoOut.out (h : NoOut Q) : ¬ LetsOut Q := fun ⟨a, w, q⟩ => h a w q
def plusD (a : Act) (D : List Deferred) : Act := { a with defers := a.defers ++ D }
/-- where code stands: in a round; behind a loop over a function -/
inductive Md where
  | round (l n : Nat)
  | tail (D : List Deferred)
def Md.go (P : Program) : Md → Code → (Exit → Act → World → Prop) → Act → World → Prop
  | .round l n, c, Q, a, w => NoOut Q → c.wpIn (Fence.wide.inRound l) n P Q a w
  | .tail D, c, Q, a, w => NoOut Q → c.wp P (fun e a' w' => ∃ a0, a' = plusD a0 D ∧ Q e a0 w') (plusD a D) w
theorem Md.mono {M : Md} {c : Code} (h : M.go P c Q a w) (hq : ∀ e a w, Q e a w → Q' e a w) (ho : NoOut Q' → NoOut Q) : M.go P c Q' a w := by
  cases M with
  | round l n => exact fun hQ => wpIn_mono (h (ho hQ)) hq
  | tail D => exact fun hQ => wp_mono (h (ho hQ)) (fun e a' w' ⟨a0, e0, h0⟩ => ⟨a0, e0, hq _ _ _ h0⟩)
variable {M : Md}
section
variable {N : Nat} {w0 : World} {B : Nat → Prop} {ρ : Slots} {L : List Ch}
/-! ### a loop over a function -/
/-- an iterator's value: handed a loop's yield it hands it these, one by one, till there are no more or it is told so; of memory it reads what stays -/
def IterV {α : Type} (P : Program) (encs : α → Array Value) (v : Value) (xs : List α) (S : Snap) : Prop :=
  ∃ (g : FuncId) (lb : Array Value), v = .func (.func g) #[] lb ∧ (∀ args w, (callFunc g args).run P w = .ok (.enter g args) w) ∧
    ∀ (l : Nat) (J : List α → World → Prop) (Jx : World → Prop) (W : World),
      (∀ k W, J k W → SnapOK S W) → (∀ k W W', J k W → Below W.heap.size W W' → J k W') → (∀ W W', Jx W → Below W.heap.size W W' → Jx W') →
      (∀ pre x rest W1, xs = pre ++ x :: rest → J pre W1 → YieldAt Fence.wide 0 P l (encs x) W1 fun e W' => (e = .returned (.bool true) ∧ J (pre ++ [x]) W') ∨ (e = .returned (.bool false) ∧ Jx W')) →
      J [] W → Calls P g (#[.func (.yield l) #[] #[]] ++ lb) W fun e W' => (∃ v, e = .returned v) ∧ (J xs W' ∨ Jx W')
theorem IterV.mono {α : Type} {encs : α → Array Value} {v : Value} {xs : List α} {S S' : Snap} (h : IterV P encs v xs S) (hS : S.le S') : IterV P encs v xs S' := by
  obtain ⟨g, lb, e, hc, hh⟩ := h
  exact ⟨g, lb, e, hc, fun l J Jx W h1 h2 h3 h4 h5 => hh l J Jx W (fun k W hk b o hb => h1 k W hk b o (hS b o hb)) h2 h3 h4 h5⟩
/-- how a round may be left -/
def RPost (w0 : World) (B : Nat → Prop) (l D : Nat) (o o' : Obj) (I Ix : List Ch → Prop) : Exit → Act → World → Prop
  | .normal, _, w => ∃ L, I L ∧ Mem w0 B (.obj l o :: .obj D o' :: L) w
  | .ret, _, w => ∃ L, Ix L ∧ Mem w0 B (.obj l o :: .obj D o' :: L) w
  | _, _, _ => False
theorem Mem.pickL {x y z : Ch} (h : Mem w0 B (x :: y :: z :: L) w) : Mem w0 B (y :: z :: x :: L) w := by
  refine h.pick ([1, 2, 0] ++ List.range' 3 L.length) _ ?_ ?_
  · rw [List.nodup_append]
    refine ⟨by decide, List.nodup_range', fun a ha b hb => ?_⟩
    rw [List.mem_range'_1] at hb
    simp only [List.mem_cons, List.not_mem_nil, or_false] at ha
    omega
  · rw [List.map_append]
    refine congrArg (fun l : List (Option Ch) => some y :: some z :: some x :: l) (List.ext_getElem? fun i => ?_)
    show (List.map (fun i => (x :: y :: z :: L)[i]?) (List.range' 3 L.length))[i]? = _
    rw [List.getElem?_map, List.getElem?_map]
    by_cases hi : i < L.length
    · rw [List.getElem?_range' hi, List.getElem?_eq_getElem hi]
      show some ((x :: y :: z :: L)[3 + 1 * i]?) = some (some L[i])
      rw [show 3 + 1 * i = i + 1 + 1 + 1 by omega, List.getElem?_cons_succ, List.getElem?_cons_succ, List.getElem?_cons_succ, List.getElem?_eq_getElem hi]
    · rw [List.getElem?_eq_none (by rw [List.length_range']; omega), List.getElem?_eq_none (by omega)]; rfl
theorem St.pickL {x y z : Ch} (h : St N w0 B ρ (x :: y :: z :: L) a w) : St N w0 B ρ (y :: z :: x :: L) a w := ⟨h.k, h.m.pickL⟩
/-! ### a function that holds such a loop -/
/-! ### an iterator -/
theorem St.fresh {S : Snap} (h : Knows N ρ a) (hS : SnapOK S w) : St N w (ownL [.sn S]) ρ [.sn S] a w := ⟨h, Mem.startS hS⟩
theorem RPost.n {l D : Nat} {o o' : Obj} {I Ix : List Ch → Prop} (L : List Ch) (h : I L) (m : Mem w0 B (.obj l o :: .obj D o' :: L) w) : RPost w0 B l D o o' I Ix .normal a w := ⟨L, h, m⟩
theorem RPost.r {l D : Nat} {o o' : Obj} {I Ix : List Ch → Prop} (L : List Ch) (h : Ix L) (m : Mem w0 B (.obj l o :: .obj D o' :: L) w) : RPost w0 B l D o o' I Ix .ret a w := ⟨L, h, m⟩
end
end
end Go.Proofs.YtnmeelkfpmodgaaDoor
