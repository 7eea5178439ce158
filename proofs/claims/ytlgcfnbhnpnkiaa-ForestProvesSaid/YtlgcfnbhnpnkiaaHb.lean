/- Sums and roots of sums: contracts that were proved by hand, told as plain functions'. -/
import Derived.Test.YtlgcfnbhnpnkiaaPc
import Derived.Test.YtlgcfnbhnpnkiaaMk4
set_option linter.unusedVariables false
set_option linter.unusedSimpArgs false
namespace Go.Proofs.Ytlgcfnbhnpnkiaa
open Go.RowKit
theorem slS_bytes {S : Snap} {A : Option Addr} {c : Nat} {l : List UInt8} {w : World} (h : slS ty8 S A c l) (hw : SnapOK S w) : Rd w A (by8 l) := by
  obtain ⟨_, _, vs, h1, h2⟩ := h
  cases reps8 h2
  exact h1 w hw
theorem slS_lists {S : Snap} {A : Option Addr} {c : Nat} {ls : List (List UInt8)} {w : World} (h : slS (tyL ty8) S A c ls) (hw : SnapOK S w) : RbL w A ls := by
  obtain ⟨_, _, vs, h1, h2⟩ := h
  refine ⟨vs, by rw [h2.len]; show _ * 1 = _; omega, h1 w hw, fun i v l hv hl => ?_⟩
  obtain ⟨u, e1, e2⟩ := h2.cell rfl hl
  cases hv.symm.trans e1
  obtain ⟨A', c', e, hs⟩ := e2
  cases e
  exact ⟨A', c', rfl, hs.1, hs.2.1, slS_bytes hs hw⟩
theorem reps32 {S : Snap} : ∀ {xs : List (List UInt8)} {cs : List Value}, reps (tyA 32 ty8) S cs xs → cs = by8 xs.flatten ∧ S32 xs
  | [], cs, h => ⟨h, fun _ hx => by cases hx⟩
  | x :: xs, cs, h => by
    obtain ⟨c, ds, e, h1, h2⟩ := h
    obtain ⟨e2, h3⟩ := reps32 h2
    subst e e2
    refine ⟨by rw [reps8 h1.1, List.flatten_cons]; unfold by8; rw [List.map_append], fun y hy => ?_⟩
    rcases List.mem_cons.1 hy with rfl | hy
    · exact h1.2
    · exact h3 y hy
theorem slS_sums {S : Snap} {A : Option Addr} {c : Nat} {l : List (List UInt8)} {w : World} (h : slS (tyA 32 ty8) S A c l) (hw : SnapOK S w) : S32 l ∧ Rd w A (by8 l.flatten) := by
  obtain ⟨_, _, vs, h1, h2⟩ := h
  obtain ⟨rfl, h3⟩ := reps32 h2
  exact ⟨h3, h1 w hw⟩
theorem ret_below {w0 w' : World} {S0 : Snap} {Rs : Value → List Ch → Snap → Prop} {e : Ending} {v : Value} (hm : Mem w0 (ownL ([] ++ [.sn S0])) ([] ++ [.sn S0]) w0) (he : e = .returned v) (hb : Below w0.heap.size w0 w') (hR : Rs v [] S0) : Ret w0 S0 [] Rs e w' :=
  ⟨v, [], S0, he, hR, rfl, Up.refl _ _ _, hm.ext hb⟩
theorem rep8 (S : Snap) (l : List UInt8) : reps ty8 S (by8 l) l := by
  induction l with
  | nil => rfl
  | cons x l ih => exact ⟨[_], _, rfl, rfl, ih⟩
def sha_Sum (Fu : Nat) (a0 : List (List UInt8)) : Option (List UInt8) := if a0.flatten.length ≤ 1099511627776 then some (shaS a0.flatten) else none
theorem sha_Sum_ok (Fu : Nat) {S0 : Snap} (Aa0 : Option Addr) (ca0 : Nat) (a0 : List (List UInt8)) (hsa0 : slS (tyL ty8) S0 Aa0 ca0 a0) (r : List UInt8) (hf : sha_Sum Fu a0 = some r) (w0 : World) (hm : Mem w0 (ownL ([] ++ [.sn S0])) ([] ++ [.sn S0]) w0) :
    Calls Try.prog 74 #[.slice Aa0 a0.length ca0] w0 (Ret w0 S0 [] (fun v L1 S1 => ∃ (k : List Value), v = .agg k.toArray ∧ L1 = [] ∧ (tyA 32 ty8).rep S1 k r ∧ True)) := by
  have hw := hm.snOK (i := 0) rfl
  unfold sha_Sum at hf
  split at hf
  · rename_i ht
    cases hf
    have h1 := hsa0.1; have h2 := hsa0.2.1
    exact (sum_ok w0 Aa0 a0 ca0 (slS_lists hsa0 hw) (by unfold maxLen at h2; omega) ht).mono fun e w' ⟨he, hb⟩ => ret_below hm he hb ⟨_, rfl, rfl, ⟨rep8 _ _, shaS_length _⟩, trivial⟩
  · cases hf
def chatelaineref05_Sum (Fu : Nat) (a0 : List UInt8) : Option (List UInt8) := if a0.length ≤ 1099511627776 then some (shaS a0) else none
theorem chatelaineref05_Sum_ok (Fu : Nat) {S0 : Snap} (Aa0 : Option Addr) (ca0 : Nat) (a0 : List UInt8) (hsa0 : slS ty8 S0 Aa0 ca0 a0) (r : List UInt8) (hf : chatelaineref05_Sum Fu a0 = some r) (w0 : World) (hm : Mem w0 (ownL ([] ++ [.sn S0])) ([] ++ [.sn S0]) w0) :
    Calls Try.prog 72 #[.slice Aa0 a0.length ca0] w0 (Ret w0 S0 [] (fun v L1 S1 => ∃ (k : List Value), v = .agg k.toArray ∧ L1 = [] ∧ (tyA 32 ty8).rep S1 k r ∧ True)) := by
  have hw := hm.snOK (i := 0) rfl
  unfold chatelaineref05_Sum at hf
  split at hf
  · rename_i ht
    cases hf
    exact (rsum_ok w0 Aa0 a0 ca0 (slS_bytes hsa0 hw) ht).mono fun e w' ⟨he, hb⟩ => ret_below hm he hb ⟨_, rfl, rfl, ⟨rep8 _ _, shaS_length _⟩, trivial⟩
  · cases hf
def merkle_Root (Fu : Nat) (a0 : List (List UInt8)) : Option (List UInt8 × Int) := some (rootV a0, errV (okN a0.length))
theorem merkle_Root_ok (Fu : Nat) {S0 : Snap} (Aa0 : Option Addr) (ca0 : Nat) (a0 : List (List UInt8)) (hsa0 : slS (tyA 32 ty8) S0 Aa0 ca0 a0) (r : List UInt8 × Int) (hf : merkle_Root Fu a0 = some r) (w0 : World) (hm : Mem w0 (ownL ([] ++ [.sn S0])) ([] ++ [.sn S0]) w0) :
    Calls Try.prog 24 #[.slice Aa0 a0.length ca0] w0 (Ret w0 S0 [] (fun v L1 S1 => ∃ (k : List Value), v = .tuple #[.agg k.toArray, .int .i64 r.2] ∧ L1 = [] ∧ (tyA 32 ty8).rep S1 k r.1 ∧ r64 r.2 ∧ True)) := by
  have hw := hm.snOK (i := 0) rfl
  cases hf
  obtain ⟨h1, h2⟩ := slS_sums hsa0 hw
  exact (root_ok w0 Aa0 a0 ca0 h1 h2).mono fun e w' ⟨he, hb⟩ => ret_below hm he hb ⟨_, rfl, rfl, ⟨rep8 _ _, by unfold rootV; split <;> first | exact rootS_length h1 | rfl⟩, by unfold errV r64; split <;> omega, trivial⟩
def chatelaineref23_Root (Fu : Nat) (a0 : List (List UInt8)) : Option (List UInt8) := if 1 ≤ a0.length ∧ a0.length ≤ 4096 then some (rootS a0) else none
theorem chatelaineref23_Root_ok (Fu : Nat) {S0 : Snap} (Aa0 : Option Addr) (ca0 : Nat) (a0 : List (List UInt8)) (hsa0 : slS (tyA 32 ty8) S0 Aa0 ca0 a0) (r : List UInt8) (hf : chatelaineref23_Root Fu a0 = some r) (w0 : World) (hm : Mem w0 (ownL ([] ++ [.sn S0])) ([] ++ [.sn S0]) w0) :
    Calls Try.prog 32 #[.slice Aa0 a0.length ca0] w0 (Ret w0 S0 [] (fun v L1 S1 => ∃ (k : List Value), v = .agg k.toArray ∧ L1 = [] ∧ (tyA 32 ty8).rep S1 k r ∧ True)) := by
  have hw := hm.snOK (i := 0) rfl
  unfold chatelaineref23_Root at hf
  split at hf
  · rename_i ht
    cases hf
    obtain ⟨h1, h2⟩ := slS_sums hsa0 hw
    exact (rroot_ok w0 Aa0 a0 ca0 h1 h2 ht.1 ht.2).mono fun e w' ⟨he, hb⟩ => ret_below hm he hb ⟨_, rfl, rfl, ⟨rep8 _ _, rootS_length h1⟩, trivial⟩
  · cases hf
end Go.Proofs.Ytlgcfnbhnpnkiaa
