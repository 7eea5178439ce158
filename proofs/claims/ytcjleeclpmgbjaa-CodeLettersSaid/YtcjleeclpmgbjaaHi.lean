/- Texts put together. -/
import Derived.Test.YtcjleeclpmgbjaaSha4
import Derived.Test.YtcjleeclpmgbjaaSha5
import Derived.Test.YtcjleeclpmgbjaaPc
import Derived.Lib.Strings
import Derived.Lib.Slices
import Derived.Lib.Walk
import Derived.Lib.Bytealg
set_option linter.unusedVariables false
set_option linter.unusedSimpArgs false
namespace Go.Proofs.Ytcjleeclpmgbjaa
open Go.RowKit
section
section
section

end
section

/-- k pieces of a text -/
def pieces (M : List UInt8) (k : Nat) : List UInt32 := (absorb beginL (M.take (64 * k))).1
end
end
section
section
section

end
section

end
end
section
theorem slS_bytes {S : Snap} {A : Option Addr} {c : Nat} {l : List UInt8} {w : World} (h : slS ty8 S A c l) (hw : SnapOK S w) : Rd w A (by8 l) := by
  obtain ⟨_, _, vs, h1, h2⟩ := h
  cases reps8 h2
  exact h1 w hw
theorem slS_lists {S : Snap} {A : Option Addr} {c : Nat} {ls : List (List UInt8)} {w : World} (h : slS (tyL ty8) S A c ls) (hw : SnapOK S w) : RbL w A ls := by
  obtain ⟨_, _, vs, h1, h2⟩ := h
  refine ⟨vs, by rw [h2.len]; show _ * 1 = _; omega, h1 w hw, fun i v l hv hl => ?_⟩
  obtain ⟨u, e1, e2⟩ := h2.cell rfl hl
  cases hv.symm.trans e1
  obtain ⟨A', c', e, hs⟩ := e2
  cases e
  exact ⟨A', c', rfl, hs.1, hs.2.1, slS_bytes hs hw⟩
theorem ret_below {w0 w' : World} {S0 : Snap} {Rs : Value → List Ch → Snap → Prop} {e : Ending} {v : Value} (hm : Mem w0 (ownL ([] ++ [.sn S0])) ([] ++ [.sn S0]) w0) (he : e = .returned v) (hb : Below w0.heap.size w0 w') (hR : Rs v [] S0) : Ret w0 S0 [] Rs e w' :=
  ⟨v, [], S0, he, hR, rfl, Up.refl _ _ _, hm.ext hb⟩
theorem rep8 (S : Snap) (l : List UInt8) : reps ty8 S (by8 l) l := by
  induction l with
  | nil => rfl
  | cons x l ih => exact ⟨[_], _, rfl, rfl, ih⟩
def sha_Sum (Fu : Nat) (a0 : List (List UInt8)) : Option (List UInt8) := if a0.flatten.length ≤ 1099511627776 then some (shaS a0.flatten) else none
theorem sha_Sum_ok (Fu : Nat) {S0 : Snap} (Aa0 : Option Addr) (ca0 : Nat) (a0 : List (List UInt8)) (hsa0 : slS (tyL ty8) S0 Aa0 ca0 a0) (r : List UInt8) (hf : sha_Sum Fu a0 = some r) (w0 : World) (hm : Mem w0 (ownL ([] ++ [.sn S0])) ([] ++ [.sn S0]) w0) :
    Calls Try.prog 30 #[.slice Aa0 a0.length ca0] w0 (Ret w0 S0 [] (fun v L1 S1 => ∃ (k : List Value), v = .agg k.toArray ∧ L1 = [] ∧ (tyA 32 ty8).rep S1 k r ∧ True)) := by
  have hw := hm.snOK (i := 0) rfl
  unfold sha_Sum at hf
  split at hf
  · rename_i ht
    cases hf
    have h1 := hsa0.1; have h2 := hsa0.2.1
    exact (sum_ok w0 Aa0 a0 ca0 (slS_lists hsa0 hw) (by unfold maxLen at h2; omega) ht).mono fun e w' ⟨he, hb⟩ => ret_below hm he hb ⟨_, rfl, rfl, ⟨rep8 _ _, shaS_length _⟩, trivial⟩
  · cases hf
end
end
end
section
set_option maxHeartbeats 1000000 in
set_option maxRecDepth 100000 in
theorem indexByte0 (s : ByteArray) (c : Int) (w : World) :
    Calls Try.prog 59 #[.string s, .int .u8 c] w fun e w' => e = .returned (.int .i64 (Lib.indexByte s.data.toList c.toNat.toUInt8)) ∧ w' = w := by
  go_enter Try.func59, Try.ntmps59
  go_wp2
  rw [run_callFunc_extern Try.func69 (by kernel_rfl) (by kernel_rfl) (by kernel_rfl) (e := Extern.BytealgIndexByte.indexByte) (by kernel_rfl), Lib.run_indexByteString]
  simp only [Result.andThen]
  rw [Oper.upon_value]
  go_wp2
  go_ret
  exact ⟨rfl, rfl⟩
set_option maxHeartbeats 1000000 in
theorem indexByte1 (s : ByteArray) (c : Int) (w : World) :
    Calls Try.prog 43 #[.string s, .int .u8 c] w fun e w' => e = .returned (.int .i64 (Lib.indexByte s.data.toList c.toNat.toUInt8)) ∧ w' = w := by
  go_enter Try.func43, Try.ntmps43
  go_wp2_with (go_at_call 59; refine (indexByte0 _ _ _).mono ?_; rintro e w' ⟨rfl, rfl⟩)
  go_ret
  exact ⟨rfl, rfl⟩
def strings_IndexByte (Fu : Nat) (a0 : List UInt8) (a1 : UInt8) : Option Int := some (Lib.indexByte a0 a1)
theorem indexByte_lt (l : List UInt8) (c : UInt8) : Lib.indexByte l c ≤ l.length := by
  induction l with
  | nil => simp [Lib.indexByte]
  | cons b l ih =>
    rw [Lib.indexByte]
    split
    · simp; omega
    · split
      · simp; omega
      · simp; omega
theorem strings_IndexByte_ok (Fu : Nat) {S0 : Snap} (a0 : List UInt8) (hra0 : a0.length ≤ maxLen) (a1 : UInt8) (r : Int) (hf : strings_IndexByte Fu a0 a1 = some r) (w0 : World) (hm : Mem w0 (ownL ([] ++ [.sn S0])) ([] ++ [.sn S0]) w0) :
    Calls Try.prog 43 #[.string (sb a0), .int .u8 (a1.toNat : Int)] w0 (Ret w0 S0 [] (fun v L1 S1 => v = .int .i64 r ∧ L1 = [] ∧ r64 r ∧ True)) := by
  cases hf
  refine (indexByte1 (sb a0) (a1.toNat : Int) w0).mono fun e w' ⟨he, hw⟩ => ?_
  subst hw
  have e1 : (sb a0).data.toList = a0 := by simp [sb]
  have e2 : ((a1.toNat : Int).toNat).toUInt8 = a1 := by apply UInt8.toNat_inj.1; simp
  rw [e1, e2] at he
  have h1 := Lib.indexByte_ge a0 a1
  have h2 := indexByte_lt a0 a1
  unfold maxLen at hra0
  exact ret_below hm he (Below.refl _ _) ⟨rfl, rfl, by unfold r64; omega, trivial⟩
end
end Go.Proofs.Ytcjleeclpmgbjaa
