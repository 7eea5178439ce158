/- Maps keyed by an array of bytes. -/
import Derived.Test.YtlgcfnbhnpnkiaaMap
import Derived.Test.YtlgcfnbhnpnkiaaBig
import Derived.DeepKeys3
import Derived.DataBytes
set_option linter.unusedVariables false
set_option linter.unusedSimpArgs false
namespace Go.Proofs.Ytlgcfnbhnpnkiaa
open Go.RowKit
section
variable {P : Program}
theorem check_bytes {t e : TypeId} {n : Nat} (ht : P.underlying t = some (.array n e)) (he : P.underlying e = some (.int .u8)) (hc : P.cellsOf t = n) (hce : P.cellsOf e = 1) (hk : P.keyTypeAt 2 t = true) (em : Bool) (w : World) (x : List UInt8) (hx : x.length = n) : (Instr.checkKey em 10000 t (.agg (by8 x).toArray)).run P w = .ok () w := by
  have hb : ∀ i ∈ List.range n, P.keyLits 1 e (((by8 x).drop (i * 1)).take 1) = some [Lit.int .u8 ((x.getD i 0).toNat : Int)] := by
    intro i hi
    have hi' : i < x.length := by rw [hx]; simpa using hi
    have e1 : ((by8 x).drop (i * 1)).take 1 = [.int .u8 ((x.getD i 0).toNat : Int)] := by
      rw [Nat.mul_one, by8_drop, by8_take, List.drop_eq_getElem_cons hi', List.take_succ_cons, List.take_zero]
      simp [by8, byc, List.getD_eq_getElem?_getD, hi']
    obtain ⟨c, hc'⟩ : ∃ c, c = x.getD i 0 := ⟨_, rfl⟩
    rw [← hc'] at e1 ⊢
    have hw : (Lit.int .u8 (c.toNat : Int)).wf = true := by
      have := c.toNat_lt
      simp [Lit.wf, IntKind.min, IntKind.max, IntKind.signed, IntKind.bits]
      omega
    rw [e1]
    simp [Program.keyLits, he, hw]
  have hm := mapM_some_of_forall (List.range n) hb
  have hl : P.keyLits 2 t (by8 x) = some (((List.range n).map fun i => [Lit.int .u8 ((x.getD i 0).toNat : Int)]).flatten) := by
    unfold Program.keyLits
    simp only [ht]
    rw [if_pos (by rw [by8_length, hx, hc]), hce, hm]
    rfl
  exact run_checkKey_deep em 9998 2 t hk w 2 (.agg (by8 x).toArray) _ (by simp [Value.formed, ht, by8_length, hx, hc]) hl
theorem same_bytes (n : Nat) (x : List UInt8) : Instr.sameBits (n + 1) (.agg (by8 x).toArray) (.agg (by8 x).toArray) = true := by
  unfold Instr.sameBits
  simp only [BEq.rfl, Bool.true_and, List.all_eq_true]
  intro p hp
  have key : ∀ l : List UInt8, ∀ p ∈ (by8 l).zip (by8 l), Instr.sameBits n p.1 p.2 = true := by
    intro l
    induction l with
    | nil => intro p hp; simp [by8] at hp
    | cons b l ih =>
      intro p hp
      simp only [by8, List.map_cons, List.zip_cons_cons, List.mem_cons] at hp
      rcases hp with rfl | hp
      · cases n <;> simp [byc, Instr.sameBits]
      · exact ih p hp
  exact key x p (by simpa using hp)
/-- keys that are arrays of bytes -/
def keyB {t e : TypeId} {n : Nat} (ht : P.underlying t = some (.array n e)) (he : P.underlying e = some (.int .u8)) (hs : (P.info? e).map (·.size) = some 1) (hc : P.cellsOf t = n) (hk : P.keyTypeAt 2 t = true) : KeyD P t (List UInt8) where
  kv x := .agg (by8 x).toArray
  ok x := x.length = n
  eq w x y hx hy := by
    have := eq_arr_bytes w 9998 n ht he hs x y hx hy
    rw [show (x == y) = decide (x = y) by rw [Bool.eq_iff_iff]; simp] at this
    exact this
  check w b x hx := check_bytes ht he hc (by unfold Program.cellsOf; rw [hs]; rfl) hk b w x hx
  same hx := same_bytes 9999 _
  find w x es := by
    unfold Instr.findKey
    simp only [Sem.run_bind, run_underlying ht, Result.andThen_ok]
    cases es with
    | nil => rfl
    | cons a es => rfl
end
end Go.Proofs.Ytlgcfnbhnpnkiaa
