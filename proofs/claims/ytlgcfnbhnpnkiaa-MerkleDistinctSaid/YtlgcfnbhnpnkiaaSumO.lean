/- Sums that come in, opened. -/
import Derived.Test.YtlgcfnbhnpnkiaaOpen
import Derived.Test.YtlgcfnbhnpnkiaaBig
set_option linter.unusedVariables false
set_option linter.unusedSimpArgs false
namespace Go.Proofs.Ytlgcfnbhnpnkiaa
open Go.RowKit
def kSum : Kn (List UInt8) := Kn.u8.arr 32
theorem opens_sum : Opens Try.prog 40 kSum := Opens.arr Try.underlying40 (by kernel_rfl) (by kernel_rfl) (Opens.u8 Try.underlying5)
theorem opens_sums : Opens Try.prog 39 kSum.slice := Opens.slice Try.underlying39 (by kernel_rfl) (by decide) opens_sum
theorem arrB {n : Nat} {w : World} {l : List UInt8} {cs : List Value} (h : (Kn.u8.arr n).K w l cs) : l.length = n ∧ cs = by8 l := by
  obtain ⟨h1, h2, h3⟩ := h
  refine ⟨h1, ?_⟩
  have h2' : cs.length = n := by simpa [Kn.u8] using h2
  apply List.ext_getElem (by rw [h2', by8_length, h1])
  intro i hi hi'
  have := h3 i (by rw [by8_length] at hi'; exact hi')
  have e : (cs.drop (i * Kn.u8.sz)).take Kn.u8.sz = [byc (l[i]'(by rw [by8_length] at hi'; exact hi'))] := this
  have hk : Kn.u8.sz = 1 := rfl
  rw [hk, Nat.mul_one, List.drop_eq_getElem_cons hi, List.take_succ_cons, List.take_zero] at e
  simp [by8]
  exact List.head_eq_of_cons_eq e
theorem sum_in {w : World} {v : Value} {l : List UInt8} (h : kSum.K w l v.cells.toList) : l.length = 32 ∧ v = .agg (by8 l).toArray := by
  obtain ⟨hl, hc⟩ := arrB h
  refine ⟨hl, ?_⟩
  have hlen : v.cells.toList.length = 32 := by rw [hc, by8_length, hl]
  cases v
  case agg xs =>
    have : xs.toList = by8 l := hc
    rw [← this]
  all_goals simp [Value.cells] at hlen
theorem sums_in {w : World} {A : Option Addr} {l : List (List UInt8)} (h : kSum.At w A l) : S32 l ∧ Rd w A (by8 l.flatten) := by
  have hs : S32 l := by
    intro x hx
    obtain ⟨i, hi, rfl⟩ := List.getElem_of_mem hx
    obtain ⟨_, _, cs, _, _, hk, _⟩ := h i hi
    exact (arrB hk).1
  refine ⟨hs, fun t c hc => ?_⟩
  have hlen := (List.getElem?_eq_some_iff.1 hc).1
  rw [by8_length, flat_len hs] at hlen
  have hi : t / 32 < l.length := by omega
  obtain ⟨b, off, cs, rfl, hb, hk, hcell⟩ := h (t / 32) hi
  refine ⟨_, rfl, ?_⟩
  rw [Addr.add_mid]
  have e := hcell (t % 32) c ?_
  · have h32 : kSum.sz = 32 := rfl
    rw [h32, show t / 32 * 32 + t % 32 = t by omega] at e
    exact e
  · rw [(arrB hk).2, ← flat_at hs hi, ← by8_take, ← by8_drop, List.getElem?_take, if_pos (by omega), List.getElem?_drop, show t / 32 * 32 + t % 32 = t by omega]
    exact hc
end Go.Proofs.Ytlgcfnbhnpnkiaa
