/- Sums of pairs. -/
import Derived.Test.YtcjleeclpmgbjaaRef5c
set_option linter.unusedVariables false
set_option linter.unusedSimpArgs false
namespace Go.Proofs.Ytcjleeclpmgbjaa
open Go.RowKit

set_option maxRecDepth 100000 in
theorem rsum_ok (w0 : World) (A : Option Addr) (p : List UInt8) (c : Nat) (hP : Rd w0 A (by8 p)) (hp : p.length ≤ 1099511627776) :
    Calls Try.prog 35 #[.slice A p.length c] w0 fun e w' => e = .returned (.agg (by8 (shaS p)).toArray) ∧ Below w0.heap.size w0 w' := by
  refine c_enter Try.func35 rfl 9 rfl (by simp) (fun _ => False) _ rfl (fun a h => ?_)
  have h := h.mem (h.m.arg (rdP A (by8 p)) hP (fun _ _ hh => hh))
  refine c_rs ?_ -- region 0
  refine s_alloc h rfl rfl rfl (by decide) zi_A32_uint8 rfl (fun a w g2 h => ?_)
  refine l_end ?_
  refine c_rs ?_ -- region 1
  refine s_bslice1 h rfl rfl rfl (by decide) Try.underlying99 zi_uint32 (vs := ucs beginL) (by kernel_rfl) (by kernel_rfl) (ucs_one _) (by decide) (by decide) (fun a w g4 h => ?_)
  refine s_assign h rfl _ rfl rfl (by decide) rfl (fun a h => ?_)
  refine l_end ?_
  refine c_rs ?_ -- region 2
  refine s_callN h rfl rfl rfl (by decide) Try.func55 rfl rfl rfl (told_ok w) (fun a w v5 hb h => ?_)
  obtain ⟨g5, c5, rfl, hc5, _⟩ := h.m.rowAt (i := 0) rfl (by omega)
  have hr4 : Rd w (some ⟨g4, 0, none⟩) (ucs beginL) := by have := h.m.rdBox (i := 1) rfl 0; rwa [List.drop_zero] at this
  refine s_move h rfl _ rfl rfl (by decide) rfl (fun a h => ?_)
  refine s_move h rfl _ rfl rfl (by decide) rfl (fun a h => ?_)
  refine s_callB h rfl rfl rfl (by decide) Try.func54 rfl rfl rfl (with_ok w g5 0 c5 (h.m.rdRowA (i := 0) rfl) (some ⟨g4, 0, none⟩) 8 hr4 A p c (h.m.ok 3 _ rfl) hp) (fun a w hb h => ?_)
  refine s_stW h rfl rfl rfl ag_A32_uint8 rfl rfl (by rw [by8_length, shaS_length]) (by8_one _) 2 rfl (by rfl) (fun a w h => ?_)
  refine l_end ?_
  refine wp_ret ?_
  exact r_ret1 h rfl (rv_cellA h rfl 2 rfl ag_A32_uint8 (by rw [by8_length, shaS_length])) ⟨rfl, h.m.below⟩
/-- the sum of a pair -/
def pairS (a b : List UInt8) : List UInt8 := shaS ([1] ++ a ++ b)
theorem pairS_length (a b : List UInt8) : (pairS a b).length = 32 := shaS_length _
theorem rb_of {w : World} {A : Option Addr} {l : List UInt8} {n c : Nat} (hl : l.length = n) (h1 : n ≤ c) (h2 : c ≤ 9223372036854775807) (h : Rd w A (by8 l)) : Rb w (.slice A n c) l := by subst hl; exact ⟨A, c, rfl, h1, h2, h⟩
end Go.Proofs.Ytcjleeclpmgbjaa
