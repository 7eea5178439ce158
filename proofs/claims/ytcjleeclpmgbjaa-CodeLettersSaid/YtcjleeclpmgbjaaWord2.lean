/- The functions of the packages word and chatelaineref01 on numbers of 64 bits. -/
import Derived.Test.YtcjleeclpmgbjaaWord
set_option linter.unusedVariables false
set_option linter.unusedSimpArgs false
namespace Go.Proofs.Ytcjleeclpmgbjaa
open Go.RowKit


theorem u32_split (x : UInt64) : ∃ h l : UInt32, (h.toNat : Int) = (x.toNat : Int) / 4294967296 ∧ (l.toNat : Int) = (x.toNat : Int) % 4294967296 ∧ be 8 x.toNat = be 4 h.toNat ++ be 4 l.toNat := by
  have hx := x.toNat_lt
  have e1 : (UInt32.ofNat (x.toNat / 4294967296)).toNat = x.toNat / 4294967296 := by simp; omega
  have e2 : (UInt32.ofNat (x.toNat % 4294967296)).toNat = x.toNat % 4294967296 := by simp
  refine ⟨UInt32.ofNat (x.toNat / 4294967296), UInt32.ofNat (x.toNat % 4294967296), by rw [e1]; omega, by rw [e2]; omega, ?_⟩
  rw [e1, e2]
  have e3 : be 4 (x.toNat % 4294967296) = be 4 x.toNat := by
    have := be_mod 4 x.toNat
    rwa [show (256 : Nat) ^ 4 = 4294967296 by decide] at this
  rw [e3]
  simp [be, Nat.div_div_eq_div_mul]
set_option maxRecDepth 100000 in
/-- word.Put64 -/
theorem put64_ok (x : UInt64) (w : World) :
    Calls Try.prog 31 #[.int .u64 (x.toNat : Int)] w fun e w' => ∃ v, e = .returned v ∧ New w w' 5 v 8 (by8 (be 8 x.toNat)) := by
  obtain ⟨h, l, eh, el, eb⟩ := u32_split x
  rw [eb]
  have EH := hid eh
  have EL := hid el
  clear eh el eb
  have k1 : IntKind.u32.wrap ((x.toNat : Int) / 4294967296) = (h.toNat : Int) := by rw [EH.out]; exact w32 (by omega) (by have := x.toNat_lt; omega)
  have k2 : IntKind.u32.wrap (x.toNat : Int) = (l.toNat : Int) := by rw [EL.out, IntKind.wrap_u32]
  go_enter Try.func31, Try.ntmps31
  go_wp2_with fail
  refine (put32_ok h _).mono ?_
  rintro e w1 ⟨A1, rfl, hb1, hz1, hr1⟩
  go_wp2_with fail
  refine (put32_ok l _).mono ?_
  rintro e w2 ⟨A2, rfl, hb2, hz2, hr2⟩
  have HR1 := hid (hr1.below hb2)
  have HR2 := hid hr2
  have HB := hid (below_step hb1 hb2)
  have hzz := hb1.size
  have hzz2 := hb2.size
  clear hr1 hr2 hb1 hb2 hz1 hz2
  obtain ⟨i, hi, hi0, hi1, hi2⟩ := info_parts info_u8
  go_wp2_with (at_builtin; go_must (refine wpList_append_grows _ rfl (.tmp 6) (.tmp 9) 22 rfl 5 i (.int .u8 0) 1 1 Try.underlying22 hi hi0 hi1 hi2 rfl (by decide) (some A1) 4 4 (by8 (be 4 h.toNat)) rfl (by simp) (by simp [by8_length, be_length]) (fun b hb j u hu => ?_) A2 4 4 (by8 (be 4 l.toNat)) rfl (by simp [by8_length, be_length]) (fun j u hu => ?_) (by8_one _) (by omega) (by simp [maxLen]) (by omega) ?_))
  · cases hb
    obtain ⟨ad, e, h1⟩ := HR1.out j u hu
    cases e; exact h1
  · obtain ⟨ad, e, h1⟩ := HR2.out j u hu
    cases e; exact h1
  · intro v' w3 hown hg
    go_wp2
    go_ret
    have hb3 : Below w2.heap.size w2 w3 := below_of_grown hg (by simp)
    refine ⟨_, rfl, below_step HB.out hb3, ?_⟩
    rw [by8_append]
    exact own_lower hown (by omega)
/-! ### the document's -/
end Go.Proofs.Ytcjleeclpmgbjaa
