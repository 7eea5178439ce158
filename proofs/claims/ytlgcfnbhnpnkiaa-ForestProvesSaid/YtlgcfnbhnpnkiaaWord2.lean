/- The functions of the packages word and chatelaineref01 on numbers of 64 bits. -/
import Derived.Test.YtlgcfnbhnpnkiaaWord
set_option linter.unusedVariables false
set_option linter.unusedSimpArgs false
namespace Go.Proofs.Ytlgcfnbhnpnkiaa
open Go.RowKit


theorem num_append (a b : List UInt8) : num (a ++ b) = 256 ^ b.length * num a + num b := by
  have := foldl_num b (num a)
  rw [← this]; simp [num]
theorem rd_drop_lit {w : World} {ad : Addr} {cs : List Value} (h : Rd w (some ad) cs) (n : Nat) (hn : 0 < n) : Rd w (some ⟨ad.block, ad.off + n, none⟩) (cs.drop n) := by
  have := h.drop n
  have e : ad.add n = ⟨ad.block, ad.off + n, none⟩ := by unfold Addr.add; rw [if_neg (by omega)]
  simpa [e] using this
theorem get32_no (A : Option Addr) (n c : Nat) (w : World) (hl : n ≠ 4) :
    Calls Try.prog 117 #[.slice A n c] w fun e w' => e = .returned (.tuple #[.int .u32 0, .bool false]) ∧ w' = w := by
  have g : ((n : Int) != 4) = true := bne_iff_ne.mpr (by omega)
  clear hl
  go_enter Try.func117, Try.ntmps117
  go_wp2
  go_ret2
  exact ⟨rfl, rfl⟩
theorem u32_split (x : UInt64) : ∃ h l : UInt32, (h.toNat : Int) = (x.toNat : Int) / 4294967296 ∧ (l.toNat : Int) = (x.toNat : Int) % 4294967296 ∧ be 8 x.toNat = be 4 h.toNat ++ be 4 l.toNat := by
  have hx := x.toNat_lt
  have e1 : (UInt32.ofNat (x.toNat / 4294967296)).toNat = x.toNat / 4294967296 := by simp; omega
  have e2 : (UInt32.ofNat (x.toNat % 4294967296)).toNat = x.toNat % 4294967296 := by simp
  refine ⟨UInt32.ofNat (x.toNat / 4294967296), UInt32.ofNat (x.toNat % 4294967296), by rw [e1]; omega, by rw [e2]; omega, ?_⟩
  rw [e1, e2]
  have e3 : be 4 (x.toNat % 4294967296) = be 4 x.toNat := by
    have := be_mod 4 x.toNat
    rwa [show (256 : Nat) ^ 4 = 4294967296 by decide] at this
  rw [e3]
  simp [be, Nat.div_div_eq_div_mul]
set_option maxRecDepth 100000 in
/-- word.Put64 -/
theorem put64_ok (x : UInt64) (w : World) :
    Calls Try.prog 114 #[.int .u64 (x.toNat : Int)] w fun e w' => ∃ v, e = .returned v ∧ New w w' 5 v 8 (by8 (be 8 x.toNat)) := by
  obtain ⟨h, l, eh, el, eb⟩ := u32_split x
  rw [eb]
  have EH := hid eh
  have EL := hid el
  clear eh el eb
  have k1 : IntKind.u32.wrap ((x.toNat : Int) / 4294967296) = (h.toNat : Int) := by rw [EH.out]; exact w32 (by omega) (by have := x.toNat_lt; omega)
  have k2 : IntKind.u32.wrap (x.toNat : Int) = (l.toNat : Int) := by rw [EL.out, IntKind.wrap_u32]
  go_enter Try.func114, Try.ntmps114
  go_wp2_with fail
  refine (put32_ok h _).mono ?_
  rintro e w1 ⟨A1, rfl, hb1, hz1, hr1⟩
  go_wp2_with fail
  refine (put32_ok l _).mono ?_
  rintro e w2 ⟨A2, rfl, hb2, hz2, hr2⟩
  have HR1 := hid (hr1.below hb2)
  have HR2 := hid hr2
  have HB := hid (below_step hb1 hb2)
  have hzz := hb1.size
  have hzz2 := hb2.size
  clear hr1 hr2 hb1 hb2 hz1 hz2
  obtain ⟨i, hi, hi0, hi1, hi2⟩ := info_parts info_u8
  go_wp2_with (at_builtin; go_must (refine wpList_append_grows _ rfl (.tmp 6) (.tmp 9) 52 rfl 5 i (.int .u8 0) 1 1 Try.underlying52 hi hi0 hi1 hi2 rfl (by decide) (some A1) 4 4 (by8 (be 4 h.toNat)) rfl (by simp) (by simp [by8_length, be_length]) (fun b hb j u hu => ?_) A2 4 4 (by8 (be 4 l.toNat)) rfl (by simp [by8_length, be_length]) (fun j u hu => ?_) (by8_one _) (by omega) (by simp [maxLen]) (by omega) ?_))
  · cases hb
    obtain ⟨ad, e, h1⟩ := HR1.out j u hu
    cases e; exact h1
  · obtain ⟨ad, e, h1⟩ := HR2.out j u hu
    cases e; exact h1
  · intro v' w3 hown hg
    go_wp2
    go_ret
    have hb3 : Below w2.heap.size w2 w3 := below_of_grown hg (by simp)
    refine ⟨_, rfl, below_step HB.out hb3, ?_⟩
    rw [by8_append]
    exact own_lower hown (by omega)
set_option maxRecDepth 100000 in
/-- the document's Get64 -/
theorem rget64_ok (A : Option Addr) (l : List UInt8) (c : Nat) (w : World) (ha : Rd w A (by8 l)) (hm : l.length ≤ 9223372036854775807) :
    Calls Try.prog 109 #[.slice A l.length c] w fun e w' => e = .returned (.int .u64 ((num l % 18446744073709551616 : Nat) : Int)) ∧ w' = w := by
  have HA := hid ha
  clear ha
  go_enter Try.func109, Try.ntmps109
  go_wp2
  go_loop [3, 4] (fun x i => ∃ k X : Nat, k ≤ l.length ∧ i = .int .i64 k ∧ x = .int .u64 X ∧ X ≤ 18446744073709551615 ∧ Hid (X = num (l.take k) % 18446744073709551616)) (fun _ i => l.length - (intOf i).toNat)
  case atStart => exact ⟨0, 0, Nat.zero_le _, rfl, rfl, by omega, hid (by simp [num])⟩
  case round =>
    obtain ⟨k, X, hk, rfl, rfl, hX, hh⟩ := hrel
    by_cases hlt : k < l.length
    · obtain ⟨ad, rfl, hc⟩ := HA.out.byte k hlt
      have hr := bt8_range l k
      go_wp2
      go_round
      case rel =>
        have e := num_step l k hlt
        have hh' := hh.out
        refine ⟨k + 1, num (l.take (k + 1)) % 18446744073709551616, by omega, by go_num, ?_, by omega, hid rfl⟩
        congr 1
        rw [IntKind.wrap_u64, IntKind.wrap_u64]
        omega
      case measure => simp [intOf]; omega
    · have hkl : k = l.length := by omega
      have hh' := hh.out
      rw [hkl, List.take_of_length_le (Nat.le_refl _)] at hh'
      have HH := hid hh'
      clear hh'
      go_wp2
      go_ret
      exact ⟨ret_int (by have := HH.out; omega), rfl⟩
set_option maxRecDepth 100000 in
/-- the document's Put64 -/
theorem rput64_ok (x : UInt64) (w : World) :
    Calls Try.prog 79 #[.int .u64 (x.toNat : Int)] w fun e w' => ∃ v, e = .returned v ∧ New w w' 5 v 8 (by8 (be 8 x.toNat)) := by
  have hx := x.toNat_lt
  go_enter Try.func79, Try.ntmps79
  go_wp2
  go_loopw [3, 4, 5] (fun out sc i wr => ∃ k s : Nat, k ≤ 8 ∧ i = .int .i64 k ∧ sc = .int .u64 s ∧ (k < 8 → 1 ≤ s) ∧ s ≤ 72057594037927936 ∧ Hid ((k < 8 → s = 256 ^ (7 - k)) ∧ wr.ownsRow w.heap.size 5 1 out k (by8 ((be 8 x.toNat).take k)) ∧ Below w.heap.size w wr)) (fun _ _ i _ => 8 - (intOf i).toNat)
  case atStart => exact ⟨0, 72057594037927936, by omega, rfl, rfl, by omega, by omega, hid ⟨fun _ => by decide, World.ownsRow_nil _ _ _ _, Below.refl _ _⟩⟩
  case round =>
    obtain ⟨k, s, hk, rfl, rfl, hs1, hs2, hh⟩ := hrel
    have hbz := hh.out.2.2.size
    by_cases hlt : k < 8
    · have hs3 := hs1 hlt
      have q0 : 0 ≤ (x.toNat : Int) / s := Int.ediv_nonneg (by omega) (by omega)
      have q1 : (x.toNat : Int) / s ≤ 18446744073709551615 := by
        have := Int.ediv_le_self (s : Int) (show (0 : Int) ≤ (x.toNat : Int) by omega)
        omega
      have hs4 : ((s : Int) == 0) = false := beq_eq_false_iff_ne.mpr (by omega)
      go_wp2_with (at_builtin; go_must (refine append1 (w0 := w) rfl (.tmp 10) (.tmp 16) 52 5 (.int .u8 0) 1 rfl Try.underlying52 info_u8 rfl _ k _ rfl _ rfl rfl w.heap.size hh.out.2.1 hh.out.2.2 hbz (by omega) (by unfold maxLen; omega) ?_; intro v' w2 hown2 hb2 _ _))
      go_roundw
      case rel =>
        have es := hh.out.1 hlt
        refine ⟨k + 1, s / 256, by omega, by go_num, by simp, ?_, by omega, hid ⟨?_, ?_, hb2⟩⟩
        · intro hk8; rw [es]
          have : 7 - k = (7 - (k + 1)) + 1 := by omega
          rw [this, Nat.pow_succ, Nat.mul_div_cancel _ (by decide)]
          exact Nat.pow_pos (by decide)
        · intro hk8; rw [es]
          have : 7 - k = (7 - (k + 1)) + 1 := by omega
          rw [this, Nat.pow_succ, Nat.mul_div_cancel _ (by decide)]
        · have hl : k < (be 8 x.toNat).length := by rw [be_length]; omega
          rw [List.take_succ_eq_append_getElem hl, by8_append]
          have e1 := be_get 8 x.toNat k hlt
          rw [List.getElem?_eq_getElem hl] at e1
          rw [Option.some.inj e1, show 8 - 1 - k = 7 - k by omega, ← es]
          have e2 : by8 [UInt8.ofNat (x.toNat / s)] = [.int .u8 ((x.toNat : Int) / s % 256)] := by
            simp [by8, byc]
          rw [e2]; exact hown2
      case measure => simp [intOf]; omega
    · have hk8 : k = 8 := by omega
      subst hk8
      go_wp2
      go_ret
      refine ⟨_, rfl, hh.out.2.2, ?_⟩
      have := hh.out.2.1
      rwa [List.take_of_length_le (by rw [be_length]; exact Nat.le_refl _)] at this
end Go.Proofs.Ytlgcfnbhnpnkiaa
