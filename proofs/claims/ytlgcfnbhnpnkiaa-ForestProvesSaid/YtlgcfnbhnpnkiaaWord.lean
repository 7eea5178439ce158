/- The functions of the packages word and chatelaineref01: what they answer. -/
import Derived.Test.YtlgcfnbhnpnkiaaK
import Derived.Test.YtlgcfnbhnpnkiaaSpec
set_option linter.unusedVariables false
set_option linter.unusedSimpArgs false
namespace Go.Proofs.Ytlgcfnbhnpnkiaa
open Go.RowKit

/-! ### Same: are two lists of bytes one? -/
theorem take_succ_eq {α : Type} {a b : List α} {k : Nat} (h : a.take k = b.take k) (ha : k < a.length) (hb : k < b.length) (e : a[k] = b[k]) : a.take (k + 1) = b.take (k + 1) := by
  rw [List.take_succ_eq_append_getElem ha, List.take_succ_eq_append_getElem hb, h, e]
theorem bt8_inj {a b : List UInt8} {k : Nat} (ha : k < a.length) (hb : k < b.length) (h : bt8 a k = bt8 b k) : a[k] = b[k] := by
  rw [bt8_get a k ha, bt8_get b k hb] at h; exact UInt8.toNat_inj.1 (by omega)
theorem same_ok (A B : Option Addr) (la lb : List UInt8) (ca cb : Nat) (w : World) (ha : Rd w A (by8 la)) (hb : Rd w B (by8 lb)) (hm : la.length ≤ 9223372036854775807) :
    Calls Try.prog 44 #[.slice A la.length ca, .slice B lb.length cb] w fun e w' => e = .returned (.bool (decide (la = lb))) ∧ ∃ n, w' = w.drewN n := by
  by_cases hl : la.length = lb.length
  · have hl1 : ((la.length : Int) != (lb.length : Int)) = false := by simp [hl]
    have HA := hid ha
    have HB := hid hb
    have HL := hid hl
    clear ha hb hl
    go_enter Try.func44, Try.ntmps44
    go_wp2
    go_loopw [5] (fun i wr => ∃ k : Nat, k ≤ la.length ∧ i = .int .i64 k ∧ Hid (la.take k = lb.take k ∧ ∃ n, wr = w.drewN n)) (fun i _ => la.length - (intOf i).toNat)
    case atStart => exact ⟨0, Nat.zero_le _, rfl, hid ⟨by simp, 0, rfl⟩⟩
    case round =>
      obtain ⟨k, hk, rfl, hh⟩ := hrel
      obtain ⟨ht, n, rfl⟩ := hh.out
      have HT := hid ht
      clear hh ht
      by_cases hlt : k < la.length
      · obtain ⟨ad, rfl, h1⟩ := HA.out.byte k hlt
        obtain ⟨bd, rfl, h2⟩ := HB.out.byte k (by have := HL.out; omega)
        have hlb : k < lb.length := by have := HL.out; omega
        by_cases he : bt8 la k = bt8 lb k
        · have hd : (bt8 la k != bt8 lb k) = false := by simp [he]
          have HE := hid he
          clear he
          go_wp2
          go_quiet (fail)
          go_wp2
          go_roundw
          case rel => exact ⟨k + 1, by omega, by go_num, hid ⟨take_succ_eq HT.out hlt hlb (bt8_inj hlt hlb HE.out), _, rfl⟩⟩
          case measure => simp [intOf]; omega
        · have hd : (bt8 la k != bt8 lb k) = true := by simp [he]
          have HE := hid he
          clear he
          go_wp2
          go_quiet (fail)
          go_wp2
          go_ret
          exact ⟨ret_bool (by symm; rw [decide_eq_false_iff_not]; intro e; subst e; exact HE.out rfl), n + nq, by simp⟩
      · go_wp2
        go_ret
        have hka : k = la.length := by omega
        have h3 := HT.out
        rw [hka, List.take_of_length_le (Nat.le_refl _), HL.out, List.take_of_length_le (Nat.le_refl _)] at h3
        exact ⟨ret_bool (by simp [h3]), _, rfl⟩
  · have hl1 : ((la.length : Int) != (lb.length : Int)) = true := by simp; omega
    have HL := hid hl
    clear hl
    go_enter Try.func44, Try.ntmps44
    go_wp2
    go_ret
    exact ⟨ret_bool (by symm; rw [decide_eq_false_iff_not]; intro e; exact HL.out (by rw [e])), 0, rfl⟩

theorem same_b (A B : Option Addr) (la lb : List UInt8) (ca cb : Nat) (w : World) (ha : Rd w A (by8 la)) (hb : Rd w B (by8 lb)) (hm : la.length ≤ 9223372036854775807) :
    Calls Try.prog 44 #[.slice A la.length ca, .slice B lb.length cb] w fun e w' => e = .returned (.bool (decide (la = lb))) ∧ Below w.heap.size w w' :=
  (same_ok A B la lb ca cb w ha hb hm).mono fun e w' h => by
    obtain ⟨rfl, n, rfl⟩ := h
    exact ⟨rfl, below_drewN (Below.refl _ _) n⟩
theorem info_u8 : (Try.prog.info? 5).map (fun i => (i.zero, i.size, i.bytes)) = some (some (.int .u8 0), 1, 1) := by kernel_rfl
theorem info_int : (Try.prog.info? 3).map (fun i => (i.zero, i.size, i.bytes)) = some (some (.int .i64 0), 1, 8) := by kernel_rfl

/-! ### Put -/
theorem byte_of (m : Nat) : (UInt8.ofNat m).toNat = m % 256 := by simp
theorem set_be (j k m : Nat) (hj : 0 < j) : (List.replicate j (Value.int .u8 0) ++ by8 (be k m)).set (j - 1) (.int .u8 (((m / 256 ^ k) % 256 : Nat) : Int)) = List.replicate (j - 1) (Value.int .u8 0) ++ by8 (be (k + 1) m) := by
  obtain ⟨i, rfl⟩ : ∃ i, j = i + 1 := ⟨j - 1, by omega⟩
  rw [List.set_append_left _ _ (by simp)]
  simp only [Nat.add_sub_cancel, List.replicate_succ', be]
  rw [List.set_append_right _ _ (by simp)]
  simp [by8, byc, byte_of]
theorem shift_byte (n : Int) (k : Nat) (h : 0 ≤ n) : n / 2 ^ (8 * (k : Int)).toNat = ((n.toNat / 256 ^ k : Nat) : Int) := by
  have : (8 * (k : Int)).toNat = 8 * k := by omega
  rw [this, Int.pow_mul, Int.natCast_ediv, Int.toNat_of_nonneg h]; norm_cast
set_option maxRecDepth 100000 in
theorem put_good (n s : Int) (w : World) (h : mayPut n s = true) :
    Calls Try.prog 84 #[.int .i64 n, .int .i64 s] w fun e w' => ∃ v, e = .returned (.tuple #[v, .int .i64 0]) ∧ New w w' 5 v s.toNat (by8 (be s.toNat n.toNat)) := by
  obtain ⟨h1, h2, h3, h4, h5⟩ := (mayPut_iff n s).1 h
  have g1 : decide (s < 1) = false := by simp; omega
  have g2 : decide (8 < s) = false := by simp; omega
  have g3 : decide (n < 0) = false := by simp; omega
  have g4 : decide (4611686018427387904 < n) = false := by simp; omega
  have g6 : s < 8 → (n / 2 ^ (8 * s).toNat != 0) = false := by
    intro hq
    have hm := mayPut_lt h
    have e := shift_byte n s.toNat h3
    rw [Int.toNat_of_nonneg (by omega)] at e
    rw [e, Nat.div_eq_of_lt hm]; rfl
  have G := hid h
  clear h5 h
  by_cases h5 : s < 8
  all_goals
    first
      | (have g5 : decide (s < 8) = true := by simp; omega)
      | (have g5 : decide (s < 8) = false := by simp; omega)
    try (have g6' := g6 (by omega))
    clear g6
    go_enter Try.func84, Try.ntmps84
    obtain ⟨q, hq1, hq2⟩ : ∃ q : Nat, s ≤ q ∧ (q : Int) ≤ s := ⟨s.toNat, by omega, by omega⟩
    go_wp2_with (at_make; refine make1 (w0 := w) rfl _ _ 52 5 (.int .u8 0) 1 rfl Try.underlying52 info_u8 rfl _ _ _ q rfl rfl (by omega) w.heap.size (Below.refl _ _) (Nat.le_refl _) (by omega) (by unfold maxLen; omega) ?_)
    intro w1 hown hb _ hz
    go_wp2
    go_loopw [38] (fun i wr => ∃ k : Nat, k ≤ q ∧ i = .int .i64 k ∧ Hid (wr.ownsRow w.heap.size 5 1 (.slice (some ⟨w.heap.size, 0, none⟩) q q) q (List.replicate (q - k) (Value.int .u8 0) ++ by8 (be k n.toNat)) ∧ Below w.heap.size w wr)) (fun i _ => q - (intOf i).toNat)
    case atStart => exact ⟨0, Nat.zero_le _, rfl, hid ⟨by simpa [be, by8] using hown, hb⟩⟩
    case round =>
      obtain ⟨k, hk, rfl, hh⟩ := hrel
      by_cases hlt : k < q
      · obtain ⟨hc, hf⟩ := own_cell hh.out.1 (s.toNat - 1 - k) (by omega)
        go_wp2
        go_roundw
        case rel =>
          obtain ⟨h1', h2'⟩ := own_set hh.out.1 hh.out.2 (s.toNat - 1 - k) (.int .u8 (n / 2 ^ (8 * k) % 256))
          refine ⟨k + 1, by omega, by go_num, hid ⟨?_, h2'⟩⟩
          have e1 := set_be (q - k) k n.toNat (by omega)
          have e2 : s.toNat - 1 - k = q - k - 1 := by omega
          have e3 : n / 2 ^ (8 * k) % 256 = (((n.toNat / 256 ^ k) % 256 : Nat) : Int) := by
            have := shift_byte n k h3
            have e : (8 * (k : Int)).toNat = 8 * k := by omega
            rw [e] at this
            rw [this]; norm_cast
          rw [e3] at h1' ⊢
          rw [← e2] at e1
          rw [e1] at h1'
          have e4 : s.toNat - 1 - k = q - (k + 1) := by omega
          rw [← e4]
          exact h1'
        case measure => simp [intOf]; omega
      · go_wp2
        go_ret2
        have hkq : k = q := by omega
        have hqs : q = s.toNat := by omega
        subst hkq
        have h1' := hh.out.1
        refine ⟨_, rfl, hh.out.2, ?_⟩
        rw [← hqs]
        simpa using h1'

theorem int_zero_ne (l : List UInt8) (h : 0 < l.length) : ((l.length : Int) == 0) = false := by
  simp; intro e; subst e; simp at h
set_option maxRecDepth 100000 in
theorem put_bad (n s : Int) (w : World) (h : mayPut n s = false) (hn : -9223372036854775808 ≤ n ∧ n ≤ 9223372036854775807) :
    Calls Try.prog 84 #[.int .i64 n, .int .i64 s] w fun e w' => e = .returned (.tuple #[.slice none 0 0, .int .i64 2]) ∧ w' = w := by
  have H : ¬ (1 ≤ s ∧ s ≤ 8 ∧ 0 ≤ n ∧ n ≤ 4611686018427387904 ∧ (s = 8 ∨ n < 256 ^ s.toNat)) := by
    rw [← mayPut_iff, h]; simp
  by_cases h1 : s < 1
  · have g1 : decide (s < 1) = true := by simp [h1]
    clear H h
    go_enter Try.func84, Try.ntmps84
    go_wp2
    go_ret2
    exact ⟨rfl, rfl⟩
  have g1 : decide (s < 1) = false := by simp; omega
  by_cases h2 : 8 < s
  · have g2 : decide (8 < s) = true := by simp [h2]
    clear H h
    go_enter Try.func84, Try.ntmps84
    go_wp2
    go_ret2
    exact ⟨rfl, rfl⟩
  have g2 : decide (8 < s) = false := by simp; omega
  by_cases h3 : n < 0
  · have g3 : decide (n < 0) = true := by simp [h3]
    clear H h
    go_enter Try.func84, Try.ntmps84
    go_wp2
    go_ret2
    exact ⟨rfl, rfl⟩
  have g3 : decide (n < 0) = false := by simp; omega
  by_cases h4 : 4611686018427387904 < n
  · have g4 : decide (4611686018427387904 < n) = true := by simp [h4]
    clear H h
    go_enter Try.func84, Try.ntmps84
    go_wp2
    go_ret2
    exact ⟨rfl, rfl⟩
  have g4 : decide (4611686018427387904 < n) = false := by simp; omega
  have h5 : s < 8 := by
    by_cases e : s = 8
    · exact (H ⟨by omega, by omega, by omega, by omega, .inl e⟩).elim
    · omega
  have h6 : ¬ n < 256 ^ s.toNat := fun e => H ⟨by omega, by omega, by omega, by omega, .inr e⟩
  have g5 : decide (s < 8) = true := by simp [h5]
  have g6 : (n / 2 ^ (8 * s).toNat != 0) = true := by
    have e := shift_byte n s.toNat (by omega)
    rw [Int.toNat_of_nonneg (by omega)] at e
    rw [e]
    have : 256 ^ s.toNat ≤ n.toNat := by
      have e2 : ((256 ^ s.toNat : Nat) : Int) = (256 : Int) ^ s.toNat := by norm_cast
      omega
    have := Nat.div_pos this (Nat.pow_pos (by decide))
    rw [bne_iff_ne]; intro e'; omega
  clear H h h6
  go_enter Try.func84, Try.ntmps84
  go_wp2
  go_ret2
  exact ⟨rfl, rfl⟩
/-- word.Put -/
theorem put_ok (n s : Int) (w : World) (hn : -9223372036854775808 ≤ n ∧ n ≤ 9223372036854775807) :
    Calls Try.prog 84 #[.int .i64 n, .int .i64 s] w fun e w' => ∃ v, e = .returned (.tuple #[v, .int .i64 (putE n s)]) ∧ New w w' 5 v (putL n s).length (by8 (putL n s)) := by
  cases h : mayPut n s
  · refine (put_bad n s w h hn).mono ?_
    rintro e w' ⟨rfl, rfl⟩
    rw [putE_bad h, putL_bad h]
    exact ⟨_, rfl, Below.refl _ _, World.ownsRow_nil _ _ _ _⟩
  · refine (put_good n s w h).mono ?_
    rintro e w' ⟨v, rfl, h'⟩
    rw [putE_good h, putL_good h, be_length]
    exact ⟨v, rfl, h'⟩

/-! ### the document's Put -/
def lowV (k m : Nat) : List Value := (List.range k).map fun i => .int .i64 ((m / 256 ^ i % 256 : Nat) : Int)
theorem lowV_succ (k m : Nat) : lowV (k + 1) m = lowV k m ++ [.int .i64 ((m / 256 ^ k % 256 : Nat) : Int)] := by
  simp [lowV, List.range_succ]
theorem lowV_get (k m i : Nat) (h : i < k) : (lowV k m)[i]? = some (.int .i64 ((m / 256 ^ i % 256 : Nat) : Int)) := by
  simp [lowV, h]
theorem be_get (q m k : Nat) (h : k < q) : (be q m)[k]? = some (UInt8.ofNat (m / 256 ^ (q - 1 - k))) := by
  induction q generalizing k with
  | zero => omega
  | succ q ih =>
    cases k with
    | zero => simp [be]
    | succ k =>
      simp only [be, List.getElem?_cons_succ]
      rw [ih k (by omega)]
      congr 4
      omega

set_option maxRecDepth 100000 in
theorem rput_pre (m : Nat) (q : Nat) (w : World) (h1 : 1 ≤ q) (h2 : q ≤ 8) (h4 : m ≤ 4611686018427387904) :
    Calls Try.prog 107 #[.int .i64 m, .int .i64 q] w fun e w' => ∃ v, Below w.heap.size w w' ∧
      ((m < 256 ^ q ∧ e = .returned (.tuple #[v, .int .i64 0]) ∧ w'.ownsRow w.heap.size 5 1 v q (by8 (be q m))) ∨ (256 ^ q ≤ m ∧ e = .returned (.tuple #[.slice none 0 0, .int .i64 2]))) := by
  have g1 : decide ((q : Int) < 1) = false := by simp; omega
  have g2 : decide (8 < (q : Int)) = false := by simp; omega
  have g3 : decide ((m : Int) < 0) = false := by simp
  have g4 : decide (4611686018427387904 < (m : Int)) = false := by simp; omega
  go_enter Try.func107, Try.ntmps107
  go_wp2
  go_loopw [0, 6, 7] (fun n' low i wr => ∃ k x : Nat, k ≤ q ∧ i = .int .i64 k ∧ n' = .int .i64 x ∧ x ≤ 4611686018427387904 ∧ Hid (x = m / 256 ^ k ∧ wr.ownsRow w.heap.size 3 1 low k (lowV k m) ∧ Below w.heap.size w wr)) (fun _ _ i _ => q - (intOf i).toNat)
  case atStart => exact ⟨0, m, Nat.zero_le _, rfl, rfl, h4, hid ⟨by simp, World.ownsRow_nil _ _ _ _, Below.refl _ _⟩⟩
  case round =>
    obtain ⟨k, x, hk, rfl, rfl, hx, hh⟩ := hrel
    have hbz := hh.out.2.2.size
    by_cases hlt : k < q
    · go_wp2_with (at_builtin; go_must (refine append1 (w0 := w) rfl (.tmp 29) (.tmp 32) 165 3 (.int .i64 0) 8 rfl Try.underlying165 info_int rfl _ k _ rfl _ rfl rfl w.heap.size hh.out.2.1 hh.out.2.2 hbz (by omega) (by unfold maxLen; omega) ?_; intro v' w2 hown2 hb2 _ _))
      go_roundw
      case rel =>
        refine ⟨k + 1, x / 256, by omega, by go_num, by simp, by omega, hid ⟨?_, ?_, hb2⟩⟩
        · rw [hh.out.1, Nat.div_div_eq_div_mul, Nat.pow_succ]
        · rw [lowV_succ]
          have e : ((x : Int) % 256) = ((m / 256 ^ k % 256 : Nat) : Int) := by rw [hh.out.1]; norm_cast
          rw [← e]; exact hown2
      case measure => simp [intOf]; omega
    · have hkq : k = q := by omega
      subst hkq
      by_cases hx0 : 0 < x
      · go_wp2
        go_ret2
        refine ⟨.slice none 0 0, hh.out.2.2, .inr ⟨?_, rfl⟩⟩
        rw [hh.out.1] at hx0
        rcases Nat.lt_or_ge m (256 ^ k) with h | h
        · rw [Nat.div_eq_of_lt h] at hx0; omega
        · exact h
      · have hm : m < 256 ^ k := by
          rcases Nat.lt_or_ge m (256 ^ k) with h | h
          · exact h
          · have := Nat.div_pos h (Nat.pow_pos (by decide))
            rw [← hh.out.1] at this; omega
        have HM := hid hm
        clear hm
        obtain ⟨w1, rfl⟩ : ∃ w1 : World, w1 = wr := ⟨_, rfl⟩
        go_wp2
        obtain ⟨AL, cL, hlow, hcl, _, hrd⟩ := rd_of_own hh.out.2.1
        subst hlow
        have HRD := hid hrd
        clear hrd
        go_loopw [8, 9] (fun out i wr' => ∃ j : Nat, j ≤ k ∧ i = .int .i64 ((k : Int) - 1 - j) ∧ Hid (wr'.ownsRow w1.heap.size 5 1 out j (by8 ((be k m).take j)) ∧ Below w1.heap.size w1 wr')) (fun _ i _ => (intOf i + 1).toNat)
        case atStart => exact ⟨0, Nat.zero_le _, by go_num, hid ⟨World.ownsRow_nil _ _ _ _, Below.refl _ _⟩⟩
        case round =>
          obtain ⟨j, hj, rfl, hh2⟩ := hrel
          have hbz2 := hh2.out.2.size
          by_cases hlt2 : j < k
          · obtain ⟨ad, rfl, hc⟩ := (HRD.out.below hh2.out.2) (k - 1 - j) _ (lowV_get k m _ (by omega))
            go_wp2_with (at_builtin; go_must (refine append1 (w0 := w1) rfl (.tmp 44) (.tmp 50) 52 5 (.int .u8 0) 1 rfl Try.underlying52 info_u8 rfl _ j _ rfl _ rfl rfl w1.heap.size hh2.out.1 hh2.out.2 hbz2 (by omega) (by unfold maxLen; omega) ?_; intro v' w2 hown2 hb2 _ _))
            go_roundw
            case rel =>
              refine ⟨j + 1, by omega, by go_num, hid ⟨?_, hb2⟩⟩
              have e : (be k m).take (j + 1) = (be k m).take j ++ [UInt8.ofNat (m / 256 ^ (k - 1 - j))] := by
                have hl : j < (be k m).length := by rw [be_length]; omega
                rw [List.take_succ_eq_append_getElem hl]
                have := be_get k m j (by omega)
                rw [List.getElem?_eq_getElem hl] at this
                rw [Option.some.inj this]
              rw [e, by8_append]
              have e2 : by8 [UInt8.ofNat (m / 256 ^ (k - 1 - j))] = [.int .u8 ((m : Int) / 256 ^ (k - 1 - j) % 256)] := by
                simp [by8, byc, byte_of]
              rw [e2]; exact hown2
            case measure => simp [intOf]; omega
          · go_wp2
            go_ret2
            have hjk : j = k := by omega
            subst hjk
            refine ⟨_, below_step hh.out.2.2 hh2.out.2, .inl ⟨HM.out, rfl, ?_⟩⟩
            have := own_lower hh2.out.1 hbz
            rwa [List.take_of_length_le (by rw [be_length]; exact Nat.le_refl _)] at this

set_option maxRecDepth 100000 in
theorem rput_bad (n s : Int) (w : World) (h : ¬ (1 ≤ s ∧ s ≤ 8 ∧ 0 ≤ n ∧ n ≤ 4611686018427387904)) :
    Calls Try.prog 107 #[.int .i64 n, .int .i64 s] w fun e w' => e = .returned (.tuple #[.slice none 0 0, .int .i64 2]) ∧ w' = w := by
  by_cases h1 : s < 1
  · have g1 : decide (s < 1) = true := by simp [h1]
    clear h
    go_enter Try.func107, Try.ntmps107
    go_wp2
    go_ret2
    exact ⟨rfl, rfl⟩
  have g1 : decide (s < 1) = false := by simp; omega
  by_cases h2 : 8 < s
  · have g2 : decide (8 < s) = true := by simp [h2]
    clear h
    go_enter Try.func107, Try.ntmps107
    go_wp2
    go_ret2
    exact ⟨rfl, rfl⟩
  have g2 : decide (8 < s) = false := by simp; omega
  by_cases h3 : n < 0
  · have g3 : decide (n < 0) = true := by simp [h3]
    clear h
    go_enter Try.func107, Try.ntmps107
    go_wp2
    go_ret2
    exact ⟨rfl, rfl⟩
  have g3 : decide (n < 0) = false := by simp; omega
  have g4 : decide (4611686018427387904 < n) = true := decide_eq_true (by omega)
  clear h
  go_enter Try.func107, Try.ntmps107
  go_wp2
  go_ret2
  exact ⟨rfl, rfl⟩
set_option maxRecDepth 100000 in
/-- the document's Put -/
theorem rput_ok (n s : Int) (w : World) :
    Calls Try.prog 107 #[.int .i64 n, .int .i64 s] w fun e w' => ∃ v, e = .returned (.tuple #[v, .int .i64 (putE n s)]) ∧ New w w' 5 v (putL n s).length (by8 (putL n s)) := by
  by_cases h : 1 ≤ s ∧ s ≤ 8 ∧ 0 ≤ n ∧ n ≤ 4611686018427387904
  · obtain ⟨h1, h2, h3, h4⟩ := h
    obtain ⟨m, rfl⟩ := Int.eq_ofNat_of_zero_le h3
    obtain ⟨q, rfl⟩ := Int.eq_ofNat_of_zero_le (a := s) (by omega)
    refine (rput_pre m q w (by omega) (by omega) (by omega)).mono ?_
    rintro e w' ⟨v, hb, ⟨hm, rfl, ho⟩ | ⟨hm, rfl⟩⟩
    · have hp : mayPut m q = true := by
        rw [mayPut_iff]; refine ⟨h1, h2, h3, h4, .inr ?_⟩
        simp only [Int.toNat_natCast]; exact_mod_cast hm
      rw [putE_good hp, putL_good hp, be_length]
      exact ⟨v, rfl, hb, ho⟩
    · have hp : mayPut m q = false := by
        rw [Bool.eq_false_iff]; intro hp
        have := mayPut_lt hp
        simp only [Int.toNat_natCast] at this; omega
      rw [putE_bad hp, putL_bad hp]
      exact ⟨_, rfl, hb, World.ownsRow_nil _ _ _ _⟩
  · have hp : mayPut n s = false := by
      rw [Bool.eq_false_iff]; intro hp
      obtain ⟨h1, h2, h3, h4, _⟩ := (mayPut_iff n s).1 hp
      exact h ⟨h1, h2, h3, h4⟩
    refine (rput_bad n s w h).mono ?_
    rintro e w' ⟨rfl, rfl⟩
    rw [putE_bad hp, putL_bad hp]
    exact ⟨_, rfl, Below.refl _ _, World.ownsRow_nil _ _ _ _⟩

/-! ### Get -/
theorem or_shift8 (X : Nat) (b : Int) (h0 : 0 ≤ b) (h1 : b ≤ 255) (hX : X ≤ 72057594037927935) : bits .or .u64 ((X : Int) * 256) b = (X : Int) * 256 + b :=
  bits_join .u64 64 (by decide) (by intro n h0 h1; rw [IntKind.wrap_u64]; have : (2 : Int) ^ 64 = 18446744073709551616 := by decide
                                    omega) 8 _ _ (by omega) (by omega) (by omega) h0 (by omega) (by omega)
theorem get_bound (l : List UInt8) (k : Nat) (hk : k < l.length) (hl : l.length ≤ 8) : num (l.take k) ≤ 72057594037927935 := by
  have h1 := num_lt (l.take k)
  have h2 : (l.take k).length ≤ 7 := by simp; omega
  have h3 : 256 ^ (l.take k).length ≤ 256 ^ 7 := Nat.pow_le_pow_right (by decide) h2
  have : (256 : Nat) ^ 7 = 72057594037927936 := by decide
  omega
set_option maxRecDepth 100000 in
theorem num_step (l : List UInt8) (k : Nat) (h : k < l.length) : (num (l.take (k + 1)) : Int) = 256 * (num (l.take k) : Int) + bt8 l k := by
  rw [num_take_succ l k h, bt8_get l k h]; norm_cast
/-- word.Get -/
theorem get_ok (A : Option Addr) (l : List UInt8) (c : Nat) (w : World) (ha : Rd w A (by8 l)) (hm : l.length ≤ 9223372036854775807) :
    Calls Try.prog 90 #[.slice A l.length c] w fun e w' => e = .returned (.tuple #[.int .i64 (getN l), .int .i64 (getE l)]) ∧ w' = w := by
  have HA := hid ha
  clear ha
  by_cases h1 : l.length = 0
  · have e := getE_end h1
    rw [getN_zero (by omega), e]
    have g1 : ((l.length : Int) == 0) = true := beq_iff_eq.mpr (by omega)
    clear h1 e
    go_enter Try.func90, Try.ntmps90
    go_wp2
    go_ret2
    exact ⟨rfl, rfl⟩
  have g1 := int_zero_ne l (by omega)
  by_cases h2 : 8 < l.length
  · have e := getE_extra h2
    rw [getN_zero (by omega), e]
    have g2 : decide (8 < (l.length : Int)) = true := decide_eq_true (by omega)
    clear h1 e
    go_enter Try.func90, Try.ntmps90
    go_wp2
    go_ret2
    exact ⟨rfl, rfl⟩
  have g2 : decide (8 < (l.length : Int)) = false := decide_eq_false (by omega)
  go_enter Try.func90, Try.ntmps90
  go_wp2
  go_loop [4, 17] (fun x i => ∃ k X : Nat, k ≤ l.length ∧ i = .int .i64 k ∧ x = .int .u64 X ∧ (k < l.length → X ≤ 72057594037927935) ∧ X ≤ 18446744073709551615 ∧ Hid (X = num (l.take k))) (fun _ i => l.length - (intOf i).toNat)
  case atStart => exact ⟨0, 0, Nat.zero_le _, rfl, rfl, by omega, by omega, hid (by simp [num])⟩
  case round =>
    obtain ⟨k, X, hk, rfl, rfl, hX, hX2, hh⟩ := hrel
    by_cases hlt : k < l.length
    · obtain ⟨ad, rfl, hc⟩ := HA.out.byte k hlt
      have hr := bt8_range l k
      have hX' := hX hlt
      have ho := or_shift8 X (bt8 l k) hr.1 hr.2 hX'
      go_wp2
      go_round
      case rel =>
        have e := num_step l k hlt
        have hh' := hh.out
        refine ⟨k + 1, num (l.take (k + 1)), by omega, by go_num, ?_, fun h => get_bound l (k + 1) h (by omega), num_take_le l _ (by omega), hid rfl⟩
        rw [e, ← hh', Int.mul_comm]
      case measure => simp [intOf]; omega
    · have hkl : k = l.length := by omega
      have hh' := hh.out
      rw [hkl, List.take_of_length_le (Nat.le_refl _)] at hh'
      have HH := hid hh'
      clear hh'
      by_cases ht : 4611686018427387904 < X
      · go_wp2
        go_ret2
        have e := getE_form (l := l) (by omega) (by omega) (by rw [← HH.out]; exact ht)
        rw [getN_zero (by omega), e]
        exact ⟨rfl, rfl⟩
      · go_wp2
        go_ret2
        have e := getE_ok (by omega) (by omega) (l := l) (by rw [← HH.out]; omega)
        rw [getN_ok e, e, ← HH.out]
        exact ⟨rfl, rfl⟩
/-- bits of 32, turned k places to the right -/
def rotN (x k : Nat) : Nat := x / 2 ^ k + x % 2 ^ k * 2 ^ (32 - k)
def rotr (x : UInt32) (k : Nat) : UInt32 := UInt32.ofNat (rotN x.toNat k)
theorem rotN_lt {x k : Nat} (hx : x < 4294967296) (hk : k ≤ 32) : rotN x k < 4294967296 := by
  unfold rotN
  obtain ⟨j, hj⟩ : ∃ j, j + k = 32 := ⟨32 - k, by omega⟩
  have e : 32 - k = j := by omega
  have e2 : 2 ^ j * 2 ^ k = 4294967296 := by rw [← Nat.pow_add, hj]
  rw [e]
  have h1 : x / 2 ^ k < 2 ^ j := by rw [Nat.div_lt_iff_lt_mul (Nat.pow_pos (by decide)), e2]; exact hx
  have h2 : x % 2 ^ k + 1 ≤ 2 ^ k := Nat.mod_lt _ (Nat.pow_pos (by decide))
  have h3 := Nat.mul_le_mul_right (2 ^ j) h2
  rw [Nat.add_mul, Nat.mul_comm (2 ^ k)] at h3
  omega
theorem rotr_toNat (x : UInt32) (k : Nat) (hk : k ≤ 32) : (rotr x k).toNat = rotN x.toNat k := by
  unfold rotr
  simp only [UInt32.toNat_ofNat']
  exact Nat.mod_eq_of_lt (rotN_lt (by have := x.toNat_lt; omega) hk)
theorem rotr_zero (x : UInt32) : rotr x 0 = x := by
  apply UInt32.toNat_inj.1; rw [rotr_toNat _ _ (by omega)]; simp [rotN, Nat.mod_one]
theorem rotN_succ (x k : Nat) (hk : k < 32) : rotN (rotN x k) 1 = rotN x (k + 1) := by
  unfold rotN
  obtain ⟨j, hj⟩ : ∃ j, k + j = 31 := ⟨31 - k, by omega⟩
  have e1 : 32 - k = j + 1 := by omega
  have e2 : 32 - (k + 1) = j := by omega
  have e3 : 32 - 1 = 31 := rfl
  rw [e1, e2, e3, Nat.pow_succ 2 j, Nat.pow_succ 2 k]
  have hp : 0 < 2 ^ k := Nat.pow_pos (by decide)
  have a1 : x / (2 ^ k * 2) = x / 2 ^ k / 2 := by rw [Nat.div_div_eq_div_mul]
  have a2 : x % (2 ^ k * 2) = x % 2 ^ k + 2 ^ k * (x / 2 ^ k % 2) := Nat.mod_mul
  rw [a1, a2]
  generalize x / 2 ^ k = q
  generalize x % 2 ^ k = r
  have b1 : (q + r * (2 ^ j * 2)) / 2 = q / 2 + r * 2 ^ j := by
    rw [← Nat.mul_assoc]; omega
  have b2 : (q + r * (2 ^ j * 2)) % 2 = q % 2 := by
    rw [← Nat.mul_assoc]; omega
  have b3 : (2 ^ k * (q % 2)) * 2 ^ j = q % 2 * 2 ^ 31 := by
    rw [Nat.mul_comm (2 ^ k), Nat.mul_assoc, ← Nat.pow_add, hj]
  rw [Nat.pow_one, b1, b2, Nat.add_mul, b3]; omega
theorem rotr_succ (x : UInt32) (k : Nat) (hk : k < 32) : rotr (rotr x k) 1 = rotr x (k + 1) := by
  apply UInt32.toNat_inj.1
  rw [rotr_toNat _ _ (by omega), rotr_toNat _ _ (by omega), rotr_toNat _ _ (by omega), rotN_succ _ _ hk]
theorem rotr_full (x : UInt32) : rotr x 32 = x := by
  apply UInt32.toNat_inj.1; rw [rotr_toNat _ _ (by omega)]
  have := x.toNat_lt
  unfold rotN
  have e : (2 : Nat) ^ 32 = 4294967296 := by decide
  rw [e, Nat.div_eq_of_lt (by omega), Nat.mod_eq_of_lt (by omega)]; simp
theorem rotr_add (x : UInt32) (k j : Nat) (h : k + j ≤ 32) : rotr (rotr x k) j = rotr x (k + j) := by
  induction j with
  | zero => rw [rotr_zero]; rfl
  | succ j ih => rw [← rotr_succ _ j (by omega), ih (by omega), rotr_succ _ _ (by omega)]; rfl
set_option maxRecDepth 100000 in
theorem or_rot (x k : Nat) (hx : x < 4294967296) (hk : k < 32) : bits .or .u32 ((x : Int) / 2 ^ k) ((x : Int) * 2 ^ (32 - k) % 4294967296) = (rotN x k : Int) := by
  obtain ⟨j, hj⟩ : ∃ j, j + k = 32 := ⟨32 - k, by omega⟩
  have e : 32 - k = j := by omega
  have e2 : 2 ^ j * 2 ^ k = 4294967296 := by rw [← Nat.pow_add, hj]
  have hq : x / 2 ^ k < 2 ^ j := by rw [Nat.div_lt_iff_lt_mul (Nat.pow_pos (by decide)), e2]; exact hx
  have hm : x * 2 ^ j % 4294967296 = x % 2 ^ k * 2 ^ j := by
    rw [← e2, Nat.mul_comm (2 ^ j) (2 ^ k), Nat.mul_mod_mul_right]
  have c1 : (x : Int) / 2 ^ k = ((x / 2 ^ k : Nat) : Int) := by norm_cast
  have c2 : (x : Int) * 2 ^ j % 4294967296 = ((x * 2 ^ j % 4294967296 : Nat) : Int) := by rw [Int.natCast_emod, Int.natCast_mul, Int.natCast_pow]; rfl
  have hlt := rotN_lt hx (Nat.le_of_lt hk)
  unfold rotN at hlt ⊢
  rw [e] at hlt ⊢
  rw [c1, c2, u32_or_nat _ _ (by omega) (Nat.mod_lt _ (by decide)), hm, Nat.or_comm, Nat.mul_comm (x % 2 ^ k), ← Nat.two_pow_add_eq_or_of_lt hq, Nat.add_comm]
theorem and_31 (n : Int) : bits .and .u64 (IntKind.u64.wrap n) 31 = n % 32 := by
  have h := bits_mask .u64 64 (by decide) (by intro n h0 h1; rw [IntKind.wrap_u64]; have : (2 : Int) ^ 64 = 18446744073709551616 := by decide
                                              omega) 5 (by decide) (IntKind.u64.wrap n) (by rw [IntKind.wrap_u64]; omega) (by rw [IntKind.wrap_u64]; omega)
  simp at h
  rw [h, IntKind.wrap_u64]; omega
/-- word.Rotate -/
theorem rotate_ok (x : UInt32) (n : Int) (w : World) (hn : -9223372036854775808 ≤ n ∧ n ≤ 9223372036854775807) :
    Calls Try.prog 118 #[.int .u32 (x.toNat : Int), .int .i64 n] w fun e w' => e = .returned (.int .u32 ((rotr x (n % 32).toNat).toNat : Int)) ∧ w' = w := by
  have hb := and_31 n
  have h1 : 0 ≤ n % 32 := by omega
  have h2 : n % 32 ≤ 31 := by omega
  go_enter Try.func118, Try.ntmps118
  go_wp2
  go_ret
  refine ⟨ret_int ?_, rfl⟩
  rw [rotr_toNat _ _ (by omega), ← or_rot _ _ (by have := x.toNat_lt; omega) (by omega)]
  have : (32 - n % 32).toNat = 32 - (n % 32).toNat := by omega
  rw [this]
/-- the document's Right -/
theorem right_ok (x : UInt32) (w : World) :
    Calls Try.prog 116 #[.int .u32 (x.toNat : Int)] w fun e w' => e = .returned (.int .u32 ((rotr x 1).toNat : Int)) ∧ w' = w := by
  have hx := x.toNat_lt
  have e := rotr_toNat x 1 (by omega)
  simp only [rotN, Nat.pow_one, Nat.reduceSub, Nat.reducePow] at e
  have E := hid e
  clear e
  by_cases h : x.toNat % 2 = 1
  · have g : (((x.toNat : Int) % 2) == 1) = true := beq_iff_eq.mpr (by omega)
    have H := hid h
    clear h
    go_enter Try.func116, Try.ntmps116
    go_wp2
    go_ret
    exact ⟨ret_int (by rw [E.out, H.out]; omega), rfl⟩
  · have g : (((x.toNat : Int) % 2) == 1) = false := beq_eq_false_iff_ne.mpr (by omega)
    have H := hid h
    clear h
    go_enter Try.func116, Try.ntmps116
    go_wp2
    go_ret
    exact ⟨ret_int (by have := H.out; rw [E.out]; omega), rfl⟩
/-! ### Cut -/
set_option maxRecDepth 100000 in
theorem cut_ok (A : Option Addr) (n c : Nat) (k : Int) (w : World) (h0 : 0 ≤ k) (hk : k ≤ n) (hc : n ≤ c) (hm : c ≤ 9223372036854775807) :
    Calls Try.prog 106 #[.slice A n c, .int .i64 k] w fun e w' => e = .returned (.tuple #[.slice A k.toNat k.toNat, .slice (if c = k.toNat then A else A.map (·.add k.toNat)) (n - k.toNat) (c - k.toNat), .bool true]) ∧ ∃ j, w' = w.drewN j := by
  by_cases e : c = k.toNat
  all_goals
    go_enter Try.func106, Try.ntmps106
    go_wp2
    go_quiet (fail)
    go_wp2
    go_ret3
    exact ⟨by simp [e], _, rfl⟩
theorem cut_no (A : Option Addr) (n c : Nat) (k : Int) (w : World) (h : k < 0 ∨ (n : Int) < k) :
    Calls Try.prog 106 #[.slice A n c, .int .i64 k] w fun e w' => e = .returned (.tuple #[.slice none 0 0, .slice none 0 0, .bool false]) ∧ w' = w := by
  by_cases h1 : k < 0
  · have g : decide (k < 0) = true := decide_eq_true h1
    clear h
    go_enter Try.func106, Try.ntmps106
    go_wp2
    go_ret3
    exact ⟨rfl, rfl⟩
  · have g : decide (k < 0) = false := decide_eq_false h1
    have g2 : decide ((n : Int) < k) = true := decide_eq_true (by omega)
    clear h
    go_enter Try.func106, Try.ntmps106
    go_wp2
    go_ret3
    exact ⟨rfl, rfl⟩

/-! ### numbers of 32 and 64 bits -/
/-- new memory that can be read -/
def NewRd (w w' : World) (v : Value) (n : Nat) (cs : List Value) : Prop := Below w.heap.size w w' ∧ ∃ A c, v = .slice (some A) n c ∧ n ≤ c ∧ c ≤ maxLen ∧ w.heap.size ≤ A.block ∧ Rd w' (some A) cs
theorem four_cells (x : Nat) : by8 (be 4 x) = [.int .u8 ((x / 16777216 % 256 : Nat) : Int), .int .u8 ((x / 65536 % 256 : Nat) : Int), .int .u8 ((x / 256 % 256 : Nat) : Int), .int .u8 ((x % 256 : Nat) : Int)] := by
  simp [by8, be, byc, byte_of]
theorem rd_alloc (w : World) (cs : List Value) (t : TypeId) : Rd (w.alloc (.cells cs.toArray t)) (some ⟨w.heap.size, 0, none⟩) cs := by
  intro i c hc
  refine ⟨_, rfl, ?_⟩
  have : (⟨w.heap.size, 0, none⟩ : Addr).add i = ⟨w.heap.size, i, none⟩ := by unfold Addr.add; split <;> simp_all
  rw [this, cell_of_row _ _ _ _ _ _ (heap_alloc_new w _)]
  simpa using hc
theorem w32 {n : Int} (h0 : 0 ≤ n) (h1 : n < 4294967296) : IntKind.u32.wrap n = n := by rw [IntKind.wrap_u32]; omega
theorem or32 (i : Nat) (x y : Int) (hx₀ : 0 ≤ x) (hx : x % 2 ^ i = 0) (hx₁ : x < 4294967296) (hy₀ : 0 ≤ y) (hy : y < 2 ^ i) (hy₁ : y < 4294967296) : bits .or .u32 x y = x + y :=
  bits_join .u32 32 (by decide) (by intro n h0 h1; exact w32 h0 h1) i x y hx₀ hx hx₁ hy₀ hy hy₁
set_option maxRecDepth 100000 in
/-- word.Put32 -/
theorem put32_ok (x : UInt32) (w : World) :
    Calls Try.prog 103 #[.int .u32 (x.toNat : Int)] w fun e w' => ∃ A, e = .returned (.slice (some A) 4 4) ∧ Below w.heap.size w w' ∧ w.heap.size ≤ A.block ∧ Rd w' (some A) (by8 (be 4 x.toNat)) := by
  have hx := x.toNat_lt
  have i0 : ∀ w, (Instr.index 163 (.agg #[.int .u64 24, .int .u64 16, .int .u64 8, .int .u64 0]) (.int .i64 0)).run Try.prog w = .ok (.int .u64 24) w := fun _ => by kernel_rfl
  have i1 : ∀ w, (Instr.index 163 (.agg #[.int .u64 24, .int .u64 16, .int .u64 8, .int .u64 0]) (.int .i64 1)).run Try.prog w = .ok (.int .u64 16) w := fun _ => by kernel_rfl
  have i2 : ∀ w, (Instr.index 163 (.agg #[.int .u64 24, .int .u64 16, .int .u64 8, .int .u64 0]) (.int .i64 2)).run Try.prog w = .ok (.int .u64 8) w := fun _ => by kernel_rfl
  have i3 : ∀ w, (Instr.index 163 (.agg #[.int .u64 24, .int .u64 16, .int .u64 8, .int .u64 0]) (.int .i64 3)).run Try.prog w = .ok (.int .u64 0) w := fun _ => by kernel_rfl
  go_enter Try.func103, Try.ntmps103
  go_wp2
  refine wp_loop_rounds 5 ?_
  rw [rounds_succ]
  go_wp2
  rw [rounds_succ]
  go_wp2
  rw [rounds_succ]
  go_wp2
  rw [rounds_succ]
  go_wp2
  rw [rounds_succ]
  go_wp2
  go_ret
  refine ⟨_, rfl, (Below.refl _ _).alloc (Nat.le_refl _) _, Nat.le_refl _, ?_⟩
  rw [four_cells]
  have e0 : ((x.toNat / 16777216 % 256 : Nat) : Int) = (x.toNat : Int) / 16777216 := by omega
  rw [e0]
  exact rd_alloc _ _ _
set_option maxRecDepth 100000 in
/-- word.Get32 -/
theorem get32_ok (A : Option Addr) (l : List UInt8) (c : Nat) (w : World) (ha : Rd w A (by8 l)) (hl : l.length = 4) :
    Calls Try.prog 117 #[.slice A 4 c] w fun e w' => e = .returned (.tuple #[.int .u32 (num l), .bool true]) ∧ ∃ j, w' = w.drewN j := by
  obtain ⟨a, b, c', d, rfl⟩ : ∃ a b c d, l = [a, b, c, d] := by
    match l, hl with
    | [a, b, c, d], _ => exact ⟨a, b, c, d, rfl⟩
  obtain ⟨ad, rfl, h0⟩ := ha.byte 0 (by simp)
  obtain ⟨_, e, h1⟩ := ha.byte 1 (by simp); cases e
  obtain ⟨_, e, h2⟩ := ha.byte 2 (by simp); cases e
  obtain ⟨_, e, h3⟩ := ha.byte 3 (by simp); cases e
  have r0 := bt8_range [a, b, c', d] 0
  have r1 := bt8_range [a, b, c', d] 1
  have r2 := bt8_range [a, b, c', d] 2
  have r3 := bt8_range [a, b, c', d] 3
  have z : ad.add 0 = ad := by simp [Addr.add]
  rw [z] at h0
  clear z
  have E : (num [a, b, c', d] : Int) = bt8 [a, b, c', d] 0 * 16777216 + bt8 [a, b, c', d] 1 * 65536 + bt8 [a, b, c', d] 2 * 256 + bt8 [a, b, c', d] 3 := by
    simp [num, bt8]; omega
  have l1 : ad.add 1 = ⟨ad.block, ad.off + 1, none⟩ := by simp [Addr.add]
  have l2 : ad.add 2 = ⟨ad.block, ad.off + 2, none⟩ := by simp [Addr.add]
  have l3 : ad.add 3 = ⟨ad.block, ad.off + 3, none⟩ := by simp [Addr.add]
  rw [l1] at h1; rw [l2] at h2; rw [l3] at h3
  clear l1 l2 l3
  have E' := hid E
  clear E
  generalize bt8 [a, b, c', d] 0 = b0 at *
  generalize bt8 [a, b, c', d] 1 = b1 at *
  generalize bt8 [a, b, c', d] 2 = b2 at *
  generalize bt8 [a, b, c', d] 3 = b3 at *
  have k1 := w32 (n := b0) (by omega) (by omega)
  have k2 := w32 (n := b0 * 16777216) (by omega) (by omega)
  have k3 := w32 (n := b1) (by omega) (by omega)
  have k4 := w32 (n := b1 * 65536) (by omega) (by omega)
  have k5 := w32 (n := b2) (by omega) (by omega)
  have k6 := w32 (n := b2 * 256) (by omega) (by omega)
  have k7 := w32 (n := b3) (by omega) (by omega)
  have k8 := or32 24 (b0 * 16777216) (b1 * 65536) (by omega) (by omega) (by omega) (by omega) (by omega) (by omega)
  have k9 := or32 16 (b0 * 16777216 + b1 * 65536) (b2 * 256) (by omega) (by omega) (by omega) (by omega) (by omega) (by omega)
  have k10 := or32 8 (b0 * 16777216 + b1 * 65536 + b2 * 256) b3 (by omega) (by omega) (by omega) (by omega) (by omega) (by omega)
  clear ha
  go_enter Try.func117, Try.ntmps117
  go_wp2
  go_quiet (fail)
  go_wp2
  go_ret2
  rw [E'.out]
  exact ⟨rfl, _, rfl⟩
end Go.Proofs.Ytlgcfnbhnpnkiaa
