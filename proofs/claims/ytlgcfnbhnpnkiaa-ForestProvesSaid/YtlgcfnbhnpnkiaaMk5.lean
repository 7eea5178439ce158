/- Trees of sums: a leaf's sum. -/
import Derived.Test.YtlgcfnbhnpnkiaaMk4
set_option linter.unusedVariables false
set_option linter.unusedSimpArgs false
namespace Go.Proofs.Ytlgcfnbhnpnkiaa
open Go.RowKit

set_option maxRecDepth 100000 in
theorem number_ok (w0 : World) (n : Nat) (hn : n ≤ 4611686018427387904) :
    Calls Try.prog 75 #[.int .i64 (n : Int)] w0 fun e w' => ∃ v, e = .returned v ∧ New w0 w' 5 v 8 (by8 (be 8 n)) := by
  refine c_enter Try.func75 rfl 13 rfl (by simp) (fun _ => False) _ rfl (fun a h => ?_)
  refine c_rs ?_ -- region 0
  refine s_assign h rfl _ rfl rfl (by decide) rfl (fun a h => ?_)
  refine l_end ?_
  refine c_rs ?_ -- region 1
  refine s_move h rfl _ rfl rfl (by decide) rfl (fun a h => ?_)
  have hmp : mayPut (n : Int) 8 = true := (mayPut_iff _ _).2 ⟨by omega, by omega, by omega, by omega, .inl rfl⟩
  refine s_call h rfl rfl rfl (by decide) Try.func84 rfl rfl rfl (put_good (n : Int) 8 _ hmp) (fun e w' hp => ?_)
  obtain ⟨v, rfl, hnew⟩ := hp
  refine ⟨_, rfl, fun a hk => ?_⟩
  have h : St 13 w0 (fun _ => False) _ (.row v 5 1 8 (by8 (be 8 n)) :: []) a w' := ⟨hk, h.m.addNew (by rw [Int.toNat_natCast] at hnew; exact hnew)⟩
  refine s_move h rfl _ rfl rfl (by decide) rfl (fun a h => ?_)
  refine s_ext h rfl rfl rfl (by decide) rfl rfl (fun a h => ?_)
  refine s_ext h rfl rfl rfl (by decide) rfl rfl (fun a h => ?_)
  refine s_assign h rfl _ rfl rfl (by decide) rfl (fun a h => ?_)
  refine s_assign h rfl _ rfl rfl (by decide) rfl (fun a h => ?_)
  refine l_end ?_
  refine wp_seq ?_
  refine c_rs ?_ -- region 2
  refine s_move h rfl _ rfl rfl (by decide) rfl (fun a h => ?_)
  refine s_bin h rfl rfl rfl (by decide) rfl rfl (ib_neq) (fun a h => ?_)
  refine l_end ?_
  refine c_cond h rfl (fun hb => ?_) (fun hb => ?_)
  · cases hb
  · refine wp_skip ?_
    refine e_thenN ?_
    refine c_rs ?_ -- region 4
    refine s_move h rfl _ rfl rfl (by decide) rfl (fun a h => ?_)
    refine s_assign h rfl _ rfl rfl (by decide) rfl (fun a h => ?_)
    refine l_end ?_
    refine wp_ret ?_
    exact r_ret1 h rfl (rv_tmp h rfl) ⟨v, rfl, h.m.newRow (i := 0) rfl⟩
/-- a byte made odd -/
def oddB (b : UInt8) : UInt8 := if b.toNat % 2 = 0 then b + 1 else b
def oddS (s : List UInt8) : List UInt8 := s.set 31 (oddB (s.getD 31 0))
theorem oddS_length (s : List UInt8) : (oddS s).length = s.length := by simp [oddS]
theorem or_one (b : UInt8) : bits .or .u8 (b.toNat : Int) 1 = ((oddB b).toNat : Int) := by
  have key : ∀ n : Fin 256, bits .or .u8 ((n : Nat) : Int) 1 = (((oddB (UInt8.ofNat n)).toNat : Nat) : Int) := by decide +kernel
  have := key ⟨b.toNat, b.toNat_lt⟩
  simpa using this
theorem plus_one (b : UInt8) (h : b.toNat % 2 = 0) : IntKind.u8.wrap ((b.toNat : Int) + 1) = ((oddB b).toNat : Int) := by
  unfold oddB
  rw [if_pos h, IntKind.wrap_u8, UInt8.toNat_add]
  have := b.toNat_lt
  simp
def leafOk (n i : Int) (b : List UInt8) : Prop := b ≠ [] ∧ 0 ≤ n ∧ 0 ≤ i ∧ n ≤ 4611686018427387904 ∧ i ≤ 4611686018427387904
instance (n i : Int) (b : List UInt8) : Decidable (leafOk n i b) := by unfold leafOk; infer_instance
/-- a leaf's sum -/
def leafS (n i : Int) (b : List UInt8) : List UInt8 := if leafOk n i b then oddS (shaS ([0] ++ be 8 n.toNat ++ be 8 i.toNat ++ b)) else z32
theorem leafS_length (n i : Int) (b : List UInt8) : (leafS n i b).length = 32 := by
  unfold leafS; split
  · rw [oddS_length]; exact shaS_length _
  · exact z32_length
theorem by8_set (s : List UInt8) (k : Nat) (b : UInt8) : (by8 s).set k (.int .u8 (b.toNat : Int)) = by8 (s.set k b) := by simp [by8, byc, List.map_set]
theorem by8_getD (s : List UInt8) (k : Nat) (h : k < s.length) : (by8 s)[k]? = some (.int .u8 ((s.getD k 0).toNat : Int)) := by simp [by8, byc, h, List.getD_eq_getElem?_getD]
set_option maxRecDepth 100000 in
theorem leaf_ok (w0 : World) (n i : Int) (hn : -9223372036854775808 ≤ n ∧ n ≤ 9223372036854775807) (hi : -9223372036854775808 ≤ i ∧ i ≤ 9223372036854775807) (A : Option Addr) (b : List UInt8) (c : Nat) (hr : Rd w0 A (by8 b)) (hc : b.length ≤ c) (hc2 : c ≤ 9223372036854775807) (hb1 : b.length ≤ 1099511627000) :
    Calls Try.prog 30 #[.int .i64 n, .int .i64 i, .slice A b.length c] w0 fun e w' => e = .returned (.agg (by8 (leafS n i b)).toArray) ∧ Below w0.heap.size w0 w' := by
  refine c_enter Try.func30 rfl 41 rfl (by simp) (fun _ => False) _ rfl (fun a h => ?_)
  have h := h.mem (h.m.arg (rdP A (by8 b)) hr (fun _ _ hh => hh))
  have hbl : (b.length : Int) = 0 ↔ b = [] := by rw [← List.length_eq_zero_iff]; omega
  refine c_rs ?_ -- region 0
  refine s_alloc h rfl rfl rfl (by decide) zi_A32_uint8 rfl (fun a w g6 h => ?_)
  refine l_end ?_
  refine wp_seq ?_
  refine c_rs ?_ -- region 1
  refine s_move h rfl _ rfl rfl (by decide) rfl (fun a h => ?_)
  refine s_len h rfl rfl rfl (by decide) Try.underlying52 rfl (fun a h => ?_)
  refine s_bin h rfl rfl rfl (by decide) rfl rfl (ib_eql) (fun a h => ?_)
  refine s_move h rfl _ rfl rfl (by decide) rfl (fun a h => ?_)
  apply s_or (t := 11) (d := 14) h 3 rfl
  · intro hB
    refine g_no h rfl rfl rfl rfl hB rfl (by decide) (fun a h => ?_)
    refine g_no h rfl rfl rfl rfl hB rfl (by decide) (fun a h => ?_)
    refine s_pick h rfl rfl rfl (by decide) rfl (fun _ => rfl) (fun hh => absurd (hB.symm.trans hh) (by decide)) (fun a h => ?_)
    exact h.has (by repeat (first | exact trivial | refine ⟨rfl, ?_⟩))
  · intro hB
    refine g_yes h rfl rfl rfl rfl hB ?_
    refine s_move h rfl _ rfl rfl (by decide) rfl (fun a h => ?_)
    refine g_yes h rfl rfl rfl rfl hB ?_
    refine s_bin h rfl rfl rfl (by decide) rfl rfl (ib_lss) (fun a h => ?_)
    refine s_pick h rfl rfl rfl (by decide) rfl (fun hh => absurd (hB.symm.trans hh) (by decide)) (fun _ => rfl) (fun a h => ?_)
    exact h.has (by repeat (first | exact trivial | refine ⟨rfl, ?_⟩))
  intro a w h
  refine s_move h rfl _ rfl rfl (by decide) rfl (fun a h => ?_)
  apply s_or (t := 15) (d := 18) h 3 rfl
  · intro hB
    refine g_no h rfl rfl rfl rfl hB rfl (by decide) (fun a h => ?_)
    refine g_no h rfl rfl rfl rfl hB rfl (by decide) (fun a h => ?_)
    refine s_pick h rfl rfl rfl (by decide) rfl (fun _ => rfl) (fun hh => absurd (hB.symm.trans hh) (by decide)) (fun a h => ?_)
    exact h.has (by repeat (first | exact trivial | refine ⟨rfl, ?_⟩))
  · intro hB
    refine g_yes h rfl rfl rfl rfl hB ?_
    refine s_move h rfl _ rfl rfl (by decide) rfl (fun a h => ?_)
    refine g_yes h rfl rfl rfl rfl hB ?_
    refine s_bin h rfl rfl rfl (by decide) rfl rfl (ib_lss) (fun a h => ?_)
    refine s_pick h rfl rfl rfl (by decide) rfl (fun hh => absurd (hB.symm.trans hh) (by decide)) (fun _ => rfl) (fun a h => ?_)
    exact h.has (by repeat (first | exact trivial | refine ⟨rfl, ?_⟩))
  intro a w h
  refine s_move h rfl _ rfl rfl (by decide) rfl (fun a h => ?_)
  apply s_or (t := 19) (d := 22) h 3 rfl
  · intro hB
    refine g_no h rfl rfl rfl rfl hB rfl (by decide) (fun a h => ?_)
    refine g_no h rfl rfl rfl rfl hB rfl (by decide) (fun a h => ?_)
    refine s_pick h rfl rfl rfl (by decide) rfl (fun _ => rfl) (fun hh => absurd (hB.symm.trans hh) (by decide)) (fun a h => ?_)
    exact h.has (by repeat (first | exact trivial | refine ⟨rfl, ?_⟩))
  · intro hB
    refine g_yes h rfl rfl rfl rfl hB ?_
    refine s_move h rfl _ rfl rfl (by decide) rfl (fun a h => ?_)
    refine g_yes h rfl rfl rfl rfl hB ?_
    refine s_bin h rfl rfl rfl (by decide) rfl rfl (ib_gtr) (fun a h => ?_)
    refine s_pick h rfl rfl rfl (by decide) rfl (fun hh => absurd (hB.symm.trans hh) (by decide)) (fun _ => rfl) (fun a h => ?_)
    exact h.has (by repeat (first | exact trivial | refine ⟨rfl, ?_⟩))
  intro a w h
  refine s_move h rfl _ rfl rfl (by decide) rfl (fun a h => ?_)
  apply s_or (t := 23) (d := 26) h 3 rfl
  · intro hB
    refine g_no h rfl rfl rfl rfl hB rfl (by decide) (fun a h => ?_)
    refine g_no h rfl rfl rfl rfl hB rfl (by decide) (fun a h => ?_)
    refine s_pick h rfl rfl rfl (by decide) rfl (fun _ => rfl) (fun hh => absurd (hB.symm.trans hh) (by decide)) (fun a h => ?_)
    exact h.has (by repeat (first | exact trivial | refine ⟨rfl, ?_⟩))
  · intro hB
    refine g_yes h rfl rfl rfl rfl hB ?_
    refine s_move h rfl _ rfl rfl (by decide) rfl (fun a h => ?_)
    refine g_yes h rfl rfl rfl rfl hB ?_
    refine s_bin h rfl rfl rfl (by decide) rfl rfl (ib_gtr) (fun a h => ?_)
    refine s_pick h rfl rfl rfl (by decide) rfl (fun hh => absurd (hB.symm.trans hh) (by decide)) (fun _ => rfl) (fun a h => ?_)
    exact h.has (by repeat (first | exact trivial | refine ⟨rfl, ?_⟩))
  intro a w h
  refine l_end ?_
  refine c_cond h rfl (fun hb => ?_) (fun hb => ?_)
  · have hno : ¬ leafOk n i b := by
      intro ⟨h1, h2, h3, h4, h5⟩
      simp only [Bool.or_eq_true, decide_eq_true_eq, hbl] at hb
      rcases hb with (((hb | hb) | hb) | hb) | hb
      · exact h1 hb
      all_goals omega
    refine c_rs ?_ -- region 2
    refine s_build h rfl rfl rfl (by decide) [] rfl (by8 z32) (by kernel_rfl) (fun a h => ?_)
    refine s_stW h rfl rfl rfl ag_A32_uint8 rfl rfl (by first | assumption | (rw [by8_length]; assumption) | (rw [by8_length]; rfl) | rfl | decide) (by first | exact by8_one _ | simp [Value.oneCell']) 0 rfl (by first | assumption | (rw [by8_length]; assumption) | (rw [by8_length]; rfl) | rfl | decide) (fun a w h => ?_)
    refine l_end ?_
    refine wp_ret ?_
    refine e_thenR ?_
    refine r_ret1 h rfl (rv_cellA h rfl 0 rfl ag_A32_uint8 rfl) ⟨?_, h.m.below⟩
    unfold leafS
    rw [if_neg hno]
  · have hok : leafOk n i b := by
      simp only [Bool.or_eq_false_iff, decide_eq_false_iff_not, hbl] at hb
      obtain ⟨⟨⟨⟨h1, h2⟩, h3⟩, h4⟩, h5⟩ := hb
      exact ⟨h1, by omega, by omega, by omega, by omega⟩
    have hok' := hok
    obtain ⟨_, h2, h3, h4, h5⟩ := hok'
    obtain ⟨n', rfl⟩ : ∃ n' : Nat, n = (n' : Int) := ⟨n.toNat, by omega⟩
    obtain ⟨i', rfl⟩ : ∃ i' : Nat, i = (i' : Int) := ⟨i.toNat, by omega⟩
    refine wp_skip ?_
    refine e_thenN ?_
    refine c_rs ?_ -- region 3
    refine s_bslice1 h rfl rfl rfl (by decide) Try.underlying52 zi_uint8 rfl rfl (by simp [Value.oneCell']) (by decide) (by decide) (fun a w g28 h => ?_)
    refine s_move h rfl _ rfl rfl (by decide) rfl (fun a h => ?_)
    refine s_callN h rfl rfl rfl (by decide) Try.func75 rfl rfl rfl (number_ok w n' (by omega)) (fun a w v30 hb h => ?_)
    refine s_move h rfl _ rfl rfl (by decide) rfl (fun a h => ?_)
    refine s_callN h rfl rfl rfl (by decide) Try.func75 rfl rfl rfl (number_ok w i' (by omega)) (fun a w v32 hb h => ?_)
    refine s_move h rfl _ rfl rfl (by decide) rfl (fun a h => ?_)
    obtain ⟨A30, c30, rfl, hc30, hm30, _⟩ := h.m.rdRow (i := 1) rfl
    obtain ⟨A32, c32, rfl, hc32, hm32, _⟩ := h.m.rdRow (i := 0) rfl
    refine s_bslice1 h rfl rfl rfl (by decide) Try.underlying64 zi_Suint8 rfl rfl (by simp [Value.oneCell']) (by decide) (by decide) (fun a w g34 h => ?_)
    have hr0 : Rb w (.slice (some ⟨g28, 0, none⟩) 1 1) [0] := rb_of rfl (by omega) (by omega) (h.m.rdBox (i := 3) rfl 0)
    have hr1 : Rb w (.slice A30 8 c30) (be 8 n') := rb_of (be_length _ _) hc30 (by unfold maxLen at hm30; omega) (h.m.rdRowA (i := 2) rfl)
    have hr2 : Rb w (.slice A32 8 c32) (be 8 i') := rb_of (be_length _ _) hc32 (by unfold maxLen at hm32; omega) (h.m.rdRowA (i := 1) rfl)
    have hr3 : Rb w (.slice A b.length c) b := rb_of rfl hc hc2 (h.m.ok 5 _ rfl)
    have hL : RbL w (some ⟨g34, 0, none⟩) [[0], be 8 n', be 8 i', b] := by
      refine ⟨_, rfl, h.m.rdBox (i := 0) rfl 0, fun i v l hv hl => ?_⟩
      match i, hv, hl with
      | 0, hv, hl => cases hv; cases hl; exact hr0
      | 1, hv, hl => cases hv; cases hl; exact hr1
      | 2, hv, hl => cases hv; cases hl; exact hr2
      | 3, hv, hl => cases hv; cases hl; exact hr3
      | i + 4, hv, hl => simp at hl
    have hfl : [[0], be 8 n', be 8 i', b].flatten = [0] ++ be 8 n' ++ be 8 i' ++ b := by simp
    have hC := sum_ok w (some ⟨g34, 0, none⟩) [[0], be 8 n', be 8 i', b] 4 hL (by simp) (by simp [be_length]; omega)
    rw [hfl] at hC
    obtain ⟨s, hs⟩ : ∃ s, s = shaS ([0] ++ be 8 n' ++ be 8 i' ++ b) := ⟨_, rfl⟩
    have hs32 : s.length = 32 := by rw [hs]; exact shaS_length _
    rw [← hs] at hC
    have hv31 := by8_getD s 31 (by omega)
    refine s_callB h rfl rfl rfl (by decide) Try.func74 rfl rfl rfl (hC) (fun a w hb h => ?_)
    refine s_alloc h rfl rfl rfl (by decide) zi_A32_uint8 rfl (fun a w g7 h => ?_)
    refine s_stW h rfl rfl rfl ag_A32_uint8 rfl rfl (by first | assumption | (rw [by8_length]; assumption) | (rw [by8_length]; rfl) | rfl | decide) (by first | exact by8_one _ | simp [Value.oneCell']) 0 rfl (by first | assumption | (rw [by8_length]; assumption) | (rw [by8_length]; rfl) | rfl | decide) (fun a w h => ?_)
    refine l_end ?_
    refine c_rs ?_ -- region 4
    refine s_iaddrA h rfl rfl rfl (by decide) Try.underlying40 sz_uint8 rfl rfl (m := 31) rfl (by decide) (r := 31) (by omega) (fun a h => ?_)
    refine s_ldb h rfl rfl rfl (by decide) Try.underlying5 rfl rfl 0 rfl (hv31) (fun a h => ?_)
    refine s_bin h rfl rfl rfl (by decide) rfl rfl (ib_or (or_one _)) (fun a h => ?_)
    refine s_iaddrA h rfl rfl rfl (by decide) Try.underlying40 sz_uint8 rfl rfl (m := 31) rfl (by decide) (r := 31) (by omega) (fun a h => ?_)
    refine s_stb h rfl rfl rfl sz_uint8 rfl rfl rfl 0 rfl (by rw [by8_length]; omega) (fun a w h => ?_)
    rw [by8_set] at h
    have ho32 : (oddS s).length = 32 := by rw [oddS_length]; exact hs32
    refine l_end ?_
    refine c_rs ?_ -- region 5
    refine s_ldW h rfl rfl rfl (by decide) ag_A32_uint8 rfl 0 (cs := by8 (oddS s)) rfl (by rw [by8_length, ho32]) (fun a h => ?_)
    refine s_stW h rfl rfl rfl ag_A32_uint8 rfl rfl (by rw [by8_length, ho32]) (by8_one _) 5 rfl (by rfl) (fun a w h => ?_)
    refine l_end ?_
    refine wp_ret ?_
    refine r_ret1 h rfl (rv_cellA h rfl 5 rfl ag_A32_uint8 (by rw [by8_length, ho32])) ⟨?_, h.m.below⟩
    unfold leafS
    rw [if_pos hok, Int.toNat_natCast, Int.toNat_natCast, ← hs]
theorem u64_of (n : Nat) (hn : n ≤ 4611686018427387904) : IntKind.u64.wrap (n : Int) = ((UInt64.ofNat n).toNat : Int) := by
  rw [nwu64 (by omega)]; simp; omega
theorem u64_to (n : Nat) (hn : n ≤ 4611686018427387904) : (UInt64.ofNat n).toNat = n := by simp; omega
set_option maxRecDepth 100000 in
theorem rleaf_ok (w0 : World) (n i : Int) (hn : -9223372036854775808 ≤ n ∧ n ≤ 9223372036854775807) (hi : -9223372036854775808 ≤ i ∧ i ≤ 9223372036854775807) (A : Option Addr) (b : List UInt8) (c : Nat) (hr : Rd w0 A (by8 b)) (hb1 : b.length ≤ 1099511627000) :
    Calls Try.prog 45 #[.int .i64 n, .int .i64 i, .slice A b.length c] w0 fun e w' => e = .returned (.agg (by8 (leafS n i b)).toArray) ∧ Below w0.heap.size w0 w' := by
  refine c_enter Try.func45 rfl 54 rfl (by simp) (fun _ => False) _ rfl (fun a h => ?_)
  have h := h.mem (h.m.arg (rdP A (by8 b)) hr (fun _ _ hh => hh))
  have hbl : (b.length : Int) = 0 ↔ b = [] := by rw [← List.length_eq_zero_iff]; omega
  refine c_rs ?_ -- region 0
  refine s_alloc h rfl rfl rfl (by decide) zi_A32_uint8 rfl (fun a w g6 h => ?_)
  refine l_end ?_
  refine c_rs ?_ -- region 1
  refine s_alloc h rfl rfl rfl (by decide) zi_A32_uint8 rfl (fun a w g7 h => ?_)
  refine l_end ?_
  refine wp_seq ?_
  refine c_rs ?_ -- region 2
  refine s_move h rfl _ rfl rfl (by decide) rfl (fun a h => ?_)
  refine s_len h rfl rfl rfl (by decide) Try.underlying52 rfl (fun a h => ?_)
  refine s_bin h rfl rfl rfl (by decide) rfl rfl (ib_eql) (fun a h => ?_)
  refine s_move h rfl _ rfl rfl (by decide) rfl (fun a h => ?_)
  apply s_or (t := 13) (d := 16) h 3 rfl
  · intro hB
    refine g_no h rfl rfl rfl rfl hB rfl (by decide) (fun a h => ?_)
    refine g_no h rfl rfl rfl rfl hB rfl (by decide) (fun a h => ?_)
    refine s_pick h rfl rfl rfl (by decide) rfl (fun _ => rfl) (fun hh => absurd (hB.symm.trans hh) (by decide)) (fun a h => ?_)
    exact h.has (by repeat (first | exact trivial | refine ⟨rfl, ?_⟩))
  · intro hB
    refine g_yes h rfl rfl rfl rfl hB ?_
    refine s_move h rfl _ rfl rfl (by decide) rfl (fun a h => ?_)
    refine g_yes h rfl rfl rfl rfl hB ?_
    refine s_bin h rfl rfl rfl (by decide) rfl rfl (ib_lss) (fun a h => ?_)
    refine s_pick h rfl rfl rfl (by decide) rfl (fun hh => absurd (hB.symm.trans hh) (by decide)) (fun _ => rfl) (fun a h => ?_)
    exact h.has (by repeat (first | exact trivial | refine ⟨rfl, ?_⟩))
  intro a w h
  refine s_move h rfl _ rfl rfl (by decide) rfl (fun a h => ?_)
  apply s_or (t := 17) (d := 20) h 3 rfl
  · intro hB
    refine g_no h rfl rfl rfl rfl hB rfl (by decide) (fun a h => ?_)
    refine g_no h rfl rfl rfl rfl hB rfl (by decide) (fun a h => ?_)
    refine s_pick h rfl rfl rfl (by decide) rfl (fun _ => rfl) (fun hh => absurd (hB.symm.trans hh) (by decide)) (fun a h => ?_)
    exact h.has (by repeat (first | exact trivial | refine ⟨rfl, ?_⟩))
  · intro hB
    refine g_yes h rfl rfl rfl rfl hB ?_
    refine s_move h rfl _ rfl rfl (by decide) rfl (fun a h => ?_)
    refine g_yes h rfl rfl rfl rfl hB ?_
    refine s_bin h rfl rfl rfl (by decide) rfl rfl (ib_lss) (fun a h => ?_)
    refine s_pick h rfl rfl rfl (by decide) rfl (fun hh => absurd (hB.symm.trans hh) (by decide)) (fun _ => rfl) (fun a h => ?_)
    exact h.has (by repeat (first | exact trivial | refine ⟨rfl, ?_⟩))
  intro a w h
  refine s_move h rfl _ rfl rfl (by decide) rfl (fun a h => ?_)
  apply s_or (t := 21) (d := 24) h 3 rfl
  · intro hB
    refine g_no h rfl rfl rfl rfl hB rfl (by decide) (fun a h => ?_)
    refine g_no h rfl rfl rfl rfl hB rfl (by decide) (fun a h => ?_)
    refine s_pick h rfl rfl rfl (by decide) rfl (fun _ => rfl) (fun hh => absurd (hB.symm.trans hh) (by decide)) (fun a h => ?_)
    exact h.has (by repeat (first | exact trivial | refine ⟨rfl, ?_⟩))
  · intro hB
    refine g_yes h rfl rfl rfl rfl hB ?_
    refine s_move h rfl _ rfl rfl (by decide) rfl (fun a h => ?_)
    refine g_yes h rfl rfl rfl rfl hB ?_
    refine s_bin h rfl rfl rfl (by decide) rfl rfl (ib_gtr) (fun a h => ?_)
    refine s_pick h rfl rfl rfl (by decide) rfl (fun hh => absurd (hB.symm.trans hh) (by decide)) (fun _ => rfl) (fun a h => ?_)
    exact h.has (by repeat (first | exact trivial | refine ⟨rfl, ?_⟩))
  intro a w h
  refine s_move h rfl _ rfl rfl (by decide) rfl (fun a h => ?_)
  apply s_or (t := 25) (d := 28) h 3 rfl
  · intro hB
    refine g_no h rfl rfl rfl rfl hB rfl (by decide) (fun a h => ?_)
    refine g_no h rfl rfl rfl rfl hB rfl (by decide) (fun a h => ?_)
    refine s_pick h rfl rfl rfl (by decide) rfl (fun _ => rfl) (fun hh => absurd (hB.symm.trans hh) (by decide)) (fun a h => ?_)
    exact h.has (by repeat (first | exact trivial | refine ⟨rfl, ?_⟩))
  · intro hB
    refine g_yes h rfl rfl rfl rfl hB ?_
    refine s_move h rfl _ rfl rfl (by decide) rfl (fun a h => ?_)
    refine g_yes h rfl rfl rfl rfl hB ?_
    refine s_bin h rfl rfl rfl (by decide) rfl rfl (ib_gtr) (fun a h => ?_)
    refine s_pick h rfl rfl rfl (by decide) rfl (fun hh => absurd (hB.symm.trans hh) (by decide)) (fun _ => rfl) (fun a h => ?_)
    exact h.has (by repeat (first | exact trivial | refine ⟨rfl, ?_⟩))
  intro a w h
  refine l_end ?_
  refine c_cond h rfl (fun hb => ?_) (fun hb => ?_)
  · have hno : ¬ leafOk n i b := by
      intro ⟨h1, h2, h3, h4, h5⟩
      simp only [Bool.or_eq_true, decide_eq_true_eq, hbl] at hb
      rcases hb with (((hb | hb) | hb) | hb) | hb
      · exact h1 hb
      all_goals omega
    refine c_rs ?_ -- region 3
    refine s_ldW h rfl rfl rfl (by decide) ag_A32_uint8 rfl 0 (cs := by8 z32) rfl (by rw [by8_length, z32_length]) (fun a h => ?_)
    refine s_stW h rfl rfl rfl ag_A32_uint8 rfl rfl (by rw [by8_length, z32_length]) (by8_one _) 1 rfl (by rfl) (fun a w h => ?_)
    refine l_end ?_
    refine wp_ret ?_
    refine e_thenR ?_
    refine r_ret1 h rfl (rv_cellA h rfl 1 rfl ag_A32_uint8 rfl) ⟨?_, h.m.below⟩
    unfold leafS
    rw [if_neg hno]
  · have hok : leafOk n i b := by
      simp only [Bool.or_eq_false_iff, decide_eq_false_iff_not, hbl] at hb
      obtain ⟨⟨⟨⟨h1, h2⟩, h3⟩, h4⟩, h5⟩ := hb
      exact ⟨h1, by omega, by omega, by omega, by omega⟩
    have hok' := hok
    obtain ⟨_, h2, h3, h4, h5⟩ := hok'
    obtain ⟨n', rfl⟩ : ∃ n' : Nat, n = (n' : Int) := ⟨n.toNat, by omega⟩
    obtain ⟨i', rfl⟩ : ∃ i' : Nat, i = (i' : Int) := ⟨i.toNat, by omega⟩
    refine wp_skip ?_
    refine e_thenN ?_
    refine c_rs ?_ -- region 4
    refine s_bslice1 h rfl rfl rfl (by decide) Try.underlying52 zi_uint8 rfl rfl (by simp [Value.oneCell']) (by decide) (by decide) (fun a w g30 h => ?_)
    refine s_assign h rfl _ rfl rfl (by decide) rfl (fun a h => ?_)
    have h := h.mem (h.m.asRow (i := 0) rfl 1 1 rfl (by simp [maxLen]))
    refine l_end ?_
    refine c_rs ?_ -- region 5
    refine s_move h rfl _ rfl rfl (by decide) rfl (fun a h => ?_)
    refine s_move h rfl _ rfl rfl (by decide) rfl (fun a h => ?_)
    refine s_conv h rfl rfl rfl (by decide) Try.underlying3 Try.underlying120 rfl (fun a h => ?_)
    rw [u64_of n' (by omega)] at h
    refine s_callN h rfl rfl rfl (by decide) Try.func79 rfl rfl rfl (rput64_ok (UInt64.ofNat n') _) (fun a w v34 hb h => ?_)
    rw [u64_to n' (by omega)] at h
    obtain ⟨A34, c34, rfl, _, _, hr34⟩ := h.m.rdRow (i := 0) rfl
    refine s_append h rfl rfl rfl (by decide) Try.underlying52 zb_uint8 rfl (by decide) rfl 1 rfl rfl (by8 (be 8 n')) (by rw [by8_length, be_length]) hr34 (by8_one _) (by omega) (by unfold maxLen; omega) (fun a w v35 h => ?_)
    have h := h.pick [1, 2, 3, 4] (by decide) rfl
    refine s_assign h rfl _ rfl rfl (by decide) rfl (fun a h => ?_)
    refine l_end ?_
    refine c_rs ?_ -- region 6
    refine s_move h rfl _ rfl rfl (by decide) rfl (fun a h => ?_)
    refine s_move h rfl _ rfl rfl (by decide) rfl (fun a h => ?_)
    refine s_conv h rfl rfl rfl (by decide) Try.underlying3 Try.underlying120 rfl (fun a h => ?_)
    rw [u64_of i' (by omega)] at h
    refine s_callN h rfl rfl rfl (by decide) Try.func79 rfl rfl rfl (rput64_ok (UInt64.ofNat i') _) (fun a w v39 hb h => ?_)
    rw [u64_to i' (by omega)] at h
    obtain ⟨A39, c39, rfl, _, _, hr39⟩ := h.m.rdRow (i := 0) rfl
    refine s_append h rfl rfl rfl (by decide) Try.underlying52 zb_uint8 rfl (by decide) rfl 1 rfl rfl (by8 (be 8 i')) (by rw [by8_length, be_length]) hr39 (by8_one _) (by omega) (by unfold maxLen; omega) (fun a w v40 h => ?_)
    have h := h.pick [1, 2, 3, 4] (by decide) rfl
    refine s_assign h rfl _ rfl rfl (by decide) rfl (fun a h => ?_)
    refine l_end ?_
    refine c_rs ?_ -- region 7
    refine s_move h rfl _ rfl rfl (by decide) rfl (fun a h => ?_)
    refine s_move h rfl _ rfl rfl (by decide) rfl (fun a h => ?_)
    refine s_append h rfl rfl rfl (by decide) Try.underlying52 zb_uint8 rfl (by decide) rfl 0 rfl rfl (by8 b) (by rw [by8_length, Nat.mul_one]) (h.m.ok 3 _ rfl) (by8_one _) (by omega) (by unfold maxLen; omega) (fun a w v43 h => ?_)
    obtain ⟨A43, c43, rfl, _, _, hr43⟩ := h.m.rdRow (i := 0) rfl
    have hl : ([0] ++ be 8 n' ++ be 8 i' ++ b).length = 1 + 8 + 8 + b.length := by simp [be_length]; omega
    have hr43' : Rd w A43 (by8 ([0] ++ be 8 n' ++ be 8 i' ++ b)) := by rw [by8_append, by8_append, by8_append]; exact hr43
    have hC := rsum_ok w A43 ([0] ++ be 8 n' ++ be 8 i' ++ b) c43 hr43' (by omega)
    rw [hl] at hC
    obtain ⟨s, hs⟩ : ∃ s, s = shaS ([0] ++ be 8 n' ++ be 8 i' ++ b) := ⟨_, rfl⟩
    have hs32 : s.length = 32 := by rw [hs]; exact shaS_length _
    rw [← hs] at hC
    have hv31 := by8_getD s 31 (by omega)
    refine s_callB h rfl rfl rfl (by decide) Try.func72 rfl rfl rfl (hC) (fun a w hb h => ?_)
    refine s_alloc h rfl rfl rfl (by decide) zi_A32_uint8 rfl (fun a w g9 h => ?_)
    refine s_stW h rfl rfl rfl ag_A32_uint8 rfl rfl (by first | assumption | (rw [by8_length]; assumption) | (rw [by8_length]; rfl) | rfl | decide) (by first | exact by8_one _ | simp [Value.oneCell']) 0 rfl (by first | assumption | (rw [by8_length]; assumption) | (rw [by8_length]; rfl) | rfl | decide) (fun a w h => ?_)
    refine l_end ?_
    refine wp_seq ?_
    refine c_rs ?_ -- region 8
    refine s_iaddrA h rfl rfl rfl (by decide) Try.underlying40 sz_uint8 rfl rfl (m := 31) rfl (by decide) (r := 31) (by omega) (fun a h => ?_)
    refine s_ldb h rfl rfl rfl (by decide) Try.underlying5 rfl rfl 0 rfl (hv31) (fun a h => ?_)
    refine s_bin h rfl rfl rfl (by decide) rfl rfl ((by rw [← Int.tmod_eq_emod_of_nonneg (Int.natCast_nonneg _)]; exact ib_remw (by decide) : IB .rem .u8 ((s.getD 31 0).toNat : Int) .u8 2 (.int .u8 (((s.getD 31 0).toNat : Int) % 2)))) (fun a h => ?_)
    refine s_bin h rfl rfl rfl (by decide) rfl rfl (ib_eql) (fun a h => ?_)
    refine l_end ?_
    refine c_cond h rfl (fun hb => ?_) (fun hb => ?_)
    · have hev : (s.getD 31 0).toNat % 2 = 0 := by have := of_decide_eq_true hb; omega
      have hoe : oddS s = s.set 31 (oddB (s.getD 31 0)) := rfl
      refine c_r ?_ -- region 9
      refine s_iaddrA h rfl rfl rfl (by decide) Try.underlying40 sz_uint8 rfl rfl (m := 31) rfl (by decide) (r := 31) (by omega) (fun a h => ?_)
      refine s_ldb h rfl rfl rfl (by decide) Try.underlying5 rfl rfl 0 rfl (hv31) (fun a h => ?_)
      refine s_bin h rfl rfl rfl (by decide) rfl rfl (ib_add (plus_one _ hev)) (fun a h => ?_)
      refine s_iaddrA h rfl rfl rfl (by decide) Try.underlying40 sz_uint8 rfl rfl (m := 31) rfl (by decide) (r := 31) (by omega) (fun a h => ?_)
      refine s_stb h rfl rfl rfl sz_uint8 rfl rfl rfl 0 rfl (by rw [by8_length]; omega) (fun a w h => ?_)
      rw [by8_set, ← hoe] at h
      refine l_nil ?_
      refine e_thenN ?_
      refine c_rs ?_ -- region 10
      have ho32 : (oddS s).length = 32 := by rw [oddS_length]; exact hs32
      refine s_ldW h rfl rfl rfl (by decide) ag_A32_uint8 rfl 0 (cs := by8 (oddS s)) (by first | rfl | (rw [hoe]; rfl)) (by rw [by8_length, ho32]) (fun a h => ?_)
      refine s_stW h rfl rfl rfl ag_A32_uint8 rfl rfl (by rw [by8_length, ho32]) (by8_one _) 3 rfl (by rfl) (fun a w h => ?_)
      refine l_end ?_
      refine wp_ret ?_
      refine r_ret1 h rfl (rv_cellA h rfl 3 rfl ag_A32_uint8 (by rw [by8_length, ho32])) ⟨?_, h.m.below⟩
      unfold leafS
      rw [if_pos hok, Int.toNat_natCast, Int.toNat_natCast, ← hs]
    · have hev : ¬ (s.getD 31 0).toNat % 2 = 0 := by have := of_decide_eq_false hb; omega
      have hoe : oddS s = s := by
        unfold oddS oddB
        rw [if_neg hev, List.getD_eq_getElem?_getD, List.getElem?_eq_getElem (by omega)]
        simp
      refine wp_skip ?_
      refine e_thenN ?_
      refine c_rs ?_ -- region 10
      have ho32 : (oddS s).length = 32 := by rw [oddS_length]; exact hs32
      refine s_ldW h rfl rfl rfl (by decide) ag_A32_uint8 rfl 0 (cs := by8 (oddS s)) (by first | rfl | (rw [hoe]; rfl)) (by rw [by8_length, ho32]) (fun a h => ?_)
      refine s_stW h rfl rfl rfl ag_A32_uint8 rfl rfl (by rw [by8_length, ho32]) (by8_one _) 3 rfl (by rfl) (fun a w h => ?_)
      refine l_end ?_
      refine wp_ret ?_
      refine r_ret1 h rfl (rv_cellA h rfl 3 rfl ag_A32_uint8 (by rw [by8_length, ho32])) ⟨?_, h.m.below⟩
      unfold leafS
      rw [if_pos hok, Int.toNat_natCast, Int.toNat_natCast, ← hs]
end Go.Proofs.Ytlgcfnbhnpnkiaa
