/- The statement MerkleWays. -/
import Derived.Test.YtlgcfnbhnpnkiaaMk7
import Derived.Test.YtlgcfnbhnpnkiaaMk4
import Derived.Test.YtlgcfnbhnpnkiaaMk5
import Derived.Test.YtlgcfnbhnpnkiaaMkL
set_option linter.unusedVariables false
set_option linter.unusedSimpArgs false
namespace Go.Proofs.Ytlgcfnbhnpnkiaa
open Go.RowKit

theorem mulN (a b : Nat) (h : a * b ≤ 9223372036854775807) : IntKind.i64.wrap ((a : Int) * (b : Int)) = ((a * b : Nat) : Int) := by
  rw [← Int.natCast_mul]; exact nw64 (by omega)
theorem level_at (l : List (List UInt8)) (e n k : Nat) (h : k < n) : (levelL l e n).getD k z32 = nodeS l e (k * 2 ^ e) := by
  rw [List.getD_eq_getElem?_getD]
  simp [levelL, h]
theorem way_level (l : List (List UInt8)) : ∀ (d e k j : Nat) (h : j < (wayE d (levelL l e (2 ^ d)) k).length), k < 2 ^ d → (wayE d (levelL l e (2 ^ d)) k)[j] = nodeS l (e + j) (sib (k / 2 ^ j) * 2 ^ (e + j))
  | 0, e, k, j, h, _ => by simp [wayE] at h
  | d + 1, e, k, j, h, hk => by
    have hu : upL (levelL l e (2 ^ (d + 1))) = levelL l (e + 1) (2 ^ d) := by rw [show 2 ^ (d + 1) = 2 * 2 ^ d by rw [Nat.pow_succ]; omega, up_level]
    cases j with
    | zero =>
      simp only [wayE, List.getElem_cons_zero, Nat.add_zero, Nat.pow_zero, Nat.div_one]
      exact level_at l e _ _ (sib_lt k d hk)
    | succ j =>
      have h2 : j < (wayE d (levelL l (e + 1) (2 ^ d)) (k / 2)).length := by rw [wayE_length] at h ⊢; omega
      have := way_level l d (e + 1) (k / 2) j h2 (by rw [Nat.pow_succ] at hk; omega)
      simp only [wayE, List.getElem_cons_succ, hu]
      rw [this, show e + 1 + j = e + (j + 1) by omega, Nat.div_div_eq_div_mul, Nat.pow_succ 2 j, Nat.mul_comm 2]
theorem way_node (l : List (List UInt8)) (i e : Nat) (hi : i < l.length) (h : e < (wayS l i).length) : (wayS l i)[e] = nodeS l e (sib (i / 2 ^ e) * 2 ^ e) := by
  have h1 := level_zero l (by omega)
  have h2 : i < 2 ^ lg l.length := Nat.lt_of_lt_of_le hi (le_lg _ (by omega))
  have h3 : e < (wayE (lg l.length) (levelL l 0 (2 ^ lg l.length)) i).length := by rw [h1]; exact h
  have := way_level l (lg l.length) 0 i e h3 h2
  simp only [Nat.zero_add] at this
  rw [← this]
  congr 1
  unfold wayS; rw [h1]
theorem plus_ne (b : UInt8) : b + 1 ≠ b := by
  intro h
  have := congrArg UInt8.toNat h
  rw [UInt8.toNat_add] at this
  have h2 := b.toNat_lt
  simp at this
  omega
theorem plus_u8 (b : UInt8) : IntKind.u8.wrap ((b.toNat : Int) + 1) = ((b + 1).toNat : Int) := by
  rw [IntKind.wrap_u8, UInt8.toNat_add]
  simp
/-- a sum that is wrong -/
def badS (s : List UInt8) : List UInt8 := s.set 0 (s.getD 0 0 + 1)
theorem badS_ne (s : List UInt8) (h : s.length = 32) : s ≠ badS s := by
  intro e
  have h1 : (badS s)[0]? = some (s.getD 0 0 + 1) := by unfold badS; simp [h]
  rw [← e, List.getElem?_eq_getElem (by omega)] at h1
  have h2 : s.getD 0 0 = s[0] := by rw [List.getD_eq_getElem?_getD, List.getElem?_eq_getElem (by omega)]; rfl
  rw [h2] at h1
  exact plus_ne _ (Option.some.inj h1).symm
theorem rd_pre {w : World} {A : Option Addr} {X J : List Value} (h : Rd w A (X ++ J)) : Rd w A X := by
  have := h.take X.length
  rwa [List.take_left'] at this
  rfl
set_option maxRecDepth 100000 in
set_option maxHeartbeats 2000000 in
theorem merkleWays_walk (w0 : World) (A : Option Addr) (l : List (List UInt8)) (c : Nat) (hl : S32 l) (hr : Rd w0 A (by8 l.flatten)) (i : Int) (hi : -9223372036854775808 ≤ i ∧ i ≤ 9223372036854775807) (x : List UInt8) (hx : x.length = 32) :
    Calls Try.prog 8 #[.slice A l.length c, .int .i64 i, .agg (by8 x).toArray] w0 fun e w' => e = .returned (.bool true) ∧ Below w0.heap.size w0 w' := by
  refine c_enter Try.func8 rfl 169 rfl (by simp) (fun _ => False) _ rfl (fun a h => ?_)
  have h := h.mem (h.m.arg (rdP A (by8 l.flatten)) hr (fun _ _ hh => hh))
  refine c_rs ?_ -- region 0
  refine s_box h rfl rfl rfl (by decide) rfl rfl (fun a w g5 h => ?_)
  refine s_assign h rfl _ rfl rfl (by decide) rfl (fun a h => ?_)
  refine l_end ?_
  refine wp_seq ?_
  refine c_rs ?_ -- region 1
  refine s_callB h rfl rfl rfl (by decide) Try.func23 rfl rfl rfl (awake23_ok w) (fun a w hb h => ?_)
  refine s_boolop h rfl rfl rfl (by decide) rfl (fun a h => ?_)
  refine l_end ?_
  refine c_cond h rfl (fun hb => ?_) (fun hb => ?_)
  · cases hb
  · refine wp_skip ?_
    refine e_thenN ?_
    refine wp_seq ?_
    refine c_rs ?_ -- region 3
    refine s_move h rfl _ rfl rfl (by decide) rfl (fun a h => ?_)
    refine s_len h rfl rfl rfl (by decide) Try.underlying39 rfl (fun a h => ?_)
    refine s_bin h rfl rfl rfl (by decide) rfl rfl (ib_gtr) (fun a h => ?_)
    refine l_end ?_
    refine c_cond h rfl (fun hb => ?_) (fun hb => ?_)
    · have hbig := hb
      refine c_rs ?_ -- region 4
      refine s_assign h rfl _ rfl rfl (by decide) rfl (fun a h => ?_)
      refine l_end ?_
      refine wp_ret ?_
      refine e_thenR ?_
      exact r_ret1 h rfl (rv_tmp h rfl) ⟨rfl, h.m.below⟩
    · have hl16 : l.length ≤ 16 := by have := of_decide_eq_false hb; omega
      refine wp_skip ?_
      refine e_thenN ?_
      refine c_rs ?_ -- region 5
      refine s_move h rfl _ rfl rfl (by decide) rfl (fun a h => ?_)
      refine s_move h rfl _ rfl rfl (by decide) rfl (fun a h => ?_)
      refine s_call h rfl rfl rfl (by decide) Try.func33 rfl rfl rfl (way_ok w A l c hl (h.m.ok 1 _ rfl) i hi) (fun e w' hp => ?_)
      obtain ⟨vw, rfl, hnew⟩ := hp
      refine ⟨_, rfl, fun a hk => ?_⟩
      have hws := wayV_s32 hl i
      have h : St 169 w0 (fun _ => False) _ (.row vw 40 32 (wayV l i).length (by8 (wayV l i).flatten) :: _) a w' := ⟨hk, h.m.addNewS hnew⟩
      obtain ⟨Aw, cw, rfl, _, _, _⟩ := h.m.rdRow (i := 0) rfl
      refine s_move h rfl _ rfl rfl (by decide) rfl (fun a h => ?_)
      refine s_ext h rfl rfl rfl (by decide) rfl rfl (fun a h => ?_)
      refine s_ext h rfl rfl rfl (by decide) rfl rfl (fun a h => ?_)
      refine s_assign h rfl _ rfl rfl (by decide) rfl (fun a h => ?_)
      refine s_assign h rfl _ rfl rfl (by decide) rfl (fun a h => ?_)
      refine l_end ?_
      refine wp_seq ?_
      refine c_rs ?_ -- region 6
      refine s_move h rfl _ rfl rfl (by decide) rfl (fun a h => ?_)
      refine s_len h rfl rfl rfl (by decide) Try.underlying39 rfl (fun a h => ?_)
      refine s_bin h rfl rfl rfl (by decide) rfl rfl (ib_eql) (fun a h => ?_)
      refine s_move h rfl _ rfl rfl (by decide) rfl (fun a h => ?_)
      apply s_or (t := 37) (d := 40) h 3 rfl
      · intro hB
        refine g_no h rfl rfl rfl rfl hB rfl (by decide) (fun a h => ?_)
        refine g_no h rfl rfl rfl rfl hB rfl (by decide) (fun a h => ?_)
        refine s_pick h rfl rfl rfl (by decide) rfl (fun _ => rfl) (fun hh => absurd (hB.symm.trans hh) (by decide)) (fun a h => ?_)
        exact h.has (by repeat (first | exact trivial | refine ⟨rfl, ?_⟩))
      · intro hB
        refine g_yes h rfl rfl rfl rfl hB ?_
        refine s_move h rfl _ rfl rfl (by decide) rfl (fun a h => ?_)
        refine g_yes h rfl rfl rfl rfl hB ?_
        refine s_bin h rfl rfl rfl (by decide) rfl rfl (ib_lss) (fun a h => ?_)
        refine s_pick h rfl rfl rfl (by decide) rfl (fun hh => absurd (hB.symm.trans hh) (by decide)) (fun _ => rfl) (fun a h => ?_)
        exact h.has (by repeat (first | exact trivial | refine ⟨rfl, ?_⟩))
      intro a w h
      refine s_move h rfl _ rfl rfl (by decide) rfl (fun a h => ?_)
      apply s_or (t := 41) (d := 46) h 5 rfl
      · intro hB
        refine g_no h rfl rfl rfl rfl hB rfl (by decide) (fun a h => ?_)
        refine g_no h rfl rfl rfl rfl hB rfl (by decide) (fun a h => ?_)
        refine g_no h rfl rfl rfl rfl hB rfl (by decide) (fun a h => ?_)
        refine g_no h rfl rfl rfl rfl hB rfl (by decide) (fun a h => ?_)
        refine s_pick h rfl rfl rfl (by decide) rfl (fun _ => rfl) (fun hh => absurd (hB.symm.trans hh) (by decide)) (fun a h => ?_)
        exact h.has (by repeat (first | exact trivial | refine ⟨rfl, ?_⟩))
      · intro hB
        refine g_yes h rfl rfl rfl rfl hB ?_
        refine s_move h rfl _ rfl rfl (by decide) rfl (fun a h => ?_)
        refine g_yes h rfl rfl rfl rfl hB ?_
        refine s_move h rfl _ rfl rfl (by decide) rfl (fun a h => ?_)
        refine g_yes h rfl rfl rfl rfl hB ?_
        refine s_len h rfl rfl rfl (by decide) Try.underlying39 rfl (fun a h => ?_)
        refine g_yes h rfl rfl rfl rfl hB ?_
        refine s_bin h rfl rfl rfl (by decide) rfl rfl (ib_geq) (fun a h => ?_)
        refine s_pick h rfl rfl rfl (by decide) rfl (fun hh => absurd (hB.symm.trans hh) (by decide)) (fun _ => rfl) (fun a h => ?_)
        exact h.has (by repeat (first | exact trivial | refine ⟨rfl, ?_⟩))
      intro a w h
      refine l_end ?_
      refine c_cond h rfl (fun hb => ?_) (fun hb => ?_)
      · have hno : ¬ inOk l.length i := by
          intro ⟨⟨h1, h2⟩, h3, h4⟩
          simp only [Bool.or_eq_true, decide_eq_true_eq] at hb
          omega
        have hwn : wayV l i = [] := by unfold wayV; rw [if_neg hno]
        have hE : errV (inOk l.length i) = 2 := by unfold errV; rw [if_neg hno]
        have hC : chgE l i z32 = 2 := by unfold chgE; rw [if_neg hno]
        have hV : chgV l i x z32 = z32 := by unfold chgV; rw [if_neg (fun hh => hno hh.1)]
        rw [hwn, hE] at h
        refine c_rs ?_ -- region 7
        refine s_move h rfl _ rfl rfl (by decide) rfl (fun a h => ?_)
        refine s_move h rfl _ rfl rfl (by decide) rfl (fun a h => ?_)
        refine s_ldW h rfl rfl rfl (by decide) ag_A32_uint8 rfl 1 rfl (by rw [by8_length, hx]) (fun a h => ?_)
        refine s_build h rfl rfl rfl (by decide) [] rfl (by8 z32) (by kernel_rfl) (fun a h => ?_)
        refine s_callB h rfl rfl rfl (by decide) Try.func34 rfl rfl rfl (changed_ok w A l c hl (h.m.ok 2 _ rfl) i hi x z32 hx z32_length) (fun a w hb h => ?_)
        rw [hC, hV] at h
        refine s_move h rfl _ rfl rfl (by decide) rfl (fun a h => ?_)
        refine s_ext h rfl rfl rfl (by decide) rfl rfl (fun a h => ?_)
        refine s_ext h rfl rfl rfl (by decide) rfl rfl (fun a h => ?_)
        refine s_alloc h rfl rfl rfl (by decide) zi_A32_uint8 rfl (fun a w g9 h => ?_)
        refine s_stW h rfl rfl rfl ag_A32_uint8 rfl rfl (by rfl) (by8_one _) 0 rfl (by rfl) (fun a w h => ?_)
        refine s_assign h rfl _ rfl rfl (by decide) rfl (fun a h => ?_)
        refine l_end ?_
        refine c_rs ?_ -- region 8
        refine s_move h rfl _ rfl rfl (by decide) rfl (fun a h => ?_)
        refine s_bin h rfl rfl rfl (by decide) rfl rfl (ib_eql) (fun a h => ?_)
        refine s_move h rfl _ rfl rfl (by decide) rfl (fun a h => ?_)
        apply s_and (t := 57) (d := 60) h 3 rfl
        · intro hB
          refine g_yes h rfl rfl rfl rfl hB ?_
          refine s_move h rfl _ rfl rfl (by decide) rfl (fun a h => ?_)
          refine g_yes h rfl rfl rfl rfl hB ?_
          refine s_bin h rfl rfl rfl (by decide) rfl rfl (ib_eql) (fun a h => ?_)
          refine s_pick h rfl rfl rfl (by decide) rfl (fun _ => rfl) (fun hh => absurd (hB.symm.trans hh) (by decide)) (fun a h => ?_)
          exact h.has (by repeat (first | exact trivial | refine ⟨rfl, ?_⟩))
        · intro hB
          refine g_no h rfl rfl rfl rfl hB rfl (by decide) (fun a h => ?_)
          refine g_no h rfl rfl rfl rfl hB rfl (by decide) (fun a h => ?_)
          refine s_pick h rfl rfl rfl (by decide) rfl (fun hh => absurd (hB.symm.trans hh) (by decide)) (fun _ => rfl) (fun a h => ?_)
          exact h.has (by repeat (first | exact trivial | refine ⟨rfl, ?_⟩))
        intro a w h
        refine s_move h rfl _ rfl rfl (by decide) rfl (fun a h => ?_)
        apply s_and (t := 61) (d := 65) h 4 rfl
        · intro hB
          refine g_yes h rfl rfl rfl rfl hB ?_
          refine s_move h rfl _ rfl rfl (by decide) rfl (fun a h => ?_)
          refine g_yes h rfl rfl rfl rfl hB ?_
          refine s_len h rfl rfl rfl (by decide) Try.underlying39 rfl (fun a h => ?_)
          refine g_yes h rfl rfl rfl rfl hB ?_
          refine s_bin h rfl rfl rfl (by decide) rfl rfl (ib_eql) (fun a h => ?_)
          refine s_pick h rfl rfl rfl (by decide) rfl (fun _ => rfl) (fun hh => absurd (hB.symm.trans hh) (by decide)) (fun a h => ?_)
          exact h.has (by repeat (first | exact trivial | refine ⟨rfl, ?_⟩))
        · intro hB
          refine g_no h rfl rfl rfl rfl hB rfl (by decide) (fun a h => ?_)
          refine g_no h rfl rfl rfl rfl hB rfl (by decide) (fun a h => ?_)
          refine g_no h rfl rfl rfl rfl hB rfl (by decide) (fun a h => ?_)
          refine s_pick h rfl rfl rfl (by decide) rfl (fun hh => absurd (hB.symm.trans hh) (by decide)) (fun _ => rfl) (fun a h => ?_)
          exact h.has (by repeat (first | exact trivial | refine ⟨rfl, ?_⟩))
        intro a w h
        refine s_assign h rfl _ rfl rfl (by decide) rfl (fun a h => ?_)
        refine l_end ?_
        refine wp_ret ?_
        refine e_thenR ?_
        exact r_ret1 h rfl (rv_tmp h rfl) ⟨rfl, h.m.below⟩
      · have hok : inOk l.length i := by
          simp only [Bool.or_eq_false_iff, decide_eq_false_iff_not] at hb
          exact ⟨⟨by omega, by omega⟩, by omega, by omega⟩
        have hok' := hok
        obtain ⟨⟨h1, h2⟩, h3, h4⟩ := hok'
        obtain ⟨i0, rfl⟩ : ∃ n : Nat, i = (n : Int) := ⟨i.toNat, by omega⟩
        have hi0 : i0 < l.length := by omega
        have hwv : wayV l (i0 : Int) = wayS l i0 := by unfold wayV; rw [if_pos hok, Int.toNat_natCast]
        have hE : errV (inOk l.length (i0 : Int)) = 0 := by unfold errV; rw [if_pos hok]
        rw [hwv, hE] at h
        rw [hwv] at hws
        have hwk := way_in hok
        have hwl := wayS_length l i0
        have ho32 := hl.at hi0
        obtain ⟨b, off, hA⟩ := hr.addr (by rw [by8_length, flat_len hl]; omega)
        subst hA
        have hro := rootS_length hl
        have hro2 := rootS_length (hl.set i0 hx)
        have hlt2 := lg_lt l.length (by omega)
        have hlg12 := lg_le l.length (by omega) h2
        have hsl : (l.set i0 x).length = l.length := List.length_set
        have hal : alongV l[i0] (i0 : Int) (wayS l i0) = rootS l := by unfold alongV; rw [if_pos hwk, Int.toNat_natCast]; exact along_own l i0 hi0
        have hew : errV (wayOk (i0 : Int) (wayS l i0).length) = 0 := by unfold errV; rw [if_pos hwk]
        have hV1 : chgV l (i0 : Int) x (rootS l) = rootS (l.set i0 x) := by unfold chgV; rw [if_pos ⟨hok, rfl⟩, Int.toNat_natCast]
        have hE1 : chgE l (i0 : Int) (rootS l) = 0 := by unfold chgE; rw [if_pos hok, if_pos rfl]
        have hb32 : (badS (rootS l)).length = 32 := by unfold badS; rw [List.length_set]; exact hro
        have hE2 : chgE l (i0 : Int) (badS (rootS l)) = 21 := by unfold chgE; rw [if_pos hok, if_neg (badS_ne _ hro)]
        have hV2 : (chgV l (i0 : Int) x (badS (rootS l))).length = 32 := by unfold chgV; split <;> first | exact rootS_length (hl.set _ hx) | exact z32_length
        refine wp_skip ?_
        refine e_thenN ?_
        refine c_rs ?_ -- region 9
        refine s_move h rfl _ rfl rfl (by decide) rfl (fun a h => ?_)
        refine s_len h rfl rfl rfl (by decide) Try.underlying39 rfl (fun a h => ?_)
        refine s_callB h rfl rfl rfl (by decide) Try.func25 rfl rfl rfl (rwide_ok _ l.length h1 (by omega)) (fun a w hb h => ?_)
        refine s_move h rfl _ rfl rfl (by decide) rfl (fun a h => ?_)
        refine s_assign h rfl _ rfl rfl (by decide) rfl (fun a h => ?_)
        refine s_assign h rfl _ rfl rfl (by decide) rfl (fun a h => ?_)
        refine l_end ?_
        refine c_rs ?_ -- region 10
        refine s_assign h rfl _ rfl rfl (by decide) rfl (fun a h => ?_)
        refine l_end ?_
        refine wp_seq ?_
        refine c_rs ?_ -- region 11
        refine s_assign h rfl _ rfl rfl (by decide) rfl (fun a h => ?_)
        obtain ⟨M, hM⟩ : ∃ M, M = 2 ^ lg l.length := ⟨_, rfl⟩
        have hM32 : M < 32 := by omega
        have hiM : i0 < M := by have := le_lg l.length (by omega); omega
        rw [← hM] at h
        refine l_end ?_
        refine wp_block ?_
        refine c_loop (fun m a w => ∃ (e Me k : Nat), Me = 2 ^ e ∧ k = i0 / 2 ^ e ∧ e + m = lg l.length ∧ St 169 w0 (fun _ => False) [(0, .slice (some ⟨b, off, none⟩) l.length c), (1, .int .i64 (i0 : Int)), (5, .pointer (some ⟨g5, 0, none⟩)), (7, .slice Aw (wayS l i0).length cw), (8, .int .i64 0), (11, .int .i64 (M : Int)), (12, .int .i64 (k : Int)), (13, .int .i64 (e : Int)), (14, .int .i64 (Me : Int))] [.row (.slice Aw (wayS l i0).length cw) 40 32 (wayS l i0).length (by8 (wayS l i0).flatten), .box g5 40 (by8 x), .ro (rdP (some ⟨b, off, none⟩) (by8 l.flatten))] a w) (lg l.length) ⟨0, 1, i0, rfl, by simp, by omega, h.has (by exact ⟨rfl, rfl, rfl, rfl, rfl, rfl, rfl, rfl, rfl, trivial⟩)⟩ (fun m a w hI => ?_)
        obtain ⟨e, Me, k, hMe, hkk, hem, h⟩ := hI
        have hMe0 : 0 < Me := by rw [hMe]; exact Nat.pow_pos (by decide)
        refine wp_seq ?_
        refine c_rs ?_ -- region 12
        refine s_move h rfl _ rfl rfl (by decide) rfl (fun a h => ?_)
        refine s_move h rfl _ rfl rfl (by decide) rfl (fun a h => ?_)
        refine s_bin h rfl rfl rfl (by decide) rfl rfl (ib_lss) (fun a h => ?_)
        refine l_end ?_
        refine c_cond h rfl (fun hb => ?_) (fun hb => ?_)
        · have hMM : Me < M := by have := of_decide_eq_true hb; omega
          have hlt : e < lg l.length := by
            rcases Nat.lt_or_ge e (lg l.length) with h3 | h3
            · exact h3
            · have : 2 ^ lg l.length ≤ 2 ^ e := Nat.pow_le_pow_right (by decide) h3
              omega
          obtain ⟨D, hD⟩ : ∃ D, D = lg l.length - e - 1 := ⟨_, rfl⟩
          have hDM : 2 ^ (D + 1) * Me = M := by rw [hMe, hM, ← Nat.pow_add]; congr 1; omega
          have hkD : k < 2 ^ (D + 1) := by
            rw [hkk, Nat.div_lt_iff_lt_mul (by rw [← hMe]; exact hMe0), ← hMe, hDM]; exact hiM
          have hsD := sib_lt k D hkD
          have hsM : sib k * Me + Me ≤ M := by
            have : (sib k + 1) * Me ≤ 2 ^ (D + 1) * Me := Nat.mul_le_mul_right _ hsD
            rw [Nat.add_mul, Nat.one_mul] at this; omega
          have hk32 : k < 4096 := by
            have : k * 1 ≤ k * Me := Nat.mul_le_mul_left _ hMe0
            have h5 : k * Me ≤ 2 ^ (D + 1) * Me := Nat.mul_le_mul_right _ (by omega)
            omega
          obtain ⟨gw, cw', ew, _, _⟩ := h.m.rowAt (i := 0) rfl (by omega)
          cases ew
          have hewl : e < (wayS l i0).length := by omega
          have hwe := way_node l i0 e hi0 hewl
          rw [← hkk, ← hMe] at hwe
          have hnl := nodeS_length hl e (sib k * Me)
          have hwe32 := hws.at hewl
          refine wp_skip ?_
          refine e_thenN ?_
          refine wp_seq ?_
          refine wp_block ?_
          refine wp_seq ?_
          refine wp_seq ?_
          -- region 14 DRAWS
          refine c_fin (fun a w => St 169 w0 (fun _ => False) [(92, .bool false), (0, .slice (some ⟨b, off, none⟩) l.length c), (1, .int .i64 (i0 : Int)), (5, .pointer (some ⟨g5, 0, none⟩)), (7, .slice (some ⟨gw, 0, none⟩) (wayS l i0).length cw), (8, .int .i64 0), (11, .int .i64 (M : Int)), (12, .int .i64 (k : Int)), (13, .int .i64 (e : Int)), (14, .int .i64 (Me : Int))] [.row (.slice (some ⟨gw, 0, none⟩) (wayS l i0).length cw) 40 32 (wayS l i0).length (by8 (wayS l i0).flatten), .box g5 40 (by8 x), .ro (rdP (some ⟨b, off, none⟩) (by8 l.flatten))] a w) ?_ (fun a w h => ?_)
          · refine d_start h (Mem _ _ _) 18 18 rfl (by kernel_rfl) (fun _ _ _ _ _ h => h) (fun _ h => h) (fun Q a w HE HN h HS => ?_)
            refine d_takeP h (fun _ => HS) HN 0 rfl (by kernel_rfl) (by kernel_rfl) (by kernel_rfl) (by decide) rfl rfl (by decide) (fun w' => x_move h.k _ rfl rfl) (fun a h => ?_)
            refine d_takeP h (fun _ => HS) HN 1 rfl (by kernel_rfl) (by kernel_rfl) (by kernel_rfl) (by decide) rfl rfl (by decide) (fun w' => x_move h.k _ rfl rfl) (fun a h => ?_)
            refine d_takeP h (fun _ => HS) HN 2 rfl (by kernel_rfl) (by kernel_rfl) (by kernel_rfl) (by decide) rfl rfl (by decide) (fun w' => x_len h.k rfl Try.underlying39 rfl) (fun a h => ?_)
            refine d_takeP h (fun _ => HS) HN 3 rfl (by kernel_rfl) (by kernel_rfl) (by kernel_rfl) (by decide) rfl rfl (by decide) (fun w' => x_bin h.k rfl rfl rfl (ib_geq)) (fun a h => ?_)
            refine d_takeP h (fun _ => HS) HN 4 rfl (by kernel_rfl) (by kernel_rfl) (by kernel_rfl) (by decide) rfl rfl (by decide) (fun w' => x_move h.k _ rfl rfl) (fun a h => ?_)
            refine d_split (t := 79) h rfl (fun hB4 => ?_) (fun hB4 => ?_)
            · exact absurd (of_decide_eq_true hB4) (by omega)
            · refine d_takeP h (fun _ => HS) HN 5 rfl (by kernel_rfl) (by kernel_rfl) (by kernel_rfl) (by decide) (by rw [g_want h rfl rfl rfl rfl hB4]; rfl) rfl (by decide) (fun w' => x_move h.k _ rfl rfl) (fun a h => ?_)
              refine d_takeP h (fun _ => HS) HN 6 rfl (by kernel_rfl) (by kernel_rfl) (by kernel_rfl) (by decide) (by rw [g_want h rfl rfl rfl rfl hB4]; rfl) rfl (by decide) (fun w' => x_move h.k _ rfl rfl) (fun a h => ?_)
              refine d_takeP h (fun _ => HS) HN 7 rfl (by kernel_rfl) (by kernel_rfl) (by kernel_rfl) (by decide) (by rw [g_want h rfl rfl rfl rfl hB4]; rfl) rfl (by decide) (fun w' => x_iaddr h.k rfl Try.underlying39 sz_A32_uint8 rfl rfl (m := e) (by omega) (by omega) (r := e * 32) (by omega)) (fun a h => ?_)
              refine d_takeY h HS HN 8 rfl (by kernel_rfl) (by kernel_rfl) (by kernel_rfl) (by kernel_rfl) (by kernel_rfl) (by rw [g_want h rfl rfl rfl rfl hB4]; rfl) rfl (by decide) (fun w' hw => x_ldR h.k rfl ag_A32_uint8 rfl (by8 (wayS l i0)[e]) (by rw [by8_length, hwe32]) (by have := Rd.sum hws (hw.rdRowA (i := 0) rfl) hewl; rwa [Nat.zero_add] at this)) (fun a h => ?_)
              refine d_takeP h (fun _ => HS) HN 9 rfl (by kernel_rfl) (by kernel_rfl) (by kernel_rfl) (by decide) (by rw [g_want h rfl rfl rfl rfl hB4]; rfl) rfl (by decide) (fun w' => x_move h.k _ rfl rfl) (fun a h => ?_)
              refine d_takeP h (fun _ => HS) HN 10 rfl (by kernel_rfl) (by kernel_rfl) (by kernel_rfl) (by decide) (by rw [g_want h rfl rfl rfl rfl hB4]; rfl) rfl (by decide) (fun w' => x_move h.k _ rfl rfl) (fun a h => ?_)
              refine d_takeP h (fun _ => HS) HN 11 rfl (by kernel_rfl) (by kernel_rfl) (by kernel_rfl) (by decide) (by rw [g_want h rfl rfl rfl rfl hB4]; rfl) rfl (by decide) (fun w' => x_bin h.k rfl rfl rfl (ib_xor (xor_one _ hk32))) (fun a h => ?_)
              refine d_takeP h (fun _ => HS) HN 12 rfl (by kernel_rfl) (by kernel_rfl) (by kernel_rfl) (by decide) (by rw [g_want h rfl rfl rfl rfl hB4]; rfl) rfl (by decide) (fun w' => x_move h.k _ rfl rfl) (fun a h => ?_)
              refine d_takeP h (fun _ => HS) HN 13 rfl (by kernel_rfl) (by kernel_rfl) (by kernel_rfl) (by decide) (by rw [g_want h rfl rfl rfl rfl hB4]; rfl) rfl (by decide) (fun w' => x_bin h.k rfl rfl rfl (ib_mul (mulN _ _ (by omega)))) (fun a h => ?_)
              refine d_takeP h (fun _ => HS) HN 14 rfl (by kernel_rfl) (by kernel_rfl) (by kernel_rfl) (by decide) (by rw [g_want h rfl rfl rfl rfl hB4]; rfl) rfl (by decide) (fun w' => x_move h.k _ rfl rfl) (fun a h => ?_)
              refine d_alone 15 rfl (by kernel_rfl) (fun K hK => ?_)
              refine g_yes (j := 4) (t := 79) h rfl rfl rfl rfl hB4 ?_
              refine s_callB h rfl rfl rfl (by decide) Try.func26 rfl rfl rfl (rnode_ok l hl (some ⟨b, off, none⟩) c (by omega) e w (sib k * Me) Me hMe (h.m.ok 2 _ rfl) (by omega)) (fun a w hb h => ?_)
              refine hK _ _ (fun _ _ => HS.ext hb) ?_
              replace HS := HS.ext hb
              clear hK
              refine d_takeP h (fun _ => HS) HN 16 rfl (by kernel_rfl) (by kernel_rfl) (by kernel_rfl) (by decide) (by rw [g_want h rfl rfl rfl rfl hB4]; rfl) rfl (by decide) (fun w' => x_neA h.k rfl Try.underlying40 Try.underlying5 sz_uint8 (by kernel_rfl) rfl rfl hwe32 hnl) (fun a h => ?_)
              refine d_takeP h (fun _ => HS) HN 17 rfl (by kernel_rfl) (by kernel_rfl) (by kernel_rfl) (by decide) rfl rfl (by decide) (fun w' => x_pick (u' := undef) h.k rfl rfl (fun hh => absurd (hB4.symm.trans hh) (by decide)) (fun _ => rfl)) (fun a h => ?_)
              refine d_done (by kernel_rfl) (HE _ _ ?_) _
              rw [hwe, decide_eq_true rfl] at h
              exact h.has (by exact ⟨rfl, rfl, rfl, rfl, rfl, rfl, rfl, rfl, rfl, rfl, trivial⟩)
          refine e_thenN ?_
          refine c_cond h rfl (fun hb => ?_) (fun hb => ?_)
          · cases hb
          · refine wp_skip ?_
            refine e_thenN ?_
            refine c_rs ?_ -- region 16
            refine s_move h rfl _ rfl rfl (by decide) rfl (fun a h => ?_)
            refine s_bin h rfl rfl rfl (by decide) rfl rfl (ib_quo (by omega)) (fun a h => ?_)
            refine s_assign h rfl _ rfl rfl (by decide) rfl (fun a h => ?_)
            refine l_end ?_
            refine c_r ?_ -- region 17
            refine s_move h rfl _ rfl rfl (by decide) rfl (fun a h => ?_)
            refine s_bin h rfl rfl rfl (by decide) rfl rfl (ib_add (nw64 (by omega))) (fun a h => ?_)
            refine s_assign h rfl _ rfl rfl (by decide) rfl (fun a h => ?_)
            refine l_nil ?_
            refine e_blkN ?_
            refine e_thenN ?_
            refine c_r ?_ -- region 13
            refine s_move h rfl _ rfl rfl (by decide) rfl (fun a h => ?_)
            refine s_bin h rfl rfl rfl (by decide) rfl rfl (ib_mul (nw64 (by omega))) (fun a h => ?_)
            refine s_assign h rfl _ rfl rfl (by decide) rfl (fun a h => ?_)
            refine l_nil ?_
            exact e_thenN ⟨m - 1, by omega, e + 1, 2 * Me, k / 2, by rw [hMe, Nat.pow_succ]; omega, by rw [hkk, Nat.div_div_eq_div_mul, Nat.pow_succ], by omega, h.has (by exact ⟨rfl, rfl, rfl, rfl, rfl, rfl, rfl, rfl, by simp; omega, trivial⟩)⟩
        · have hMM : ¬ Me < M := by have := of_decide_eq_false hb; omega
          have hge : e = lg l.length := by
            rcases Nat.lt_or_ge e (lg l.length) with h3 | h3
            · have : 2 ^ (e + 1) ≤ 2 ^ lg l.length := Nat.pow_le_pow_right (by decide) h3
              rw [Nat.pow_succ] at this
              omega
            · omega
          refine wp_exit ?_
          refine e_thenX ?_
          refine e_thenX ?_
          refine e_blkX ?_
          refine e_thenN ?_
          refine c_rs ?_ -- region 18
          refine s_move h rfl _ rfl rfl (by decide) rfl (fun a h => ?_)
          refine s_move h rfl _ rfl rfl (by decide) rfl (fun a h => ?_)
          refine s_iaddr h rfl rfl rfl (by decide) Try.underlying39 sz_A32_uint8 rfl rfl (m := i0) (by omega) (by omega) (r := off + i0 * 32) (by omega) (fun a h => ?_)
          refine s_ldR h rfl rfl rfl (by decide) ag_A32_uint8 rfl (by8 l[i0]) (by rw [by8_length, ho32]) (Rd.sum hl (h.m.ok 2 _ rfl) hi0) (fun a h => ?_)
          refine s_move h rfl _ rfl rfl (by decide) rfl (fun a h => ?_)
          refine s_move h rfl _ rfl rfl (by decide) rfl (fun a h => ?_)
          refine s_callB h rfl rfl rfl (by decide) Try.func29 rfl rfl rfl (along_ok w l[i0] ho32 i0 hi Aw (wayS l i0) cw hws (h.m.rdRowA (i := 0) rfl)) (fun a w hb h => ?_)
          rw [hal, hew] at h
          refine s_move h rfl _ rfl rfl (by decide) rfl (fun a h => ?_)
          refine s_ext h rfl rfl rfl (by decide) rfl rfl (fun a h => ?_)
          refine s_ext h rfl rfl rfl (by decide) rfl rfl (fun a h => ?_)
          refine s_alloc h rfl rfl rfl (by decide) zi_A32_uint8 rfl (fun a w g15 h => ?_)
          refine s_stW h rfl rfl rfl ag_A32_uint8 rfl rfl (by rw [by8_length, hro]) (by8_one _) 0 rfl (by rfl) (fun a w h => ?_)
          refine s_assign h rfl _ rfl rfl (by decide) rfl (fun a h => ?_)
          refine l_end ?_
          refine c_rs ?_ -- region 19
          refine s_bslice0 h rfl rfl rfl (by decide) Try.underlying39 sz_A32_uint8 (fun a w g107 h => ?_)
          refine s_move h rfl _ rfl rfl (by decide) rfl (fun a h => ?_)
          refine s_append h rfl rfl rfl (by decide) Try.underlying39 zb_A32_uint8 rfl (by decide) rfl 0 rfl rfl (by8 l.flatten) (by rw [by8_length, flat_len hl]) (h.m.ok 4 _ rfl) (by8_one _) (by omega) (by unfold maxLen; omega) (fun a w v109 h => ?_)
          refine s_assign h rfl _ rfl rfl (by decide) rfl (fun a h => ?_)
          rw [List.nil_append, Nat.zero_add] at h
          obtain ⟨gn, cn, J, rfl, hcn, hcn2, hmb⟩ := h.m.rowBox (i := 0) rfl (by omega)
          have h := h.mem hmb
          refine l_end ?_
          refine c_rs ?_ -- region 20
          refine s_move h rfl _ rfl rfl (by decide) rfl (fun a h => ?_)
          refine s_move h rfl _ rfl rfl (by decide) rfl (fun a h => ?_)
          refine s_ldW h rfl rfl rfl (by decide) ag_A32_uint8 rfl 3 rfl (by rw [by8_length, hx]) (fun a h => ?_)
          refine s_iaddr h rfl rfl rfl (by decide) Try.underlying39 sz_A32_uint8 rfl rfl (m := i0) (by omega) (by omega) (r := i0 * 32) (by omega) (fun a h => ?_)
          refine s_stA h rfl rfl rfl ag_A32_uint8 rfl rfl (by rw [by8_length, hx]) (by8_one _) 0 rfl (by rw [List.length_append, by8_length, flat_len hl]; omega) (fun a w h => ?_)
          have h : St 169 w0 (fun _ => False) _ [.box gn 40 (by8 (l.set i0 x).flatten ++ J), _, _, _, _] a w := h.parts (by
            have := junk_set hl J hi0 hx
            rw [this]; rfl)
          refine l_end ?_
          refine wp_seq ?_
          -- region 21 DRAWS
          refine c_fin (fun a w => ∃ g18, St 169 w0 (fun _ => False) [(0, .slice (some ⟨b, off, none⟩) l.length c), (1, .int .i64 (i0 : Int)), (5, .pointer (some ⟨g5, 0, none⟩)), (7, .slice Aw (wayS l i0).length cw), (8, .int .i64 0), (13, .int .i64 (e : Int)), (15, .pointer (some ⟨g15, 0, none⟩)), (16, .int .i64 0), (17, .slice (some ⟨gn, 0, none⟩) l.length cn), (18, .pointer (some ⟨g18, 0, none⟩)), (19, .int .i64 0)] [.box g18 40 (by8 (rootS (l.set i0 x))), .box gn 40 (by8 (l.set i0 x).flatten ++ J), .box g15 40 (by8 (rootS l)), .box g5 40 (by8 x), .ro (rdP (some ⟨b, off, none⟩) (by8 l.flatten))] a w) ?_ (fun a w h => ?_)
          · refine d_start h (Mem _ _ _) 10 12 rfl (by kernel_rfl) (fun _ _ _ _ _ h => h) (fun _ h => h) (fun Q a w HE HN h HS => ?_)
            refine d_takeP h (fun _ => HS) HN 0 rfl (by kernel_rfl) (by kernel_rfl) (by kernel_rfl) (by decide) rfl rfl (by decide) (fun w' => x_move h.k _ rfl rfl) (fun a h => ?_)
            refine d_takeP h (fun _ => HS) HN 1 rfl (by kernel_rfl) (by kernel_rfl) (by kernel_rfl) (by decide) rfl rfl (by decide) (fun w' => x_move h.k _ rfl rfl) (fun a h => ?_)
            refine d_take h HS HN 2 rfl (by kernel_rfl) (by kernel_rfl) (by kernel_rfl) (by kernel_rfl) (by kernel_rfl) rfl rfl (by decide) (fun w' hw => x_ldR h.k rfl ag_A32_uint8 rfl (by8 x) (by rw [by8_length, hx]) (hw.range0 (i := 3) rfl)) (fun a h => ?_)
            refine d_takeP h (fun _ => HS) HN 3 rfl (by kernel_rfl) (by kernel_rfl) (by kernel_rfl) (by decide) rfl rfl (by decide) (fun w' => x_move h.k _ rfl rfl) (fun a h => ?_)
            refine d_two 4 9 (by kernel_rfl) (d_one 4 rfl _ (fun K hK => ?_)) (d_one 9 rfl _ (fun K hK => ?_))
            · refine s_callB h rfl rfl rfl (by decide) Try.func32 rfl rfl rfl (rroot_ok w (some ⟨b, off, none⟩) l c hl (by first | exact h.m.ok 4 _ rfl | exact h.m.ok 5 _ rfl) h1 h2) (fun a w hb h => ?_)
              refine hK _ _ ⟨fun _ _ => HS.ext hb, ?_⟩
              replace HS := HS.ext hb
              clear hK
              refine d_two 5 9 (by kernel_rfl) (d_one 5 rfl _ (fun K hK => ?_)) (d_one 9 rfl _ (fun K hK => ?_))
              · refine s_callB h rfl rfl rfl (by decide) Try.func34 rfl rfl rfl (changed_ok w (some ⟨b, off, none⟩) l c hl (by first | exact h.m.ok 4 _ rfl | exact h.m.ok 5 _ rfl) i0 hi x (rootS l) hx hro) (fun a w hb h => ?_)
                rw [hV1, hE1] at h
                refine hK _ _ ⟨fun _ _ => HS.ext hb, ?_⟩
                replace HS := HS.ext hb
                clear hK
                refine d_takeP h (fun _ => HS) HN 6 rfl (by kernel_rfl) (by kernel_rfl) (by kernel_rfl) (by decide) rfl rfl (by decide) (fun w' => x_move h.k _ rfl rfl) (fun a h => ?_)
                refine d_takeP h (fun _ => HS) HN 7 rfl (by kernel_rfl) (by kernel_rfl) (by kernel_rfl) (by decide) rfl rfl (by decide) (fun w' => x_ext h.k rfl rfl rfl) (fun a h => ?_)
                refine d_takeP h (fun _ => HS) HN 8 rfl (by kernel_rfl) (by kernel_rfl) (by kernel_rfl) (by decide) rfl rfl (by decide) (fun w' => x_ext h.k rfl rfl rfl) (fun a h => ?_)
                refine d_alone 9 rfl (by kernel_rfl) (fun K hK => ?_)
                refine s_alloc h rfl rfl rfl (by decide) zi_A32_uint8 rfl (fun a w g18 h => ?_)
                replace HS := h.m.tail
                refine hK _ _ (fun _ _ => HS) ?_
                clear hK
                refine d_alone 10 rfl (by kernel_rfl) (fun K hK => ?_)
                refine s_stW h rfl rfl rfl ag_A32_uint8 rfl rfl (by rw [by8_length, hro2]) (by8_one _) 0 rfl (by rfl) (fun a w h => ?_)
                refine hK _ _ (fun hne _ => absurd rfl hne) ?_
                clear hK
                refine d_takeP h (fun hl => absurd hl (by decide)) HN 11 rfl (by kernel_rfl) (by kernel_rfl) (by kernel_rfl) (by decide) rfl rfl (by decide) (fun w' => x_assign h.k _ rfl rfl) (fun a h => ?_)
                refine d_done (by kernel_rfl) (HE _ _ ?_) _
                exact ⟨g18, (h.pick [0, 1, 2, 4, 5] (by decide) rfl).has (by exact ⟨rfl, rfl, rfl, rfl, rfl, rfl, rfl, rfl, rfl, rfl, rfl, trivial⟩)⟩
              · refine s_alloc h rfl rfl rfl (by decide) zi_A32_uint8 rfl (fun a w g18 h => ?_)
                replace HS := h.m.tail
                refine hK _ _ ⟨fun _ _ => HS, ?_⟩
                clear hK
                refine d_alone 5 rfl (by kernel_rfl) (fun K hK => ?_)
                refine s_callB h rfl rfl rfl (by decide) Try.func34 rfl rfl rfl (changed_ok w (some ⟨b, off, none⟩) l c hl (by first | exact h.m.ok 4 _ rfl | exact h.m.ok 5 _ rfl) i0 hi x (rootS l) hx hro) (fun a w hb h => ?_)
                rw [hV1, hE1] at h
                refine hK _ _ (fun _ _ => HS.ext hb) ?_
                replace HS := HS.ext hb
                clear hK
                refine d_takeP h (fun _ => HS) HN 6 rfl (by kernel_rfl) (by kernel_rfl) (by kernel_rfl) (by decide) rfl rfl (by decide) (fun w' => x_move h.k _ rfl rfl) (fun a h => ?_)
                refine d_takeP h (fun _ => HS) HN 7 rfl (by kernel_rfl) (by kernel_rfl) (by kernel_rfl) (by decide) rfl rfl (by decide) (fun w' => x_ext h.k rfl rfl rfl) (fun a h => ?_)
                refine d_takeP h (fun _ => HS) HN 8 rfl (by kernel_rfl) (by kernel_rfl) (by kernel_rfl) (by decide) rfl rfl (by decide) (fun w' => x_ext h.k rfl rfl rfl) (fun a h => ?_)
                refine d_alone 10 rfl (by kernel_rfl) (fun K hK => ?_)
                refine s_stW h rfl rfl rfl ag_A32_uint8 rfl rfl (by rw [by8_length, hro2]) (by8_one _) 0 rfl (by rfl) (fun a w h => ?_)
                refine hK _ _ (fun hne _ => absurd rfl hne) ?_
                clear hK
                refine d_takeP h (fun hl => absurd hl (by decide)) HN 11 rfl (by kernel_rfl) (by kernel_rfl) (by kernel_rfl) (by decide) rfl rfl (by decide) (fun w' => x_assign h.k _ rfl rfl) (fun a h => ?_)
                refine d_done (by kernel_rfl) (HE _ _ ?_) _
                exact ⟨g18, (h.pick [0, 1, 2, 4, 5] (by decide) rfl).has (by exact ⟨rfl, rfl, rfl, rfl, rfl, rfl, rfl, rfl, rfl, rfl, rfl, trivial⟩)⟩
            · refine s_alloc h rfl rfl rfl (by decide) zi_A32_uint8 rfl (fun a w g18 h => ?_)
              replace HS := h.m.tail
              refine hK _ _ ⟨fun _ _ => HS, ?_⟩
              clear hK
              refine d_alone 4 rfl (by kernel_rfl) (fun K hK => ?_)
              refine s_callB h rfl rfl rfl (by decide) Try.func32 rfl rfl rfl (rroot_ok w (some ⟨b, off, none⟩) l c hl (by first | exact h.m.ok 4 _ rfl | exact h.m.ok 5 _ rfl) h1 h2) (fun a w hb h => ?_)
              refine hK _ _ (fun _ _ => HS.ext hb) ?_
              replace HS := HS.ext hb
              clear hK
              refine d_alone 5 rfl (by kernel_rfl) (fun K hK => ?_)
              refine s_callB h rfl rfl rfl (by decide) Try.func34 rfl rfl rfl (changed_ok w (some ⟨b, off, none⟩) l c hl (by first | exact h.m.ok 4 _ rfl | exact h.m.ok 5 _ rfl) i0 hi x (rootS l) hx hro) (fun a w hb h => ?_)
              rw [hV1, hE1] at h
              refine hK _ _ (fun _ _ => HS.ext hb) ?_
              replace HS := HS.ext hb
              clear hK
              refine d_takeP h (fun _ => HS) HN 6 rfl (by kernel_rfl) (by kernel_rfl) (by kernel_rfl) (by decide) rfl rfl (by decide) (fun w' => x_move h.k _ rfl rfl) (fun a h => ?_)
              refine d_takeP h (fun _ => HS) HN 7 rfl (by kernel_rfl) (by kernel_rfl) (by kernel_rfl) (by decide) rfl rfl (by decide) (fun w' => x_ext h.k rfl rfl rfl) (fun a h => ?_)
              refine d_takeP h (fun _ => HS) HN 8 rfl (by kernel_rfl) (by kernel_rfl) (by kernel_rfl) (by decide) rfl rfl (by decide) (fun w' => x_ext h.k rfl rfl rfl) (fun a h => ?_)
              refine d_alone 10 rfl (by kernel_rfl) (fun K hK => ?_)
              refine s_stW h rfl rfl rfl ag_A32_uint8 rfl rfl (by rw [by8_length, hro2]) (by8_one _) 0 rfl (by rfl) (fun a w h => ?_)
              refine hK _ _ (fun hne _ => absurd rfl hne) ?_
              clear hK
              refine d_takeP h (fun hl => absurd hl (by decide)) HN 11 rfl (by kernel_rfl) (by kernel_rfl) (by kernel_rfl) (by decide) rfl rfl (by decide) (fun w' => x_assign h.k _ rfl rfl) (fun a h => ?_)
              refine d_done (by kernel_rfl) (HE _ _ ?_) _
              exact ⟨g18, (h.pick [0, 1, 2, 4, 5] (by decide) rfl).has (by exact ⟨rfl, rfl, rfl, rfl, rfl, rfl, rfl, rfl, rfl, rfl, rfl, trivial⟩)⟩
          obtain ⟨g18, h⟩ := h
          refine e_thenN ?_
          refine c_rs ?_ -- region 22
          refine s_move h rfl _ rfl rfl (by decide) rfl (fun a h => ?_)
          refine s_callB h rfl rfl rfl (by decide) Try.func32 rfl rfl rfl (rroot_ok w (some ⟨b, off, none⟩) l c hl (h.m.ok 4 _ rfl) h1 h2) (fun a w hb h => ?_)
          refine s_alloc h rfl rfl rfl (by decide) zi_A32_uint8 rfl (fun a w g20 h => ?_)
          refine s_stW h rfl rfl rfl ag_A32_uint8 rfl rfl (by rw [by8_length, hro]) (by8_one _) 0 rfl (by rfl) (fun a w h => ?_)
          have hv0 := by8_getD (rootS l) 0 (by omega)
          refine l_end ?_
          refine c_rs ?_ -- region 23
          refine s_iaddrA h rfl rfl rfl (by decide) Try.underlying40 sz_uint8 rfl rfl (m := 0) rfl (by decide) (r := 0) (by omega) (fun a h => ?_)
          refine s_ldb h rfl rfl rfl (by decide) Try.underlying5 rfl rfl 0 rfl (hv0) (fun a h => ?_)
          refine s_bin h rfl rfl rfl (by decide) rfl rfl (ib_add (plus_u8 _)) (fun a h => ?_)
          refine s_iaddrA h rfl rfl rfl (by decide) Try.underlying40 sz_uint8 rfl rfl (m := 0) rfl (by decide) (r := 0) (by omega) (fun a h => ?_)
          refine s_stb h rfl rfl rfl sz_uint8 rfl rfl rfl 0 rfl (by rw [by8_length]; omega) (fun a w h => ?_)
          rw [by8_set] at h
          refine l_end ?_
          refine c_rs ?_ -- region 24
          refine s_move h rfl _ rfl rfl (by decide) rfl (fun a h => ?_)
          refine s_move h rfl _ rfl rfl (by decide) rfl (fun a h => ?_)
          refine s_ldW h rfl rfl rfl (by decide) ag_A32_uint8 rfl 4 rfl (by rw [by8_length, hx]) (fun a h => ?_)
          refine s_ldW h rfl rfl rfl (by decide) ag_A32_uint8 rfl 0 (cs := by8 (badS (rootS l))) rfl (by rw [by8_length, hb32]) (fun a h => ?_)
          refine s_callB h rfl rfl rfl (by decide) Try.func34 rfl rfl rfl (changed_ok w (some ⟨b, off, none⟩) l c hl (h.m.ok 5 _ rfl) i0 hi x (badS (rootS l)) hx hb32) (fun a w hb h => ?_)
          rw [hE2] at h
          refine s_move h rfl _ rfl rfl (by decide) rfl (fun a h => ?_)
          refine s_ext h rfl rfl rfl (by decide) rfl rfl (fun a h => ?_)
          refine s_ext h rfl rfl rfl (by decide) rfl rfl (fun a h => ?_)
          refine s_alloc h rfl rfl rfl (by decide) zi_A32_uint8 rfl (fun a w g21 h => ?_)
          refine s_stW h rfl rfl rfl ag_A32_uint8 rfl rfl (by rw [by8_length, hV2]) (by8_one _) 0 rfl (by rfl) (fun a w h => ?_)
          refine s_assign h rfl _ rfl rfl (by decide) rfl (fun a h => ?_)
          rw [show (e : Int) = ((wayS l i0).length : Int) by omega] at h
          have hset32 := hl.set i0 hx
          refine l_end ?_
          refine wp_seq ?_
          -- region 25 DRAWS
          refine c_fin (fun a w => St 169 w0 (fun _ => False) [(6, .bool true)] [] a w) ?_ (fun a w h => ?_)
          · refine d_start h (Mem _ _ _) 33 33 rfl (by kernel_rfl) (fun _ _ _ _ _ h => h) (fun _ h => h) (fun Q a w HE HN h HS => ?_)
            refine d_takeP h (fun _ => HS) HN 0 rfl (by kernel_rfl) (by kernel_rfl) (by kernel_rfl) (by decide) rfl rfl (by decide) (fun w' => x_move h.k _ rfl rfl) (fun a h => ?_)
            refine d_takeP h (fun _ => HS) HN 1 rfl (by kernel_rfl) (by kernel_rfl) (by kernel_rfl) (by decide) rfl rfl (by decide) (fun w' => x_bin h.k rfl rfl rfl (ib_eql)) (fun a h => ?_)
            refine d_takeP h (fun _ => HS) HN 2 rfl (by kernel_rfl) (by kernel_rfl) (by kernel_rfl) (by decide) rfl rfl (by decide) (fun w' => x_move h.k _ rfl rfl) (fun a h => ?_)
            refine d_split (t := 139) h rfl (fun hB2 => ?_) (fun hB2 => ?_)
            · refine d_takeP h (fun _ => HS) HN 3 rfl (by kernel_rfl) (by kernel_rfl) (by kernel_rfl) (by decide) (by rw [g_want h rfl rfl rfl rfl hB2]; rfl) rfl (by decide) (fun w' => x_move h.k _ rfl rfl) (fun a h => ?_)
              refine d_takeP h (fun _ => HS) HN 4 rfl (by kernel_rfl) (by kernel_rfl) (by kernel_rfl) (by decide) (by rw [g_want h rfl rfl rfl rfl hB2]; rfl) rfl (by decide) (fun w' => x_move h.k _ rfl rfl) (fun a h => ?_)
              refine d_takeP h (fun _ => HS) HN 5 rfl (by kernel_rfl) (by kernel_rfl) (by kernel_rfl) (by decide) (by rw [g_want h rfl rfl rfl rfl hB2]; rfl) rfl (by decide) (fun w' => x_len h.k rfl Try.underlying39 rfl) (fun a h => ?_)
              refine d_takeP h (fun _ => HS) HN 6 rfl (by kernel_rfl) (by kernel_rfl) (by kernel_rfl) (by decide) (by rw [g_want h rfl rfl rfl rfl hB2]; rfl) rfl (by decide) (fun w' => x_bin h.k rfl rfl rfl (ib_eql)) (fun a h => ?_)
              refine d_takeP h (fun _ => HS) HN 7 rfl (by kernel_rfl) (by kernel_rfl) (by kernel_rfl) (by decide) rfl rfl (by decide) (fun w' => x_pick (u' := undef) h.k rfl rfl (fun _ => rfl) (fun hh => absurd (hB2.symm.trans hh) (by decide))) (fun a h => ?_)
              refine d_takeP h (fun _ => HS) HN 8 rfl (by kernel_rfl) (by kernel_rfl) (by kernel_rfl) (by decide) rfl rfl (by decide) (fun w' => x_move h.k _ rfl rfl) (fun a h => ?_)
              refine d_split (t := 145) h rfl (fun hB8 => ?_) (fun hB8 => ?_)
              · refine d_takeP h (fun _ => HS) HN 9 rfl (by kernel_rfl) (by kernel_rfl) (by kernel_rfl) (by decide) (by rw [g_want h rfl rfl rfl rfl hB8]; rfl) rfl (by decide) (fun w' => x_move h.k _ rfl rfl) (fun a h => ?_)
                refine d_takeP h (fun _ => HS) HN 10 rfl (by kernel_rfl) (by kernel_rfl) (by kernel_rfl) (by decide) (by rw [g_want h rfl rfl rfl rfl hB8]; rfl) rfl (by decide) (fun w' => x_bin h.k rfl rfl rfl (ib_eql)) (fun a h => ?_)
                refine d_takeP h (fun _ => HS) HN 11 rfl (by kernel_rfl) (by kernel_rfl) (by kernel_rfl) (by decide) rfl rfl (by decide) (fun w' => x_pick (u' := undef) h.k rfl rfl (fun _ => rfl) (fun hh => absurd (hB8.symm.trans hh) (by decide))) (fun a h => ?_)
                refine d_takeP h (fun _ => HS) HN 12 rfl (by kernel_rfl) (by kernel_rfl) (by kernel_rfl) (by decide) rfl rfl (by decide) (fun w' => x_move h.k _ rfl rfl) (fun a h => ?_)
                refine d_split (t := 149) h rfl (fun hB12 => ?_) (fun hB12 => ?_)
                · refine d_takeY h HS HN 13 rfl (by kernel_rfl) (by kernel_rfl) (by kernel_rfl) (by kernel_rfl) (by kernel_rfl) (by rw [g_want h rfl rfl rfl rfl hB12]; rfl) rfl (by decide) (fun w' hw => x_ldR h.k rfl ag_A32_uint8 rfl (by8 (rootS l)) (by rw [by8_length, hro]) (hw.range0 (i := 4) rfl)) (fun a h => ?_)
                  refine d_takeP h (fun _ => HS) HN 14 rfl (by kernel_rfl) (by kernel_rfl) (by kernel_rfl) (by decide) (by rw [g_want h rfl rfl rfl rfl hB12]; rfl) rfl (by decide) (fun w' => x_move h.k _ rfl rfl) (fun a h => ?_)
                  refine d_alone 15 rfl (by kernel_rfl) (fun K hK => ?_)
                  refine g_yes (j := 12) (t := 149) h rfl rfl rfl rfl hB12 ?_
                  refine s_callB h rfl rfl rfl (by decide) Try.func32 rfl rfl rfl (rroot_ok w (some ⟨b, off, none⟩) l c hl (h.m.ok 6 _ rfl) h1 h2) (fun a w hb h => ?_)
                  refine hK _ _ (fun _ _ => HS.ext hb) ?_
                  replace HS := HS.ext hb
                  clear hK
                  refine d_takeP h (fun _ => HS) HN 16 rfl (by kernel_rfl) (by kernel_rfl) (by kernel_rfl) (by decide) (by rw [g_want h rfl rfl rfl rfl hB12]; rfl) rfl (by decide) (fun w' => x_eqA h.k rfl Try.underlying40 Try.underlying5 sz_uint8 (by kernel_rfl) rfl rfl (by first | assumption | (rw [by8_length]; assumption) | (rw [by8_length]; rfl) | rfl | decide) (by first | assumption | (rw [by8_length]; assumption) | (rw [by8_length]; rfl) | rfl | decide)) (fun a h => ?_)
                  refine d_takeP h (fun _ => HS) HN 17 rfl (by kernel_rfl) (by kernel_rfl) (by kernel_rfl) (by decide) rfl rfl (by decide) (fun w' => x_pick (u' := undef) h.k rfl rfl (fun _ => rfl) (fun hh => absurd (hB12.symm.trans hh) (by decide))) (fun a h => ?_)
                  refine d_takeP h (fun _ => HS) HN 18 rfl (by kernel_rfl) (by kernel_rfl) (by kernel_rfl) (by decide) rfl rfl (by decide) (fun w' => x_move h.k _ rfl rfl) (fun a h => ?_)
                  refine d_split (t := 155) h rfl (fun hB18 => ?_) (fun hB18 => ?_)
                  · refine d_takeP h (fun _ => HS) HN 19 rfl (by kernel_rfl) (by kernel_rfl) (by kernel_rfl) (by decide) (by rw [g_want h rfl rfl rfl rfl hB18]; rfl) rfl (by decide) (fun w' => x_move h.k _ rfl rfl) (fun a h => ?_)
                    refine d_takeP h (fun _ => HS) HN 20 rfl (by kernel_rfl) (by kernel_rfl) (by kernel_rfl) (by decide) (by rw [g_want h rfl rfl rfl rfl hB18]; rfl) rfl (by decide) (fun w' => x_bin h.k rfl rfl rfl (ib_eql)) (fun a h => ?_)
                    refine d_takeP h (fun _ => HS) HN 21 rfl (by kernel_rfl) (by kernel_rfl) (by kernel_rfl) (by decide) rfl rfl (by decide) (fun w' => x_pick (u' := undef) h.k rfl rfl (fun _ => rfl) (fun hh => absurd (hB18.symm.trans hh) (by decide))) (fun a h => ?_)
                    refine d_takeP h (fun _ => HS) HN 22 rfl (by kernel_rfl) (by kernel_rfl) (by kernel_rfl) (by decide) rfl rfl (by decide) (fun w' => x_move h.k _ rfl rfl) (fun a h => ?_)
                    refine d_split (t := 159) h rfl (fun hB22 => ?_) (fun hB22 => ?_)
                    · refine d_takeY h HS HN 23 rfl (by kernel_rfl) (by kernel_rfl) (by kernel_rfl) (by kernel_rfl) (by kernel_rfl) (by rw [g_want h rfl rfl rfl rfl hB22]; rfl) rfl (by decide) (fun w' hw => x_ldR h.k rfl ag_A32_uint8 rfl (by8 (rootS (l.set i0 x))) (by rw [by8_length, hro2]) (hw.range0 (i := 2) rfl)) (fun a h => ?_)
                      refine d_takeP h (fun _ => HS) HN 24 rfl (by kernel_rfl) (by kernel_rfl) (by kernel_rfl) (by decide) (by rw [g_want h rfl rfl rfl rfl hB22]; rfl) rfl (by decide) (fun w' => x_move h.k _ rfl rfl) (fun a h => ?_)
                      refine d_alone 25 rfl (by kernel_rfl) (fun K hK => ?_)
                      refine g_yes (j := 22) (t := 159) h rfl rfl rfl rfl hB22 ?_
                      have hC9 := rroot_ok w (some ⟨gn, 0, none⟩) (l.set i0 x) cn hset32 (rd_pre (by have := h.m.rdBox (i := 3) rfl 0; rwa [List.drop_zero] at this)) (by omega) (by omega)
                      rw [hsl] at hC9
                      refine s_callB h rfl rfl rfl (by decide) Try.func32 rfl rfl rfl (hC9) (fun a w hb h => ?_)
                      refine hK _ _ (fun _ _ => HS.ext hb) ?_
                      replace HS := HS.ext hb
                      clear hK
                      refine d_takeP h (fun _ => HS) HN 26 rfl (by kernel_rfl) (by kernel_rfl) (by kernel_rfl) (by decide) (by rw [g_want h rfl rfl rfl rfl hB22]; rfl) rfl (by decide) (fun w' => x_eqA h.k rfl Try.underlying40 Try.underlying5 sz_uint8 (by kernel_rfl) rfl rfl (by first | assumption | (rw [by8_length]; assumption) | (rw [by8_length]; rfl) | rfl | decide) (by first | assumption | (rw [by8_length]; assumption) | (rw [by8_length]; rfl) | rfl | decide)) (fun a h => ?_)
                      refine d_takeP h (fun _ => HS) HN 27 rfl (by kernel_rfl) (by kernel_rfl) (by kernel_rfl) (by decide) rfl rfl (by decide) (fun w' => x_pick (u' := undef) h.k rfl rfl (fun _ => rfl) (fun hh => absurd (hB22.symm.trans hh) (by decide))) (fun a h => ?_)
                      refine d_takeP h (fun _ => HS) HN 28 rfl (by kernel_rfl) (by kernel_rfl) (by kernel_rfl) (by decide) rfl rfl (by decide) (fun w' => x_move h.k _ rfl rfl) (fun a h => ?_)
                      refine d_split (t := 165) h rfl (fun hB28 => ?_) (fun hB28 => ?_)
                      · refine d_takeP h (fun _ => HS) HN 29 rfl (by kernel_rfl) (by kernel_rfl) (by kernel_rfl) (by decide) (by rw [g_want h rfl rfl rfl rfl hB28]; rfl) rfl (by decide) (fun w' => x_move h.k _ rfl rfl) (fun a h => ?_)
                        refine d_takeP h (fun _ => HS) HN 30 rfl (by kernel_rfl) (by kernel_rfl) (by kernel_rfl) (by decide) (by rw [g_want h rfl rfl rfl rfl hB28]; rfl) rfl (by decide) (fun w' => x_bin h.k rfl rfl rfl (ib_eql)) (fun a h => ?_)
                        refine d_takeP h (fun _ => HS) HN 31 rfl (by kernel_rfl) (by kernel_rfl) (by kernel_rfl) (by decide) rfl rfl (by decide) (fun w' => x_pick (u' := undef) h.k rfl rfl (fun _ => rfl) (fun hh => absurd (hB28.symm.trans hh) (by decide))) (fun a h => ?_)
                        refine d_takeP h (fun _ => HS) HN 32 rfl (by kernel_rfl) (by kernel_rfl) (by kernel_rfl) (by decide) rfl rfl (by decide) (fun w' => x_assign h.k _ rfl rfl) (fun a h => ?_)
                        refine d_done (by kernel_rfl) (HE _ _ ?_) _
                        exact (h.pick [] (by decide) rfl).has (by exact ⟨rfl, trivial⟩)
                      · exact absurd hB28 (by simp)
                    · exact absurd hB22 (by decide)
                  · exact absurd hB18 (by simp)
                · exact absurd hB12 (by decide)
              · exact absurd hB8 (by simp)
            · exact absurd hB2 (by decide)
          refine e_thenN ?_
          refine wp_ret ?_
          exact r_ret1 h rfl (rv_tmp h rfl) ⟨rfl, h.m.below⟩
theorem merkleWays_ok (A : Option Addr) (l : List (List UInt8)) (cp : Nat) (i : Int) (v : Value) (x : List UInt8) (w : World) (hat : kSum.At w A l) (hc : l.length ≤ cp) (hm : cp ≤ maxLen) (hi : -9223372036854775808 ≤ i ∧ i ≤ 9223372036854775807) (hK : kSum.K w x v.cells.toList) :
    Calls Try.prog 8 #[.slice A l.length cp, .int .i64 i, v] w fun e w' => e = .returned (.bool true) ∧ Below w.heap.size w w' := by
  obtain ⟨hx, rfl⟩ := sum_in hK
  obtain ⟨hl, hr⟩ := sums_in hat
  exact merkleWays_walk w A l cp hl hr i hi x hx
end Go.Proofs.Ytlgcfnbhnpnkiaa
