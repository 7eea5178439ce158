/- The statement MerkleApart. -/
import Derived.Test.YtlgcfnbhnpnkiaaMk4
import Derived.Test.YtlgcfnbhnpnkiaaMkL
set_option linter.unusedVariables false
set_option linter.unusedSimpArgs false
namespace Go.Proofs.Ytlgcfnbhnpnkiaa
open Go.RowKit

/-- two unlike pairs with one sum -/
def foundP (a b : List (List UInt8)) (e k : Nat) : Prop := (nodeS a e k ≠ nodeS b e k ∨ nodeS a e (k + 2 ^ e) ≠ nodeS b e (k + 2 ^ e)) ∧ pairS (nodeS a e k) (nodeS a e (k + 2 ^ e)) = pairS (nodeS b e k) (nodeS b e (k + 2 ^ e))
instance (a b : List (List UInt8)) (e k : Nat) : Decidable (foundP a b e k) := by unfold foundP; infer_instance
theorem pow_split (E e : Nat) (h : e < E) : 2 ^ (E - e - 1) * (2 * 2 ^ e) = 2 ^ E := by
  rw [show 2 * 2 ^ e = 2 ^ (e + 1) by rw [Nat.pow_succ]; omega, ← Nat.pow_add]; congr 1; omega
theorem apart_law (a b : List (List UInt8)) (hlen : a.length = b.length) (h1 : 1 ≤ a.length) (hroot : rootS a = rootS b)
    (hnf : ∀ e, e < lg a.length → ∀ j, j * (2 * 2 ^ e) < 2 ^ lg a.length → ¬ foundP a b e (j * (2 * 2 ^ e))) : a = b := by
  have key : ∀ d, d ≤ lg a.length → ∀ j, j < 2 ^ d → nodeS a (lg a.length - d) (j * 2 ^ (lg a.length - d)) = nodeS b (lg a.length - d) (j * 2 ^ (lg a.length - d)) := by
    intro d
    induction d with
    | zero =>
      intro _ j hj
      obtain rfl : j = 0 := by simpa using hj
      rw [Nat.zero_mul, Nat.sub_zero, root_node a (by omega), hroot, ← root_node b (by omega), hlen]
    | succ d ih =>
      intro hd j hj
      obtain ⟨e, he⟩ : ∃ e, e = lg a.length - (d + 1) := ⟨_, rfl⟩
      have he1 : lg a.length - d = e + 1 := by omega
      have hp := ih (by omega) (j / 2) (by rw [Nat.pow_succ] at hj; omega)
      rw [he1] at hp
      rw [← he]
      have hK : j / 2 * 2 ^ (e + 1) = j / 2 * (2 * 2 ^ e) := by rw [Nat.pow_succ, Nat.mul_comm 2]
      rw [hK] at hp
      have hlt : j / 2 * (2 * 2 ^ e) < 2 ^ lg a.length := by
        have h2 := pow_split (lg a.length) e (by omega)
        rw [← h2, show lg a.length - e - 1 = d by omega]
        refine (Nat.mul_lt_mul_right (by have : 0 < 2 ^ e := Nat.pow_pos (by decide); omega)).2 ?_
        rw [Nat.pow_succ] at hj; omega
      have hn := hnf e (by omega) (j / 2) hlt
      have hs : pairS (nodeS a e (j / 2 * (2 * 2 ^ e))) (nodeS a e (j / 2 * (2 * 2 ^ e) + 2 ^ e)) = pairS (nodeS b e (j / 2 * (2 * 2 ^ e))) (nodeS b e (j / 2 * (2 * 2 ^ e) + 2 ^ e)) := hp
      have h3 : nodeS a e (j / 2 * (2 * 2 ^ e)) = nodeS b e (j / 2 * (2 * 2 ^ e)) := Classical.byContradiction fun hh => hn ⟨.inl hh, hs⟩
      have h4 : nodeS a e (j / 2 * (2 * 2 ^ e) + 2 ^ e) = nodeS b e (j / 2 * (2 * 2 ^ e) + 2 ^ e) := Classical.byContradiction fun hh => hn ⟨.inr hh, hs⟩
      rcases Nat.mod_two_eq_zero_or_one j with hm | hm
      · have e2 : j * 2 ^ e = j / 2 * (2 * 2 ^ e) := by rw [← Nat.mul_assoc]; congr 1; omega
        rw [e2]; exact h3
      · have e2 : j * 2 ^ e = j / 2 * (2 * 2 ^ e) + 2 ^ e := by rw [← Nat.mul_assoc, ← Nat.succ_mul]; congr 1; omega
        rw [e2]; exact h4
  refine List.ext_getElem hlen fun j h2 h3 => ?_
  have h4 := key (lg a.length) (Nat.le_refl _) j (Nat.lt_of_lt_of_le h2 (le_lg _ (by omega)))
  rw [Nat.sub_self, Nat.pow_zero, Nat.mul_one] at h4
  simp only [nodeS, List.getD_eq_getElem?_getD, List.getElem?_eq_getElem h2, List.getElem?_eq_getElem h3] at h4
  exact h4
theorem take_eq (a b : List (List UInt8)) (k : Nat) (ha : k < a.length) (hb : k < b.length) : (a.take (k + 1) = b.take (k + 1)) ↔ (a.take k = b.take k ∧ a[k] = b[k]) := by
  rw [List.take_succ_eq_append_getElem ha, List.take_succ_eq_append_getElem hb]
  constructor
  · intro h
    have := List.append_inj h (by simp; omega)
    exact ⟨this.1, List.head_eq_of_cons_eq this.2⟩
  · rintro ⟨h1, h2⟩; rw [h1, h2]
set_option maxRecDepth 100000 in
set_option maxHeartbeats 1000000 in
theorem merkleApart_walk (w0 : World) (A : Option Addr) (la : List (List UInt8)) (ca : Nat) (ha : S32 la) (hra : Rd w0 A (by8 la.flatten)) (Ab : Option Addr) (lb : List (List UInt8)) (cb : Nat) (hlb : S32 lb) (hrb : Rd w0 Ab (by8 lb.flatten)) :
    Calls Try.prog 4 #[.slice A la.length ca, .slice Ab lb.length cb] w0 fun e w' => e = .returned (.bool true) ∧ Below w0.heap.size w0 w' := by
  refine c_enter Try.func4 rfl 132 rfl (by simp) (fun _ => False) _ rfl (fun a h => ?_)
  have h := h.mem (h.m.arg (rdP Ab (by8 lb.flatten)) hrb (fun _ _ hh => hh))
  have h := h.mem (h.m.arg (rdP A (by8 la.flatten)) hra (fun _ _ hh => hh))
  have hva : (rootV la).length = 32 := by unfold rootV; split <;> first | exact rootS_length ha | exact z32_length
  have hvb : (rootV lb).length = 32 := by unfold rootV; split <;> first | exact rootS_length hlb | exact z32_length
  refine c_rs ?_ -- region 0
  refine s_assign h rfl _ rfl rfl (by decide) rfl (fun a h => ?_)
  refine l_end ?_
  refine wp_seq ?_
  refine c_rs ?_ -- region 1
  refine s_callB h rfl rfl rfl (by decide) Try.func23 rfl rfl rfl (awake23_ok _) (fun a w hb h => ?_)
  refine s_boolop h rfl rfl rfl (by decide) rfl (fun a h => ?_)
  refine l_end ?_
  refine c_cond h rfl (fun hb => ?_) (fun hb => ?_)
  · cases hb
  · refine wp_skip ?_
    refine e_thenN ?_
    refine wp_seq ?_
    refine c_rs ?_ -- region 3
    refine s_move h rfl _ rfl rfl (by decide) rfl (fun a h => ?_)
    refine s_len h rfl rfl rfl (by decide) Try.underlying39 rfl (fun a h => ?_)
    refine s_move h rfl _ rfl rfl (by decide) rfl (fun a h => ?_)
    refine s_len h rfl rfl rfl (by decide) Try.underlying39 rfl (fun a h => ?_)
    refine s_bin h rfl rfl rfl (by decide) rfl rfl (ib_neq) (fun a h => ?_)
    refine s_move h rfl _ rfl rfl (by decide) rfl (fun a h => ?_)
    apply s_or (t := 25) (d := 29) h 4 rfl
    · intro hB
      refine g_no h rfl rfl rfl rfl hB rfl (by decide) (fun a h => ?_)
      refine g_no h rfl rfl rfl rfl hB rfl (by decide) (fun a h => ?_)
      refine g_no h rfl rfl rfl rfl hB rfl (by decide) (fun a h => ?_)
      refine s_pick h rfl rfl rfl (by decide) rfl (fun _ => rfl) (fun hh => absurd (hB.symm.trans hh) (by decide)) (fun a h => ?_)
      exact h.has (by repeat (first | exact trivial | refine ⟨rfl, ?_⟩))
    · intro hB
      refine g_yes h rfl rfl rfl rfl hB ?_
      refine s_move h rfl _ rfl rfl (by decide) rfl (fun a h => ?_)
      refine g_yes h rfl rfl rfl rfl hB ?_
      refine s_len h rfl rfl rfl (by decide) Try.underlying39 rfl (fun a h => ?_)
      refine g_yes h rfl rfl rfl rfl hB ?_
      refine s_bin h rfl rfl rfl (by decide) rfl rfl (ib_eql) (fun a h => ?_)
      refine s_pick h rfl rfl rfl (by decide) rfl (fun hh => absurd (hB.symm.trans hh) (by decide)) (fun _ => rfl) (fun a h => ?_)
      exact h.has (by repeat (first | exact trivial | refine ⟨rfl, ?_⟩))
    intro a w h
    refine s_move h rfl _ rfl rfl (by decide) rfl (fun a h => ?_)
    apply s_or (t := 30) (d := 34) h 4 rfl
    · intro hB
      refine g_no h rfl rfl rfl rfl hB rfl (by decide) (fun a h => ?_)
      refine g_no h rfl rfl rfl rfl hB rfl (by decide) (fun a h => ?_)
      refine g_no h rfl rfl rfl rfl hB rfl (by decide) (fun a h => ?_)
      refine s_pick h rfl rfl rfl (by decide) rfl (fun _ => rfl) (fun hh => absurd (hB.symm.trans hh) (by decide)) (fun a h => ?_)
      exact h.has (by repeat (first | exact trivial | refine ⟨rfl, ?_⟩))
    · intro hB
      refine g_yes h rfl rfl rfl rfl hB ?_
      refine s_move h rfl _ rfl rfl (by decide) rfl (fun a h => ?_)
      refine g_yes h rfl rfl rfl rfl hB ?_
      refine s_len h rfl rfl rfl (by decide) Try.underlying39 rfl (fun a h => ?_)
      refine g_yes h rfl rfl rfl rfl hB ?_
      refine s_bin h rfl rfl rfl (by decide) rfl rfl (ib_gtr) (fun a h => ?_)
      refine s_pick h rfl rfl rfl (by decide) rfl (fun hh => absurd (hB.symm.trans hh) (by decide)) (fun _ => rfl) (fun a h => ?_)
      exact h.has (by repeat (first | exact trivial | refine ⟨rfl, ?_⟩))
    intro a w h
    refine l_end ?_
    refine c_cond h rfl (fun hb => ?_) (fun hb => ?_)
    · have hbig := hb
      refine c_rs ?_ -- region 4
      refine s_assign h rfl _ rfl rfl (by decide) rfl (fun a h => ?_)
      refine l_end ?_
      refine wp_ret ?_
      refine e_thenR ?_
      exact r_ret1 h rfl (rv_tmp h rfl) ⟨rfl, h.m.below⟩
    · simp only [Bool.or_eq_false_iff, decide_eq_false_iff_not, Bool.not_eq_false', decide_eq_true_eq] at hb
      obtain ⟨⟨hlen, hl1⟩, hl16⟩ := hb
      have hlen : la.length = lb.length := by omega
      have hl1 : 1 ≤ la.length := by omega
      have hl16 : la.length ≤ 16 := by omega
      have hoka : okN la.length := ⟨hl1, by omega⟩
      have hokb : okN lb.length := ⟨by omega, by omega⟩
      have hxa : rootV la = rootS la := by unfold rootV; rw [if_pos hoka]
      have hxb : rootV lb = rootS lb := by unfold rootV; rw [if_pos hokb]
      have e0a : errV (okN la.length) = 0 := by unfold errV; rw [if_pos hoka]
      have e0b : errV (okN lb.length) = 0 := by unfold errV; rw [if_pos hokb]
      refine wp_skip ?_
      refine e_thenN ?_
      refine c_rs ?_ -- region 5
      refine s_move h rfl _ rfl rfl (by decide) rfl (fun a h => ?_)
      refine s_callB h rfl rfl rfl (by decide) Try.func24 rfl rfl rfl (root_ok w A la ca ha (h.m.ok 0 _ rfl)) (fun a w hb h => ?_)
      rw [e0a] at h
      refine s_move h rfl _ rfl rfl (by decide) rfl (fun a h => ?_)
      refine s_ext h rfl rfl rfl (by decide) rfl rfl (fun a h => ?_)
      refine s_ext h rfl rfl rfl (by decide) rfl rfl (fun a h => ?_)
      refine s_alloc h rfl rfl rfl (by decide) zi_A32_uint8 rfl (fun a w g5 h => ?_)
      refine s_stW h rfl rfl rfl ag_A32_uint8 rfl rfl (by first | assumption | (rw [by8_length]; assumption) | (rw [by8_length]; rfl) | rfl | decide) (by first | exact by8_one _ | simp [Value.oneCell']) 0 rfl (by first | assumption | (rw [by8_length]; assumption) | (rw [by8_length]; rfl) | rfl | decide) (fun a w h => ?_)
      refine s_assign h rfl _ rfl rfl (by decide) rfl (fun a h => ?_)
      refine l_end ?_
      refine c_rs ?_ -- region 6
      refine s_move h rfl _ rfl rfl (by decide) rfl (fun a h => ?_)
      refine s_callB h rfl rfl rfl (by decide) Try.func24 rfl rfl rfl (root_ok w Ab lb cb hlb (h.m.ok 2 _ rfl)) (fun a w hb h => ?_)
      rw [e0b] at h
      refine s_move h rfl _ rfl rfl (by decide) rfl (fun a h => ?_)
      refine s_ext h rfl rfl rfl (by decide) rfl rfl (fun a h => ?_)
      refine s_ext h rfl rfl rfl (by decide) rfl rfl (fun a h => ?_)
      refine s_alloc h rfl rfl rfl (by decide) zi_A32_uint8 rfl (fun a w g7 h => ?_)
      refine s_stW h rfl rfl rfl ag_A32_uint8 rfl rfl (by first | assumption | (rw [by8_length]; assumption) | (rw [by8_length]; rfl) | rfl | decide) (by first | exact by8_one _ | simp [Value.oneCell']) 0 rfl (by first | assumption | (rw [by8_length]; assumption) | (rw [by8_length]; rfl) | rfl | decide) (fun a w h => ?_)
      refine s_assign h rfl _ rfl rfl (by decide) rfl (fun a h => ?_)
      refine l_end ?_
      refine wp_seq ?_
      refine c_rs ?_ -- region 7
      refine s_move h rfl _ rfl rfl (by decide) rfl (fun a h => ?_)
      refine s_bin h rfl rfl rfl (by decide) rfl rfl (ib_neq) (fun a h => ?_)
      refine s_move h rfl _ rfl rfl (by decide) rfl (fun a h => ?_)
      apply s_or (t := 47) (d := 50) h 3 rfl
      · intro hB
        refine g_no h rfl rfl rfl rfl hB rfl (by decide) (fun a h => ?_)
        refine g_no h rfl rfl rfl rfl hB rfl (by decide) (fun a h => ?_)
        refine s_pick h rfl rfl rfl (by decide) rfl (fun _ => rfl) (fun hh => absurd (hB.symm.trans hh) (by decide)) (fun a h => ?_)
        exact h.has (by repeat (first | exact trivial | refine ⟨rfl, ?_⟩))
      · intro hB
        refine g_yes h rfl rfl rfl rfl hB ?_
        refine s_move h rfl _ rfl rfl (by decide) rfl (fun a h => ?_)
        refine g_yes h rfl rfl rfl rfl hB ?_
        refine s_bin h rfl rfl rfl (by decide) rfl rfl (ib_neq) (fun a h => ?_)
        refine s_pick h rfl rfl rfl (by decide) rfl (fun hh => absurd (hB.symm.trans hh) (by decide)) (fun _ => rfl) (fun a h => ?_)
        exact h.has (by repeat (first | exact trivial | refine ⟨rfl, ?_⟩))
      intro a w h
      refine l_end ?_
      refine c_cond h rfl (fun hb => ?_) (fun hb => ?_)
      · cases hb
      · refine wp_skip ?_
        refine e_thenN ?_
        refine c_rs ?_ -- region 9
        refine s_assign h rfl _ rfl rfl (by decide) rfl (fun a h => ?_)
        refine l_end ?_
        refine wp_seq ?_
        refine c_rs ?_ -- region 10
        refine s_move h rfl _ rfl rfl (by decide) rfl (fun a h => ?_)
        refine s_len h rfl rfl rfl (by decide) Try.underlying39 rfl (fun a h => ?_)
        refine s_move h rfl _ rfl rfl (by decide) rfl (fun a h => ?_)
        refine l_end ?_
        refine wp_block ?_
        refine c_loop (fun m a w => ∃ k : Nat, k + m = la.length ∧ St 132 w0 (fun _ => False) [(0, .slice A la.length ca), (1, .slice Ab lb.length cb), (5, .pointer (some ⟨g5, 0, none⟩)), (7, .pointer (some ⟨g7, 0, none⟩)), (9, .bool (decide (la.take k = lb.take k))), (52, .int .i64 (la.length : Int)), (53, .int .i64 (k : Int))] [.box g7 40 (by8 (rootV lb)), .box g5 40 (by8 (rootV la)), .ro (rdP A (by8 la.flatten)), .ro (rdP Ab (by8 lb.flatten))] a w) la.length ⟨0, by omega, h.has (by exact ⟨rfl, rfl, rfl, rfl, rfl, rfl, rfl, trivial⟩)⟩ (fun m a w hI => ?_)
        obtain ⟨k, hk, h⟩ := hI
        refine c_rs ?_ -- region 11
        refine s_bin h rfl rfl rfl (by decide) rfl rfl (ib_lss) (fun a h => ?_)
        refine l_end ?_
        refine c_cs h rfl (fun hb => ?_) (fun hb => ?_)
        · have hlt : k < la.length := by have := of_decide_eq_true hb; omega
          have hltb : k < lb.length := by omega
          obtain ⟨ba, offa, hA⟩ := hra.addr (by rw [by8_length, flat_len ha]; omega)
          obtain ⟨bb, offb, hB⟩ := hrb.addr (by rw [by8_length, flat_len hlb]; omega)
          subst hA
          subst hB
          have la32 := ha.at hlt
          have lb32 := hlb.at hltb
          have ht := take_eq la lb k hlt hltb
          refine wp_skip ?_
          refine e_thenN ?_
          refine wp_seq ?_
          refine wp_block ?_
          refine c_rs ?_ -- region 12
          refine s_move h rfl _ rfl rfl (by decide) rfl (fun a h => ?_)
          refine s_assign h rfl _ rfl rfl (by decide) rfl (fun a h => ?_)
          refine l_end ?_
          -- region 13 DRAWS
          refine c_fin (fun a w => St 132 w0 (fun _ => False) [(0, .slice (some ⟨ba, offa, none⟩) la.length ca), (1, .slice (some ⟨bb, offb, none⟩) lb.length cb), (5, .pointer (some ⟨g5, 0, none⟩)), (7, .pointer (some ⟨g7, 0, none⟩)), (9, .bool (decide (la.take (k + 1) = lb.take (k + 1)))), (52, .int .i64 (la.length : Int)), (53, .int .i64 (k : Int))] [.box g7 40 (by8 (rootV lb)), .box g5 40 (by8 (rootV la)), .ro (rdP (some ⟨ba, offa, none⟩) (by8 la.flatten)), .ro (rdP (some ⟨bb, offb, none⟩) (by8 lb.flatten))] a w) ?_ (fun a w h => ?_)
          · refine d_start h (Mem _ _ _) 13 13 rfl (by kernel_rfl) (fun _ _ _ _ _ h => h) (fun _ h => h) (fun Q a w HE HN h HS => ?_)
            refine d_takeP h (fun _ => HS) HN 0 rfl (by kernel_rfl) (by kernel_rfl) (by kernel_rfl) (by decide) rfl rfl (by decide) (fun w' => x_move h.k _ rfl rfl) (fun a h => ?_)
            refine d_takeP h (fun _ => HS) HN 1 rfl (by kernel_rfl) (by kernel_rfl) (by kernel_rfl) (by decide) rfl rfl (by decide) (fun w' => x_move h.k _ rfl rfl) (fun a h => ?_)
            refine d_split (t := 57) h rfl (fun hB1 => ?_) (fun hB1 => ?_)
            · refine d_takeP h (fun _ => HS) HN 2 rfl (by kernel_rfl) (by kernel_rfl) (by kernel_rfl) (by decide) (by rw [g_want h rfl rfl rfl rfl hB1]; rfl) rfl (by decide) (fun w' => x_move h.k _ rfl rfl) (fun a h => ?_)
              refine d_takeP h (fun _ => HS) HN 3 rfl (by kernel_rfl) (by kernel_rfl) (by kernel_rfl) (by decide) (by rw [g_want h rfl rfl rfl rfl hB1]; rfl) rfl (by decide) (fun w' => x_move h.k _ rfl rfl) (fun a h => ?_)
              refine d_takeP h (fun _ => HS) HN 4 rfl (by kernel_rfl) (by kernel_rfl) (by kernel_rfl) (by decide) (by rw [g_want h rfl rfl rfl rfl hB1]; rfl) rfl (by decide) (fun w' => x_iaddr h.k rfl Try.underlying39 sz_A32_uint8 rfl rfl (m := k) (by omega) (by omega) (r := offa + k * 32) (by omega)) (fun a h => ?_)
              refine d_takeY h HS HN 5 rfl (by kernel_rfl) (by kernel_rfl) (by kernel_rfl) (by kernel_rfl) (by kernel_rfl) (by rw [g_want h rfl rfl rfl rfl hB1]; rfl) rfl (by decide) (fun w' hw => x_ldR h.k rfl ag_A32_uint8 rfl (by8 la[k]) (by rw [by8_length, la32]) (Rd.sum ha (hw.ok 2 _ rfl) hlt)) (fun a h => ?_)
              refine d_takeP h (fun _ => HS) HN 6 rfl (by kernel_rfl) (by kernel_rfl) (by kernel_rfl) (by decide) (by rw [g_want h rfl rfl rfl rfl hB1]; rfl) rfl (by decide) (fun w' => x_move h.k _ rfl rfl) (fun a h => ?_)
              refine d_takeP h (fun _ => HS) HN 7 rfl (by kernel_rfl) (by kernel_rfl) (by kernel_rfl) (by decide) (by rw [g_want h rfl rfl rfl rfl hB1]; rfl) rfl (by decide) (fun w' => x_move h.k _ rfl rfl) (fun a h => ?_)
              refine d_takeP h (fun _ => HS) HN 8 rfl (by kernel_rfl) (by kernel_rfl) (by kernel_rfl) (by decide) (by rw [g_want h rfl rfl rfl rfl hB1]; rfl) rfl (by decide) (fun w' => x_iaddr h.k rfl Try.underlying39 sz_A32_uint8 rfl rfl (m := k) (by omega) (by omega) (r := offb + k * 32) (by omega)) (fun a h => ?_)
              refine d_takeY h HS HN 9 rfl (by kernel_rfl) (by kernel_rfl) (by kernel_rfl) (by kernel_rfl) (by kernel_rfl) (by rw [g_want h rfl rfl rfl rfl hB1]; rfl) rfl (by decide) (fun w' hw => x_ldR h.k rfl ag_A32_uint8 rfl (by8 lb[k]) (by rw [by8_length, lb32]) (Rd.sum hlb (hw.ok 3 _ rfl) hltb)) (fun a h => ?_)
              refine d_takeP h (fun _ => HS) HN 10 rfl (by kernel_rfl) (by kernel_rfl) (by kernel_rfl) (by decide) (by rw [g_want h rfl rfl rfl rfl hB1]; rfl) rfl (by decide) (fun w' => x_eqA h.k rfl Try.underlying40 Try.underlying5 sz_uint8 (by kernel_rfl) rfl rfl la32 lb32) (fun a h => ?_)
              refine d_takeP h (fun _ => HS) HN 11 rfl (by kernel_rfl) (by kernel_rfl) (by kernel_rfl) (by decide) rfl rfl (by decide) (fun w' => x_pick (u' := undef) h.k rfl rfl (fun _ => rfl) (fun hh => absurd (hB1.symm.trans hh) (by decide))) (fun a h => ?_)
              refine d_takeP h (fun _ => HS) HN 12 rfl (by kernel_rfl) (by kernel_rfl) (by kernel_rfl) (by decide) rfl rfl (by decide) (fun w' => x_assign h.k _ rfl rfl) (fun a h => ?_)
              refine d_done (by kernel_rfl) (HE _ _ ?_) _
              refine h.has (by refine ⟨rfl, rfl, rfl, rfl, congrArg (fun b => some (Value.bool b)) ?_, rfl, rfl, trivial⟩; simp only [decide_eq_true_eq, decide_eq_false_iff_not] at hB1; simp [ht, hB1])
            · refine d_takeNP h (fun _ => HS) HN 2 rfl (by kernel_rfl) (by kernel_rfl) (by kernel_rfl) (by decide) (by rw [g_want h rfl rfl rfl rfl hB1]; rfl) rfl (by decide) (fun a h => ?_)
              refine d_takeNP h (fun _ => HS) HN 3 rfl (by kernel_rfl) (by kernel_rfl) (by kernel_rfl) (by decide) (by rw [g_want h rfl rfl rfl rfl hB1]; rfl) rfl (by decide) (fun a h => ?_)
              refine d_takeNP h (fun _ => HS) HN 4 rfl (by kernel_rfl) (by kernel_rfl) (by kernel_rfl) (by decide) (by rw [g_want h rfl rfl rfl rfl hB1]; rfl) rfl (by decide) (fun a h => ?_)
              refine d_takeNP h (fun _ => HS) HN 5 rfl (by kernel_rfl) (by kernel_rfl) (by kernel_rfl) (by decide) (by rw [g_want h rfl rfl rfl rfl hB1]; rfl) rfl (by decide) (fun a h => ?_)
              refine d_takeNP h (fun _ => HS) HN 6 rfl (by kernel_rfl) (by kernel_rfl) (by kernel_rfl) (by decide) (by rw [g_want h rfl rfl rfl rfl hB1]; rfl) rfl (by decide) (fun a h => ?_)
              refine d_takeNP h (fun _ => HS) HN 7 rfl (by kernel_rfl) (by kernel_rfl) (by kernel_rfl) (by decide) (by rw [g_want h rfl rfl rfl rfl hB1]; rfl) rfl (by decide) (fun a h => ?_)
              refine d_takeNP h (fun _ => HS) HN 8 rfl (by kernel_rfl) (by kernel_rfl) (by kernel_rfl) (by decide) (by rw [g_want h rfl rfl rfl rfl hB1]; rfl) rfl (by decide) (fun a h => ?_)
              refine d_takeNP h (fun _ => HS) HN 9 rfl (by kernel_rfl) (by kernel_rfl) (by kernel_rfl) (by decide) (by rw [g_want h rfl rfl rfl rfl hB1]; rfl) rfl (by decide) (fun a h => ?_)
              refine d_takeNP h (fun _ => HS) HN 10 rfl (by kernel_rfl) (by kernel_rfl) (by kernel_rfl) (by decide) (by rw [g_want h rfl rfl rfl rfl hB1]; rfl) rfl (by decide) (fun a h => ?_)
              refine d_takeP h (fun _ => HS) HN 11 rfl (by kernel_rfl) (by kernel_rfl) (by kernel_rfl) (by decide) rfl rfl (by decide) (fun w' => x_pick (u' := undef) h.k rfl rfl (fun hh => absurd (hB1.symm.trans hh) (by decide)) (fun _ => rfl)) (fun a h => ?_)
              refine d_takeP h (fun _ => HS) HN 12 rfl (by kernel_rfl) (by kernel_rfl) (by kernel_rfl) (by decide) rfl rfl (by decide) (fun w' => x_assign h.k _ rfl rfl) (fun a h => ?_)
              refine d_done (by kernel_rfl) (HE _ _ ?_) _
              refine h.has (by refine ⟨rfl, rfl, rfl, rfl, congrArg (fun b => some (Value.bool b)) ?_, rfl, rfl, trivial⟩; simp only [decide_eq_true_eq, decide_eq_false_iff_not] at hB1; simp [ht, hB1])
          refine e_blkN ?_
          refine e_thenN ?_
          refine c_r ?_ -- region 14
          refine s_bin h rfl rfl rfl (by decide) rfl rfl (ib_add (nw64 (by omega))) (fun a h => ?_)
          refine s_move h rfl _ rfl rfl (by decide) rfl (fun a h => ?_)
          refine l_nil ?_
          exact e_thenN ⟨m - 1, by omega, k + 1, by omega, h.has (by exact ⟨rfl, rfl, rfl, rfl, rfl, rfl, rfl, trivial⟩)⟩
        · have hge : k = la.length := by have := of_decide_eq_false hb; omega
          subst hge
          have htk : decide (la.take la.length = lb.take la.length) = decide (la = lb) := by rw [List.take_length, hlen, List.take_length]
          rw [htk, hxa, hxb] at h
          rw [hxa] at hva
          rw [hxb] at hvb
          refine wp_exit ?_
          refine e_thenX ?_
          refine e_thenX ?_
          refine e_blkX ?_
          refine e_thenN ?_
          refine wp_seq ?_
          refine c_rs ?_ -- region 15
          refine s_move h rfl _ rfl rfl (by decide) rfl (fun a h => ?_)
          refine s_move h rfl _ rfl rfl (by decide) rfl (fun a h => ?_)
          apply s_or (t := 70) (d := 74) h 4 rfl
          · intro hB
            refine g_no h rfl rfl rfl rfl hB rfl (by decide) (fun a h => ?_)
            refine g_no h rfl rfl rfl rfl hB rfl (by decide) (fun a h => ?_)
            refine g_no h rfl rfl rfl rfl hB rfl (by decide) (fun a h => ?_)
            refine s_pick h rfl rfl rfl (by decide) rfl (fun _ => rfl) (fun hh => absurd (hB.symm.trans hh) (by decide)) (fun a h => ?_)
            exact h.has (by repeat (first | exact trivial | refine ⟨rfl, ?_⟩))
          · intro hB
            refine g_yes h rfl rfl rfl rfl hB ?_
            refine s_ldW h rfl rfl rfl (by decide) ag_A32_uint8 rfl 1 rfl (by first | assumption | (rw [by8_length]; assumption) | (rw [by8_length]; rfl) | rfl | decide) (fun a h => ?_)
            refine g_yes h rfl rfl rfl rfl hB ?_
            refine s_ldW h rfl rfl rfl (by decide) ag_A32_uint8 rfl 0 rfl (by first | assumption | (rw [by8_length]; assumption) | (rw [by8_length]; rfl) | rfl | decide) (fun a h => ?_)
            refine g_yes h rfl rfl rfl rfl hB ?_
            refine s_neA h rfl rfl rfl (by decide) Try.underlying40 Try.underlying5 sz_uint8 (by kernel_rfl) rfl rfl hva hvb (fun a h => ?_)
            refine s_pick h rfl rfl rfl (by decide) rfl (fun hh => absurd (hB.symm.trans hh) (by decide)) (fun _ => rfl) (fun a h => ?_)
            exact h.has (by repeat (first | exact trivial | refine ⟨rfl, ?_⟩))
          intro a w h
          refine l_end ?_
          refine c_cond h rfl (fun hb => ?_) (fun hb => ?_)
          · have hor : la = lb ∨ rootS la ≠ rootS lb := by simpa using hb
            refine c_rs ?_ -- region 16
            refine s_move h rfl _ rfl rfl (by decide) rfl (fun a h => ?_)
            refine s_ldW h rfl rfl rfl (by decide) ag_A32_uint8 rfl 1 rfl (by first | assumption | (rw [by8_length]; assumption) | (rw [by8_length]; rfl) | rfl | decide) (fun a h => ?_)
            refine s_ldW h rfl rfl rfl (by decide) ag_A32_uint8 rfl 0 rfl (by first | assumption | (rw [by8_length]; assumption) | (rw [by8_length]; rfl) | rfl | decide) (fun a h => ?_)
            refine s_eqA h rfl rfl rfl (by decide) Try.underlying40 Try.underlying5 sz_uint8 (by kernel_rfl) rfl rfl hva hvb (fun a h => ?_)
            refine s_run h rfl rfl (by decide) rfl rfl rfl (fun a h => ?_)
            refine s_assign h rfl _ rfl rfl (by decide) rfl (fun a h => ?_)
            refine l_end ?_
            refine wp_ret ?_
            refine e_thenR ?_
            refine r_ret1 h rfl (rv_tmp h rfl) ⟨?_, h.m.below⟩
            rcases hor with h1 | h1
            · rw [h1]; simp
            · have : la ≠ lb := fun h2 => h1 (by rw [h2])
              rw [decide_eq_false h1, decide_eq_false this]; rfl
          · have hne : la ≠ lb ∧ rootS la = rootS lb := by simpa using hb
            obtain ⟨hne, hrr⟩ := hne
            refine wp_skip ?_
            refine e_thenN ?_
            refine c_rs ?_ -- region 17
            refine s_move h rfl _ rfl rfl (by decide) rfl (fun a h => ?_)
            refine s_len h rfl rfl rfl (by decide) Try.underlying39 rfl (fun a h => ?_)
            refine s_callB h rfl rfl rfl (by decide) Try.func25 rfl rfl rfl (rwide_ok w la.length hl1 (by omega)) (fun a w hb h => ?_)
            refine s_assign h rfl _ rfl rfl (by decide) rfl (fun a h => ?_)
            obtain ⟨M, hM⟩ : ∃ M, M = 2 ^ lg la.length := ⟨_, rfl⟩
            have hM32 : M < 32 := by have := lg_lt la.length (by omega); omega
            rw [← hM] at h
            have h := h.pick [2, 3] (by decide) rfl
            refine l_end ?_
            refine wp_seq ?_
            refine c_rs ?_ -- region 18
            refine s_assign h rfl _ rfl rfl (by decide) rfl (fun a h => ?_)
            refine l_end ?_
            refine wp_block ?_
            refine c_loop (fun m a w => ∃ (e Me : Nat), Me = 2 ^ e ∧ e + m = lg la.length ∧ (∀ e', e' < e → ∀ j, j * (2 * 2 ^ e') < M → ¬ foundP la lb e' (j * (2 * 2 ^ e'))) ∧ St 132 w0 (fun _ => False) [(0, .slice A la.length ca), (1, .slice Ab lb.length cb), (11, .int .i64 (M : Int)), (12, .int .i64 (Me : Int))] [.ro (rdP A (by8 la.flatten)), .ro (rdP Ab (by8 lb.flatten))] a w) (lg la.length) ⟨0, 1, rfl, by omega, fun e' he' => by omega, h.has (by exact ⟨rfl, rfl, rfl, rfl, trivial⟩)⟩ (fun m a w hI => ?_)
            obtain ⟨e, Me, hMe, hem, hnf, h⟩ := hI
            have hMe0 : 0 < Me := by rw [hMe]; exact Nat.pow_pos (by decide)
            refine wp_seq ?_
            refine c_rs ?_ -- region 19
            refine s_move h rfl _ rfl rfl (by decide) rfl (fun a h => ?_)
            refine s_move h rfl _ rfl rfl (by decide) rfl (fun a h => ?_)
            refine s_bin h rfl rfl rfl (by decide) rfl rfl (ib_lss) (fun a h => ?_)
            refine l_end ?_
            refine c_cond h rfl (fun hb => ?_) (fun hb => ?_)
            · have hMM : Me < M := by have := of_decide_eq_true hb; omega
              have hlt : e < lg la.length := by
                rcases Nat.lt_or_ge e (lg la.length) with h3 | h3
                · exact h3
                · have : 2 ^ lg la.length ≤ 2 ^ e := Nat.pow_le_pow_right (by decide) h3
                  omega
              obtain ⟨J, hJ⟩ : ∃ J, J = 2 ^ (lg la.length - e - 1) := ⟨_, rfl⟩
              have hJM : J * (2 * Me) = M := by rw [hJ, hMe, hM]; exact pow_split _ _ hlt
              have hnodea := fun k => nodeS_length ha e k
              have hnodeb := fun k => nodeS_length hlb e k
              refine wp_skip ?_
              refine e_thenN ?_
              refine wp_seq ?_
              refine wp_block ?_
              refine c_rs ?_ -- region 21
              refine s_assign h rfl _ rfl rfl (by decide) rfl (fun a h => ?_)
              refine l_end ?_
              refine wp_block ?_
              refine c_loop (fun m' a w => ∃ (j q : Nat), q = j * (2 * Me) ∧ j + m' = J ∧ (∀ j', j' < j → ¬ foundP la lb e (j' * (2 * 2 ^ e))) ∧ St 132 w0 (fun _ => False) [(0, .slice A la.length ca), (1, .slice Ab lb.length cb), (11, .int .i64 (M : Int)), (12, .int .i64 (Me : Int)), (13, .int .i64 (q : Int))] [.ro (rdP A (by8 la.flatten)), .ro (rdP Ab (by8 lb.flatten))] a w) J ⟨0, 0, by omega, by omega, fun j' hj' => by omega, h.has (by exact ⟨rfl, rfl, rfl, rfl, rfl, trivial⟩)⟩ (fun m' a w hI => ?_)
              obtain ⟨j, q, hq, hjm, hnj, h⟩ := hI
              refine wp_seq ?_
              refine c_rs ?_ -- region 22
              refine s_move h rfl _ rfl rfl (by decide) rfl (fun a h => ?_)
              refine s_move h rfl _ rfl rfl (by decide) rfl (fun a h => ?_)
              refine s_bin h rfl rfl rfl (by decide) rfl rfl (ib_lss) (fun a h => ?_)
              refine l_end ?_
              refine c_cond h rfl (fun hb => ?_) (fun hb => ?_)
              · have hKM : q < M := by have := of_decide_eq_true hb; omega
                have hjJ : j < J := by
                  rcases Nat.lt_or_ge j J with h3 | h3
                  · exact h3
                  · have : J * (2 * Me) ≤ j * (2 * Me) := Nat.mul_le_mul_right _ h3
                    omega
                have hKM2 : q + 2 * Me ≤ M := by
                  have : (j + 1) * (2 * Me) ≤ J * (2 * Me) := Nat.mul_le_mul_right _ hjJ
                  rw [Nat.succ_mul] at this; omega
                have hfe : foundP la lb e q ↔ ((nodeS la e q ≠ nodeS lb e q ∨ nodeS la e (q + Me) ≠ nodeS lb e (q + Me)) ∧ pairS (nodeS la e q) (nodeS la e (q + Me)) = pairS (nodeS lb e q) (nodeS lb e (q + Me))) := by unfold foundP; rw [← hMe]
                have n1 := hnodea q
                have n2 := hnodea (q + Me)
                have n3 := hnodeb q
                have n4 := hnodeb (q + Me)
                refine wp_skip ?_
                refine e_thenN ?_
                refine wp_seq ?_
                refine wp_block ?_
                refine c_rs ?_ -- region 24
                refine s_move h rfl _ rfl rfl (by decide) rfl (fun a h => ?_)
                refine s_move h rfl _ rfl rfl (by decide) rfl (fun a h => ?_)
                refine s_move h rfl _ rfl rfl (by decide) rfl (fun a h => ?_)
                refine s_callB h rfl rfl rfl (by decide) Try.func26 rfl rfl rfl (rnode_ok la ha A ca (by omega) e w q Me hMe (h.m.ok 0 _ rfl) (by omega)) (fun a w hb h => ?_)
                refine s_move h rfl _ rfl rfl (by decide) rfl (fun a h => ?_)
                refine s_move h rfl _ rfl rfl (by decide) rfl (fun a h => ?_)
                refine s_move h rfl _ rfl rfl (by decide) rfl (fun a h => ?_)
                refine s_bin h rfl rfl rfl (by decide) rfl rfl (ib_add (nw64 (by omega))) (fun a h => ?_)
                rw [show (q : Int) + (Me : Int) = ((q + Me : Nat) : Int) by omega] at h
                refine s_move h rfl _ rfl rfl (by decide) rfl (fun a h => ?_)
                refine s_callB h rfl rfl rfl (by decide) Try.func26 rfl rfl rfl (rnode_ok la ha A ca (by omega) e w (q + Me) Me hMe (h.m.ok 0 _ rfl) (by omega)) (fun a w hb h => ?_)
                refine s_alloc h rfl rfl rfl (by decide) zi_A32_uint8 rfl (fun a w g14 h => ?_)
                refine s_alloc h rfl rfl rfl (by decide) zi_A32_uint8 rfl (fun a w g15 h => ?_)
                refine s_stW h rfl rfl rfl ag_A32_uint8 rfl rfl (by first | assumption | (rw [by8_length]; assumption) | (rw [by8_length]; rfl) | rfl | decide) (by first | exact by8_one _ | simp [Value.oneCell']) 1 rfl (by first | assumption | (rw [by8_length]; assumption) | (rw [by8_length]; rfl) | rfl | decide) (fun a w h => ?_)
                refine s_stW h rfl rfl rfl ag_A32_uint8 rfl rfl (by first | assumption | (rw [by8_length]; assumption) | (rw [by8_length]; rfl) | rfl | decide) (by first | exact by8_one _ | simp [Value.oneCell']) 0 rfl (by first | assumption | (rw [by8_length]; assumption) | (rw [by8_length]; rfl) | rfl | decide) (fun a w h => ?_)
                refine l_end ?_
                refine c_rs ?_ -- region 25
                refine s_move h rfl _ rfl rfl (by decide) rfl (fun a h => ?_)
                refine s_move h rfl _ rfl rfl (by decide) rfl (fun a h => ?_)
                refine s_move h rfl _ rfl rfl (by decide) rfl (fun a h => ?_)
                refine s_callB h rfl rfl rfl (by decide) Try.func26 rfl rfl rfl (rnode_ok lb hlb Ab cb (by omega) e w q Me hMe (h.m.ok 3 _ rfl) (by omega)) (fun a w hb h => ?_)
                refine s_move h rfl _ rfl rfl (by decide) rfl (fun a h => ?_)
                refine s_move h rfl _ rfl rfl (by decide) rfl (fun a h => ?_)
                refine s_move h rfl _ rfl rfl (by decide) rfl (fun a h => ?_)
                refine s_bin h rfl rfl rfl (by decide) rfl rfl (ib_add (nw64 (by omega))) (fun a h => ?_)
                rw [show (q : Int) + (Me : Int) = ((q + Me : Nat) : Int) by omega] at h
                refine s_move h rfl _ rfl rfl (by decide) rfl (fun a h => ?_)
                refine s_callB h rfl rfl rfl (by decide) Try.func26 rfl rfl rfl (rnode_ok lb hlb Ab cb (by omega) e w (q + Me) Me hMe (h.m.ok 3 _ rfl) (by omega)) (fun a w hb h => ?_)
                refine s_alloc h rfl rfl rfl (by decide) zi_A32_uint8 rfl (fun a w g16 h => ?_)
                refine s_alloc h rfl rfl rfl (by decide) zi_A32_uint8 rfl (fun a w g17 h => ?_)
                refine s_stW h rfl rfl rfl ag_A32_uint8 rfl rfl (by first | assumption | (rw [by8_length]; assumption) | (rw [by8_length]; rfl) | rfl | decide) (by first | exact by8_one _ | simp [Value.oneCell']) 1 rfl (by first | assumption | (rw [by8_length]; assumption) | (rw [by8_length]; rfl) | rfl | decide) (fun a w h => ?_)
                refine s_stW h rfl rfl rfl ag_A32_uint8 rfl rfl (by first | assumption | (rw [by8_length]; assumption) | (rw [by8_length]; rfl) | rfl | decide) (by first | exact by8_one _ | simp [Value.oneCell']) 0 rfl (by first | assumption | (rw [by8_length]; assumption) | (rw [by8_length]; rfl) | rfl | decide) (fun a w h => ?_)
                refine l_end ?_
                refine wp_seq ?_
                -- region 26 DRAWS
                refine c_fin (fun a w => St 132 w0 (fun _ => False) [(131, .bool (decide (foundP la lb e q))), (0, .slice A la.length ca), (1, .slice Ab lb.length cb), (11, .int .i64 (M : Int)), (12, .int .i64 (Me : Int)), (13, .int .i64 (q : Int))] [.ro (rdP A (by8 la.flatten)), .ro (rdP Ab (by8 lb.flatten))] a w) ?_ (fun a w h => ?_)
                · refine d_start h (Mem _ _ _) 17 17 rfl (by kernel_rfl) (fun _ _ _ _ _ h => h) (fun _ h => h) (fun Q a w HE HN h HS => ?_)
                  refine d_take h HS HN 0 rfl (by kernel_rfl) (by kernel_rfl) (by kernel_rfl) (by kernel_rfl) (by kernel_rfl) rfl rfl (by decide) (fun w' hw => x_ldR h.k rfl ag_A32_uint8 rfl _ (by first | assumption | (rw [by8_length]; assumption) | (rw [by8_length]; rfl) | rfl | decide) (hw.range0 (i := 3) rfl)) (fun a h => ?_)
                  refine d_take h HS HN 1 rfl (by kernel_rfl) (by kernel_rfl) (by kernel_rfl) (by kernel_rfl) (by kernel_rfl) rfl rfl (by decide) (fun w' hw => x_ldR h.k rfl ag_A32_uint8 rfl _ (by first | assumption | (rw [by8_length]; assumption) | (rw [by8_length]; rfl) | rfl | decide) (hw.range0 (i := 1) rfl)) (fun a h => ?_)
                  refine d_takeP h (fun _ => HS) HN 2 rfl (by kernel_rfl) (by kernel_rfl) (by kernel_rfl) (by decide) rfl rfl (by decide) (fun w' => x_neA h.k rfl Try.underlying40 Try.underlying5 sz_uint8 (by kernel_rfl) rfl rfl n1 n3) (fun a h => ?_)
                  refine d_takeP h (fun _ => HS) HN 3 rfl (by kernel_rfl) (by kernel_rfl) (by kernel_rfl) (by decide) rfl rfl (by decide) (fun w' => x_move h.k _ rfl rfl) (fun a h => ?_)
                  refine d_split (t := 118) h rfl (fun hB3 => ?_) (fun hB3 => ?_)
                  · refine d_takeNP h (fun _ => HS) HN 4 rfl (by kernel_rfl) (by kernel_rfl) (by kernel_rfl) (by decide) (by rw [g_want h rfl rfl rfl rfl hB3]; rfl) rfl (by decide) (fun a h => ?_)
                    refine d_takeNP h (fun _ => HS) HN 5 rfl (by kernel_rfl) (by kernel_rfl) (by kernel_rfl) (by decide) (by rw [g_want h rfl rfl rfl rfl hB3]; rfl) rfl (by decide) (fun a h => ?_)
                    refine d_takeNP h (fun _ => HS) HN 6 rfl (by kernel_rfl) (by kernel_rfl) (by kernel_rfl) (by decide) (by rw [g_want h rfl rfl rfl rfl hB3]; rfl) rfl (by decide) (fun a h => ?_)
                    refine d_takeP h (fun _ => HS) HN 7 rfl (by kernel_rfl) (by kernel_rfl) (by kernel_rfl) (by decide) rfl rfl (by decide) (fun w' => x_pick (u' := undef) h.k rfl rfl (fun _ => rfl) (fun hh => absurd (hB3.symm.trans hh) (by decide))) (fun a h => ?_)
                    refine d_takeP h (fun _ => HS) HN 8 rfl (by kernel_rfl) (by kernel_rfl) (by kernel_rfl) (by decide) rfl rfl (by decide) (fun w' => x_move h.k _ rfl rfl) (fun a h => ?_)
                    refine d_split (t := 123) h rfl (fun hB8 => ?_) (fun hB8 => ?_)
                    · refine d_takeY h HS HN 9 rfl (by kernel_rfl) (by kernel_rfl) (by kernel_rfl) (by kernel_rfl) (by kernel_rfl) (by rw [g_want h rfl rfl rfl rfl hB8]; rfl) rfl (by decide) (fun w' hw => x_ldR h.k rfl ag_A32_uint8 rfl _ (by first | assumption | (rw [by8_length]; assumption) | (rw [by8_length]; rfl) | rfl | decide) (hw.range0 (i := 3) rfl)) (fun a h => ?_)
                      refine d_takeY h HS HN 10 rfl (by kernel_rfl) (by kernel_rfl) (by kernel_rfl) (by kernel_rfl) (by kernel_rfl) (by rw [g_want h rfl rfl rfl rfl hB8]; rfl) rfl (by decide) (fun w' hw => x_ldR h.k rfl ag_A32_uint8 rfl _ (by first | assumption | (rw [by8_length]; assumption) | (rw [by8_length]; rfl) | rfl | decide) (hw.range0 (i := 2) rfl)) (fun a h => ?_)
                      refine d_takeY h HS HN 12 rfl (by kernel_rfl) (by kernel_rfl) (by kernel_rfl) (by kernel_rfl) (by kernel_rfl) (by rw [g_want h rfl rfl rfl rfl hB8]; rfl) rfl (by decide) (fun w' hw => x_ldR h.k rfl ag_A32_uint8 rfl _ (by first | assumption | (rw [by8_length]; assumption) | (rw [by8_length]; rfl) | rfl | decide) (hw.range0 (i := 1) rfl)) (fun a h => ?_)
                      refine d_takeY h HS HN 13 rfl (by kernel_rfl) (by kernel_rfl) (by kernel_rfl) (by kernel_rfl) (by kernel_rfl) (by rw [g_want h rfl rfl rfl rfl hB8]; rfl) rfl (by decide) (fun w' hw => x_ldR h.k rfl ag_A32_uint8 rfl _ (by first | assumption | (rw [by8_length]; assumption) | (rw [by8_length]; rfl) | rfl | decide) (hw.range0 (i := 0) rfl)) (fun a h => ?_)
                      refine d_alone 11 rfl (by kernel_rfl) (fun K hK => ?_)
                      refine g_yes (j := 8) (t := 123) h rfl rfl rfl rfl hB8 ?_
                      refine s_callB h rfl rfl rfl (by decide) Try.func27 rfl rfl rfl (rpair_ok w _ _ n1 n2) (fun a w hb h => ?_)
                      refine hK _ _ (fun _ _ => HS.ext hb) ?_
                      replace HS := HS.ext hb
                      clear hK
                      refine d_alone 14 rfl (by kernel_rfl) (fun K hK => ?_)
                      refine g_yes (j := 8) (t := 123) h rfl rfl rfl rfl hB8 ?_
                      refine s_callB h rfl rfl rfl (by decide) Try.func27 rfl rfl rfl (rpair_ok w _ _ n3 n4) (fun a w hb h => ?_)
                      refine hK _ _ (fun _ _ => HS.ext hb) ?_
                      replace HS := HS.ext hb
                      clear hK
                      refine d_takeP h (fun _ => HS) HN 15 rfl (by kernel_rfl) (by kernel_rfl) (by kernel_rfl) (by decide) (by rw [g_want h rfl rfl rfl rfl hB8]; rfl) rfl (by decide) (fun w' => x_eqA h.k rfl Try.underlying40 Try.underlying5 sz_uint8 (by kernel_rfl) rfl rfl (pairS_length _ _) (pairS_length _ _)) (fun a h => ?_)
                      refine d_takeP h (fun _ => HS) HN 16 rfl (by kernel_rfl) (by kernel_rfl) (by kernel_rfl) (by decide) rfl rfl (by decide) (fun w' => x_pick (u' := undef) h.k rfl rfl (fun _ => rfl) (fun hh => absurd (hB8.symm.trans hh) (by decide))) (fun a h => ?_)
                      refine d_done (by kernel_rfl) (HE _ _ ?_) _
                      refine (h.pick [4, 5] (by decide) rfl).has (by refine ⟨congrArg (fun b => some (Value.bool b)) ?_, rfl, rfl, rfl, rfl, rfl, trivial⟩; simp at hB3 hB8 <;> simp [hfe, hB3, hB8])
                    · refine d_takeNP h (fun _ => HS) HN 9 rfl (by kernel_rfl) (by kernel_rfl) (by kernel_rfl) (by decide) (by rw [g_want h rfl rfl rfl rfl hB8]; rfl) rfl (by decide) (fun a h => ?_)
                      refine d_takeNP h (fun _ => HS) HN 10 rfl (by kernel_rfl) (by kernel_rfl) (by kernel_rfl) (by decide) (by rw [g_want h rfl rfl rfl rfl hB8]; rfl) rfl (by decide) (fun a h => ?_)
                      refine d_takeNP h (fun _ => HS) HN 11 rfl (by kernel_rfl) (by kernel_rfl) (by kernel_rfl) (by decide) (by rw [g_want h rfl rfl rfl rfl hB8]; rfl) rfl (by decide) (fun a h => ?_)
                      refine d_takeNP h (fun _ => HS) HN 12 rfl (by kernel_rfl) (by kernel_rfl) (by kernel_rfl) (by decide) (by rw [g_want h rfl rfl rfl rfl hB8]; rfl) rfl (by decide) (fun a h => ?_)
                      refine d_takeNP h (fun _ => HS) HN 13 rfl (by kernel_rfl) (by kernel_rfl) (by kernel_rfl) (by decide) (by rw [g_want h rfl rfl rfl rfl hB8]; rfl) rfl (by decide) (fun a h => ?_)
                      refine d_takeNP h (fun _ => HS) HN 14 rfl (by kernel_rfl) (by kernel_rfl) (by kernel_rfl) (by decide) (by rw [g_want h rfl rfl rfl rfl hB8]; rfl) rfl (by decide) (fun a h => ?_)
                      refine d_takeNP h (fun _ => HS) HN 15 rfl (by kernel_rfl) (by kernel_rfl) (by kernel_rfl) (by decide) (by rw [g_want h rfl rfl rfl rfl hB8]; rfl) rfl (by decide) (fun a h => ?_)
                      refine d_takeP h (fun _ => HS) HN 16 rfl (by kernel_rfl) (by kernel_rfl) (by kernel_rfl) (by decide) rfl rfl (by decide) (fun w' => x_pick (u' := undef) h.k rfl rfl (fun hh => absurd (hB8.symm.trans hh) (by decide)) (fun _ => rfl)) (fun a h => ?_)
                      refine d_done (by kernel_rfl) (HE _ _ ?_) _
                      refine (h.pick [4, 5] (by decide) rfl).has (by refine ⟨congrArg (fun b => some (Value.bool b)) ?_, rfl, rfl, rfl, rfl, rfl, trivial⟩; simp at hB3 hB8 <;> simp [hfe, hB3, hB8])
                  · refine d_takeY h HS HN 4 rfl (by kernel_rfl) (by kernel_rfl) (by kernel_rfl) (by kernel_rfl) (by kernel_rfl) (by rw [g_want h rfl rfl rfl rfl hB3]; rfl) rfl (by decide) (fun w' hw => x_ldR h.k rfl ag_A32_uint8 rfl _ (by first | assumption | (rw [by8_length]; assumption) | (rw [by8_length]; rfl) | rfl | decide) (hw.range0 (i := 2) rfl)) (fun a h => ?_)
                    refine d_takeY h HS HN 5 rfl (by kernel_rfl) (by kernel_rfl) (by kernel_rfl) (by kernel_rfl) (by kernel_rfl) (by rw [g_want h rfl rfl rfl rfl hB3]; rfl) rfl (by decide) (fun w' hw => x_ldR h.k rfl ag_A32_uint8 rfl _ (by first | assumption | (rw [by8_length]; assumption) | (rw [by8_length]; rfl) | rfl | decide) (hw.range0 (i := 0) rfl)) (fun a h => ?_)
                    refine d_takeP h (fun _ => HS) HN 6 rfl (by kernel_rfl) (by kernel_rfl) (by kernel_rfl) (by decide) (by rw [g_want h rfl rfl rfl rfl hB3]; rfl) rfl (by decide) (fun w' => x_neA h.k rfl Try.underlying40 Try.underlying5 sz_uint8 (by kernel_rfl) rfl rfl n2 n4) (fun a h => ?_)
                    refine d_takeP h (fun _ => HS) HN 7 rfl (by kernel_rfl) (by kernel_rfl) (by kernel_rfl) (by decide) rfl rfl (by decide) (fun w' => x_pick (u' := undef) h.k rfl rfl (fun hh => absurd (hB3.symm.trans hh) (by decide)) (fun _ => rfl)) (fun a h => ?_)
                    refine d_takeP h (fun _ => HS) HN 8 rfl (by kernel_rfl) (by kernel_rfl) (by kernel_rfl) (by decide) rfl rfl (by decide) (fun w' => x_move h.k _ rfl rfl) (fun a h => ?_)
                    refine d_split (t := 123) h rfl (fun hB8 => ?_) (fun hB8 => ?_)
                    · refine d_takeY h HS HN 9 rfl (by kernel_rfl) (by kernel_rfl) (by kernel_rfl) (by kernel_rfl) (by kernel_rfl) (by rw [g_want h rfl rfl rfl rfl hB8]; rfl) rfl (by decide) (fun w' hw => x_ldR h.k rfl ag_A32_uint8 rfl _ (by first | assumption | (rw [by8_length]; assumption) | (rw [by8_length]; rfl) | rfl | decide) (hw.range0 (i := 3) rfl)) (fun a h => ?_)
                      refine d_takeY h HS HN 10 rfl (by kernel_rfl) (by kernel_rfl) (by kernel_rfl) (by kernel_rfl) (by kernel_rfl) (by rw [g_want h rfl rfl rfl rfl hB8]; rfl) rfl (by decide) (fun w' hw => x_ldR h.k rfl ag_A32_uint8 rfl _ (by first | assumption | (rw [by8_length]; assumption) | (rw [by8_length]; rfl) | rfl | decide) (hw.range0 (i := 2) rfl)) (fun a h => ?_)
                      refine d_takeY h HS HN 12 rfl (by kernel_rfl) (by kernel_rfl) (by kernel_rfl) (by kernel_rfl) (by kernel_rfl) (by rw [g_want h rfl rfl rfl rfl hB8]; rfl) rfl (by decide) (fun w' hw => x_ldR h.k rfl ag_A32_uint8 rfl _ (by first | assumption | (rw [by8_length]; assumption) | (rw [by8_length]; rfl) | rfl | decide) (hw.range0 (i := 1) rfl)) (fun a h => ?_)
                      refine d_takeY h HS HN 13 rfl (by kernel_rfl) (by kernel_rfl) (by kernel_rfl) (by kernel_rfl) (by kernel_rfl) (by rw [g_want h rfl rfl rfl rfl hB8]; rfl) rfl (by decide) (fun w' hw => x_ldR h.k rfl ag_A32_uint8 rfl _ (by first | assumption | (rw [by8_length]; assumption) | (rw [by8_length]; rfl) | rfl | decide) (hw.range0 (i := 0) rfl)) (fun a h => ?_)
                      refine d_alone 11 rfl (by kernel_rfl) (fun K hK => ?_)
                      refine g_yes (j := 8) (t := 123) h rfl rfl rfl rfl hB8 ?_
                      refine s_callB h rfl rfl rfl (by decide) Try.func27 rfl rfl rfl (rpair_ok w _ _ n1 n2) (fun a w hb h => ?_)
                      refine hK _ _ (fun _ _ => HS.ext hb) ?_
                      replace HS := HS.ext hb
                      clear hK
                      refine d_alone 14 rfl (by kernel_rfl) (fun K hK => ?_)
                      refine g_yes (j := 8) (t := 123) h rfl rfl rfl rfl hB8 ?_
                      refine s_callB h rfl rfl rfl (by decide) Try.func27 rfl rfl rfl (rpair_ok w _ _ n3 n4) (fun a w hb h => ?_)
                      refine hK _ _ (fun _ _ => HS.ext hb) ?_
                      replace HS := HS.ext hb
                      clear hK
                      refine d_takeP h (fun _ => HS) HN 15 rfl (by kernel_rfl) (by kernel_rfl) (by kernel_rfl) (by decide) (by rw [g_want h rfl rfl rfl rfl hB8]; rfl) rfl (by decide) (fun w' => x_eqA h.k rfl Try.underlying40 Try.underlying5 sz_uint8 (by kernel_rfl) rfl rfl (pairS_length _ _) (pairS_length _ _)) (fun a h => ?_)
                      refine d_takeP h (fun _ => HS) HN 16 rfl (by kernel_rfl) (by kernel_rfl) (by kernel_rfl) (by decide) rfl rfl (by decide) (fun w' => x_pick (u' := undef) h.k rfl rfl (fun _ => rfl) (fun hh => absurd (hB8.symm.trans hh) (by decide))) (fun a h => ?_)
                      refine d_done (by kernel_rfl) (HE _ _ ?_) _
                      refine (h.pick [4, 5] (by decide) rfl).has (by refine ⟨congrArg (fun b => some (Value.bool b)) ?_, rfl, rfl, rfl, rfl, rfl, trivial⟩; simp at hB3 hB8 <;> simp [hfe, hB3, hB8])
                    · refine d_takeNP h (fun _ => HS) HN 9 rfl (by kernel_rfl) (by kernel_rfl) (by kernel_rfl) (by decide) (by rw [g_want h rfl rfl rfl rfl hB8]; rfl) rfl (by decide) (fun a h => ?_)
                      refine d_takeNP h (fun _ => HS) HN 10 rfl (by kernel_rfl) (by kernel_rfl) (by kernel_rfl) (by decide) (by rw [g_want h rfl rfl rfl rfl hB8]; rfl) rfl (by decide) (fun a h => ?_)
                      refine d_takeNP h (fun _ => HS) HN 11 rfl (by kernel_rfl) (by kernel_rfl) (by kernel_rfl) (by decide) (by rw [g_want h rfl rfl rfl rfl hB8]; rfl) rfl (by decide) (fun a h => ?_)
                      refine d_takeNP h (fun _ => HS) HN 12 rfl (by kernel_rfl) (by kernel_rfl) (by kernel_rfl) (by decide) (by rw [g_want h rfl rfl rfl rfl hB8]; rfl) rfl (by decide) (fun a h => ?_)
                      refine d_takeNP h (fun _ => HS) HN 13 rfl (by kernel_rfl) (by kernel_rfl) (by kernel_rfl) (by decide) (by rw [g_want h rfl rfl rfl rfl hB8]; rfl) rfl (by decide) (fun a h => ?_)
                      refine d_takeNP h (fun _ => HS) HN 14 rfl (by kernel_rfl) (by kernel_rfl) (by kernel_rfl) (by decide) (by rw [g_want h rfl rfl rfl rfl hB8]; rfl) rfl (by decide) (fun a h => ?_)
                      refine d_takeNP h (fun _ => HS) HN 15 rfl (by kernel_rfl) (by kernel_rfl) (by kernel_rfl) (by decide) (by rw [g_want h rfl rfl rfl rfl hB8]; rfl) rfl (by decide) (fun a h => ?_)
                      refine d_takeP h (fun _ => HS) HN 16 rfl (by kernel_rfl) (by kernel_rfl) (by kernel_rfl) (by decide) rfl rfl (by decide) (fun w' => x_pick (u' := undef) h.k rfl rfl (fun hh => absurd (hB8.symm.trans hh) (by decide)) (fun _ => rfl)) (fun a h => ?_)
                      refine d_done (by kernel_rfl) (HE _ _ ?_) _
                      refine (h.pick [4, 5] (by decide) rfl).has (by refine ⟨congrArg (fun b => some (Value.bool b)) ?_, rfl, rfl, rfl, rfl, rfl, trivial⟩; simp at hB3 hB8 <;> simp [hfe, hB3, hB8])
                refine e_thenN ?_
                refine c_cond h rfl (fun hb => ?_) (fun hb => ?_)
                · have hfd := of_decide_eq_true hb
                  refine c_rs ?_ -- region 27
                  refine s_assign h rfl _ rfl rfl (by decide) rfl (fun a h => ?_)
                  refine l_end ?_
                  refine wp_ret ?_
                  refine e_blkR ?_
                  refine e_thenR ?_
                  refine e_thenR ?_
                  refine e_blkR ?_
                  refine e_blkR ?_
                  refine e_thenR ?_
                  refine e_thenR ?_
                  refine e_blkR ?_
                  refine e_thenR ?_
                  exact r_ret1 h rfl (rv_tmp h rfl) ⟨rfl, h.m.below⟩
                · have hnfd := of_decide_eq_false hb
                  refine wp_skip ?_
                  refine e_blkN ?_
                  refine e_thenN ?_
                  refine c_r ?_ -- region 23
                  refine s_move h rfl _ rfl rfl (by decide) rfl (fun a h => ?_)
                  refine s_move h rfl _ rfl rfl (by decide) rfl (fun a h => ?_)
                  refine s_bin h rfl rfl rfl (by decide) rfl rfl (ib_mul (nw64 (by omega))) (fun a h => ?_)
                  refine s_bin h rfl rfl rfl (by decide) rfl rfl (ib_add (nw64 (by omega))) (fun a h => ?_)
                  refine s_assign h rfl _ rfl rfl (by decide) rfl (fun a h => ?_)
                  refine l_nil ?_
                  exact e_thenN ⟨m' - 1, by omega, j + 1, q + 2 * Me, by rw [Nat.add_mul, Nat.one_mul]; omega, by omega, fun j' hj' => by
                    rcases Nat.lt_or_ge j' j with h3 | h3
                    · exact hnj j' h3
                    · obtain rfl : j' = j := by omega
                      rw [← hMe, ← hq]; exact hnfd, h.has (by exact ⟨rfl, rfl, rfl, rfl, by simp, trivial⟩)⟩
              · have hKM : ¬ q < M := by have := of_decide_eq_false hb; omega
                have hjJ : j = J := by
                  rcases Nat.lt_or_ge j J with h3 | h3
                  · have : j * (2 * Me) < J * (2 * Me) := (Nat.mul_lt_mul_right (by omega)).2 h3
                    omega
                  · omega
                subst hjJ
                refine wp_exit ?_
                refine e_thenX ?_
                refine e_thenX ?_
                refine e_blkX ?_
                refine e_blkN ?_
                refine e_thenN ?_
                refine c_r ?_ -- region 20
                refine s_move h rfl _ rfl rfl (by decide) rfl (fun a h => ?_)
                refine s_bin h rfl rfl rfl (by decide) rfl rfl (ib_mul (nw64 (by omega))) (fun a h => ?_)
                refine s_assign h rfl _ rfl rfl (by decide) rfl (fun a h => ?_)
                refine l_nil ?_
                exact e_thenN ⟨m - 1, by omega, e + 1, 2 * Me, by rw [hMe, Nat.pow_succ]; omega, by omega, fun e' he' j' hj' => by
                  rcases Nat.lt_or_ge e' e with h3 | h3
                  · exact hnf e' h3 j' hj'
                  · obtain rfl : e' = e := by omega
                    refine hnj j' ?_
                    rw [← hMe] at hj'
                    rcases Nat.lt_or_ge j' j with h4 | h4
                    · exact h4
                    · have : j * (2 * Me) ≤ j' * (2 * Me) := Nat.mul_le_mul_right _ h4
                      omega, h.has (by exact ⟨rfl, rfl, rfl, by simp; omega, trivial⟩)⟩
            · have hMM : ¬ Me < M := by have := of_decide_eq_false hb; omega
              have hge : e = lg la.length := by
                rcases Nat.lt_or_ge e (lg la.length) with h3 | h3
                · have : 2 ^ (e + 1) ≤ 2 ^ lg la.length := Nat.pow_le_pow_right (by decide) h3
                  rw [Nat.pow_succ] at this
                  omega
                · omega
              subst hge
              exact absurd (apart_law la lb hlen hl1 hrr (by rw [← hM]; exact hnf)) hne
theorem merkleApart_ok (A : Option Addr) (la : List (List UInt8)) (ca : Nat) (Ab : Option Addr) (lb : List (List UInt8)) (cb : Nat) (w : World) (hat : kSum.At w A la) (hc : la.length ≤ ca) (hm : ca ≤ maxLen) (hbt : kSum.At w Ab lb) (hcb : lb.length ≤ cb) (hmb : cb ≤ maxLen) :
    Calls Try.prog 4 #[.slice A la.length ca, .slice Ab lb.length cb] w fun e w' => e = .returned (.bool true) ∧ Below w.heap.size w w' := by
  obtain ⟨ha, hra⟩ := sums_in hat
  obtain ⟨hb, hrb⟩ := sums_in hbt
  exact merkleApart_walk w A la ca ha hra Ab lb cb hb hrb
end Go.Proofs.Ytlgcfnbhnpnkiaa
