/- Trees of sums: another leaf. -/
import Derived.Test.YtlgcfnbhnpnkiaaMk6
set_option linter.unusedVariables false
set_option linter.unusedSimpArgs false
namespace Go.Proofs.Ytlgcfnbhnpnkiaa
open Go.RowKit

theorem getD_at {l : List (List UInt8)} {k : Nat} (h : k < l.length) : l.getD k z32 = l[k] := by rw [List.getD_eq_getElem?_getD, List.getElem?_eq_getElem h]; rfl
/-- along a place's own way lies the root -/
theorem along_root : ∀ (e : Nat) (l : List (List UInt8)) (i : Nat), l.length = 2 ^ e → i < 2 ^ e → alongS (l.getD i z32) i (wayE e l i) = rootE e l
  | 0, l, i, hl, hi => by
    obtain rfl : i = 0 := by simpa using hi
    match l, hl with
    | [x], _ => rfl
  | e + 1, l, i, hl, hi => by
    have hu : (upL l).length = 2 ^ e := by rw [upL_length, hl, pow_half]
    rw [Nat.pow_succ] at hl hi
    rw [wayE, rootE, ← along_root e (upL l) (i / 2) hu (by omega), alongS]
    congr 1
    rw [getD_at (show i / 2 < (upL l).length by omega), upL_at l (i / 2) (by omega) (by omega), getD_at (show i < l.length by omega), getD_at (show sib i < l.length by unfold sib; split <;> omega)]
    unfold sib
    split
    · next h => congr 1 <;> congr 1 <;> omega
    · next h => congr 1 <;> congr 1 <;> omega
theorem upL_set : ∀ (l : List (List UInt8)) (i : Nat) (x : List UInt8), ∃ y, upL (l.set i x) = (upL l).set (i / 2) y
  | [], i, x => ⟨x, by simp [upL]⟩
  | [a], i, x => ⟨x, by cases i <;> simp [upL]⟩
  | a :: b :: l, 0, x => ⟨pairS x b, by simp [upL]⟩
  | a :: b :: l, 1, x => ⟨pairS a x, by simp [upL]⟩
  | a :: b :: l, i + 2, x => by
    obtain ⟨y, hy⟩ := upL_set l i x
    refine ⟨y, ?_⟩
    simp only [List.set_cons_succ, upL, hy, show (i + 2) / 2 = i / 2 + 1 by omega]
theorem getD_set (l : List (List UInt8)) (i j : Nat) (x : List UInt8) (h : i ≠ j) : (l.set i x).getD j z32 = l.getD j z32 := by
  rw [List.getD_eq_getElem?_getD, List.getD_eq_getElem?_getD, List.getElem?_set_ne h]
theorem wayE_set : ∀ (e : Nat) (l : List (List UInt8)) (i : Nat) (x : List UInt8), wayE e (l.set i x) i = wayE e l i
  | 0, _, _, _ => rfl
  | e + 1, l, i, x => by
    obtain ⟨y, hy⟩ := upL_set l i x
    rw [wayE, wayE, hy, wayE_set e (upL l) (i / 2) y, getD_set _ _ _ _ (by unfold sib; split <;> omega)]
theorem wideL_set (l : List (List UInt8)) (i : Nat) (x : List UInt8) (h : i < l.length) : wideL (l.set i x) = (wideL l).set i x := by
  unfold wideL; rw [List.length_set, List.set_append_left _ _ h]
theorem wideL_at (l : List (List UInt8)) (i : Nat) (h : i < l.length) : (wideL l).getD i z32 = l[i] := by
  unfold wideL
  rw [List.getD_eq_getElem?_getD, List.getElem?_append_left h, List.getElem?_eq_getElem h]; rfl
theorem along_own (l : List (List UInt8)) (i : Nat) (h : i < l.length) : alongS l[i] i (wayS l i) = rootS l := by
  have h1 := along_root (lg l.length) (wideL l) i (wideL_length l (by omega)) (Nat.lt_of_lt_of_le h (le_lg _ (by omega)))
  rwa [wideL_at l i h] at h1
theorem along_set (l : List (List UInt8)) (i : Nat) (h : i < l.length) (x : List UInt8) : alongS x i (wayS l i) = rootS (l.set i x) := by
  have h1 := along_own (l.set i x) i (by simpa using h)
  have e : wayS (l.set i x) i = wayS l i := by unfold wayS; rw [List.length_set, wideL_set l i x h, wayE_set]
  rw [e] at h1
  rw [← h1]
  simp
theorem wayS_length (l : List (List UInt8)) (i : Nat) : (wayS l i).length = lg l.length := wayE_length _ _ _
theorem way_in {l : List (List UInt8)} {i : Nat} (h : inOk l.length (i : Int)) : wayOk (i : Int) (wayS l i).length := by
  obtain ⟨⟨h1, h2⟩, h3, h4⟩ := h
  rw [wayS_length]
  have h5 := le_lg l.length (by omega)
  have h6 : ((2 ^ lg l.length : Nat) : Int) = (2 : Int) ^ lg l.length := by simp
  exact ⟨lg_le _ (by omega) h2, h3, by omega⟩
theorem clone_any {w : World} {v : Value} {l : List (List UInt8)} (hl : S32 l) (hown : w.ownsRow 0 40 32 v l.length (by8 l.flatten)) (hr : ∃ A c, v = .slice A l.length c ∧ Rd w A (by8 l.flatten)) (h2 : l.length ≤ 4096) :
    Calls Try.prog 76 #[v] w fun e w' => ∃ v, e = .returned v ∧ NewS w w' 40 32 v l.length (by8 l.flatten) := by
  obtain ⟨A, c, e, hr⟩ := hr
  rcases hown.2 with ⟨h1, h3⟩ | ⟨g, cap, cur, h1, _⟩
  · obtain rfl : l = [] := List.eq_nil_of_length_eq_zero h3
    subst h1
    exact cloneS_nil w
  · rw [e] at h1
    cases h1
    rw [e]
    exact cloneS_some w g 0 l _ hl hr h2
def chgV (l : List (List UInt8)) (i : Int) (x r : List UInt8) : List UInt8 := if inOk l.length i ∧ rootS l = r then rootS (l.set i.toNat x) else z32
def chgE (l : List (List UInt8)) (i : Int) (r : List UInt8) : Int := if inOk l.length i then (if rootS l = r then 0 else 21) else 2
set_option maxRecDepth 100000 in
set_option maxHeartbeats 1000000 in
theorem changed_ok (w0 : World) (A : Option Addr) (l : List (List UInt8)) (c : Nat) (hl : S32 l) (hr : Rd w0 A (by8 l.flatten)) (i : Int) (hi : -9223372036854775808 ≤ i ∧ i ≤ 9223372036854775807) (x r : List UInt8) (hx : x.length = 32) (hr32 : r.length = 32) :
    Calls Try.prog 34 #[.slice A l.length c, .int .i64 i, .agg (by8 x).toArray, .agg (by8 r).toArray] w0 fun e w' => e = .returned (.tuple #[.agg (by8 (chgV l i x r)).toArray, .int .i64 (chgE l i r)]) ∧ Below w0.heap.size w0 w' := by
  refine c_enter Try.func34 rfl 45 rfl (by simp) (fun _ => False) _ rfl (fun a h => ?_)
  have h := h.mem (h.m.arg (rdP A (by8 l.flatten)) hr (fun _ _ hh => hh))
  refine c_rs ?_ -- region 0
  refine s_box h rfl rfl rfl (by decide) rfl rfl (fun a w g6 h => ?_)
  refine s_box h rfl rfl rfl (by decide) rfl rfl (fun a w g7 h => ?_)
  refine s_alloc h rfl rfl rfl (by decide) zi_A32_uint8 rfl (fun a w g8 h => ?_)
  refine s_assign h rfl _ rfl rfl (by decide) rfl (fun a h => ?_)
  refine l_end ?_
  refine c_rs ?_ -- region 1
  refine s_move h rfl _ rfl rfl (by decide) rfl (fun a h => ?_)
  refine s_move h rfl _ rfl rfl (by decide) rfl (fun a h => ?_)
  refine s_call h rfl rfl rfl (by decide) Try.func33 rfl rfl rfl (way_ok w A l c hl (h.m.ok 3 _ rfl) i hi) (fun e w' hp => ?_)
  obtain ⟨vw, rfl, hnew⟩ := hp
  refine ⟨_, rfl, fun a hk => ?_⟩
  have hws := wayV_s32 hl i
  have h : St 45 w0 (fun _ => False) _ (.row vw 40 32 (wayV l i).length (by8 (wayV l i).flatten) :: _) a w' := ⟨hk, h.m.addNewS hnew⟩
  refine s_move h rfl _ rfl rfl (by decide) rfl (fun a h => ?_)
  refine s_ext h rfl rfl rfl (by decide) rfl rfl (fun a h => ?_)
  refine s_ext h rfl rfl rfl (by decide) rfl rfl (fun a h => ?_)
  refine s_assign h rfl _ rfl rfl (by decide) rfl (fun a h => ?_)
  refine s_assign h rfl _ rfl rfl (by decide) rfl (fun a h => ?_)
  refine l_end ?_
  refine wp_seq ?_
  refine c_rs ?_ -- region 2
  refine s_move h rfl _ rfl rfl (by decide) rfl (fun a h => ?_)
  refine s_bin h rfl rfl rfl (by decide) rfl rfl (ib_neq) (fun a h => ?_)
  refine l_end ?_
  refine c_cond h rfl (fun hb => ?_) (fun hb => ?_)
  · have hno : ¬ inOk l.length i := by
      intro hh
      unfold errV at hb
      rw [if_pos hh] at hb
      simp at hb
    refine c_rs ?_ -- region 3
    refine s_build h rfl rfl rfl (by decide) [] rfl (by8 z32) (by kernel_rfl) (fun a h => ?_)
    refine s_move h rfl _ rfl rfl (by decide) rfl (fun a h => ?_)
    refine s_stW h rfl rfl rfl ag_A32_uint8 rfl rfl (by first | assumption | (rw [by8_length]; assumption) | (rw [by8_length]; rfl) | rfl | decide) (by first | exact by8_one _ | simp [Value.oneCell']) 1 rfl (by first | assumption | (rw [by8_length]; assumption) | (rw [by8_length]; rfl) | rfl | decide) (fun a w h => ?_)
    refine s_assign h rfl _ rfl rfl (by decide) rfl (fun a h => ?_)
    refine l_end ?_
    refine wp_ret ?_
    refine e_thenR ?_
    refine r_ret2 h rfl (rv_cellA h rfl 1 rfl ag_A32_uint8 rfl) (rv_tmp h rfl) ⟨?_, h.m.below⟩
    unfold chgV chgE errV
    rw [if_neg (show ¬ (inOk l.length i ∧ rootS l = r) from fun hh => hno hh.1)]
    simp [hno]
  · have hok : inOk l.length i := Classical.byContradiction fun hh => by
      unfold errV at hb
      rw [if_neg hh] at hb
      simp at hb
    have hok' := hok
    obtain ⟨⟨h1, h2⟩, h3, h4⟩ := hok'
    obtain ⟨i0, rfl⟩ : ∃ n : Nat, i = (n : Int) := ⟨i.toNat, by omega⟩
    have hi0 : i0 < l.length := by omega
    have hwv : wayV l (i0 : Int) = wayS l i0 := by unfold wayV; rw [if_pos hok, Int.toNat_natCast]
    rw [hwv] at h hws
    have hwk := way_in hok
    have hwl : (wayS l i0).length ≤ 4096 := by rw [wayS_length]; have := lg_le l.length (by omega) h2; omega
    have ho32 := hl.at hi0
    obtain ⟨b, off, hA⟩ := hr.addr (by rw [by8_length, flat_len hl]; omega)
    subst hA
    obtain ⟨Aw, cw, rfl, _, _, _⟩ := h.m.rdRow (i := 0) rfl
    have hal : alongV l[i0] (i0 : Int) (wayS l i0) = rootS l := by unfold alongV; rw [if_pos hwk, Int.toNat_natCast]; exact along_own l i0 hi0
    have hal2 : alongV x (i0 : Int) (wayS l i0) = rootS (l.set i0 x) := by unfold alongV; rw [if_pos hwk, Int.toNat_natCast]; exact along_set l i0 hi0 x
    have hew : errV (wayOk (i0 : Int) (wayS l i0).length) = 0 := by unfold errV; rw [if_pos hwk]
    have hro := rootS_length hl
    have hro2 := rootS_length (hl.set i0 hx)
    refine wp_skip ?_
    refine e_thenN ?_
    refine wp_seq ?_
    refine wp_seq ?_
    -- region 4 DRAWS
    refine c_fin (fun a w => ∃ g12, St 45 w0 (fun _ => False) [(0, .slice (some ⟨b, off, none⟩) l.length c), (1, .int .i64 (i0 : Int)), (6, .pointer (some ⟨g6, 0, none⟩)), (7, .pointer (some ⟨g7, 0, none⟩)), (8, .pointer (some ⟨g8, 0, none⟩)), (10, .slice Aw (wayS l i0).length cw), (12, .pointer (some ⟨g12, 0, none⟩))] [.box g12 40 (by8 (rootS l)), .row (.slice Aw (wayS l i0).length cw) 40 32 (wayS l i0).length (by8 (wayS l i0).flatten), .box g8 40 (by8 z32), .box g7 40 (by8 r), .box g6 40 (by8 x)] a w) ?_ (fun a w h => ?_)
    · refine d_start h (Mem _ _ _) 12 14 rfl (by kernel_rfl) (fun _ _ _ _ _ h => h) (fun _ h => h) (fun Q a w HE HN h HS => ?_)
      refine d_takeP h (fun _ => HS) HN 0 rfl (by kernel_rfl) (by kernel_rfl) (by kernel_rfl) (by decide) rfl rfl (by decide) (fun w' => x_move h.k _ rfl rfl) (fun a h => ?_)
      refine d_takeP h (fun _ => HS) HN 1 rfl (by kernel_rfl) (by kernel_rfl) (by kernel_rfl) (by decide) rfl rfl (by decide) (fun w' => x_move h.k _ rfl rfl) (fun a h => ?_)
      refine d_takeP h (fun _ => HS) HN 2 rfl (by kernel_rfl) (by kernel_rfl) (by kernel_rfl) (by decide) rfl rfl (by decide) (fun w' => x_iaddr h.k rfl Try.underlying39 sz_A32_uint8 rfl rfl (m := i0) (by omega) (by omega) (r := off + i0 * 32) (by omega)) (fun a h => ?_)
      refine d_take h HS HN 3 rfl (by kernel_rfl) (by kernel_rfl) (by kernel_rfl) (by kernel_rfl) (by kernel_rfl) rfl rfl (by decide) (fun w' hw => x_ldR h.k rfl ag_A32_uint8 rfl (by8 l[i0]) (by rw [by8_length, ho32]) (Rd.sum hl (hw.ok 4 _ rfl) hi0)) (fun a h => ?_)
      refine d_takeP h (fun _ => HS) HN 4 rfl (by kernel_rfl) (by kernel_rfl) (by kernel_rfl) (by decide) rfl rfl (by decide) (fun w' => x_move h.k _ rfl rfl) (fun a h => ?_)
      refine d_takeP h (fun _ => HS) HN 5 rfl (by kernel_rfl) (by kernel_rfl) (by kernel_rfl) (by decide) rfl rfl (by decide) (fun w' => x_move h.k _ rfl rfl) (fun a h => ?_)
      refine d_two 6 11 (by kernel_rfl) (d_one 6 rfl _ (fun K hK => ?_)) (d_one 11 rfl _ (fun K hK => ?_))
      · refine s_callNS h rfl rfl rfl (by decide) Try.func76 rfl rfl rfl (by first | exact clone_any hws (h.m.ok 0 _ rfl) ⟨_, _, rfl, h.m.rdRowA (i := 0) rfl⟩ hwl | exact clone_any hws (h.m.ok 1 _ rfl) ⟨_, _, rfl, h.m.rdRowA (i := 1) rfl⟩ hwl) (fun a w v31 hb h => ?_)
        obtain ⟨A31, c31, rfl, _, _, _⟩ := h.m.rdRow (i := 0) rfl
        refine hK _ _ ⟨fun _ _ => HS.ext hb, ?_⟩
        replace HS := HS.ext hb
        clear hK
        refine d_two 7 11 (by kernel_rfl) (d_one 7 rfl _ (fun K hK => ?_)) (d_one 11 rfl _ (fun K hK => ?_))
        · refine s_callB h rfl rfl rfl (by decide) Try.func29 rfl rfl rfl (along_ok w l[i0] ho32 i0 hi A31 (wayS l i0) c31 hws (by first | exact h.m.rdRowA (i := 0) rfl | exact h.m.rdRowA (i := 1) rfl)) (fun a w hb h => ?_)
          rw [hal] at h
          refine hK _ _ ⟨fun _ _ => HS.ext hb, ?_⟩
          replace HS := HS.ext hb
          clear hK
          refine d_takeP h (fun _ => HS) HN 8 rfl (by kernel_rfl) (by kernel_rfl) (by kernel_rfl) (by decide) rfl rfl (by decide) (fun w' => x_move h.k _ rfl rfl) (fun a h => ?_)
          refine d_takeP h (fun _ => HS) HN 9 rfl (by kernel_rfl) (by kernel_rfl) (by kernel_rfl) (by decide) rfl rfl (by decide) (fun w' => x_ext h.k rfl rfl rfl) (fun a h => ?_)
          refine d_takeP h (fun _ => HS) HN 10 rfl (by kernel_rfl) (by kernel_rfl) (by kernel_rfl) (by decide) rfl rfl (by decide) (fun w' => x_ext h.k rfl rfl rfl) (fun a h => ?_)
          refine d_alone 11 rfl (by kernel_rfl) (fun K hK => ?_)
          refine s_alloc h rfl rfl rfl (by decide) zi_A32_uint8 rfl (fun a w g12 h => ?_)
          replace HS := h.m.tail.tail
          refine hK _ _ (fun _ _ => HS) ?_
          clear hK
          refine d_alone 12 rfl (by kernel_rfl) (fun K hK => ?_)
          first
            | refine s_stW h rfl rfl rfl ag_A32_uint8 rfl rfl (by rw [by8_length, hro]) (by8_one _) 0 rfl (by rfl) (fun a w h => ?_)
            | refine s_stW h rfl rfl rfl ag_A32_uint8 rfl rfl (by rw [by8_length, hro]) (by8_one _) 1 rfl (by rfl) (fun a w h => ?_)
          refine hK _ _ (fun hne _ => absurd rfl hne) ?_
          clear hK
          refine d_takeP h (fun hl => absurd hl (by decide)) HN 13 rfl (by kernel_rfl) (by kernel_rfl) (by kernel_rfl) (by decide) rfl rfl (by decide) (fun w' => x_assign h.k _ rfl rfl) (fun a h => ?_)
          refine d_done (by kernel_rfl) (HE _ _ ?_) _
          first
            | exact ⟨g12, (h.pick [0, 2, 3, 4, 5] (by decide) rfl).has (by exact ⟨rfl, rfl, rfl, rfl, rfl, rfl, rfl, trivial⟩)⟩
            | exact ⟨g12, (h.pick [1, 2, 3, 4, 5] (by decide) rfl).has (by exact ⟨rfl, rfl, rfl, rfl, rfl, rfl, rfl, trivial⟩)⟩
        · refine s_alloc h rfl rfl rfl (by decide) zi_A32_uint8 rfl (fun a w g12 h => ?_)
          replace HS := h.m.tail.tail
          refine hK _ _ ⟨fun _ _ => HS, ?_⟩
          clear hK
          refine d_alone 7 rfl (by kernel_rfl) (fun K hK => ?_)
          refine s_callB h rfl rfl rfl (by decide) Try.func29 rfl rfl rfl (along_ok w l[i0] ho32 i0 hi A31 (wayS l i0) c31 hws (by first | exact h.m.rdRowA (i := 0) rfl | exact h.m.rdRowA (i := 1) rfl)) (fun a w hb h => ?_)
          rw [hal] at h
          refine hK _ _ (fun _ _ => HS.ext hb) ?_
          replace HS := HS.ext hb
          clear hK
          refine d_takeP h (fun _ => HS) HN 8 rfl (by kernel_rfl) (by kernel_rfl) (by kernel_rfl) (by decide) rfl rfl (by decide) (fun w' => x_move h.k _ rfl rfl) (fun a h => ?_)
          refine d_takeP h (fun _ => HS) HN 9 rfl (by kernel_rfl) (by kernel_rfl) (by kernel_rfl) (by decide) rfl rfl (by decide) (fun w' => x_ext h.k rfl rfl rfl) (fun a h => ?_)
          refine d_takeP h (fun _ => HS) HN 10 rfl (by kernel_rfl) (by kernel_rfl) (by kernel_rfl) (by decide) rfl rfl (by decide) (fun w' => x_ext h.k rfl rfl rfl) (fun a h => ?_)
          refine d_alone 12 rfl (by kernel_rfl) (fun K hK => ?_)
          first
            | refine s_stW h rfl rfl rfl ag_A32_uint8 rfl rfl (by rw [by8_length, hro]) (by8_one _) 0 rfl (by rfl) (fun a w h => ?_)
            | refine s_stW h rfl rfl rfl ag_A32_uint8 rfl rfl (by rw [by8_length, hro]) (by8_one _) 1 rfl (by rfl) (fun a w h => ?_)
          refine hK _ _ (fun hne _ => absurd rfl hne) ?_
          clear hK
          refine d_takeP h (fun hl => absurd hl (by decide)) HN 13 rfl (by kernel_rfl) (by kernel_rfl) (by kernel_rfl) (by decide) rfl rfl (by decide) (fun w' => x_assign h.k _ rfl rfl) (fun a h => ?_)
          refine d_done (by kernel_rfl) (HE _ _ ?_) _
          first
            | exact ⟨g12, (h.pick [0, 2, 3, 4, 5] (by decide) rfl).has (by exact ⟨rfl, rfl, rfl, rfl, rfl, rfl, rfl, trivial⟩)⟩
            | exact ⟨g12, (h.pick [1, 2, 3, 4, 5] (by decide) rfl).has (by exact ⟨rfl, rfl, rfl, rfl, rfl, rfl, rfl, trivial⟩)⟩
      · refine s_alloc h rfl rfl rfl (by decide) zi_A32_uint8 rfl (fun a w g12 h => ?_)
        replace HS := h.m.tail
        refine hK _ _ ⟨fun _ _ => HS, ?_⟩
        clear hK
        refine d_alone 6 rfl (by kernel_rfl) (fun K hK => ?_)
        refine s_callNS h rfl rfl rfl (by decide) Try.func76 rfl rfl rfl (by first | exact clone_any hws (h.m.ok 0 _ rfl) ⟨_, _, rfl, h.m.rdRowA (i := 0) rfl⟩ hwl | exact clone_any hws (h.m.ok 1 _ rfl) ⟨_, _, rfl, h.m.rdRowA (i := 1) rfl⟩ hwl) (fun a w v31 hb h => ?_)
        obtain ⟨A31, c31, rfl, _, _, _⟩ := h.m.rdRow (i := 0) rfl
        refine hK _ _ (fun _ _ => HS.ext hb) ?_
        replace HS := HS.ext hb
        clear hK
        refine d_alone 7 rfl (by kernel_rfl) (fun K hK => ?_)
        refine s_callB h rfl rfl rfl (by decide) Try.func29 rfl rfl rfl (along_ok w l[i0] ho32 i0 hi A31 (wayS l i0) c31 hws (by first | exact h.m.rdRowA (i := 0) rfl | exact h.m.rdRowA (i := 1) rfl)) (fun a w hb h => ?_)
        rw [hal] at h
        refine hK _ _ (fun _ _ => HS.ext hb) ?_
        replace HS := HS.ext hb
        clear hK
        refine d_takeP h (fun _ => HS) HN 8 rfl (by kernel_rfl) (by kernel_rfl) (by kernel_rfl) (by decide) rfl rfl (by decide) (fun w' => x_move h.k _ rfl rfl) (fun a h => ?_)
        refine d_takeP h (fun _ => HS) HN 9 rfl (by kernel_rfl) (by kernel_rfl) (by kernel_rfl) (by decide) rfl rfl (by decide) (fun w' => x_ext h.k rfl rfl rfl) (fun a h => ?_)
        refine d_takeP h (fun _ => HS) HN 10 rfl (by kernel_rfl) (by kernel_rfl) (by kernel_rfl) (by decide) rfl rfl (by decide) (fun w' => x_ext h.k rfl rfl rfl) (fun a h => ?_)
        refine d_alone 12 rfl (by kernel_rfl) (fun K hK => ?_)
        first
          | refine s_stW h rfl rfl rfl ag_A32_uint8 rfl rfl (by rw [by8_length, hro]) (by8_one _) 0 rfl (by rfl) (fun a w h => ?_)
          | refine s_stW h rfl rfl rfl ag_A32_uint8 rfl rfl (by rw [by8_length, hro]) (by8_one _) 1 rfl (by rfl) (fun a w h => ?_)
        refine hK _ _ (fun hne _ => absurd rfl hne) ?_
        clear hK
        refine d_takeP h (fun hl => absurd hl (by decide)) HN 13 rfl (by kernel_rfl) (by kernel_rfl) (by kernel_rfl) (by decide) rfl rfl (by decide) (fun w' => x_assign h.k _ rfl rfl) (fun a h => ?_)
        refine d_done (by kernel_rfl) (HE _ _ ?_) _
        first
          | exact ⟨g12, (h.pick [0, 2, 3, 4, 5] (by decide) rfl).has (by exact ⟨rfl, rfl, rfl, rfl, rfl, rfl, rfl, trivial⟩)⟩
          | exact ⟨g12, (h.pick [1, 2, 3, 4, 5] (by decide) rfl).has (by exact ⟨rfl, rfl, rfl, rfl, rfl, rfl, rfl, trivial⟩)⟩
    obtain ⟨g12, h⟩ := h
    refine e_thenN ?_
    refine c_rs ?_ -- region 5
    refine s_ldW h rfl rfl rfl (by decide) ag_A32_uint8 rfl 0 rfl (by first | assumption | (rw [by8_length]; assumption) | (rw [by8_length]; rfl) | rfl | decide) (fun a h => ?_)
    refine s_ldW h rfl rfl rfl (by decide) ag_A32_uint8 rfl 3 rfl (by first | assumption | (rw [by8_length]; assumption) | (rw [by8_length]; rfl) | rfl | decide) (fun a h => ?_)
    refine s_neA h rfl rfl rfl (by decide) Try.underlying40 Try.underlying5 sz_uint8 (by kernel_rfl) rfl rfl hro hr32 (fun a h => ?_)
    refine l_end ?_
    refine c_cond h rfl (fun hb => ?_) (fun hb => ?_)
    · have hne : rootS l ≠ r := by simpa using hb
      refine c_rs ?_ -- region 6
      refine s_build h rfl rfl rfl (by decide) [] rfl (by8 z32) (by kernel_rfl) (fun a h => ?_)
      refine s_stW h rfl rfl rfl ag_A32_uint8 rfl rfl (by first | assumption | (rw [by8_length]; assumption) | (rw [by8_length]; rfl) | rfl | decide) (by first | exact by8_one _ | simp [Value.oneCell']) 2 rfl (by first | assumption | (rw [by8_length]; assumption) | (rw [by8_length]; rfl) | rfl | decide) (fun a w h => ?_)
      refine s_assign h rfl _ rfl rfl (by decide) rfl (fun a h => ?_)
      refine l_end ?_
      refine wp_ret ?_
      refine e_thenR ?_
      refine r_ret2 h rfl (rv_cellA h rfl 2 rfl ag_A32_uint8 rfl) (rv_tmp h rfl) ⟨?_, h.m.below⟩
      unfold chgV chgE
      rw [if_neg (fun hh => hne hh.2), if_pos hok, if_neg hne]
    · have heq : rootS l = r := by simpa using hb
      refine wp_skip ?_
      refine e_thenN ?_
      refine c_rs ?_ -- region 7
      refine s_ldW h rfl rfl rfl (by decide) ag_A32_uint8 rfl 4 rfl (by first | assumption | (rw [by8_length]; assumption) | (rw [by8_length]; rfl) | rfl | decide) (fun a h => ?_)
      refine s_move h rfl _ rfl rfl (by decide) rfl (fun a h => ?_)
      refine s_move h rfl _ rfl rfl (by decide) rfl (fun a h => ?_)
      refine s_callB h rfl rfl rfl (by decide) Try.func29 rfl rfl rfl (along_ok w x hx i0 hi Aw (wayS l i0) cw hws (h.m.rdRowA (i := 1) rfl)) (fun a w hb h => ?_)
      rw [hal2, hew] at h
      refine s_ext h rfl rfl rfl (by decide) rfl rfl (fun a h => ?_)
      refine s_ext h rfl rfl rfl (by decide) rfl rfl (fun a h => ?_)
      refine s_stW h rfl rfl rfl ag_A32_uint8 rfl rfl (by rw [by8_length, hro2]) (by8_one _) 2 rfl (by rfl) (fun a w h => ?_)
      refine s_assign h rfl _ rfl rfl (by decide) rfl (fun a h => ?_)
      refine l_end ?_
      refine wp_ret ?_
      refine r_ret2 h rfl (rv_cellA h rfl 2 rfl ag_A32_uint8 (by rw [by8_length, hro2])) (rv_tmp h rfl) ⟨?_, h.m.below⟩
      unfold chgV chgE
      rw [if_pos ⟨hok, heq⟩, if_pos hok, if_pos heq, Int.toNat_natCast]
      rfl
end Go.Proofs.Ytlgcfnbhnpnkiaa
