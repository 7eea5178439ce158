/- Wr: Go functions as plain functions, and that they are so (written by xt.py). -/
import Derived.Test.YthaoiajbgadcjaaAr
import Derived.Test.YthaoiajbgadcjaaWb
set_option linter.unusedVariables false
set_option linter.unusedSimpArgs false
namespace Go.Proofs.Ythaoiajbgadcjaa
open Go.RowKit
def chatelaineref09_Wrap_l0 (Fu : Nat) (a1 : List UInt8) : Nat → (List (List UInt8)) → Int → Option ((List (List UInt8)))
  | 0, _, _ => none
  | k + 1, x21, x26 => if x26 < (a1.length : Int) then ((sub a1 x26 (w64 (x26 + 8))).bind fun x36 => (app 24 x21 ([x36])).bind fun x48 => chatelaineref09_Wrap_l0 Fu a1 k x48 (w64 (x26 + 8))) else (some x21)
def chatelaineref09_Wrap_l3 (Fu : Nat) (x93 : List UInt8) (x100 : Int) (x102 : List (List UInt8)) : Nat → Int → (List UInt8) → Option ((List UInt8))
  | 0, _, _ => none
  | k + 1, x128, x130 => if x128 < 8 then ((ix x93.length x128).bind fun m140 => (x93[m140]?).bind fun x146 => (ix 16 x128).bind fun m151 => (ix x102.length x100).bind fun m158 => (x102[m158]?).bind fun x164 => (idx x164 x128).bind fun x173 => (ix 16 (w64 (8 + x128))).bind fun m185 => chatelaineref09_Wrap_l3 Fu x93 x100 x102 k (w64 (x128 + 1)) ((x130.set m151 x146).set m185 x173)) else (some x130)
def chatelaineref09_Wrap_l4 (Fu : Nat) (x192 : (List UInt8)) (x200 : (List UInt8)) : Nat → (List UInt8) → (List UInt8) → Int → Option ((List UInt8) × (List UInt8))
  | 0, _, _, _ => none
  | k + 1, x210, x215, x220 => if x220 < 8 then ((ix 16 x220).bind fun m236 => (x192[m236]?).bind fun x240 => (ix x200.length x220).bind fun m245 => (x200[m245]?).bind fun x251 => (app 1 x210 ([(x240 ^^^ x251)])).bind fun x258 => (ix 16 (w64 (8 + x220))).bind fun m264 => (x192[m264]?).bind fun x268 => (app 1 x215 ([x268])).bind fun x275 => chatelaineref09_Wrap_l4 Fu x192 x200 k x258 x275 (w64 (x220 + 1))) else (some (x210, x215))
def chatelaineref09_Wrap_l2 (Fu : Nat) (x9 : (Int × (List Int) × (List Int))) : Nat → (List UInt8) → Int → Int → (List (List UInt8)) → Option (Int × (List UInt8) × (List (List UInt8)))
  | 0, _, _, _, _ => none
  | k + 1, x93, x98, x100, x102 => if x100 < (x102.length : Int) then ((chatelaineref09_Wrap_l3 Fu x93 x100 x102 Fu 0 (List.replicate 16 ((0 : UInt8) : UInt8))).bind fun x134 => (chatelaineref04_Key_Encrypt Fu x9 x134).bind fun x192 => (chatelaineref01_Put64 Fu (u64I (w64 (x98 + 1)))).bind fun x200 => (chatelaineref09_Wrap_l4 Fu x192 x200 Fu ([]) ([]) 0).bind fun (x222, x227) => (ix x102.length x100).bind fun m281 => chatelaineref09_Wrap_l2 Fu x9 k x222 (w64 (x98 + 1)) (w64 (x100 + 1)) (x102.set m281 x227)) else (some (x98, x93, x102))
def chatelaineref09_Wrap_l1 (Fu : Nat) (x9 : (Int × (List Int) × (List Int))) : Nat → (List UInt8) → Int → Int → (List (List UInt8)) → Option ((List UInt8) × (List (List UInt8)))
  | 0, _, _, _, _ => none
  | k + 1, x59, x64, x66, x68 => if x66 < 6 then ((chatelaineref09_Wrap_l2 Fu x9 Fu x59 x64 0 x68).bind fun (x110, x112, x117) => chatelaineref09_Wrap_l1 Fu x9 k x112 x110 (w64 (x66 + 1)) x117) else (some (x59, x68))
def chatelaineref09_Wrap_l5 (Fu : Nat) (x81 : List (List UInt8)) : Nat → Int → (List UInt8) → Option ((List UInt8))
  | 0, _, _ => none
  | k + 1, x299, x301 => if x299 < (x81.length : Int) then ((ix x81.length x299).bind fun m314 => (x81[m314]?).bind fun x320 => (app 1 x301 x320).bind fun x329 => chatelaineref09_Wrap_l5 Fu x81 k (w64 (x299 + 1)) x329) else (some x301)
def chatelaineref09_Wrap (Fu : Nat) (a0 : List UInt8) (a1 : List UInt8) : Option ((List UInt8) × Int) :=
  if ((decide ((a0.length : Int) ≠ 16)) && (decide ((a0.length : Int) ≠ 32))) = true then (some ([], 20)) else (if (((decide (Int.tmod (a1.length : Int) 8 ≠ 0)) || (decide ((a1.length : Int) < 16))) || (decide (64 < (a1.length : Int)))) = true then (some ([], 2)) else ((chatelaineref04_Make Fu a0).bind fun x9 => (chatelaineref09_Wrap_l0 Fu a1 Fu ([]) 0).bind fun x28 => (chatelaineref09_Wrap_l1 Fu x9 Fu ([(166 : UInt8), (166 : UInt8), (166 : UInt8), (166 : UInt8), (166 : UInt8), (166 : UInt8), (166 : UInt8), (166 : UInt8)]) 0 0 x28).bind fun (x76, x81) => (chatelaineref09_Wrap_l5 Fu x81 Fu 0 x76).bind fun x306 => some (x306, 0)))
set_option maxRecDepth 100000 in
set_option maxHeartbeats 2000000 in
theorem chatelaineref09_Wrap_ok (Fu : Nat) {S0 : Snap} (Aa0 : Option Addr) (ca0 : Nat) (a0 : List UInt8) (hsa0 : slS ty8 S0 Aa0 ca0 a0) (Aa1 : Option Addr) (ca1 : Nat) (a1 : List UInt8) (hsa1 : slS ty8 S0 Aa1 ca1 a1) (r : (List UInt8) × Int) (hf : chatelaineref09_Wrap Fu a0 a1 = some r) (w0 : World) (hm : Mem w0 (ownL ([] ++ [.sn S0])) ([] ++ [.sn S0]) w0) :
    Calls Try.prog 25 #[.slice Aa0 a0.length ca0, .slice Aa1 a1.length ca1] w0 (Ret w0 S0 [] (fun v L1 S1 => ∃ (A341 : Option Addr), ∃ (c342 : Nat), ∃ (cs343 : List Value), v = .tuple #[.slice A341 r.1.length c342, .int .i64 r.2] ∧ L1 = [.row (.slice A341 r.1.length c342) 5 1 r.1.length cs343] ∧ reps ty8 S1 cs343 r.1 ∧ r64 r.2 ∧ True)) := by
  unfold chatelaineref09_Wrap at hf
  refine c_enterM Try.func25 rfl 139 rfl (by simp) _ hm _ rfl (fun a h => ?_)
  refine c_rs ?_
  refine sAV h (fun a h => ?_)
  refine sAV h (fun a h => ?_)
  refine l_end ?_
  refine wp_seq ?_
  refine c_rs ?_
  refine sMV h (fun a h => ?_)
  refine s_x h rfl rfl (by decide) (x_len h.k rfl Try.underlying22 rfl) (fun a h => ?_)
  refine s_x h rfl rfl (by decide) (x_bin h.k rfl rfl rfl ib_neq) (fun a h => ?_)
  refine sMV h (fun a h => ?_)
  refine q_grp h 4 (t := 24) 28 ((decide ((a0.length : Int) ≠ 16)) && (decide ((a0.length : Int) ≠ 32))) rfl (fun hB3 => ?_) (fun hB3 => ?_) (fun a w h => ?_)
  · refine g_yes h rfl rfl rfl rfl hB3 ?_
    refine sMV h (fun a h => ?_)
    refine g_yes h rfl rfl rfl rfl hB3 ?_
    refine s_x h rfl rfl (by decide) (x_len h.k rfl Try.underlying22 rfl) (fun a h => ?_)
    refine g_yes h rfl rfl rfl rfl hB3 ?_
    refine s_x h rfl rfl (by decide) (x_bin h.k rfl rfl rfl ib_neq) (fun a h => ?_)
    refine s_x h rfl rfl (by decide) (x_pick (u' := undef) h.k rfl rfl (fun _ => rfl) (fun hh => absurd (hB3.symm.trans hh) (by decide))) (fun a h => ?_)
    exact (h.mid 3 rfl).val (by first | rfl | (rw [hB3]; first | rfl | simp))
  · refine g_no h rfl rfl rfl rfl hB3 rfl (by decide) (fun a h => ?_)
    refine g_no h rfl rfl rfl rfl hB3 rfl (by decide) (fun a h => ?_)
    refine g_no h rfl rfl rfl rfl hB3 rfl (by decide) (fun a h => ?_)
    refine s_x h rfl rfl (by decide) (x_pick (u' := undef) h.k rfl rfl (fun hh => absurd (hB3.symm.trans hh) (by decide)) (fun _ => rfl)) (fun a h => ?_)
    exact (h.mid 3 rfl).val (by first | rfl | (rw [hB3]; first | rfl | simp))
  refine l_end ?_
  refine c_cond h rfl (fun hb => ?_) (fun hb => ?_)
  · rw [if_pos hb] at hf
    refine c_rs ?_
    refine sAV h (fun a h => ?_)
    refine sAV h (fun a h => ?_)
    refine l_end ?_
    refine wp_ret ?_
    refine e_thenR ?_
    obtain rfl := Option.some.inj hf
    have h := h.mem (h.m.nilrow 5 1)
    exact r_ret2 h rfl (rv_tmp h rfl) (rv_tmp h rfl) ⟨_, [.row (.slice none ([]).length 0) 5 1 ([]).length []], _, rfl, ⟨none, 0, [], rfl, rfl, (show reps ty8 S0 [] [] from rfl), (show r64 20 from ⟨by decide, by decide⟩), trivial⟩, rfl, (Up.refl _ _ _), h.m⟩
  · rw [if_neg (by rw [hb]; decide)] at hf
    refine wp_skip ?_
    refine e_thenN ?_
    refine wp_seq ?_
    refine c_rs ?_
    refine sMV h (fun a h => ?_)
    refine s_x h rfl rfl (by decide) (x_len h.k rfl Try.underlying22 rfl) (fun a h => ?_)
    refine s_x h rfl rfl (by decide) (x_bin h.k rfl rfl rfl (ib_remw (by decide))) (fun a h => ?_)
    refine s_x h rfl rfl (by decide) (x_bin h.k rfl rfl rfl ib_neq) (fun a h => ?_)
    refine sMV h (fun a h => ?_)
    refine q_grp h 4 (t := 33) 37 ((decide (Int.tmod (a1.length : Int) 8 ≠ 0)) || (decide ((a1.length : Int) < 16))) rfl (fun hB4 => ?_) (fun hB4 => ?_) (fun a w h => ?_)
    · refine g_no h rfl rfl rfl rfl hB4 rfl (by decide) (fun a h => ?_)
      refine g_no h rfl rfl rfl rfl hB4 rfl (by decide) (fun a h => ?_)
      refine g_no h rfl rfl rfl rfl hB4 rfl (by decide) (fun a h => ?_)
      refine s_x h rfl rfl (by decide) (x_pick (u' := undef) h.k rfl rfl (fun _ => rfl) (fun hh => absurd (hB4.symm.trans hh) (by decide))) (fun a h => ?_)
      exact (h.mid 3 rfl).val (by first | rfl | (rw [hB4]; first | rfl | simp))
    · refine g_yes h rfl rfl rfl rfl hB4 ?_
      refine sMV h (fun a h => ?_)
      refine g_yes h rfl rfl rfl rfl hB4 ?_
      refine s_x h rfl rfl (by decide) (x_len h.k rfl Try.underlying22 rfl) (fun a h => ?_)
      refine g_yes h rfl rfl rfl rfl hB4 ?_
      refine s_x h rfl rfl (by decide) (x_bin h.k rfl rfl rfl ib_lss) (fun a h => ?_)
      refine s_x h rfl rfl (by decide) (x_pick (u' := undef) h.k rfl rfl (fun hh => absurd (hB4.symm.trans hh) (by decide)) (fun _ => rfl)) (fun a h => ?_)
      exact (h.mid 3 rfl).val (by first | rfl | (rw [hB4]; first | rfl | simp))
    refine sMV h (fun a h => ?_)
    refine q_grp h 4 (t := 38) 42 (((decide (Int.tmod (a1.length : Int) 8 ≠ 0)) || (decide ((a1.length : Int) < 16))) || (decide (64 < (a1.length : Int)))) rfl (fun hB9 => ?_) (fun hB9 => ?_) (fun a w h => ?_)
    · refine g_no h rfl rfl rfl rfl hB9 rfl (by decide) (fun a h => ?_)
      refine g_no h rfl rfl rfl rfl hB9 rfl (by decide) (fun a h => ?_)
      refine g_no h rfl rfl rfl rfl hB9 rfl (by decide) (fun a h => ?_)
      refine s_x h rfl rfl (by decide) (x_pick (u' := undef) h.k rfl rfl (fun _ => rfl) (fun hh => absurd (hB9.symm.trans hh) (by decide))) (fun a h => ?_)
      exact (h.mid 3 rfl).val (by first | rfl | (rw [hB9]; first | rfl | simp))
    · refine g_yes h rfl rfl rfl rfl hB9 ?_
      refine sMV h (fun a h => ?_)
      refine g_yes h rfl rfl rfl rfl hB9 ?_
      refine s_x h rfl rfl (by decide) (x_len h.k rfl Try.underlying22 rfl) (fun a h => ?_)
      refine g_yes h rfl rfl rfl rfl hB9 ?_
      refine s_x h rfl rfl (by decide) (x_bin h.k rfl rfl rfl ib_gtr) (fun a h => ?_)
      refine s_x h rfl rfl (by decide) (x_pick (u' := undef) h.k rfl rfl (fun hh => absurd (hB9.symm.trans hh) (by decide)) (fun _ => rfl)) (fun a h => ?_)
      exact (h.mid 3 rfl).val (by first | rfl | (rw [hB9]; first | rfl | simp))
    refine l_end ?_
    refine c_cond h rfl (fun hb => ?_) (fun hb => ?_)
    · rw [if_pos hb] at hf
      refine c_rs ?_
      refine sAV h (fun a h => ?_)
      refine sAV h (fun a h => ?_)
      refine l_end ?_
      refine wp_ret ?_
      refine e_thenR ?_
      obtain rfl := Option.some.inj hf
      have h := h.mem (h.m.nilrow 5 1)
      exact r_ret2 h rfl (rv_tmp h rfl) (rv_tmp h rfl) ⟨_, [.row (.slice none ([]).length 0) 5 1 ([]).length []], _, rfl, ⟨none, 0, [], rfl, rfl, (show reps ty8 S0 [] [] from rfl), (show r64 2 from ⟨by decide, by decide⟩), trivial⟩, rfl, (Up.refl _ _ _), h.m⟩
    · rw [if_neg (by rw [hb]; decide)] at hf
      refine wp_skip ?_
      refine e_thenN ?_
      refine c_rs ?_
      refine sMV h (fun a h => ?_)
      obtain ⟨x9, h10, hf⟩ := bsome hf
      have hX := chatelaineref04_Make_ok Fu (S0 := S0) Aa0 ca0 a0 hsa0 _ h10 _ (h.sub (Ls := []))
      refine q_callY (Ls := []) hX h (Up.refl _ _ _) rfl rfl rfl (by decide) Try.func39 rfl rfl rfl (fun a w v L1 S12 hR le14 up13 h => ?_)
      obtain ⟨g15, rfl, rfl, hp16, _⟩ := hR
      refine sAV h (fun a h => ?_)
      refine l_end ?_
      refine c_rs ?_
      refine q_bslice (T := ty8) (S := S12) h rfl rfl rfl (by decide) Try.underlying22 zi_uint8 (by decide) (by decide) (by decide) (by decide) [.int .u8 166, .int .u8 166, .int .u8 166, .int .u8 166, .int .u8 166, .int .u8 166, .int .u8 166, .int .u8 166] rfl rfl (C := [[.int .u8 166], [.int .u8 166], [.int .u8 166], [.int .u8 166], [.int .u8 166], [.int .u8 166], [.int .u8 166], [.int .u8 166]]) rfl (xs := [(166 : UInt8), (166 : UInt8), (166 : UInt8), (166 : UInt8), (166 : UInt8), (166 : UInt8), (166 : UInt8), (166 : UInt8)]) ⟨[.int .u8 166], _, rfl, rfl, ⟨[.int .u8 166], _, rfl, rfl, ⟨[.int .u8 166], _, rfl, rfl, ⟨[.int .u8 166], _, rfl, rfl, ⟨[.int .u8 166], _, rfl, rfl, ⟨[.int .u8 166], _, rfl, rfl, ⟨[.int .u8 166], _, rfl, rfl, ⟨[.int .u8 166], _, rfl, rfl, rfl⟩⟩⟩⟩⟩⟩⟩⟩ (by simp only [List.mem_cons, List.not_mem_nil, or_false]; rintro c (rfl | rfl | rfl | rfl | rfl | rfl | rfl | rfl) <;> rfl) (fun a w A17 h => ?_)
      have hb18 : reps ty8 S12 ([[.int .u8 166], [.int .u8 166], [.int .u8 166], [.int .u8 166], [.int .u8 166], [.int .u8 166], [.int .u8 166], [.int .u8 166]] : List (List Value)).flatten [(166 : UInt8), (166 : UInt8), (166 : UInt8), (166 : UInt8), (166 : UInt8), (166 : UInt8), (166 : UInt8), (166 : UInt8)] := ⟨[.int .u8 166], _, rfl, rfl, ⟨[.int .u8 166], _, rfl, rfl, ⟨[.int .u8 166], _, rfl, rfl, ⟨[.int .u8 166], _, rfl, rfl, ⟨[.int .u8 166], _, rfl, rfl, ⟨[.int .u8 166], _, rfl, rfl, ⟨[.int .u8 166], _, rfl, rfl, ⟨[.int .u8 166], _, rfl, rfl, rfl⟩⟩⟩⟩⟩⟩⟩⟩
      refine sAV h (fun a h => ?_)
      refine l_end ?_
      refine c_rs ?_
      refine sAV h (fun a h => ?_)
      refine l_end ?_
      refine wp_seq ?_
      refine c_rs ?_
      refine sAV h (fun a h => ?_)
      refine l_end ?_
      obtain ⟨o19, hl20, hf⟩ := bsome hf
      refine c_fin (fun a w => ∃ (x28 : List (List UInt8)), ∃ (A29 : Option Addr), ∃ (c30 : Nat), ∃ (cs31 : List Value), x28 = o19 ∧ reps (tyL ty8) S12 cs31 x28 ∧ St 139 w0 (ownL ([] ++ [.sn S0])) [(6, .pointer (some ⟨g15, 0, none⟩)), (7, .slice A17 ([(166 : UInt8), (166 : UInt8), (166 : UInt8), (166 : UInt8), (166 : UInt8), (166 : UInt8), (166 : UInt8), (166 : UInt8)]).length 8), (8, .slice A29 x28.length c30)] [.row (.slice A17 ([(166 : UInt8), (166 : UInt8), (166 : UInt8), (166 : UInt8), (166 : UInt8), (166 : UInt8), (166 : UInt8), (166 : UInt8)]).length 8) 5 1 ([(166 : UInt8), (166 : UInt8), (166 : UInt8), (166 : UInt8), (166 : UInt8), (166 : UInt8), (166 : UInt8), (166 : UInt8)]).length ([[.int .u8 166], [.int .u8 166], [.int .u8 166], [.int .u8 166], [.int .u8 166], [.int .u8 166], [.int .u8 166], [.int .u8 166]] : List (List Value)).flatten, .row (.slice A29 x28.length c30) 22 1 x28.length cs31, .sn S12] a w) ?_ ?_
      · refine wp_block ?_
        have h := h.mem (h.m.nilrow 22 1)
        have h := h.pick [1, 0, 2] (by decide) rfl
        refine c_loop (fun m34 a w => ∃ (x21 : List (List UInt8)), ∃ (A22 : Option Addr), ∃ (c23 : Nat), ∃ (cs24 : List Value), ∃ (x26 : Int), chatelaineref09_Wrap_l0 Fu a1 m34 x21 x26 = some o19 ∧ reps (tyL ty8) S12 cs24 x21 ∧ r64 x26 ∧ St 139 w0 (ownL ([] ++ [.sn S0])) [(1, .slice Aa1 a1.length ca1), (6, .pointer (some ⟨g15, 0, none⟩)), (7, .slice A17 ([(166 : UInt8), (166 : UInt8), (166 : UInt8), (166 : UInt8), (166 : UInt8), (166 : UInt8), (166 : UInt8), (166 : UInt8)]).length 8), (8, .slice A22 x21.length c23), (9, .int .i64 x26)] [.row (.slice A17 ([(166 : UInt8), (166 : UInt8), (166 : UInt8), (166 : UInt8), (166 : UInt8), (166 : UInt8), (166 : UInt8), (166 : UInt8)]).length 8) 5 1 ([(166 : UInt8), (166 : UInt8), (166 : UInt8), (166 : UInt8), (166 : UInt8), (166 : UInt8), (166 : UInt8), (166 : UInt8)]).length ([[.int .u8 166], [.int .u8 166], [.int .u8 166], [.int .u8 166], [.int .u8 166], [.int .u8 166], [.int .u8 166], [.int .u8 166]] : List (List Value)).flatten, .row (.slice A22 x21.length c23) 22 1 x21.length cs24, .sn S12] a w) Fu ⟨[], none, 0, [], 0, hl20, (show reps (tyL ty8) S12 [] [] from rfl), (show r64 0 from ⟨by decide, by decide⟩), h.has (by exact ⟨rfl, rfl, rfl, rfl, rfl, trivial⟩)⟩ (fun m34 a w hI => ?_)
        obtain ⟨x21, A22, c23, cs24, x26, hl33, hq25, hr27, h⟩ := hI
        obtain _ | m34 := m34
        · rw [chatelaineref09_Wrap_l0] at hl33; cases hl33
        rw [chatelaineref09_Wrap_l0] at hl33
        refine wp_seq ?_
        refine c_rs ?_
        refine sMV h (fun a h => ?_)
        refine sMV h (fun a h => ?_)
        refine s_x h rfl rfl (by decide) (x_len h.k rfl Try.underlying22 rfl) (fun a h => ?_)
        refine s_x h rfl rfl (by decide) (x_bin h.k rfl rfl rfl ib_lss) (fun a h => ?_)
        refine l_end ?_
        refine c_cond h rfl (fun hb => ?_) (fun hb => ?_)
        · rw [if_pos (of_decide_eq_true hb)] at hl33
          refine wp_skip ?_
          refine e_thenN ?_
          refine wp_seq ?_
          refine wp_block ?_
          refine c_r ?_
          refine sMV h (fun a h => ?_)
          refine sMV h (fun a h => ?_)
          refine sMV h (fun a h => ?_)
          refine sMV h (fun a h => ?_)
          refine s_x h rfl rfl (by decide) (x_bin h.k rfl rfl rfl (ib_add rfl)) (fun a h => ?_)
          obtain ⟨x36, h37, hl33⟩ := bsome hl33
          obtain ⟨m38, n39, hi40, hi41, hm42, hm43, hr44⟩ := sub_some h37
          have hs45 := slS.sub ((hsa1.mono le14)) hm42 hm43 (Nat.le_trans hm43 ((hsa1.mono le14)).1) (Nat.le_refl _) hr44
          refine s_x h rfl rfl (by decide) (x_sliceE h.k rfl Try.underlying22 sz_uint8 rfl ca1 hr44 (bd_some rfl hi40) (bd_some rfl hi41) (bd_none rfl) (by intro hh; cases hh) hm42 hm43 (Nat.le_trans hm43 ((hsa1.mono le14)).1) (Nat.le_refl _)) (fun a h => ?_)
          refine q_bslice (T := tyL ty8) (S := S12) h rfl rfl rfl (by decide) Try.underlying45 zi_Suint8 (by decide) (by decide) (by decide) (by decide) [.slice (sA Aa1 ca1 m38 1) x36.length (ca1 - m38)] rfl rfl (C := [[.slice (sA Aa1 ca1 m38 1) x36.length (ca1 - m38)]]) rfl (xs := [x36]) ⟨[.slice (sA Aa1 ca1 m38 1) x36.length (ca1 - m38)], _, rfl, ⟨_, _, rfl, hs45⟩, rfl⟩ (by intro c hc; simp only [List.mem_cons, List.not_mem_nil, or_false] at hc; subst hc; rfl) (fun a w A46 h => ?_)
          have hb47 : reps (tyL ty8) S12 ([[.slice (sA Aa1 ca1 m38 1) x36.length (ca1 - m38)]] : List (List Value)).flatten [x36] := ⟨[.slice (sA Aa1 ca1 m38 1) x36.length (ca1 - m38)], _, rfl, ⟨_, _, rfl, hs45⟩, rfl⟩
          obtain ⟨x48, h49, hl33⟩ := bsome hl33
          refine q_append (T := tyL ty8) (S := S12) h rfl rfl rfl (by decide) Try.underlying45 zb_Suint8 rfl (by decide) rfl 2 rfl hq25 rfl hb47 (h.m.rdRowA (i := 0) rfl) h49 (fun a w A50 c51 cs52 hq53 h => ?_)
          refine sAV h (fun a h => ?_)
          refine l_nil ?_
          refine e_blkN ?_
          refine e_thenN ?_
          refine c_r ?_
          refine sMV h (fun a h => ?_)
          refine s_x h rfl rfl (by decide) (x_bin h.k rfl rfl rfl (ib_add rfl)) (fun a h => ?_)
          refine sAV h (fun a h => ?_)
          refine l_nil ?_
          have h := h.pick [1, 2, 3] (by decide) rfl
          exact e_thenN ⟨m34, Nat.lt_succ_self _, x48, A50, c51, cs52, w64 (x26 + 8), hl33, hq53, (w64_r _), h.has (by exact ⟨rfl, rfl, rfl, rfl, rfl, trivial⟩)⟩
        · rw [if_neg (of_decide_eq_false hb)] at hl33
          refine wp_exit ?_
          refine e_thenX ?_
          refine e_thenX ?_
          refine e_blkX ?_
          refine e_thenN ?_
          exact ⟨x21, A22, c23, cs24, (Option.some.inj hl33), hq25, h.has (by exact ⟨rfl, rfl, rfl, trivial⟩)⟩
      · rintro a w ⟨x28, A29, c30, cs31, rfl, hq32, h⟩
        refine e_thenN ?_
        refine c_rs ?_
        refine sAV h (fun a h => ?_)
        refine l_end ?_
        refine wp_seq ?_
        refine c_rs ?_
        refine sAV h (fun a h => ?_)
        refine l_end ?_
        obtain ⟨o54, hl55, hf⟩ := bsome hf
        refine c_fin (fun a w => ∃ (S73 : Snap), ∃ (x76 : List UInt8), ∃ (A77 : Option Addr), ∃ (c78 : Nat), ∃ (cs79 : List Value), ∃ (x81 : List (List UInt8)), ∃ (A82 : Option Addr), ∃ (c83 : Nat), ∃ (cs84 : List Value), (x76, x81) = o54 ∧ Snap.le S12 S73 ∧ Up (ownL ([] ++ [.sn S0])) w0 S0 S73 ∧ reps ty8 S73 cs79 x76 ∧ reps (tyL ty8) S73 cs84 x81 ∧ St 139 w0 (ownL ([] ++ [.sn S0])) [(7, .slice A77 x76.length c78), (8, .slice A82 x81.length c83)] [.row (.slice A77 x76.length c78) 5 1 x76.length cs79, .row (.slice A82 x81.length c83) 22 1 x81.length cs84, .sn S73] a w) ?_ ?_
        · refine wp_block ?_
          refine c_loop (fun m87 a w => ∃ (S56 : Snap), ∃ (x59 : List UInt8), ∃ (A60 : Option Addr), ∃ (c61 : Nat), ∃ (cs62 : List Value), ∃ (x64 : Int), ∃ (x66 : Int), ∃ (x68 : List (List UInt8)), ∃ (A69 : Option Addr), ∃ (c70 : Nat), ∃ (cs71 : List Value), chatelaineref09_Wrap_l1 Fu x9 m87 x59 x64 x66 x68 = some o54 ∧ Snap.le S12 S56 ∧ Up (ownL ([] ++ [.sn S0])) w0 S0 S56 ∧ reps ty8 S56 cs62 x59 ∧ r64 x64 ∧ r64 x66 ∧ reps (tyL ty8) S56 cs71 x68 ∧ St 139 w0 (ownL ([] ++ [.sn S0])) [(6, .pointer (some ⟨g15, 0, none⟩)), (7, .slice A60 x59.length c61), (8, .slice A69 x68.length c70), (10, .int .i64 x64), (11, .int .i64 x66)] [.row (.slice A60 x59.length c61) 5 1 x59.length cs62, .row (.slice A69 x68.length c70) 22 1 x68.length cs71, .sn S56] a w) Fu ⟨S12, [(166 : UInt8), (166 : UInt8), (166 : UInt8), (166 : UInt8), (166 : UInt8), (166 : UInt8), (166 : UInt8), (166 : UInt8)], A17, 8, ([[.int .u8 166], [.int .u8 166], [.int .u8 166], [.int .u8 166], [.int .u8 166], [.int .u8 166], [.int .u8 166], [.int .u8 166]] : List (List Value)).flatten, 0, 0, x28, A29, c30, cs31, hl55, (Snap.le.refl _), up13, hb18, (show r64 0 from ⟨by decide, by decide⟩), (show r64 0 from ⟨by decide, by decide⟩), hq32, h.has (by exact ⟨rfl, rfl, rfl, rfl, rfl, trivial⟩)⟩ (fun m87 a w hI => ?_)
          obtain ⟨S56, x59, A60, c61, cs62, x64, x66, x68, A69, c70, cs71, hl86, le57, up58, hq63, hr65, hr67, hq72, h⟩ := hI
          obtain _ | m87 := m87
          · rw [chatelaineref09_Wrap_l1] at hl86; cases hl86
          rw [chatelaineref09_Wrap_l1] at hl86
          refine wp_seq ?_
          refine c_rs ?_
          refine sMV h (fun a h => ?_)
          refine s_x h rfl rfl (by decide) (x_bin h.k rfl rfl rfl ib_lss) (fun a h => ?_)
          refine l_end ?_
          refine c_cond h rfl (fun hb => ?_) (fun hb => ?_)
          · rw [if_pos (of_decide_eq_true hb)] at hl86
            refine wp_skip ?_
            refine e_thenN ?_
            refine wp_seq ?_
            refine wp_block ?_
            refine c_rs ?_
            refine sAV h (fun a h => ?_)
            refine l_end ?_
            obtain ⟨o88, hl89, hl86⟩ := bsome hl86
            refine c_fin (fun a w => ∃ (S107 : Snap), ∃ (x110 : Int), ∃ (x112 : List UInt8), ∃ (A113 : Option Addr), ∃ (c114 : Nat), ∃ (cs115 : List Value), ∃ (x117 : List (List UInt8)), ∃ (A118 : Option Addr), ∃ (c119 : Nat), ∃ (cs120 : List Value), (x110, x112, x117) = o88 ∧ Snap.le S56 S107 ∧ Up (ownL ([] ++ [.sn S0])) w0 S0 S107 ∧ r64 x110 ∧ reps ty8 S107 cs115 x112 ∧ reps (tyL ty8) S107 cs120 x117 ∧ St 139 w0 (ownL ([] ++ [.sn S0])) [(6, .pointer (some ⟨g15, 0, none⟩)), (7, .slice A113 x112.length c114), (8, .slice A118 x117.length c119), (10, .int .i64 x110), (11, .int .i64 x66)] [.row (.slice A113 x112.length c114) 5 1 x112.length cs115, .row (.slice A118 x117.length c119) 22 1 x117.length cs120, .sn S107] a w) ?_ ?_
            · refine wp_block ?_
              refine c_loop (fun m123 a w => ∃ (S90 : Snap), ∃ (x93 : List UInt8), ∃ (A94 : Option Addr), ∃ (c95 : Nat), ∃ (cs96 : List Value), ∃ (x98 : Int), ∃ (x100 : Int), ∃ (x102 : List (List UInt8)), ∃ (A103 : Option Addr), ∃ (c104 : Nat), ∃ (cs105 : List Value), chatelaineref09_Wrap_l2 Fu x9 m123 x93 x98 x100 x102 = some o88 ∧ Snap.le S56 S90 ∧ Up (ownL ([] ++ [.sn S0])) w0 S0 S90 ∧ reps ty8 S90 cs96 x93 ∧ r64 x98 ∧ r64 x100 ∧ reps (tyL ty8) S90 cs105 x102 ∧ St 139 w0 (ownL ([] ++ [.sn S0])) [(6, .pointer (some ⟨g15, 0, none⟩)), (7, .slice A94 x93.length c95), (8, .slice A103 x102.length c104), (10, .int .i64 x98), (11, .int .i64 x66), (12, .int .i64 x100)] [.row (.slice A94 x93.length c95) 5 1 x93.length cs96, .row (.slice A103 x102.length c104) 22 1 x102.length cs105, .sn S90] a w) Fu ⟨S56, x59, A60, c61, cs62, x64, 0, x68, A69, c70, cs71, hl89, (Snap.le.refl _), up58, hq63, hr65, (show r64 0 from ⟨by decide, by decide⟩), hq72, h.has (by exact ⟨rfl, rfl, rfl, rfl, rfl, rfl, trivial⟩)⟩ (fun m123 a w hI => ?_)
              obtain ⟨S90, x93, A94, c95, cs96, x98, x100, x102, A103, c104, cs105, hl122, le91, up92, hq97, hr99, hr101, hq106, h⟩ := hI
              obtain _ | m123 := m123
              · rw [chatelaineref09_Wrap_l2] at hl122; cases hl122
              rw [chatelaineref09_Wrap_l2] at hl122
              refine wp_seq ?_
              refine c_rs ?_
              refine sMV h (fun a h => ?_)
              refine sMV h (fun a h => ?_)
              have hr124 : r64 (x102.length : Int) := len_r (h.m.rowLen (i := 1) rfl)
              refine s_x h rfl rfl (by decide) (x_len h.k rfl Try.underlying45 rfl) (fun a h => ?_)
              refine s_x h rfl rfl (by decide) (x_bin h.k rfl rfl rfl ib_lss) (fun a h => ?_)
              refine l_end ?_
              refine c_cond h rfl (fun hb => ?_) (fun hb => ?_)
              · rw [if_pos (of_decide_eq_true hb)] at hl122
                refine wp_skip ?_
                refine e_thenN ?_
                refine wp_seq ?_
                refine wp_block ?_
                refine c_rs ?_
                refine s_alloc h rfl rfl rfl (by decide) zi_A16_uint8 rfl (fun a w g125 h => ?_)
                have h := h.parts (L' := [.box g125 64 (List.replicate 16 (.int .u8 0 : Value)), .row (.slice A94 x93.length c95) 5 1 x93.length cs96, .row (.slice A103 x102.length c104) 22 1 x102.length cs105, .sn S90]) rfl
                refine l_end ?_
                refine wp_seq ?_
                refine c_rs ?_
                refine sAV h (fun a h => ?_)
                refine l_end ?_
                obtain ⟨o126, hl127, hl122⟩ := bsome hl122
                refine c_fin (fun a w => ∃ (x134 : List UInt8), ∃ (k135 : List Value), x134 = o126 ∧ reps ty8 S90 k135 x134 ∧ x134.length = 16 ∧ St 139 w0 (ownL ([] ++ [.sn S0])) [(6, .pointer (some ⟨g15, 0, none⟩)), (8, .slice A103 x102.length c104), (10, .int .i64 x98), (11, .int .i64 x66), (12, .int .i64 x100), (13, .pointer (some ⟨g125, 0, none⟩))] [.row (.slice A103 x102.length c104) 22 1 x102.length cs105, .box g125 64 k135, .sn S90] a w) ?_ ?_
                · refine wp_block ?_
                  have h := h.pick [1, 2, 0, 3] (by decide) rfl
                  refine c_loop (fun m139 a w => ∃ (x128 : Int), ∃ (x130 : List UInt8), ∃ (k131 : List Value), chatelaineref09_Wrap_l3 Fu x93 x100 x102 m139 x128 x130 = some o126 ∧ r64 x128 ∧ reps ty8 S90 k131 x130 ∧ x130.length = 16 ∧ St 139 w0 (ownL ([] ++ [.sn S0])) [(6, .pointer (some ⟨g15, 0, none⟩)), (7, .slice A94 x93.length c95), (8, .slice A103 x102.length c104), (10, .int .i64 x98), (11, .int .i64 x66), (12, .int .i64 x100), (13, .pointer (some ⟨g125, 0, none⟩)), (14, .int .i64 x128)] [.row (.slice A94 x93.length c95) 5 1 x93.length cs96, .row (.slice A103 x102.length c104) 22 1 x102.length cs105, .box g125 64 k131, .sn S90] a w) Fu ⟨0, (List.replicate 16 ((0 : UInt8) : UInt8)), (List.replicate 16 (.int .u8 0 : Value)), hl127, (show r64 0 from ⟨by decide, by decide⟩), (show reps ty8 S90 (List.replicate 16 (.int .u8 0 : Value)) (List.replicate 16 ((0 : UInt8) : UInt8)) from repsRep1 (x := ((0 : UInt8) : UInt8)) rfl), (show (List.replicate 16 ((0 : UInt8) : UInt8)).length = 16 from List.length_replicate), h.has (by exact ⟨rfl, rfl, rfl, rfl, rfl, rfl, rfl, rfl, trivial⟩)⟩ (fun m139 a w hI => ?_)
                  obtain ⟨x128, x130, k131, hl138, hr129, hs132, hl133, h⟩ := hI
                  obtain _ | m139 := m139
                  · rw [chatelaineref09_Wrap_l3] at hl138; cases hl138
                  rw [chatelaineref09_Wrap_l3] at hl138
                  refine wp_seq ?_
                  refine c_rs ?_
                  refine sMV h (fun a h => ?_)
                  refine s_x h rfl rfl (by decide) (x_bin h.k rfl rfl rfl ib_lss) (fun a h => ?_)
                  refine l_end ?_
                  refine c_cond h rfl (fun hb => ?_) (fun hb => ?_)
                  · rw [if_pos (of_decide_eq_true hb)] at hl138
                    refine wp_skip ?_
                    refine e_thenN ?_
                    refine wp_seq ?_
                    refine wp_block ?_
                    refine c_rs ?_
                    refine sMV h (fun a h => ?_)
                    refine sMV h (fun a h => ?_)
                    refine sMV h (fun a h => ?_)
                    obtain ⟨m140, h141, hl138⟩ := bsome hl138
                    obtain ⟨hi142, hm143⟩ := ix_some h141
                    obtain ⟨g145, hA144⟩ := h.m.rowHead (i := 0) rfl (Nat.lt_of_le_of_lt (Nat.zero_le _) hm143)
                    refine s_x h rfl rfl (by decide) (x_iaddrE h.k rfl Try.underlying22 sz_uint8 hA144 rfl rfl hi142 hm143) (fun a h => ?_)
                    obtain ⟨x146, h147, hl138⟩ := bsome hl138
                    obtain ⟨u148, hv149, hu150⟩ := (hq97).cell rfl h147
                    cases hu150
                    refine s_x h rfl rfl (by decide) (x_ld h.k rfl Try.underlying5 rfl rfl (h.m.cellRowE (i := 0) rfl hA144 _ (by rw [Nat.mul_one]; exact hv149))) (fun a h => ?_)
                    obtain ⟨m151, h152, hl138⟩ := bsome hl138
                    obtain ⟨hi153, hm154⟩ := ix_some h152
                    refine s_x h rfl rfl (by decide) (x_iaddrA h.k rfl Try.underlying64 sz_uint8 rfl rfl hi153 hm154 rfl) (fun a h => ?_)
                    refine q_setBox (T := ty8) (q := x146) h rfl rfl rfl sz_uint8 rfl rfl 2 rfl rfl hs132 rfl (by first | omega | (simp_all; done)) (fun a w cs155 hq156 h => ?_)
                    have hl157 : (x130.set m151 x146).length = 16 := by rw [List.length_set]; exact hl133
                    refine l_end ?_
                    refine c_r ?_
                    refine sMV h (fun a h => ?_)
                    refine s_x h rfl rfl (by decide) (x_bin h.k rfl rfl rfl (ib_add rfl)) (fun a h => ?_)
                    refine sMV h (fun a h => ?_)
                    refine sMV h (fun a h => ?_)
                    obtain ⟨m158, h159, hl138⟩ := bsome hl138
                    obtain ⟨hi160, hm161⟩ := ix_some h159
                    obtain ⟨g163, hA162⟩ := h.m.rowHead (i := 1) rfl (Nat.lt_of_le_of_lt (Nat.zero_le _) hm161)
                    refine s_x h rfl rfl (by decide) (x_iaddrE h.k rfl Try.underlying45 sz_Suint8 hA162 rfl rfl hi160 hm161) (fun a h => ?_)
                    obtain ⟨x164, h165, hl138⟩ := bsome hl138
                    obtain ⟨u166, hv167, hu168⟩ := (hq106).cell rfl h165
                    obtain ⟨A169, c170, e172, hs171⟩ := hu168
                    cases e172
                    refine s_x h rfl rfl (by decide) (x_ld h.k rfl Try.underlying22 rfl rfl (h.m.cellRowE (i := 1) rfl hA162 _ (by rw [Nat.mul_one]; exact hv167))) (fun a h => ?_)
                    refine sMV h (fun a h => ?_)
                    obtain ⟨x173, h177, hl138⟩ := bsome hl138
                    obtain ⟨m174, hi178, hm179, hx180⟩ := idx_some h177
                    obtain ⟨b175, off176, k181, hA182, hu183, hc184⟩ := (hs171).at1 rfl hx180 (h.m.snOK (i := 3) rfl)
                    cases hu183
                    refine s_x h rfl rfl (by decide) (x_iaddrE h.k rfl Try.underlying22 sz_uint8 hA182 rfl rfl hi178 hm179) (fun a h => ?_)
                    refine s_x h rfl rfl (by decide) (x_ld h.k rfl Try.underlying5 rfl rfl (hc184 _ (h.m.snOK (i := 3) rfl))) (fun a h => ?_)
                    obtain ⟨m185, h186, hl138⟩ := bsome hl138
                    obtain ⟨hi187, hm188⟩ := ix_some h186
                    refine s_x h rfl rfl (by decide) (x_iaddrA h.k rfl Try.underlying64 sz_uint8 rfl rfl hi187 hm188 rfl) (fun a h => ?_)
                    refine q_setBox (T := ty8) (q := x173) h rfl rfl rfl sz_uint8 rfl rfl 2 rfl rfl hq156 rfl (by first | omega | (simp_all; done)) (fun a w cs189 hq190 h => ?_)
                    have hl191 : ((x130.set m151 x146).set m185 x173).length = 16 := by rw [List.length_set]; exact hl157
                    refine l_nil ?_
                    refine e_blkN ?_
                    refine e_thenN ?_
                    refine c_r ?_
                    refine sMV h (fun a h => ?_)
                    refine s_x h rfl rfl (by decide) (x_bin h.k rfl rfl rfl (ib_add rfl)) (fun a h => ?_)
                    refine sAV h (fun a h => ?_)
                    refine l_nil ?_
                    exact e_thenN ⟨m139, Nat.lt_succ_self _, w64 (x128 + 1), ((x130.set m151 x146).set m185 x173), cs189, hl138, (w64_r _), hq190, hl191, h.has (by exact ⟨rfl, rfl, rfl, rfl, rfl, rfl, rfl, rfl, trivial⟩)⟩
                  · rw [if_neg (of_decide_eq_false hb)] at hl138
                    refine wp_exit ?_
                    refine e_thenX ?_
                    refine e_thenX ?_
                    refine e_blkX ?_
                    refine e_thenN ?_
                    have h := h.pick [1, 2, 3] (by decide) rfl
                    exact ⟨x130, k131, (Option.some.inj hl138), hs132, hl133, h.has (by exact ⟨rfl, rfl, rfl, rfl, rfl, rfl, trivial⟩)⟩
                · rintro a w ⟨x134, k135, rfl, hs136, hl137, h⟩
                  refine e_thenN ?_
                  refine c_rs ?_
                  refine sMV h (fun a h => ?_)
                  refine s_x h rfl rfl (by decide) (x_ldR h.k rfl ag_A16_uint8 rfl k135 ((hs136).len.trans (by rw [hl137]; rfl)) (h.m.range0 (i := 1) rfl)) (fun a h => ?_)
                  obtain ⟨x192, h193, hl122⟩ := bsome hl122
                  have hX := chatelaineref04_Key_Encrypt_ok Fu (S0 := snapAll _) g15 x9 ((hp16.mono (le57.trans le91)).mono (h.m.leAll (i := 2) rfl)) k135 x134 ((tyA 16 ty8).mono (h.m.leAll (i := 2) rfl) (show (tyA 16 ty8).rep S90 k135 x134 from ⟨hs136, hl137⟩)) _ h193 _ h.startAll
                  refine q_callX hX h rfl rfl rfl (by decide) Try.func40 rfl rfl rfl (fun a w v L1 S1 hR hb1 h => ?_)
                  obtain ⟨k195, rfl, rfl, hv196, _⟩ := hR
                  obtain ⟨hs197, hl198⟩ := hv196
                  have hq199 := hs197.fl (S' := S90) fl_8
                  refine s_stW h rfl rfl rfl ag_A16_uint8 rfl (es := k195) rfl ((hq199).len.trans (by rw [hl198]; rfl)) (hq199).one 1 rfl ((hs136).len.trans (by rw [hl137]; rfl)) (fun a w h => ?_)
                  refine l_end ?_
                  refine c_rs ?_
                  refine sMV h (fun a h => ?_)
                  refine s_x h rfl rfl (by decide) (x_bin h.k rfl rfl rfl (ib_add rfl)) (fun a h => ?_)
                  refine sAV h (fun a h => ?_)
                  refine l_end ?_
                  refine c_rs ?_
                  refine sMV h (fun a h => ?_)
                  refine s_x h rfl rfl (by decide) (x_convE h.k rfl Try.underlying3 Try.underlying44 rfl (u64I_wrap _)) (fun a h => ?_)
                  obtain ⟨x200, h201, hl122⟩ := bsome hl122
                  have hX := chatelaineref01_Put64_ok Fu (S0 := snapAll _) (u64I (w64 (x98 + 1))) _ h201 _ h.startAll
                  refine q_callX hX h rfl rfl rfl (by decide) Try.func21 rfl rfl rfl (fun a w v L1 S1 hR hb1 h => ?_)
                  obtain ⟨A203, c204, cs205, rfl, rfl, hq206, _⟩ := hR
                  have hq207 := hq206.fl (S' := S90) fl_8
                  refine sAV h (fun a h => ?_)
                  refine l_end ?_
                  refine c_rs ?_
                  refine sAV h (fun a h => ?_)
                  refine l_end ?_
                  refine c_rs ?_
                  refine sAV h (fun a h => ?_)
                  refine l_end ?_
                  refine wp_seq ?_
                  refine c_rs ?_
                  refine sAV h (fun a h => ?_)
                  refine l_end ?_
                  obtain ⟨o208, hl209, hl122⟩ := bsome hl122
                  refine c_fin (fun a w => ∃ (x222 : List UInt8), ∃ (A223 : Option Addr), ∃ (c224 : Nat), ∃ (cs225 : List Value), ∃ (x227 : List UInt8), ∃ (A228 : Option Addr), ∃ (c229 : Nat), ∃ (cs230 : List Value), (x222, x227) = o208 ∧ reps ty8 S90 cs225 x222 ∧ reps ty8 S90 cs230 x227 ∧ St 139 w0 (ownL ([] ++ [.sn S0])) [(6, .pointer (some ⟨g15, 0, none⟩)), (8, .slice A103 x102.length c104), (10, .int .i64 (w64 (x98 + 1))), (11, .int .i64 x66), (12, .int .i64 x100), (16, .slice A223 x222.length c224), (17, .slice A228 x227.length c229)] [.row (.slice A103 x102.length c104) 22 1 x102.length cs105, .row (.slice A223 x222.length c224) 5 1 x222.length cs225, .row (.slice A228 x227.length c229) 5 1 x227.length cs230, .sn S90] a w) ?_ ?_
                  · refine wp_block ?_
                    have h := h.mem (h.m.nilrow 5 1)
                    have h := h.mem (h.m.nilrow 5 1)
                    have h := h.pick [3, 4, 2, 1, 0, 5] (by decide) rfl
                    refine c_loop (fun m233 a w => ∃ (x210 : List UInt8), ∃ (A211 : Option Addr), ∃ (c212 : Nat), ∃ (cs213 : List Value), ∃ (x215 : List UInt8), ∃ (A216 : Option Addr), ∃ (c217 : Nat), ∃ (cs218 : List Value), ∃ (x220 : Int), chatelaineref09_Wrap_l4 Fu x192 x200 m233 x210 x215 x220 = some o208 ∧ reps ty8 S90 cs213 x210 ∧ reps ty8 S90 cs218 x215 ∧ r64 x220 ∧ St 139 w0 (ownL ([] ++ [.sn S0])) [(6, .pointer (some ⟨g15, 0, none⟩)), (8, .slice A103 x102.length c104), (10, .int .i64 (w64 (x98 + 1))), (11, .int .i64 x66), (12, .int .i64 x100), (13, .pointer (some ⟨g125, 0, none⟩)), (15, .slice A203 x200.length c204), (16, .slice A211 x210.length c212), (17, .slice A216 x215.length c217), (18, .int .i64 x220)] [.row (.slice A103 x102.length c104) 22 1 x102.length cs105, .box g125 64 k195, .row (.slice A203 x200.length c204) 5 1 x200.length cs205, .row (.slice A211 x210.length c212) 5 1 x210.length cs213, .row (.slice A216 x215.length c217) 5 1 x215.length cs218, .sn S90] a w) Fu ⟨[], none, 0, [], [], none, 0, [], 0, hl209, (show reps ty8 S90 [] [] from rfl), (show reps ty8 S90 [] [] from rfl), (show r64 0 from ⟨by decide, by decide⟩), h.has (by exact ⟨rfl, rfl, rfl, rfl, rfl, rfl, rfl, rfl, rfl, rfl, trivial⟩)⟩ (fun m233 a w hI => ?_)
                    obtain ⟨x210, A211, c212, cs213, x215, A216, c217, cs218, x220, hl232, hq214, hq219, hr221, h⟩ := hI
                    obtain _ | m233 := m233
                    · rw [chatelaineref09_Wrap_l4] at hl232; cases hl232
                    rw [chatelaineref09_Wrap_l4] at hl232
                    refine wp_seq ?_
                    refine c_rs ?_
                    refine sMV h (fun a h => ?_)
                    refine s_x h rfl rfl (by decide) (x_bin h.k rfl rfl rfl ib_lss) (fun a h => ?_)
                    refine l_end ?_
                    refine c_cond h rfl (fun hb => ?_) (fun hb => ?_)
                    · rw [if_pos (of_decide_eq_true hb)] at hl232
                      refine wp_skip ?_
                      refine e_thenN ?_
                      refine wp_seq ?_
                      refine wp_block ?_
                      refine wp_seq ?_
                      -- region 33 draws
                      obtain ⟨m236, h237, hl232⟩ := bsome hl232
                      obtain ⟨x240, h241, hl232⟩ := bsome hl232
                      obtain ⟨m245, h246, hl232⟩ := bsome hl232
                      obtain ⟨x251, h252, hl232⟩ := bsome hl232
                      obtain ⟨x258, h259, hl232⟩ := bsome hl232
                      refine d_start h (Mem _ _ _) 10 12 rfl (by kernel_rfl) (fun _ _ _ _ _ h => h) (fun _ h => h) (fun Q a w HE HN h HS => ?_)
                      refine d_takeP h (fun _ => HS) HN 0 rfl (by kernel_rfl) (by kernel_rfl) (by kernel_rfl) (by decide) rfl rfl (by decide) (fun w' => x_move h.k _ rfl rfl) (fun a h => ?_)
                      refine d_takeP h (fun _ => HS) HN 1 rfl (by kernel_rfl) (by kernel_rfl) (by kernel_rfl) (by decide) rfl rfl (by decide) (fun w' => x_move h.k _ rfl rfl) (fun a h => ?_)
                      obtain ⟨hi238, hm239⟩ := ix_some h237
                      refine d_takeP h (fun _ => HS) HN 2 rfl (by kernel_rfl) (by kernel_rfl) (by kernel_rfl) (by decide) rfl rfl (by decide) (fun w' => x_iaddrA h.k rfl Try.underlying64 sz_uint8 rfl rfl hi238 hm239 rfl) (fun a h => ?_)
                      obtain ⟨u242, hv243, hu244⟩ := (hq199).cell rfl h241
                      cases hu244
                      refine d_takeD h HS HN 3 [8, 9, 10, 11] rfl (by kernel_rfl) (by kernel_rfl) (by kernel_rfl) (by kernel_rfl) (by kernel_rfl) (by kernel_rfl) rfl rfl (by decide) (fun w' hw => x_ld h.k rfl Try.underlying5 rfl rfl ((hw.cell (i := 1) rfl _).trans (by rw [Nat.zero_add, Nat.mul_one]; exact hv243))) (fun a h => ?_)
                      refine d_takeP h (fun _ => HS) HN 4 rfl (by kernel_rfl) (by kernel_rfl) (by kernel_rfl) (by decide) rfl rfl (by decide) (fun w' => x_move h.k _ rfl rfl) (fun a h => ?_)
                      refine d_takeP h (fun _ => HS) HN 5 rfl (by kernel_rfl) (by kernel_rfl) (by kernel_rfl) (by decide) rfl rfl (by decide) (fun w' => x_move h.k _ rfl rfl) (fun a h => ?_)
                      obtain ⟨hi247, hm248⟩ := ix_some h246
                      obtain ⟨g250, hA249⟩ := h.m.rowHead (i := 2) rfl (Nat.lt_of_le_of_lt (Nat.zero_le _) hm248)
                      refine d_takeP h (fun _ => HS) HN 6 rfl (by kernel_rfl) (by kernel_rfl) (by kernel_rfl) (by decide) rfl rfl (by decide) (fun w' => x_iaddrE h.k rfl Try.underlying22 sz_uint8 hA249 rfl rfl hi247 hm248) (fun a h => ?_)
                      obtain ⟨u253, hv254, hu255⟩ := (hq207).cell rfl h252
                      cases hu255
                      refine d_takeD h HS HN 7 [8, 9, 10, 11] rfl (by kernel_rfl) (by kernel_rfl) (by kernel_rfl) (by kernel_rfl) (by kernel_rfl) (by kernel_rfl) rfl rfl (by decide) (fun w' hw => x_ld h.k rfl Try.underlying5 rfl rfl (hw.cellRowE (i := 2) rfl hA249 _ (by rw [Nat.mul_one]; exact hv254))) (fun a h => ?_)
                      refine d_takeP h (fun _ => HS) HN 8 rfl (by kernel_rfl) (by kernel_rfl) (by kernel_rfl) (by decide) rfl rfl (by decide) (fun w' => x_bin h.k rfl rfl rfl (ib_xor (u8_xor_ x240 x251))) (fun a h => ?_)
                      refine d_alone 9 rfl (by kernel_rfl) (fun K hK => ?_)
                      refine q_bslice (T := ty8) (S := S90) h rfl rfl rfl (by decide) Try.underlying22 zi_uint8 (by decide) (by decide) (by decide) (by decide) [.int .u8 ((x240 ^^^ x251).toNat : Int)] rfl rfl (C := [[.int .u8 ((x240 ^^^ x251).toNat : Int)]]) rfl (xs := [(x240 ^^^ x251)]) ⟨[.int .u8 ((x240 ^^^ x251).toNat : Int)], _, rfl, rfl, rfl⟩ (by intro c hc; simp only [List.mem_cons, List.not_mem_nil, or_false] at hc; subst hc; rfl) (fun a w A256 h => ?_)
                      have hb257 : reps ty8 S90 ([[.int .u8 ((x240 ^^^ x251).toNat : Int)]] : List (List Value)).flatten [(x240 ^^^ x251)] := ⟨[.int .u8 ((x240 ^^^ x251).toNat : Int)], _, rfl, rfl, rfl⟩
                      replace HS := h.m.pick [1, 2, 3, 4, 5, 6] [.row (.slice A103 x102.length c104) 22 1 x102.length cs105, .box g125 64 k195, .row (.slice A203 x200.length c204) 5 1 x200.length cs205, .row (.slice A211 x210.length c212) 5 1 x210.length cs213, .row (.slice A216 x215.length c217) 5 1 x215.length cs218, .sn S90] (by decide) rfl
                      refine hK _ _ (fun _ _ => HS) ?_
                      clear hK
                      refine d_alone 10 rfl (by kernel_rfl) (fun K hK => ?_)
                      refine q_append (T := ty8) (S := S90) h rfl rfl rfl (by decide) Try.underlying22 zb_uint8 rfl (by decide) rfl 4 rfl hq214 rfl hb257 (h.m.rdRowA (i := 0) rfl) h259 (fun a w A260 c261 cs262 hq263 h => ?_)
                      refine hK _ _ (fun hne _ => absurd rfl hne) ?_
                      clear hK
                      refine d_takeP h (fun hl => absurd hl (by decide)) HN 11 rfl (by kernel_rfl) (by kernel_rfl) (by kernel_rfl) (by decide) rfl rfl (by decide) (fun w' => x_assign h.k _ rfl rfl) (fun a h => ?_)
                      refine d_done (by kernel_rfl) (HE _ _ ?_) _
                      refine e_thenN ?_
                      refine c_r ?_
                      refine sMV h (fun a h => ?_)
                      refine sMV h (fun a h => ?_)
                      refine s_x h rfl rfl (by decide) (x_bin h.k rfl rfl rfl (ib_add rfl)) (fun a h => ?_)
                      obtain ⟨m264, h265, hl232⟩ := bsome hl232
                      obtain ⟨hi266, hm267⟩ := ix_some h265
                      refine s_x h rfl rfl (by decide) (x_iaddrA h.k rfl Try.underlying64 sz_uint8 rfl rfl hi266 hm267 rfl) (fun a h => ?_)
                      obtain ⟨x268, h269, hl232⟩ := bsome hl232
                      obtain ⟨u270, hv271, hu272⟩ := (hq199).cell rfl h269
                      cases hu272
                      refine s_x h rfl rfl (by decide) (x_ld h.k rfl Try.underlying5 rfl rfl ((h.m.cell (i := 2) rfl _).trans (by rw [Nat.zero_add, Nat.mul_one]; exact hv271))) (fun a h => ?_)
                      refine q_bslice (T := ty8) (S := S90) h rfl rfl rfl (by decide) Try.underlying22 zi_uint8 (by decide) (by decide) (by decide) (by decide) [.int .u8 (x268.toNat : Int)] rfl rfl (C := [[.int .u8 (x268.toNat : Int)]]) rfl (xs := [x268]) ⟨[.int .u8 (x268.toNat : Int)], _, rfl, rfl, rfl⟩ (by intro c hc; simp only [List.mem_cons, List.not_mem_nil, or_false] at hc; subst hc; rfl) (fun a w A273 h => ?_)
                      have hb274 : reps ty8 S90 ([[.int .u8 (x268.toNat : Int)]] : List (List Value)).flatten [x268] := ⟨[.int .u8 (x268.toNat : Int)], _, rfl, rfl, rfl⟩
                      obtain ⟨x275, h276, hl232⟩ := bsome hl232
                      refine q_append (T := ty8) (S := S90) h rfl rfl rfl (by decide) Try.underlying22 zb_uint8 rfl (by decide) rfl 6 rfl hq219 rfl hb274 (h.m.rdRowA (i := 0) rfl) h276 (fun a w A277 c278 cs279 hq280 h => ?_)
                      refine sAV h (fun a h => ?_)
                      refine l_nil ?_
                      refine e_blkN ?_
                      refine e_thenN ?_
                      refine c_r ?_
                      refine sMV h (fun a h => ?_)
                      refine s_x h rfl rfl (by decide) (x_bin h.k rfl rfl rfl (ib_add rfl)) (fun a h => ?_)
                      refine sAV h (fun a h => ?_)
                      refine l_nil ?_
                      have h := h.pick [2, 3, 4, 5, 6, 7] (by decide) rfl
                      exact e_thenN ⟨m233, Nat.lt_succ_self _, x258, A260, c261, cs262, x275, A277, c278, cs279, w64 (x220 + 1), hl232, hq263, hq280, (w64_r _), h.has (by exact ⟨rfl, rfl, rfl, rfl, rfl, rfl, rfl, rfl, rfl, rfl, trivial⟩)⟩
                    · rw [if_neg (of_decide_eq_false hb)] at hl232
                      refine wp_exit ?_
                      refine e_thenX ?_
                      refine e_thenX ?_
                      refine e_blkX ?_
                      refine e_thenN ?_
                      have h := h.pick [0, 3, 4, 5] (by decide) rfl
                      exact ⟨x210, A211, c212, cs213, x215, A216, c217, cs218, (Option.some.inj hl232), hq214, hq219, h.has (by exact ⟨rfl, rfl, rfl, rfl, rfl, rfl, rfl, trivial⟩)⟩
                  · rintro a w ⟨x222, A223, c224, cs225, x227, A228, c229, cs230, rfl, hq226, hq231, h⟩
                    try dsimp only at hl122
                    refine e_thenN ?_
                    refine c_rs ?_
                    refine sMV h (fun a h => ?_)
                    refine sAV h (fun a h => ?_)
                    refine l_end ?_
                    refine c_r ?_
                    refine sMV h (fun a h => ?_)
                    refine sMV h (fun a h => ?_)
                    refine sMV h (fun a h => ?_)
                    obtain ⟨m281, h282, hl122⟩ := bsome hl122
                    obtain ⟨hi283, hm284⟩ := ix_some h282
                    obtain ⟨g286, hA285⟩ := h.m.rowHead (i := 0) rfl (Nat.lt_of_le_of_lt (Nat.zero_le _) hm284)
                    refine s_x h rfl rfl (by decide) (x_iaddrE h.k rfl Try.underlying45 sz_Suint8 hA285 rfl rfl hi283 hm284) (fun a h => ?_)
                    have h := h.pick [2, 3, 0, 1] (by decide) rfl
                    obtain ⟨S287, le288, up289, hs290, h⟩ := q_freeze (T := ty8) h up92 hq231
                    refine q_setRow (T := tyL ty8) (q := x227) h rfl rfl rfl sz_Suint8 hA285 rfl rfl 1 rfl rfl (hq106.mono le288) ⟨_, _, rfl, hs290⟩ (by first | exact hm284 | simpa using hm284) (fun a w cs291 hq292 h => ?_)
                    have hl293 : x102.length = (x102.set m281 x227).length := by simp only [List.length_set]
                    rw [hl293] at h
                    refine l_nil ?_
                    refine e_blkN ?_
                    refine e_thenN ?_
                    refine c_r ?_
                    refine sMV h (fun a h => ?_)
                    refine s_x h rfl rfl (by decide) (x_bin h.k rfl rfl rfl (ib_add rfl)) (fun a h => ?_)
                    refine sAV h (fun a h => ?_)
                    refine l_nil ?_
                    have h := h.pick [2, 1, 0] (by decide) rfl
                    exact e_thenN ⟨m123, Nat.lt_succ_self _, S287, x222, A223, c224, cs225, w64 (x98 + 1), w64 (x100 + 1), (x102.set m281 x227), A103, c104, cs291, hl122, (le91.trans le288), up289, (hq226.mono le288), (w64_r _), (w64_r _), hq292, h.has (by exact ⟨rfl, rfl, rfl, rfl, rfl, rfl, trivial⟩)⟩
              · rw [if_neg (of_decide_eq_false hb)] at hl122
                refine wp_exit ?_
                refine e_thenX ?_
                refine e_thenX ?_
                refine e_blkX ?_
                refine e_thenN ?_
                exact ⟨S90, x98, x93, A94, c95, cs96, x102, A103, c104, cs105, (Option.some.inj hl122), le91, up92, hr99, hq97, hq106, h.has (by exact ⟨rfl, rfl, rfl, rfl, rfl, trivial⟩)⟩
            · rintro a w ⟨S107, x110, x112, A113, c114, cs115, x117, A118, c119, cs120, rfl, le108, up109, hr111, hq116, hq121, h⟩
              try dsimp only at hl86
              refine e_blkN ?_
              refine e_thenN ?_
              refine c_r ?_
              refine sMV h (fun a h => ?_)
              refine s_x h rfl rfl (by decide) (x_bin h.k rfl rfl rfl (ib_add rfl)) (fun a h => ?_)
              refine sAV h (fun a h => ?_)
              refine l_nil ?_
              exact e_thenN ⟨m87, Nat.lt_succ_self _, S107, x112, A113, c114, cs115, x110, w64 (x66 + 1), x117, A118, c119, cs120, hl86, (le57.trans le108), up109, hq116, hr111, (w64_r _), hq121, h.has (by exact ⟨rfl, rfl, rfl, rfl, rfl, trivial⟩)⟩
          · rw [if_neg (of_decide_eq_false hb)] at hl86
            refine wp_exit ?_
            refine e_thenX ?_
            refine e_thenX ?_
            refine e_blkX ?_
            refine e_thenN ?_
            exact ⟨S56, x59, A60, c61, cs62, x68, A69, c70, cs71, (Option.some.inj hl86), le57, up58, hq63, hq72, h.has (by exact ⟨rfl, rfl, trivial⟩)⟩
        · rintro a w ⟨S73, x76, A77, c78, cs79, x81, A82, c83, cs84, rfl, le74, up75, hq80, hq85, h⟩
          try dsimp only at hf
          refine e_thenN ?_
          refine c_rs ?_
          refine sMV h (fun a h => ?_)
          refine sAV h (fun a h => ?_)
          refine l_end ?_
          refine wp_seq ?_
          refine c_rs ?_
          refine sAV h (fun a h => ?_)
          refine l_end ?_
          obtain ⟨o297, hl298, hf⟩ := bsome hf
          refine c_fin (fun a w => ∃ (x306 : List UInt8), ∃ (A307 : Option Addr), ∃ (c308 : Nat), ∃ (cs309 : List Value), x306 = o297 ∧ reps ty8 S73 cs309 x306 ∧ St 139 w0 (ownL ([] ++ [.sn S0])) [(19, .slice A307 x306.length c308)] [.row (.slice A307 x306.length c308) 5 1 x306.length cs309, .sn S73] a w) ?_ ?_
          · refine wp_block ?_
            have h := h.pick [1, 0, 2] (by decide) rfl
            refine c_loop (fun m312 a w => ∃ (x299 : Int), ∃ (x301 : List UInt8), ∃ (A302 : Option Addr), ∃ (c303 : Nat), ∃ (cs304 : List Value), chatelaineref09_Wrap_l5 Fu x81 m312 x299 x301 = some o297 ∧ r64 x299 ∧ reps ty8 S73 cs304 x301 ∧ St 139 w0 (ownL ([] ++ [.sn S0])) [(8, .slice A82 x81.length c83), (19, .slice A302 x301.length c303), (20, .int .i64 x299)] [.row (.slice A82 x81.length c83) 22 1 x81.length cs84, .row (.slice A302 x301.length c303) 5 1 x301.length cs304, .sn S73] a w) Fu ⟨0, x76, A77, c78, cs79, hl298, (show r64 0 from ⟨by decide, by decide⟩), hq80, h.has (by exact ⟨rfl, rfl, rfl, trivial⟩)⟩ (fun m312 a w hI => ?_)
            obtain ⟨x299, x301, A302, c303, cs304, hl311, hr300, hq305, h⟩ := hI
            obtain _ | m312 := m312
            · rw [chatelaineref09_Wrap_l5] at hl311; cases hl311
            rw [chatelaineref09_Wrap_l5] at hl311
            refine wp_seq ?_
            refine c_rs ?_
            refine sMV h (fun a h => ?_)
            refine sMV h (fun a h => ?_)
            have hr313 : r64 (x81.length : Int) := len_r (h.m.rowLen (i := 0) rfl)
            refine s_x h rfl rfl (by decide) (x_len h.k rfl Try.underlying45 rfl) (fun a h => ?_)
            refine s_x h rfl rfl (by decide) (x_bin h.k rfl rfl rfl ib_lss) (fun a h => ?_)
            refine l_end ?_
            refine c_cond h rfl (fun hb => ?_) (fun hb => ?_)
            · rw [if_pos (of_decide_eq_true hb)] at hl311
              refine wp_skip ?_
              refine e_thenN ?_
              refine wp_seq ?_
              refine wp_block ?_
              refine c_r ?_
              refine sMV h (fun a h => ?_)
              refine sMV h (fun a h => ?_)
              refine sMV h (fun a h => ?_)
              obtain ⟨m314, h315, hl311⟩ := bsome hl311
              obtain ⟨hi316, hm317⟩ := ix_some h315
              obtain ⟨g319, hA318⟩ := h.m.rowHead (i := 0) rfl (Nat.lt_of_le_of_lt (Nat.zero_le _) hm317)
              refine s_x h rfl rfl (by decide) (x_iaddrE h.k rfl Try.underlying45 sz_Suint8 hA318 rfl rfl hi316 hm317) (fun a h => ?_)
              obtain ⟨x320, h321, hl311⟩ := bsome hl311
              obtain ⟨u322, hv323, hu324⟩ := (hq85).cell rfl h321
              obtain ⟨A325, c326, e328, hs327⟩ := hu324
              cases e328
              refine s_x h rfl rfl (by decide) (x_ld h.k rfl Try.underlying22 rfl rfl (h.m.cellRowE (i := 0) rfl hA318 _ (by rw [Nat.mul_one]; exact hv323))) (fun a h => ?_)
              obtain ⟨x329, h330, hl311⟩ := bsome hl311
              obtain ⟨_, _, vs331, hrd332, hrp333⟩ := id hs327
              refine q_append (T := ty8) (S := S73) h rfl rfl rfl (by decide) Try.underlying22 zb_uint8 rfl (by decide) rfl 1 rfl hq305 rfl hrp333 (hrd332 _ (h.m.snOK (i := 2) rfl)) h330 (fun a w A334 c335 cs336 hq337 h => ?_)
              refine sAV h (fun a h => ?_)
              refine l_nil ?_
              refine e_blkN ?_
              refine e_thenN ?_
              refine c_r ?_
              refine sMV h (fun a h => ?_)
              refine s_x h rfl rfl (by decide) (x_bin h.k rfl rfl rfl (ib_add rfl)) (fun a h => ?_)
              refine sAV h (fun a h => ?_)
              refine l_nil ?_
              exact e_thenN ⟨m312, Nat.lt_succ_self _, w64 (x299 + 1), x329, A334, c335, cs336, hl311, (w64_r _), hq337, h.has (by exact ⟨rfl, rfl, rfl, trivial⟩)⟩
            · rw [if_neg (of_decide_eq_false hb)] at hl311
              refine wp_exit ?_
              refine e_thenX ?_
              refine e_thenX ?_
              refine e_blkX ?_
              refine e_thenN ?_
              have h := h.pick [1, 2] (by decide) rfl
              exact ⟨x301, A302, c303, cs304, (Option.some.inj hl311), hq305, h.has (by exact ⟨rfl, trivial⟩)⟩
          · rintro a w ⟨x306, A307, c308, cs309, rfl, hq310, h⟩
            refine e_thenN ?_
            refine c_rs ?_
            refine sMV h (fun a h => ?_)
            refine sAV h (fun a h => ?_)
            refine sAV h (fun a h => ?_)
            refine l_end ?_
            refine wp_ret ?_
            obtain rfl := Option.some.inj hf
            exact r_ret2 h rfl (rv_tmp h rfl) (rv_tmp h rfl) ⟨_, [.row (.slice A307 x306.length c308) 5 1 x306.length cs309], _, rfl, ⟨A307, c308, cs309, rfl, rfl, hq310, (show r64 0 from ⟨by decide, by decide⟩), trivial⟩, rfl, up75, h.m⟩
end Go.Proofs.Ythaoiajbgadcjaa
