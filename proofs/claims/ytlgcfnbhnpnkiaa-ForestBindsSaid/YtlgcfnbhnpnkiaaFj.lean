/- Hd, Fh, Fj together. -/
import Derived.Test.YtlgcfnbhnpnkiaaHb
import Derived.Test.YtlgcfnbhnpnkiaaMk5
import Derived.Test.YtlgcfnbhnpnkiaaFs
set_option linter.unusedVariables false
set_option linter.unusedSimpArgs false
namespace Go.Proofs.Ytlgcfnbhnpnkiaa
open Go.RowKit
def merkle_Along (Fu : Nat) (a0 : List UInt8) (a1 : Int) (a2 : List (List UInt8)) : Option (List UInt8 × Int) := some (alongV a0 a1 a2, errV (wayOk a1 a2.length))
theorem merkle_Along_ok (Fu : Nat) {S0 : Snap} (csa0 : List Value) (a0 : List UInt8) (hsa0 : (tyA 32 ty8).rep S0 csa0 a0) (a1 : Int) (hra1 : r64 a1) (Aa2 : Option Addr) (ca2 : Nat) (a2 : List (List UInt8)) (hsa2 : slS (tyA 32 ty8) S0 Aa2 ca2 a2) (r : List UInt8 × Int) (hf : merkle_Along Fu a0 a1 a2 = some r) (w0 : World) (hm : Mem w0 (ownL ([] ++ [.sn S0])) ([] ++ [.sn S0]) w0) :
    Calls Try.prog 29 #[.agg csa0.toArray, .int .i64 a1, .slice Aa2 a2.length ca2] w0 (Ret w0 S0 [] (fun v L1 S1 => ∃ (k : List Value), v = .tuple #[.agg k.toArray, .int .i64 r.2] ∧ L1 = [] ∧ (tyA 32 ty8).rep S1 k r.1 ∧ r64 r.2 ∧ True)) := by
  have hw := hm.snOK (i := 0) rfl
  cases hf
  obtain ⟨h1, h2⟩ := slS_sums hsa2 hw
  obtain rfl := reps8 hsa0.1
  exact (along_ok w0 a0 hsa0.2 a1 hra1 Aa2 a2 ca2 h1 h2).mono fun e w' ⟨he, hb⟩ => ret_below hm he hb ⟨_, rfl, rfl, ⟨rep8 _ _, by
    show (alongV a0 a1 a2).length = 32
    unfold alongV; split
    · exact alongS_length _ _ _ hsa0.2
    · rfl⟩, by unfold errV r64; split <;> omega, trivial⟩
def merkle_Leaf (Fu : Nat) (a0 a1 : Int) (a2 : List UInt8) : Option (List UInt8) := if a2.length ≤ 1099511627000 then some (leafS a0 a1 a2) else none
theorem merkle_Leaf_ok (Fu : Nat) {S0 : Snap} (a0 : Int) (hra0 : r64 a0) (a1 : Int) (hra1 : r64 a1) (Aa2 : Option Addr) (ca2 : Nat) (a2 : List UInt8) (hsa2 : slS ty8 S0 Aa2 ca2 a2) (r : List UInt8) (hf : merkle_Leaf Fu a0 a1 a2 = some r) (w0 : World) (hm : Mem w0 (ownL ([] ++ [.sn S0])) ([] ++ [.sn S0]) w0) :
    Calls Try.prog 30 #[.int .i64 a0, .int .i64 a1, .slice Aa2 a2.length ca2] w0 (Ret w0 S0 [] (fun v L1 S1 => ∃ (k : List Value), v = .agg k.toArray ∧ L1 = [] ∧ (tyA 32 ty8).rep S1 k r ∧ True)) := by
  have hw := hm.snOK (i := 0) rfl
  unfold merkle_Leaf at hf
  split at hf
  · rename_i ht
    cases hf
    have h1 := hsa2.1; have h2 := hsa2.2.1
    exact (leaf_ok w0 a0 a1 hra0 hra1 Aa2 a2 ca2 (slS_bytes hsa2 hw) h1 (by unfold maxLen at h2; omega) ht).mono fun e w' ⟨he, hb⟩ => ret_below hm he hb ⟨_, rfl, rfl, ⟨rep8 _ _, leafS_length _ _ _⟩, trivial⟩
  · cases hf
def chatelaineref23_Leaf (Fu : Nat) (a0 a1 : Int) (a2 : List UInt8) : Option (List UInt8) := if a2.length ≤ 1099511627000 then some (leafS a0 a1 a2) else none
theorem chatelaineref23_Leaf_ok (Fu : Nat) {S0 : Snap} (a0 : Int) (hra0 : r64 a0) (a1 : Int) (hra1 : r64 a1) (Aa2 : Option Addr) (ca2 : Nat) (a2 : List UInt8) (hsa2 : slS ty8 S0 Aa2 ca2 a2) (r : List UInt8) (hf : chatelaineref23_Leaf Fu a0 a1 a2 = some r) (w0 : World) (hm : Mem w0 (ownL ([] ++ [.sn S0])) ([] ++ [.sn S0]) w0) :
    Calls Try.prog 45 #[.int .i64 a0, .int .i64 a1, .slice Aa2 a2.length ca2] w0 (Ret w0 S0 [] (fun v L1 S1 => ∃ (k : List Value), v = .agg k.toArray ∧ L1 = [] ∧ (tyA 32 ty8).rep S1 k r ∧ True)) := by
  have hw := hm.snOK (i := 0) rfl
  unfold chatelaineref23_Leaf at hf
  split at hf
  · rename_i ht
    cases hf
    exact (rleaf_ok w0 a0 a1 hra0 hra1 Aa2 a2 ca2 (slS_bytes hsa2 hw) ht).mono fun e w' ⟨he, hb⟩ => ret_below hm he hb ⟨_, rfl, rfl, ⟨rep8 _ _, leafS_length _ _ _⟩, trivial⟩
  · cases hf
def chatelaineref23_Wide (Fu : Nat) (a0 : Int) : Option Int := if 1 ≤ a0 ∧ a0 ≤ 4096 then some ((2 ^ lg a0.toNat : Nat) : Int) else none
theorem chatelaineref23_Wide_ok (Fu : Nat) {S0 : Snap} (a0 : Int) (hra0 : r64 a0) (r : Int) (hf : chatelaineref23_Wide Fu a0 = some r) (w0 : World) (hm : Mem w0 (ownL ([] ++ [.sn S0])) ([] ++ [.sn S0]) w0) :
    Calls Try.prog 25 #[.int .i64 a0] w0 (Ret w0 S0 [] (fun v L1 S1 => v = .int .i64 r ∧ L1 = [] ∧ r64 r ∧ True)) := by
  unfold chatelaineref23_Wide at hf
  split at hf
  · rename_i ht
    cases hf
    obtain ⟨n, rfl⟩ : ∃ n : Nat, a0 = (n : Int) := ⟨a0.toNat, by omega⟩
    rw [Int.toNat_natCast]
    have hl := (lg_spec n (by omega)).1
    obtain ⟨q, hq⟩ : ∃ q, q = 2 ^ lg n := ⟨_, rfl⟩
    rw [← hq] at hl
    exact (rwide_ok w0 n (by omega) (by omega)).mono fun e w' ⟨he, hb⟩ => ret_below hm he hb ⟨rfl, rfl, by rw [← hq]; unfold r64; omega, trivial⟩
  · cases hf
def chatelaineref23_Pair (Fu : Nat) (a0 a1 : List UInt8) : Option (List UInt8) := some (pairS a0 a1)
theorem chatelaineref23_Pair_ok (Fu : Nat) {S0 : Snap} (csa0 : List Value) (a0 : List UInt8) (hsa0 : (tyA 32 ty8).rep S0 csa0 a0) (csa1 : List Value) (a1 : List UInt8) (hsa1 : (tyA 32 ty8).rep S0 csa1 a1) (r : List UInt8) (hf : chatelaineref23_Pair Fu a0 a1 = some r) (w0 : World) (hm : Mem w0 (ownL ([] ++ [.sn S0])) ([] ++ [.sn S0]) w0) :
    Calls Try.prog 27 #[.agg csa0.toArray, .agg csa1.toArray] w0 (Ret w0 S0 [] (fun v L1 S1 => ∃ (k : List Value), v = .agg k.toArray ∧ L1 = [] ∧ (tyA 32 ty8).rep S1 k r ∧ True)) := by
  cases hf
  obtain rfl := reps8 hsa0.1
  obtain rfl := reps8 hsa1.1
  exact (rpair_ok w0 a0 a1 hsa0.2 hsa1.2).mono fun e w' ⟨he, hb⟩ => ret_below hm he hb ⟨_, rfl, rfl, ⟨rep8 _ _, pairS_length _ _⟩, trivial⟩
def nodeOk (n : Nat) (k m : Int) : Prop := 0 ≤ k ∧ 0 ≤ m ∧ 2 ^ Nat.log2 m.toNat = m.toNat ∧ k + m ≤ 1099511627776 ∧ n ≤ 1099511627776
instance (n : Nat) (k m : Int) : Decidable (nodeOk n k m) := by unfold nodeOk; infer_instance
def chatelaineref23_Node (Fu : Nat) (a0 : List (List UInt8)) (a1 a2 : Int) : Option (List UInt8) := if nodeOk a0.length a1 a2 then some (nodeS a0 (Nat.log2 a2.toNat) a1.toNat) else none
theorem chatelaineref23_Node_ok (Fu : Nat) {S0 : Snap} (Aa0 : Option Addr) (ca0 : Nat) (a0 : List (List UInt8)) (hsa0 : slS (tyA 32 ty8) S0 Aa0 ca0 a0) (a1 : Int) (hra1 : r64 a1) (a2 : Int) (hra2 : r64 a2) (r : List UInt8) (hf : chatelaineref23_Node Fu a0 a1 a2 = some r) (w0 : World) (hm : Mem w0 (ownL ([] ++ [.sn S0])) ([] ++ [.sn S0]) w0) :
    Calls Try.prog 26 #[.slice Aa0 a0.length ca0, .int .i64 a1, .int .i64 a2] w0 (Ret w0 S0 [] (fun v L1 S1 => ∃ (k : List Value), v = .agg k.toArray ∧ L1 = [] ∧ (tyA 32 ty8).rep S1 k r ∧ True)) := by
  have hw := hm.snOK (i := 0) rfl
  unfold chatelaineref23_Node at hf
  split at hf
  · rename_i ht
    cases hf
    obtain ⟨h1, h2⟩ := slS_sums hsa0 hw
    obtain ⟨t1, t2, t3, t4, t5⟩ := ht
    obtain ⟨k, rfl⟩ : ∃ n : Nat, a1 = (n : Int) := ⟨a1.toNat, by omega⟩
    obtain ⟨m, rfl⟩ : ∃ n : Nat, a2 = (n : Int) := ⟨a2.toNat, by omega⟩
    rw [Int.toNat_natCast] at *
    exact (rnode_ok a0 h1 Aa0 ca0 t5 (Nat.log2 m) w0 k m t3.symm h2 (by omega)).mono fun e w' ⟨he, hb⟩ => ret_below hm he hb ⟨_, rfl, rfl, ⟨rep8 _ _, nodeS_length h1 _ _⟩, trivial⟩
  · cases hf
def forest_Holds (Fu : Nat) (a0 : (List UInt8) × (List (List UInt8)) × (List (List UInt8)) × Int × Int × Int × Int) (a1 : List UInt8) (a2 : Int) (a3 : List UInt8) : Option Bool :=
  (merkle_Leaf Fu a0.2.2.2.2.1 a2 a3).bind fun x29 => if (!(decide (a0.1 = x29))) = true then (some false) else ((merkle_Along Fu a0.1 a2 a0.2.1).bind fun x37 => if x37.2 ≠ 0 then (some false) else ((forest_head Fu a0.2.2.2.2.1 a0.2.2.2.2.2.1 a0.2.2.2.2.2.2 x37.1).bind fun x47 => (merkle_Along Fu x47 a0.2.2.2.1 a0.2.2.1).bind fun x55 => some ((decide (x55.2 = 0)) && (decide (x55.1 = a1)))))
set_option maxRecDepth 100000 in
set_option maxHeartbeats 2000000 in
theorem forest_Holds_ok (Fu : Nat) {S0 : Snap} (csa0 : List Value) (a0 : (List UInt8) × (List (List UInt8)) × (List (List UInt8)) × Int × Int × Int × Int) (hsa0 : (tyP (tyA 32 ty8) (tyP (tyL (tyA 32 ty8)) (tyP (tyL (tyA 32 ty8)) (tyP tyI (tyP tyI (tyP tyI tyI)))))).rep S0 csa0 a0) (csa1 : List Value) (a1 : List UInt8) (hsa1 : (tyA 32 ty8).rep S0 csa1 a1) (a2 : Int) (hra2 : r64 a2) (Aa3 : Option Addr) (ca3 : Nat) (a3 : List UInt8) (hsa3 : slS ty8 S0 Aa3 ca3 a3) (r : Bool) (hf : forest_Holds Fu a0 a1 a2 a3 = some r) (w0 : World) (hm : Mem w0 (ownL ([] ++ [.sn S0])) ([] ++ [.sn S0]) w0) :
    Calls Try.prog 46 #[.agg csa0.toArray, .agg csa1.toArray, .int .i64 a2, .slice Aa3 a3.length ca3] w0 (Ret w0 S0 [] (fun v L1 S1 => v = .bool r ∧ L1 = [] ∧ True)) := by
  unfold forest_Holds at hf
  obtain ⟨k1, k2, rfl, ⟨hs3, hl4⟩, ⟨k5, k6, rfl, ⟨A7, c8, rfl, hs9⟩, ⟨k10, k11, rfl, ⟨A12, c13, rfl, hs14⟩, ⟨k15, k16, rfl, ⟨rfl, hr17⟩, ⟨k18, k19, rfl, ⟨rfl, hr20⟩, ⟨k21, k22, rfl, ⟨rfl, hr23⟩, ⟨rfl, hr24⟩⟩⟩⟩⟩⟩⟩ := hsa0
  obtain ⟨hs25, hl26⟩ := hsa1
  refine c_enterM Try.func46 rfl 54 rfl (by simp) _ hm _ rfl (fun a h => ?_)
  refine c_rs ?_ -- region 0
  refine s_box h rfl rfl rfl (by decide) rfl (cs := k1 ++ ([.slice A7 a0.2.1.length c8, .slice A12 a0.2.2.1.length c13, .int .i64 a0.2.2.2.1, .int .i64 a0.2.2.2.2.1, .int .i64 a0.2.2.2.2.2.1, .int .i64 a0.2.2.2.2.2.2])) (by rfl) (fun a w g27 h => ?_)
  refine s_box h rfl rfl rfl (by decide) rfl (cs := csa1) (by rfl) (fun a w g28 h => ?_)
  refine s_assign h rfl _ rfl rfl (by decide) rfl (fun a h => ?_)
  refine l_end ?_
  refine wp_seq ?_
  refine wp_seq ?_
  -- region 1 draws
  obtain ⟨x29, h30, hf⟩ := bsome hf
  refine d_start h (Mem _ _ _) 8 8 rfl (by kernel_rfl) (fun _ _ _ _ _ h => h) (fun _ h => h) (fun Q a w HE HN h HS => ?_)
  refine d_takeP h (fun _ => HS) HN 0 rfl (by kernel_rfl) (by kernel_rfl) (by kernel_rfl) (by decide) rfl rfl (by decide) (fun w' => x_faddr h.k rfl Try.underlying75 rfl sz_A32_uint8 rfl) (fun a h => ?_)
  refine d_take h HS HN 1 rfl (by kernel_rfl) (by kernel_rfl) (by kernel_rfl) (by kernel_rfl) (by kernel_rfl) rfl rfl (by decide) (fun w' hw => x_ldR h.k rfl ag_A32_uint8 rfl k1 ((hs3).len.trans (by rw [hl4]; rfl)) (hw.rangeMid (i := 1) (off := 0) (X := []) (Y := k1) (Z := ([.slice A7 a0.2.1.length c8] : List Value) ++ (([.slice A12 a0.2.2.1.length c13] : List Value) ++ (([.int .i64 a0.2.2.2.1] : List Value) ++ (([.int .i64 a0.2.2.2.2.1] : List Value) ++ (([.int .i64 a0.2.2.2.2.2.1] : List Value) ++ ([.int .i64 a0.2.2.2.2.2.2])))))) rfl (by simp only [List.append_assoc, List.cons_append, List.nil_append, List.append_nil]) rfl)) (fun a h => ?_)
  refine d_takeP h (fun _ => HS) HN 2 rfl (by kernel_rfl) (by kernel_rfl) (by kernel_rfl) (by decide) rfl rfl (by decide) (fun w' => x_faddr h.k rfl Try.underlying75 rfl sz_int rfl) (fun a h => ?_)
  refine d_take h HS HN 3 rfl (by kernel_rfl) (by kernel_rfl) (by kernel_rfl) (by kernel_rfl) (by kernel_rfl) rfl rfl (by decide) (fun w' hw => x_ld h.k rfl Try.underlying3 rfl rfl ((hw.cell (i := 1) rfl 35).trans (cell_oneE (X := k1 ++ (([.slice A7 a0.2.1.length c8] : List Value) ++ (([.slice A12 a0.2.2.1.length c13] : List Value) ++ ([.int .i64 a0.2.2.2.1])))) (Z := ([.int .i64 a0.2.2.2.2.2.1] : List Value) ++ ([.int .i64 a0.2.2.2.2.2.2])) (off := 35) (u := .int .i64 a0.2.2.2.2.1) (by simp only [List.append_assoc, List.cons_append, List.nil_append, List.append_nil]) (show (k1 ++ (([.slice A7 a0.2.1.length c8] : List Value) ++ (([.slice A12 a0.2.2.1.length c13] : List Value) ++ ([.int .i64 a0.2.2.2.1]))) : List Value).length = 35 from by simp only [List.length_append, List.length_cons, List.length_nil, (show (k1 : List Value).length = 32 from ((hs3).len.trans (by rw [hl4]; rfl)))])))) (fun a h => ?_)
  refine d_takeP h (fun _ => HS) HN 4 rfl (by kernel_rfl) (by kernel_rfl) (by kernel_rfl) (by decide) rfl rfl (by decide) (fun w' => x_move h.k _ rfl rfl) (fun a h => ?_)
  refine d_takeP h (fun _ => HS) HN 5 rfl (by kernel_rfl) (by kernel_rfl) (by kernel_rfl) (by decide) rfl rfl (by decide) (fun w' => x_move h.k _ rfl rfl) (fun a h => ?_)
  refine d_alone 6 rfl (by kernel_rfl) (fun K hK => ?_)
  have hX := merkle_Leaf_ok Fu (S0 := snapAll _) a0.2.2.2.2.1 hr20 a2 hra2 Aa3 ca3 a3 (hsa3.mono (h.m.leAll (i := 2) rfl)) _ h30 _ h.startAll
  refine q_callX hX h rfl rfl rfl (by decide) Try.func30 rfl rfl rfl (fun a w v L1 S1 hR hb1 h => ?_)
  obtain ⟨k32, rfl, rfl, hv33, _⟩ := hR
  obtain ⟨hs34, hl35⟩ := hv33
  have hq36 := hs34.fl (S' := S0) fl_8
  refine hK _ _ (fun _ _ => HS.ext hb1) ?_
  replace HS := HS.ext hb1
  clear hK
  refine d_takeP h (fun _ => HS) HN 7 rfl (by kernel_rfl) (by kernel_rfl) (by kernel_rfl) (by decide) rfl rfl (by decide) (fun w' => x_neqA8 (X := k1) (Y := k32) h.k rfl Try.underlying40 Try.underlying5 sz_uint8 gda_A32_uint8 rfl rfl hs3 hq36 hl4 hl35) (fun a h => ?_)
  refine d_done (by kernel_rfl) (HE _ _ ?_) _
  refine e_thenN ?_
  refine c_cond h rfl (fun hb => ?_) (fun hb => ?_)
  · rw [if_pos hb] at hf
    refine c_rs ?_ -- region 2
    refine s_assign h rfl _ rfl rfl (by decide) rfl (fun a h => ?_)
    refine l_end ?_
    refine wp_ret ?_
    refine e_thenR ?_
    rw [← Option.some.inj hf]
    exact r_ret1 h rfl (rv_tmp h rfl) ⟨_, [], _, rfl, ⟨rfl, rfl, trivial⟩, rfl, (Up.refl _ _ _), (h.m.pick [2] _ (by decide) rfl)⟩
  · rw [if_neg (by rw [hb]; decide)] at hf
    refine wp_skip ?_
    refine e_thenN ?_
    refine c_rs ?_ -- region 3
    refine s_x h rfl rfl (by decide) (x_faddr h.k rfl Try.underlying75 rfl sz_A32_uint8 rfl) (fun a h => ?_)
    refine s_x h rfl rfl (by decide) (x_ldR h.k rfl ag_A32_uint8 rfl k1 ((hs3).len.trans (by rw [hl4]; rfl)) (h.m.rangeMid (i := 1) (off := 0) (X := []) (Y := k1) (Z := ([.slice A7 a0.2.1.length c8] : List Value) ++ (([.slice A12 a0.2.2.1.length c13] : List Value) ++ (([.int .i64 a0.2.2.2.1] : List Value) ++ (([.int .i64 a0.2.2.2.2.1] : List Value) ++ (([.int .i64 a0.2.2.2.2.2.1] : List Value) ++ ([.int .i64 a0.2.2.2.2.2.2])))))) rfl (by simp only [List.append_assoc, List.cons_append, List.nil_append, List.append_nil]) rfl)) (fun a h => ?_)
    refine s_move h rfl _ rfl rfl (by decide) rfl (fun a h => ?_)
    refine s_x h rfl rfl (by decide) (x_faddr h.k rfl Try.underlying75 rfl sz_SA32_uint8 rfl) (fun a h => ?_)
    refine s_x h rfl rfl (by decide) (x_ld h.k rfl Try.underlying39 rfl rfl ((h.m.cell (i := 1) rfl 32).trans (cell_oneE (X := k1) (Z := ([.slice A12 a0.2.2.1.length c13] : List Value) ++ (([.int .i64 a0.2.2.2.1] : List Value) ++ (([.int .i64 a0.2.2.2.2.1] : List Value) ++ (([.int .i64 a0.2.2.2.2.2.1] : List Value) ++ ([.int .i64 a0.2.2.2.2.2.2]))))) (off := 32) (u := .slice A7 a0.2.1.length c8) (by simp only [List.append_assoc, List.cons_append, List.nil_append, List.append_nil]) (show (k1 : List Value).length = 32 from by simp only [List.length_append, List.length_cons, List.length_nil, (show (k1 : List Value).length = 32 from ((hs3).len.trans (by rw [hl4]; rfl)))])))) (fun a h => ?_)
    obtain ⟨x37, h38, hf⟩ := bsome hf
    have hX := merkle_Along_ok Fu (S0 := snapAll _) k1 a0.1 ((tyA 32 ty8).mono (h.m.leAll (i := 2) rfl) (show (tyA 32 ty8).rep S0 k1 a0.1 from ⟨hs3, hl4⟩)) a2 hra2 A7 c8 a0.2.1 (hs9.mono (h.m.leAll (i := 2) rfl)) _ h38 _ h.startAll
    refine q_callX hX h rfl rfl rfl (by decide) Try.func29 rfl rfl rfl (fun a w v L1 S1 hR hb1 h => ?_)
    obtain ⟨k40, rfl, rfl, hv41, hr44, _⟩ := hR
    obtain ⟨hs42, hl43⟩ := hv41
    have hq45 := hs42.fl (S' := S0) fl_8
    refine s_move h rfl _ rfl rfl (by decide) rfl (fun a h => ?_)
    refine s_x h rfl rfl (by decide) (x_ext h.k rfl rfl rfl) (fun a h => ?_)
    refine s_x h rfl rfl (by decide) (x_ext h.k rfl rfl rfl) (fun a h => ?_)
    refine s_alloc h rfl rfl rfl (by decide) zi_A32_uint8 rfl (fun a w g46 h => ?_)
    refine s_stW h rfl rfl rfl ag_A32_uint8 rfl (es := k40) rfl ((hq45).len.trans (by rw [hl43]; rfl)) (hq45).one 0 rfl (by first | rfl | simp_all) (fun a w h => ?_)
    refine s_assign h rfl _ rfl rfl (by decide) rfl (fun a h => ?_)
    refine l_end ?_
    refine wp_seq ?_
    refine c_rs ?_ -- region 4
    refine s_move h rfl _ rfl rfl (by decide) rfl (fun a h => ?_)
    refine s_x h rfl rfl (by decide) (x_bin h.k rfl rfl rfl ib_neq) (fun a h => ?_)
    refine l_end ?_
    refine c_cond h rfl (fun hb => ?_) (fun hb => ?_)
    · rw [if_pos (of_decide_eq_true hb)] at hf
      refine c_rs ?_ -- region 5
      refine s_assign h rfl _ rfl rfl (by decide) rfl (fun a h => ?_)
      refine l_end ?_
      refine wp_ret ?_
      refine e_thenR ?_
      rw [← Option.some.inj hf]
      exact r_ret1 h rfl (rv_tmp h rfl) ⟨_, [], _, rfl, ⟨rfl, rfl, trivial⟩, rfl, (Up.refl _ _ _), (h.m.pick [3] _ (by decide) rfl)⟩
    · rw [if_neg (of_decide_eq_false hb)] at hf
      refine wp_skip ?_
      refine e_thenN ?_
      refine wp_seq ?_
      -- region 6 draws
      obtain ⟨x47, h48, hf⟩ := bsome hf
      obtain ⟨x55, h56, hf⟩ := bsome hf
      refine c_fin (fun a w => ∃ (g64 : Nat), ∃ (k65 : List Value), reps ty8 S0 k65 x55.1 ∧ x55.1.length = 32 ∧ St 54 w0 (ownL ([] ++ [.sn S0])) [(5, .pointer (some ⟨g28, 0, none⟩)), (10, .int .i64 x55.2), (11, .pointer (some ⟨g64, 0, none⟩))] [.box g28 40 csa1, .box g64 40 k65, .sn S0] a w) ?_ (fun a w h => ?_)
      · refine d_start h (Mem _ _ _) 17 19 rfl (by kernel_rfl) (fun _ _ _ _ _ h => h) (fun _ h => h) (fun Q a w HE HN h HS => ?_)
        refine d_takeP h (fun _ => HS) HN 0 rfl (by kernel_rfl) (by kernel_rfl) (by kernel_rfl) (by decide) rfl rfl (by decide) (fun w' => x_faddr h.k rfl Try.underlying75 rfl sz_int rfl) (fun a h => ?_)
        refine d_take h HS HN 1 rfl (by kernel_rfl) (by kernel_rfl) (by kernel_rfl) (by kernel_rfl) (by kernel_rfl) rfl rfl (by decide) (fun w' hw => x_ld h.k rfl Try.underlying3 rfl rfl ((hw.cell (i := 2) rfl 35).trans (cell_oneE (X := k1 ++ (([.slice A7 a0.2.1.length c8] : List Value) ++ (([.slice A12 a0.2.2.1.length c13] : List Value) ++ ([.int .i64 a0.2.2.2.1])))) (Z := ([.int .i64 a0.2.2.2.2.2.1] : List Value) ++ ([.int .i64 a0.2.2.2.2.2.2])) (off := 35) (u := .int .i64 a0.2.2.2.2.1) (by simp only [List.append_assoc, List.cons_append, List.nil_append, List.append_nil]) (show (k1 ++ (([.slice A7 a0.2.1.length c8] : List Value) ++ (([.slice A12 a0.2.2.1.length c13] : List Value) ++ ([.int .i64 a0.2.2.2.1]))) : List Value).length = 35 from by simp only [List.length_append, List.length_cons, List.length_nil, (show (k1 : List Value).length = 32 from ((hs3).len.trans (by rw [hl4]; rfl)))])))) (fun a h => ?_)
        refine d_takeP h (fun _ => HS) HN 2 rfl (by kernel_rfl) (by kernel_rfl) (by kernel_rfl) (by decide) rfl rfl (by decide) (fun w' => x_faddr h.k rfl Try.underlying75 rfl sz_int rfl) (fun a h => ?_)
        refine d_take h HS HN 3 rfl (by kernel_rfl) (by kernel_rfl) (by kernel_rfl) (by kernel_rfl) (by kernel_rfl) rfl rfl (by decide) (fun w' hw => x_ld h.k rfl Try.underlying3 rfl rfl ((hw.cell (i := 2) rfl 36).trans (cell_oneE (X := k1 ++ (([.slice A7 a0.2.1.length c8] : List Value) ++ (([.slice A12 a0.2.2.1.length c13] : List Value) ++ (([.int .i64 a0.2.2.2.1] : List Value) ++ ([.int .i64 a0.2.2.2.2.1]))))) (Z := [.int .i64 a0.2.2.2.2.2.2]) (off := 36) (u := .int .i64 a0.2.2.2.2.2.1) (by simp only [List.append_assoc, List.cons_append, List.nil_append, List.append_nil]) (show (k1 ++ (([.slice A7 a0.2.1.length c8] : List Value) ++ (([.slice A12 a0.2.2.1.length c13] : List Value) ++ (([.int .i64 a0.2.2.2.1] : List Value) ++ ([.int .i64 a0.2.2.2.2.1])))) : List Value).length = 36 from by simp only [List.length_append, List.length_cons, List.length_nil, (show (k1 : List Value).length = 32 from ((hs3).len.trans (by rw [hl4]; rfl)))])))) (fun a h => ?_)
        refine d_takeP h (fun _ => HS) HN 4 rfl (by kernel_rfl) (by kernel_rfl) (by kernel_rfl) (by decide) rfl rfl (by decide) (fun w' => x_faddr h.k rfl Try.underlying75 rfl sz_int rfl) (fun a h => ?_)
        refine d_take h HS HN 5 rfl (by kernel_rfl) (by kernel_rfl) (by kernel_rfl) (by kernel_rfl) (by kernel_rfl) rfl rfl (by decide) (fun w' hw => x_ld h.k rfl Try.underlying3 rfl rfl ((hw.cell (i := 2) rfl 37).trans (cell_oneE (X := k1 ++ (([.slice A7 a0.2.1.length c8] : List Value) ++ (([.slice A12 a0.2.2.1.length c13] : List Value) ++ (([.int .i64 a0.2.2.2.1] : List Value) ++ (([.int .i64 a0.2.2.2.2.1] : List Value) ++ ([.int .i64 a0.2.2.2.2.2.1])))))) (Z := []) (off := 37) (u := .int .i64 a0.2.2.2.2.2.2) (by simp only [List.append_assoc, List.cons_append, List.nil_append, List.append_nil]) (show (k1 ++ (([.slice A7 a0.2.1.length c8] : List Value) ++ (([.slice A12 a0.2.2.1.length c13] : List Value) ++ (([.int .i64 a0.2.2.2.1] : List Value) ++ (([.int .i64 a0.2.2.2.2.1] : List Value) ++ ([.int .i64 a0.2.2.2.2.2.1]))))) : List Value).length = 37 from by simp only [List.length_append, List.length_cons, List.length_nil, (show (k1 : List Value).length = 32 from ((hs3).len.trans (by rw [hl4]; rfl)))])))) (fun a h => ?_)
        refine d_take h HS HN 6 rfl (by kernel_rfl) (by kernel_rfl) (by kernel_rfl) (by kernel_rfl) (by kernel_rfl) rfl rfl (by decide) (fun w' hw => x_ldR h.k rfl ag_A32_uint8 rfl k40 ((hq45).len.trans (by rw [hl43]; rfl)) (hw.range0 (i := 0) rfl)) (fun a h => ?_)
        refine d_takeP h (fun _ => HS) HN 8 rfl (by kernel_rfl) (by kernel_rfl) (by kernel_rfl) (by decide) rfl rfl (by decide) (fun w' => x_faddr h.k rfl Try.underlying75 rfl sz_int rfl) (fun a h => ?_)
        refine d_take h HS HN 9 rfl (by kernel_rfl) (by kernel_rfl) (by kernel_rfl) (by kernel_rfl) (by kernel_rfl) rfl rfl (by decide) (fun w' hw => x_ld h.k rfl Try.underlying3 rfl rfl ((hw.cell (i := 2) rfl 34).trans (cell_oneE (X := k1 ++ (([.slice A7 a0.2.1.length c8] : List Value) ++ ([.slice A12 a0.2.2.1.length c13]))) (Z := ([.int .i64 a0.2.2.2.2.1] : List Value) ++ (([.int .i64 a0.2.2.2.2.2.1] : List Value) ++ ([.int .i64 a0.2.2.2.2.2.2]))) (off := 34) (u := .int .i64 a0.2.2.2.1) (by simp only [List.append_assoc, List.cons_append, List.nil_append, List.append_nil]) (show (k1 ++ (([.slice A7 a0.2.1.length c8] : List Value) ++ ([.slice A12 a0.2.2.1.length c13])) : List Value).length = 34 from by simp only [List.length_append, List.length_cons, List.length_nil, (show (k1 : List Value).length = 32 from ((hs3).len.trans (by rw [hl4]; rfl)))])))) (fun a h => ?_)
        refine d_takeP h (fun _ => HS) HN 10 rfl (by kernel_rfl) (by kernel_rfl) (by kernel_rfl) (by decide) rfl rfl (by decide) (fun w' => x_faddr h.k rfl Try.underlying75 rfl sz_SA32_uint8 rfl) (fun a h => ?_)
        refine d_take h HS HN 11 rfl (by kernel_rfl) (by kernel_rfl) (by kernel_rfl) (by kernel_rfl) (by kernel_rfl) rfl rfl (by decide) (fun w' hw => x_ld h.k rfl Try.underlying39 rfl rfl ((hw.cell (i := 2) rfl 33).trans (cell_oneE (X := k1 ++ ([.slice A7 a0.2.1.length c8])) (Z := ([.int .i64 a0.2.2.2.1] : List Value) ++ (([.int .i64 a0.2.2.2.2.1] : List Value) ++ (([.int .i64 a0.2.2.2.2.2.1] : List Value) ++ ([.int .i64 a0.2.2.2.2.2.2])))) (off := 33) (u := .slice A12 a0.2.2.1.length c13) (by simp only [List.append_assoc, List.cons_append, List.nil_append, List.append_nil]) (show (k1 ++ ([.slice A7 a0.2.1.length c8]) : List Value).length = 33 from by simp only [List.length_append, List.length_cons, List.length_nil, (show (k1 : List Value).length = 32 from ((hs3).len.trans (by rw [hl4]; rfl)))])))) (fun a h => ?_)
        refine d_two 7 16 (by kernel_rfl) (d_one 7 rfl _ (fun K hK => ?_)) (d_one 16 rfl _ (fun K hK => ?_))
        · have hX := forest_head_ok Fu (S0 := snapAll _) a0.2.2.2.2.1 hr20 a0.2.2.2.2.2.1 hr23 a0.2.2.2.2.2.2 hr24 k40 x37.1 ((tyA 32 ty8).mono (h.m.leAll (i := 3) rfl) (show (tyA 32 ty8).rep S0 k40 x37.1 from ⟨hq45, hl43⟩)) _ h48 _ h.startAll
          refine q_callX hX h rfl rfl rfl (by decide) Try.func78 rfl rfl rfl (fun a w v L1 S1 hR hb1 h => ?_)
          obtain ⟨k50, rfl, rfl, hv51, _⟩ := hR
          obtain ⟨hs52, hl53⟩ := hv51
          have hq54 := hs52.fl (S' := S0) fl_8
          refine hK _ _ ⟨fun _ _ => HS.ext hb1, ?_⟩
          replace HS := HS.ext hb1
          clear hK
          refine d_two 12 16 (by kernel_rfl) (d_one 12 rfl _ (fun K hK => ?_)) (d_one 16 rfl _ (fun K hK => ?_))
          · have hX := merkle_Along_ok Fu (S0 := snapAll _) k50 x47 ((tyA 32 ty8).mono (h.m.leAll (i := 3) rfl) (show (tyA 32 ty8).rep S0 k50 x47 from ⟨hq54, hl53⟩)) a0.2.2.2.1 hr17 A12 c13 a0.2.2.1 (hs14.mono (h.m.leAll (i := 3) rfl)) _ h56 _ h.startAll
            refine q_callX hX h rfl rfl rfl (by decide) Try.func29 rfl rfl rfl (fun a w v L1 S1 hR hb1 h => ?_)
            obtain ⟨k58, rfl, rfl, hv59, hr62, _⟩ := hR
            obtain ⟨hs60, hl61⟩ := hv59
            have hq63 := hs60.fl (S' := S0) fl_8
            refine hK _ _ ⟨fun _ _ => HS.ext hb1, ?_⟩
            replace HS := HS.ext hb1
            clear hK
            refine d_takeP h (fun _ => HS) HN 13 rfl (by kernel_rfl) (by kernel_rfl) (by kernel_rfl) (by decide) rfl rfl (by decide) (fun w' => x_move h.k _ rfl rfl) (fun a h => ?_)
            refine d_takeP h (fun _ => HS) HN 14 rfl (by kernel_rfl) (by kernel_rfl) (by kernel_rfl) (by decide) rfl rfl (by decide) (fun w' => x_ext h.k rfl rfl rfl) (fun a h => ?_)
            refine d_takeP h (fun _ => HS) HN 15 rfl (by kernel_rfl) (by kernel_rfl) (by kernel_rfl) (by decide) rfl rfl (by decide) (fun w' => x_ext h.k rfl rfl rfl) (fun a h => ?_)
            refine d_alone 16 rfl (by kernel_rfl) (fun K hK => ?_)
            refine s_alloc h rfl rfl rfl (by decide) zi_A32_uint8 rfl (fun a w g64 h => ?_)
            replace HS := h.m.pick [1, 2, 3, 4] [.box g46 40 k40, .box g28 40 csa1, .box g27 75 (k1 ++ ([.slice A7 a0.2.1.length c8, .slice A12 a0.2.2.1.length c13, .int .i64 a0.2.2.2.1, .int .i64 a0.2.2.2.2.1, .int .i64 a0.2.2.2.2.2.1, .int .i64 a0.2.2.2.2.2.2])), .sn S0] (by decide) rfl
            refine hK _ _ (fun _ _ => HS) ?_
            clear hK
            refine d_alone 17 rfl (by kernel_rfl) (fun K hK => ?_)
            refine s_stW h rfl rfl rfl ag_A32_uint8 rfl (es := k58) rfl ((hq63).len.trans (by rw [hl61]; rfl)) (hq63).one 0 rfl (by first | rfl | simp_all) (fun a w h => ?_)
            refine hK _ _ (fun hne _ => absurd rfl hne) ?_
            clear hK
            refine d_takeP h (fun hl => absurd hl (by decide)) HN 18 rfl (by kernel_rfl) (by kernel_rfl) (by kernel_rfl) (by decide) rfl rfl (by decide) (fun w' => x_assign h.k _ rfl rfl) (fun a h => ?_)
            refine d_done (by kernel_rfl) (HE _ _ ?_) _
            refine e_thenN ?_
            have h := h.pick [2, 0, 4] (by decide) rfl
            exact ⟨g64, k58, hq63, hl61, h.has (by exact ⟨rfl, rfl, rfl, trivial⟩)⟩
          · refine s_alloc h rfl rfl rfl (by decide) zi_A32_uint8 rfl (fun a w g64 h => ?_)
            replace HS := h.m.pick [1, 2, 3, 4] [.box g46 40 k40, .box g28 40 csa1, .box g27 75 (k1 ++ ([.slice A7 a0.2.1.length c8, .slice A12 a0.2.2.1.length c13, .int .i64 a0.2.2.2.1, .int .i64 a0.2.2.2.2.1, .int .i64 a0.2.2.2.2.2.1, .int .i64 a0.2.2.2.2.2.2])), .sn S0] (by decide) rfl
            refine hK _ _ ⟨fun _ _ => HS, ?_⟩
            clear hK
            refine d_alone 12 rfl (by kernel_rfl) (fun K hK => ?_)
            have hX := merkle_Along_ok Fu (S0 := snapAll _) k50 x47 ((tyA 32 ty8).mono (h.m.leAll (i := 4) rfl) (show (tyA 32 ty8).rep S0 k50 x47 from ⟨hq54, hl53⟩)) a0.2.2.2.1 hr17 A12 c13 a0.2.2.1 (hs14.mono (h.m.leAll (i := 4) rfl)) _ h56 _ h.startAll
            refine q_callX hX h rfl rfl rfl (by decide) Try.func29 rfl rfl rfl (fun a w v L1 S1 hR hb1 h => ?_)
            obtain ⟨k58, rfl, rfl, hv59, hr62, _⟩ := hR
            obtain ⟨hs60, hl61⟩ := hv59
            have hq63 := hs60.fl (S' := S0) fl_8
            refine hK _ _ (fun _ _ => HS.ext hb1) ?_
            replace HS := HS.ext hb1
            clear hK
            refine d_takeP h (fun _ => HS) HN 13 rfl (by kernel_rfl) (by kernel_rfl) (by kernel_rfl) (by decide) rfl rfl (by decide) (fun w' => x_move h.k _ rfl rfl) (fun a h => ?_)
            refine d_takeP h (fun _ => HS) HN 14 rfl (by kernel_rfl) (by kernel_rfl) (by kernel_rfl) (by decide) rfl rfl (by decide) (fun w' => x_ext h.k rfl rfl rfl) (fun a h => ?_)
            refine d_takeP h (fun _ => HS) HN 15 rfl (by kernel_rfl) (by kernel_rfl) (by kernel_rfl) (by decide) rfl rfl (by decide) (fun w' => x_ext h.k rfl rfl rfl) (fun a h => ?_)
            refine d_alone 17 rfl (by kernel_rfl) (fun K hK => ?_)
            refine s_stW h rfl rfl rfl ag_A32_uint8 rfl (es := k58) rfl ((hq63).len.trans (by rw [hl61]; rfl)) (hq63).one 0 rfl (by first | rfl | simp_all) (fun a w h => ?_)
            refine hK _ _ (fun hne _ => absurd rfl hne) ?_
            clear hK
            refine d_takeP h (fun hl => absurd hl (by decide)) HN 18 rfl (by kernel_rfl) (by kernel_rfl) (by kernel_rfl) (by decide) rfl rfl (by decide) (fun w' => x_assign h.k _ rfl rfl) (fun a h => ?_)
            refine d_done (by kernel_rfl) (HE _ _ ?_) _
            refine e_thenN ?_
            have h := h.pick [2, 0, 4] (by decide) rfl
            exact ⟨g64, k58, hq63, hl61, h.has (by exact ⟨rfl, rfl, rfl, trivial⟩)⟩
        · refine s_alloc h rfl rfl rfl (by decide) zi_A32_uint8 rfl (fun a w g64 h => ?_)
          replace HS := h.m.pick [1, 2, 3, 4] [.box g46 40 k40, .box g28 40 csa1, .box g27 75 (k1 ++ ([.slice A7 a0.2.1.length c8, .slice A12 a0.2.2.1.length c13, .int .i64 a0.2.2.2.1, .int .i64 a0.2.2.2.2.1, .int .i64 a0.2.2.2.2.2.1, .int .i64 a0.2.2.2.2.2.2])), .sn S0] (by decide) rfl
          refine hK _ _ ⟨fun _ _ => HS, ?_⟩
          clear hK
          refine d_alone 7 rfl (by kernel_rfl) (fun K hK => ?_)
          have hX := forest_head_ok Fu (S0 := snapAll _) a0.2.2.2.2.1 hr20 a0.2.2.2.2.2.1 hr23 a0.2.2.2.2.2.2 hr24 k40 x37.1 ((tyA 32 ty8).mono (h.m.leAll (i := 4) rfl) (show (tyA 32 ty8).rep S0 k40 x37.1 from ⟨hq45, hl43⟩)) _ h48 _ h.startAll
          refine q_callX hX h rfl rfl rfl (by decide) Try.func78 rfl rfl rfl (fun a w v L1 S1 hR hb1 h => ?_)
          obtain ⟨k50, rfl, rfl, hv51, _⟩ := hR
          obtain ⟨hs52, hl53⟩ := hv51
          have hq54 := hs52.fl (S' := S0) fl_8
          refine hK _ _ (fun _ _ => HS.ext hb1) ?_
          replace HS := HS.ext hb1
          clear hK
          refine d_alone 12 rfl (by kernel_rfl) (fun K hK => ?_)
          have hX := merkle_Along_ok Fu (S0 := snapAll _) k50 x47 ((tyA 32 ty8).mono (h.m.leAll (i := 4) rfl) (show (tyA 32 ty8).rep S0 k50 x47 from ⟨hq54, hl53⟩)) a0.2.2.2.1 hr17 A12 c13 a0.2.2.1 (hs14.mono (h.m.leAll (i := 4) rfl)) _ h56 _ h.startAll
          refine q_callX hX h rfl rfl rfl (by decide) Try.func29 rfl rfl rfl (fun a w v L1 S1 hR hb1 h => ?_)
          obtain ⟨k58, rfl, rfl, hv59, hr62, _⟩ := hR
          obtain ⟨hs60, hl61⟩ := hv59
          have hq63 := hs60.fl (S' := S0) fl_8
          refine hK _ _ (fun _ _ => HS.ext hb1) ?_
          replace HS := HS.ext hb1
          clear hK
          refine d_takeP h (fun _ => HS) HN 13 rfl (by kernel_rfl) (by kernel_rfl) (by kernel_rfl) (by decide) rfl rfl (by decide) (fun w' => x_move h.k _ rfl rfl) (fun a h => ?_)
          refine d_takeP h (fun _ => HS) HN 14 rfl (by kernel_rfl) (by kernel_rfl) (by kernel_rfl) (by decide) rfl rfl (by decide) (fun w' => x_ext h.k rfl rfl rfl) (fun a h => ?_)
          refine d_takeP h (fun _ => HS) HN 15 rfl (by kernel_rfl) (by kernel_rfl) (by kernel_rfl) (by decide) rfl rfl (by decide) (fun w' => x_ext h.k rfl rfl rfl) (fun a h => ?_)
          refine d_alone 17 rfl (by kernel_rfl) (fun K hK => ?_)
          refine s_stW h rfl rfl rfl ag_A32_uint8 rfl (es := k58) rfl ((hq63).len.trans (by rw [hl61]; rfl)) (hq63).one 0 rfl (by first | rfl | simp_all) (fun a w h => ?_)
          refine hK _ _ (fun hne _ => absurd rfl hne) ?_
          clear hK
          refine d_takeP h (fun hl => absurd hl (by decide)) HN 18 rfl (by kernel_rfl) (by kernel_rfl) (by kernel_rfl) (by decide) rfl rfl (by decide) (fun w' => x_assign h.k _ rfl rfl) (fun a h => ?_)
          refine d_done (by kernel_rfl) (HE _ _ ?_) _
          refine e_thenN ?_
          have h := h.pick [2, 0, 4] (by decide) rfl
          exact ⟨g64, k58, hq63, hl61, h.has (by exact ⟨rfl, rfl, rfl, trivial⟩)⟩
      obtain ⟨g64, k65, hs66, hl67, h⟩ := h
      refine e_thenN ?_
      refine c_rs ?_ -- region 7
      refine s_move h rfl _ rfl rfl (by decide) rfl (fun a h => ?_)
      refine s_x h rfl rfl (by decide) (x_bin h.k rfl rfl rfl ib_eql) (fun a h => ?_)
      refine s_move h rfl _ rfl rfl (by decide) rfl (fun a h => ?_)
      refine q_grp h 4 (t := 49) 53 ((decide (x55.2 = 0)) && (decide (x55.1 = a1))) rfl (fun hB2 => ?_) (fun hB2 => ?_) (fun a w h => ?_)
      · refine g_yes h rfl rfl rfl rfl hB2 ?_
        refine s_x h rfl rfl (by decide) (x_ldR h.k rfl ag_A32_uint8 rfl k65 ((hs66).len.trans (by rw [hl67]; rfl)) (h.m.range0 (i := 1) rfl)) (fun a h => ?_)
        refine g_yes h rfl rfl rfl rfl hB2 ?_
        refine s_x h rfl rfl (by decide) (x_ldR h.k rfl ag_A32_uint8 rfl csa1 ((hs25).len.trans (by rw [hl26]; rfl)) (h.m.range0 (i := 0) rfl)) (fun a h => ?_)
        refine g_yes h rfl rfl rfl rfl hB2 ?_
        refine s_x h rfl rfl (by decide) (x_eqlA8 (X := k65) (Y := csa1) h.k rfl Try.underlying40 Try.underlying5 sz_uint8 gda_A32_uint8 rfl rfl hs66 hs25 hl67 hl26) (fun a h => ?_)
        refine s_x h rfl rfl (by decide) (x_pick (u' := undef) h.k rfl rfl (fun _ => rfl) (fun hh => absurd (hB2.symm.trans hh) (by decide))) (fun a h => ?_)
        exact (h.mid 3 rfl).val (by first | rfl | (rw [hB2]; first | rfl | simp))
      · refine g_no h rfl rfl rfl rfl hB2 rfl (by decide) (fun a h => ?_)
        refine g_no h rfl rfl rfl rfl hB2 rfl (by decide) (fun a h => ?_)
        refine g_no h rfl rfl rfl rfl hB2 rfl (by decide) (fun a h => ?_)
        refine s_x h rfl rfl (by decide) (x_pick (u' := undef) h.k rfl rfl (fun hh => absurd (hB2.symm.trans hh) (by decide)) (fun _ => rfl)) (fun a h => ?_)
        exact (h.mid 3 rfl).val (by first | rfl | (rw [hB2]; first | rfl | simp))
      refine s_assign h rfl _ rfl rfl (by decide) rfl (fun a h => ?_)
      refine l_end ?_
      refine wp_ret ?_
      obtain rfl := Option.some.inj hf
      exact r_ret1 h rfl (rv_tmp h rfl) ⟨_, [], _, rfl, ⟨rfl, rfl, trivial⟩, rfl, (Up.refl _ _ _), (h.m.pick [2] _ (by decide) rfl)⟩
def chatelainelaw24_ForestBinds_l0 (Fu : Nat) (a1 : (List UInt8) × (List (List UInt8)) × (List (List UInt8)) × Int × Int × Int × Int) (x49 : Int × Int × Int × (List UInt8) × (List (Int × Int)) × (List (List UInt8)) × (List (List UInt8))) : Nat → Int → Int → Int → (List UInt8) → Option (Sum Bool ((List UInt8)))
  | 0, _, _, _, _ => none
  | k + 1, x178, x180, x182, x184 => if x182 < (a1.2.1.length : Int) then ((idx a1.2.1 x182).bind fun x194 => (if Int.tmod x178 2 = 1 then (some (x194, x184)) else (some (x184, x194))).bind fun (x218, x222) => (chatelaineref23_Node Fu x49.2.2.2.2.2.2 (w64 ((i64_andNot x178 1) * x180)) x180).bind fun x226 => (chatelaineref23_Node Fu x49.2.2.2.2.2.2 (w64 ((i64_or x178 1) * x180)) x180).bind fun x234 => (if ((!(decide (x218 = x226))) || (!(decide (x222 = x234)))) = true then (chatelaineref23_Pair Fu x218 x222).bind fun x254 => (chatelaineref23_Pair Fu x226 x234).bind fun x262 => some (decide (x254 = x262)) else some false).bind fun z252 => if z252 = true then (some (.inl true)) else ((chatelaineref23_Pair Fu x218 x222).bind fun x270 => chatelainelaw24_ForestBinds_l0 Fu a1 x49 k (w64 (Int.tdiv x178 2)) (w64 (x180 * 2)) (w64 (x182 + 1)) x270)) else (some (.inr x184))
def chatelainelaw24_ForestBinds (Fu : Nat) (a0 : List (Int × Int × Int × (List UInt8) × (List (Int × Int)) × (List (List UInt8)) × (List (List UInt8)))) (a1 : (List UInt8) × (List (List UInt8)) × (List (List UInt8)) × Int × Int × Int × Int) (a2 : List Int) : Option Bool :=
  (chatelainelaw24_awake Fu).bind fun x29 => if (!x29) = true then (some false) else ((chatelainelaw24_Few Fu a0).bind fun x32 => (if (!x32) = true then some true else (chatelaineref24_Right Fu a0).bind fun x38 => some (!x38)).bind fun z36 => if ((((z36 || (decide (12 < (a1.2.1.length : Int)))) || (decide (12 < (a1.2.2.1.length : Int)))) || (decide (a1.2.2.2.1 < 0))) || (decide ((a0.length : Int) ≤ a1.2.2.2.1))) = true then (some true) else ((idx a0 a1.2.2.2.1).bind fun x49 => (ix 2 0).bind fun m89 => (a2[m89]?).bind fun x93 => (if (((((decide (a1.2.2.2.2.1 ≠ x49.1)) || (decide (a1.2.2.2.2.2.1 ≠ x49.2.1))) || (decide (a1.2.2.2.2.2.2 ≠ x49.2.2.1))) || (decide (x93 < 0))) || (decide (x49.2.2.1 ≤ x93))) = true then some true else (shN (a1.2.1.length : Int)).bind fun m110 => (chatelaineref23_Wide Fu x49.2.2.1).bind fun x112 => some (decide (i64_shl 1 m110 ≠ x112))).bind fun z108 => (if z108 = true then some true else (shN (a1.2.2.1.length : Int)).bind fun m118 => (chatelaineref23_Wide Fu (a0.length : Int)).bind fun x120 => some (decide (i64_shl 1 m118 ≠ x120))).bind fun z116 => if z116 = true then (some true) else ((ix 2 1).bind fun m124 => (a2[m124]?).bind fun x128 => (mkN 1 (i64_and x128 63)).bind fun n135 => (chatelaineref23_Leaf Fu x49.1 x93 (List.replicate n135 ((0 : UInt8) : UInt8))).bind fun x140 => (chatelaineref24_Root Fu a0).bind fun x148 => (forest_Holds Fu (x140, a1.2.1, a1.2.2.1, a1.2.2.2.1, a1.2.2.2.2.1, a1.2.2.2.2.2.1, a1.2.2.2.2.2.2) x148 x93 (List.replicate n135 ((0 : UInt8) : UInt8))).bind fun x156 => (if (!x156) = true then some true else (idx x49.2.2.2.2.2.2 x93).bind fun x161 => some (decide (x140 = x161))).bind fun z159 => if z159 = true then (some true) else ((chatelainelaw24_ForestBinds_l0 Fu a1 x49 Fu x93 1 0 x140).bind fun o => match o with | .inl r287 => some r287 | .inr x188 => (chatelaineref23_Root Fu x49.2.2.2.2.2.2).bind fun x279 => if x188 = x279 then (some false) else (some true)))))
set_option maxRecDepth 100000 in
set_option maxHeartbeats 2000000 in
theorem chatelainelaw24_ForestBinds_ok (Fu : Nat) {S0 : Snap} (Aa0 : Option Addr) (ca0 : Nat) (a0 : List (Int × Int × Int × (List UInt8) × (List (Int × Int)) × (List (List UInt8)) × (List (List UInt8)))) (hsa0 : slS (tyP tyI (tyP tyI (tyP tyI (tyP (tyL ty8) (tyP (tyL (tyP tyI tyI)) (tyP (tyL (tyL ty8)) (tyL (tyA 32 ty8)))))))) S0 Aa0 ca0 a0) (csa1 : List Value) (a1 : (List UInt8) × (List (List UInt8)) × (List (List UInt8)) × Int × Int × Int × Int) (hsa1 : (tyP (tyA 32 ty8) (tyP (tyL (tyA 32 ty8)) (tyP (tyL (tyA 32 ty8)) (tyP tyI (tyP tyI (tyP tyI tyI)))))).rep S0 csa1 a1) (csa2 : List Value) (a2 : List Int) (hsa2 : (tyA 2 tyI).rep S0 csa2 a2) (r : Bool) (hf : chatelainelaw24_ForestBinds Fu a0 a1 a2 = some r) (w0 : World) (hm : Mem w0 (ownL ([] ++ [.sn S0])) ([] ++ [.sn S0]) w0) :
    Calls Try.prog 11 #[.slice Aa0 a0.length ca0, .agg csa1.toArray, .agg csa2.toArray] w0 (Ret w0 S0 [] (fun v L1 S1 => v = .bool r ∧ L1 = [] ∧ True)) := by
  unfold chatelainelaw24_ForestBinds at hf
  obtain ⟨k1, k2, rfl, ⟨hs3, hl4⟩, ⟨k5, k6, rfl, ⟨A7, c8, rfl, hs9⟩, ⟨k10, k11, rfl, ⟨A12, c13, rfl, hs14⟩, ⟨k15, k16, rfl, ⟨rfl, hr17⟩, ⟨k18, k19, rfl, ⟨rfl, hr20⟩, ⟨k21, k22, rfl, ⟨rfl, hr23⟩, ⟨rfl, hr24⟩⟩⟩⟩⟩⟩⟩ := hsa1
  obtain ⟨hs25, hl26⟩ := hsa2
  refine c_enterM Try.func11 rfl 201 rfl (by simp) _ hm _ rfl (fun a h => ?_)
  refine c_rs ?_ -- region 0
  refine s_box h rfl rfl rfl (by decide) rfl (cs := k1 ++ ([.slice A7 a1.2.1.length c8, .slice A12 a1.2.2.1.length c13, .int .i64 a1.2.2.2.1, .int .i64 a1.2.2.2.2.1, .int .i64 a1.2.2.2.2.2.1, .int .i64 a1.2.2.2.2.2.2])) (by rfl) (fun a w g27 h => ?_)
  refine s_box h rfl rfl rfl (by decide) rfl (cs := csa2) (by rfl) (fun a w g28 h => ?_)
  refine s_assign h rfl _ rfl rfl (by decide) rfl (fun a h => ?_)
  refine l_end ?_
  refine wp_seq ?_
  refine c_rs ?_ -- region 1
  obtain ⟨x29, h30, hf⟩ := bsome hf
  have hX := chatelainelaw24_awake_ok Fu (S0 := snapAll _)  _ h30 _ h.startAll
  refine q_callX hX h rfl rfl rfl (by decide) Try.func35 rfl rfl rfl (fun a w v L1 S1 hR hb1 h => ?_)
  obtain ⟨rfl, rfl, _⟩ := hR
  refine s_x h rfl rfl (by decide) (x_not h.k rfl rfl) (fun a h => ?_)
  refine l_end ?_
  refine c_cond h rfl (fun hb => ?_) (fun hb => ?_)
  · rw [if_pos hb] at hf
    refine c_rs ?_ -- region 2
    refine s_assign h rfl _ rfl rfl (by decide) rfl (fun a h => ?_)
    refine l_end ?_
    refine wp_ret ?_
    refine e_thenR ?_
    rw [← Option.some.inj hf]
    exact r_ret1 h rfl (rv_tmp h rfl) ⟨_, [], _, rfl, ⟨rfl, rfl, trivial⟩, rfl, (Up.refl _ _ _), (h.m.pick [2] _ (by decide) rfl)⟩
  · rw [if_neg (by rw [hb]; decide)] at hf
    refine wp_skip ?_
    refine e_thenN ?_
    refine wp_seq ?_
    refine c_rs ?_ -- region 3
    refine s_move h rfl _ rfl rfl (by decide) rfl (fun a h => ?_)
    obtain ⟨x32, h33, hf⟩ := bsome hf
    have hX := chatelainelaw24_Few_ok Fu (S0 := snapAll _) Aa0 ca0 a0 (hsa0.mono (h.m.leAll (i := 2) rfl)) _ h33 _ h.startAll
    refine q_callX hX h rfl rfl rfl (by decide) Try.func36 rfl rfl rfl (fun a w v L1 S1 hR hb1 h => ?_)
    obtain ⟨rfl, rfl, _⟩ := hR
    refine s_x h rfl rfl (by decide) (x_not h.k rfl rfl) (fun a h => ?_)
    refine s_move h rfl _ rfl rfl (by decide) rfl (fun a h => ?_)
    obtain ⟨z36, hz35, hf⟩ := bsome hf
    refine q_grp h 4 (t := 23) 27 z36 rfl (fun hB3 => ?_) (fun hB3 => ?_) (fun a w h => ?_)
    · refine g_no h rfl rfl rfl rfl hB3 rfl (by decide) (fun a h => ?_)
      refine g_no h rfl rfl rfl rfl hB3 rfl (by decide) (fun a h => ?_)
      refine g_no h rfl rfl rfl rfl hB3 rfl (by decide) (fun a h => ?_)
      rw [if_pos hB3] at hz35
      refine s_x h rfl rfl (by decide) (x_pick (u' := undef) h.k rfl rfl (fun _ => rfl) (fun hh => absurd (hB3.symm.trans hh) (by decide))) (fun a h => ?_)
      exact (h.mid 3 rfl).val (by rw [Option.some.inj hz35])
    · rw [if_neg (by rw [hB3]; decide)] at hz35
      refine g_yes h rfl rfl rfl rfl hB3 ?_
      refine s_move h rfl _ rfl rfl (by decide) rfl (fun a h => ?_)
      refine g_yes h rfl rfl rfl rfl hB3 ?_
      obtain ⟨x38, h39, hz35⟩ := bsome hz35
      have hX := chatelaineref24_Right_ok Fu (S0 := snapAll _) Aa0 ca0 a0 (hsa0.mono (h.m.leAll (i := 2) rfl)) _ h39 _ h.startAll
      refine q_callX hX h rfl rfl rfl (by decide) Try.func42 rfl rfl rfl (fun a w v L1 S1 hR hb1 h => ?_)
      obtain ⟨rfl, rfl, _⟩ := hR
      refine g_yes h rfl rfl rfl rfl hB3 ?_
      refine s_x h rfl rfl (by decide) (x_not h.k rfl rfl) (fun a h => ?_)
      refine s_x h rfl rfl (by decide) (x_pick (u' := undef) h.k rfl rfl (fun hh => absurd (hB3.symm.trans hh) (by decide)) (fun _ => rfl)) (fun a h => ?_)
      exact (h.mid 3 rfl).val (by rw [Option.some.inj hz35])
    refine s_move h rfl _ rfl rfl (by decide) rfl (fun a h => ?_)
    refine q_grp h 5 (t := 28) 33 (z36 || (decide (12 < (a1.2.1.length : Int)))) rfl (fun hB8 => ?_) (fun hB8 => ?_) (fun a w h => ?_)
    · refine g_no h rfl rfl rfl rfl hB8 rfl (by decide) (fun a h => ?_)
      refine g_no h rfl rfl rfl rfl hB8 rfl (by decide) (fun a h => ?_)
      refine g_no h rfl rfl rfl rfl hB8 rfl (by decide) (fun a h => ?_)
      refine g_no h rfl rfl rfl rfl hB8 rfl (by decide) (fun a h => ?_)
      refine s_x h rfl rfl (by decide) (x_pick (u' := undef) h.k rfl rfl (fun _ => rfl) (fun hh => absurd (hB8.symm.trans hh) (by decide))) (fun a h => ?_)
      exact (h.mid 4 rfl).val (by first | rfl | (rw [hB8]; first | rfl | simp))
    · refine g_yes h rfl rfl rfl rfl hB8 ?_
      refine s_x h rfl rfl (by decide) (x_faddr h.k rfl Try.underlying75 rfl sz_SA32_uint8 rfl) (fun a h => ?_)
      refine g_yes h rfl rfl rfl rfl hB8 ?_
      refine s_x h rfl rfl (by decide) (x_ld h.k rfl Try.underlying39 rfl rfl ((h.m.cell (i := 1) rfl 32).trans (cell_oneE (X := k1) (Z := ([.slice A12 a1.2.2.1.length c13] : List Value) ++ (([.int .i64 a1.2.2.2.1] : List Value) ++ (([.int .i64 a1.2.2.2.2.1] : List Value) ++ (([.int .i64 a1.2.2.2.2.2.1] : List Value) ++ ([.int .i64 a1.2.2.2.2.2.2]))))) (off := 32) (u := .slice A7 a1.2.1.length c8) (by simp only [List.append_assoc, List.cons_append, List.nil_append, List.append_nil]) (show (k1 : List Value).length = 32 from by simp only [List.length_append, List.length_cons, List.length_nil, (show (k1 : List Value).length = 32 from ((hs3).len.trans (by rw [hl4]; rfl)))])))) (fun a h => ?_)
      refine g_yes h rfl rfl rfl rfl hB8 ?_
      refine s_x h rfl rfl (by decide) (x_len h.k rfl Try.underlying39 rfl) (fun a h => ?_)
      refine g_yes h rfl rfl rfl rfl hB8 ?_
      refine s_x h rfl rfl (by decide) (x_bin h.k rfl rfl rfl ib_gtr) (fun a h => ?_)
      refine s_x h rfl rfl (by decide) (x_pick (u' := undef) h.k rfl rfl (fun hh => absurd (hB8.symm.trans hh) (by decide)) (fun _ => rfl)) (fun a h => ?_)
      exact (h.mid 4 rfl).val (by first | rfl | (rw [hB8]; first | rfl | simp))
    refine s_move h rfl _ rfl rfl (by decide) rfl (fun a h => ?_)
    refine q_grp h 5 (t := 34) 39 ((z36 || (decide (12 < (a1.2.1.length : Int)))) || (decide (12 < (a1.2.2.1.length : Int)))) rfl (fun hB14 => ?_) (fun hB14 => ?_) (fun a w h => ?_)
    · refine g_no h rfl rfl rfl rfl hB14 rfl (by decide) (fun a h => ?_)
      refine g_no h rfl rfl rfl rfl hB14 rfl (by decide) (fun a h => ?_)
      refine g_no h rfl rfl rfl rfl hB14 rfl (by decide) (fun a h => ?_)
      refine g_no h rfl rfl rfl rfl hB14 rfl (by decide) (fun a h => ?_)
      refine s_x h rfl rfl (by decide) (x_pick (u' := undef) h.k rfl rfl (fun _ => rfl) (fun hh => absurd (hB14.symm.trans hh) (by decide))) (fun a h => ?_)
      exact (h.mid 4 rfl).val (by first | rfl | (rw [hB14]; first | rfl | simp))
    · refine g_yes h rfl rfl rfl rfl hB14 ?_
      refine s_x h rfl rfl (by decide) (x_faddr h.k rfl Try.underlying75 rfl sz_SA32_uint8 rfl) (fun a h => ?_)
      refine g_yes h rfl rfl rfl rfl hB14 ?_
      refine s_x h rfl rfl (by decide) (x_ld h.k rfl Try.underlying39 rfl rfl ((h.m.cell (i := 1) rfl 33).trans (cell_oneE (X := k1 ++ ([.slice A7 a1.2.1.length c8])) (Z := ([.int .i64 a1.2.2.2.1] : List Value) ++ (([.int .i64 a1.2.2.2.2.1] : List Value) ++ (([.int .i64 a1.2.2.2.2.2.1] : List Value) ++ ([.int .i64 a1.2.2.2.2.2.2])))) (off := 33) (u := .slice A12 a1.2.2.1.length c13) (by simp only [List.append_assoc, List.cons_append, List.nil_append, List.append_nil]) (show (k1 ++ ([.slice A7 a1.2.1.length c8]) : List Value).length = 33 from by simp only [List.length_append, List.length_cons, List.length_nil, (show (k1 : List Value).length = 32 from ((hs3).len.trans (by rw [hl4]; rfl)))])))) (fun a h => ?_)
      refine g_yes h rfl rfl rfl rfl hB14 ?_
      refine s_x h rfl rfl (by decide) (x_len h.k rfl Try.underlying39 rfl) (fun a h => ?_)
      refine g_yes h rfl rfl rfl rfl hB14 ?_
      refine s_x h rfl rfl (by decide) (x_bin h.k rfl rfl rfl ib_gtr) (fun a h => ?_)
      refine s_x h rfl rfl (by decide) (x_pick (u' := undef) h.k rfl rfl (fun hh => absurd (hB14.symm.trans hh) (by decide)) (fun _ => rfl)) (fun a h => ?_)
      exact (h.mid 4 rfl).val (by first | rfl | (rw [hB14]; first | rfl | simp))
    refine s_move h rfl _ rfl rfl (by decide) rfl (fun a h => ?_)
    refine q_grp h 4 (t := 40) 44 (((z36 || (decide (12 < (a1.2.1.length : Int)))) || (decide (12 < (a1.2.2.1.length : Int)))) || (decide (a1.2.2.2.1 < 0))) rfl (fun hB20 => ?_) (fun hB20 => ?_) (fun a w h => ?_)
    · refine g_no h rfl rfl rfl rfl hB20 rfl (by decide) (fun a h => ?_)
      refine g_no h rfl rfl rfl rfl hB20 rfl (by decide) (fun a h => ?_)
      refine g_no h rfl rfl rfl rfl hB20 rfl (by decide) (fun a h => ?_)
      refine s_x h rfl rfl (by decide) (x_pick (u' := undef) h.k rfl rfl (fun _ => rfl) (fun hh => absurd (hB20.symm.trans hh) (by decide))) (fun a h => ?_)
      exact (h.mid 3 rfl).val (by first | rfl | (rw [hB20]; first | rfl | simp))
    · refine g_yes h rfl rfl rfl rfl hB20 ?_
      refine s_x h rfl rfl (by decide) (x_faddr h.k rfl Try.underlying75 rfl sz_int rfl) (fun a h => ?_)
      refine g_yes h rfl rfl rfl rfl hB20 ?_
      refine s_x h rfl rfl (by decide) (x_ld h.k rfl Try.underlying3 rfl rfl ((h.m.cell (i := 1) rfl 34).trans (cell_oneE (X := k1 ++ (([.slice A7 a1.2.1.length c8] : List Value) ++ ([.slice A12 a1.2.2.1.length c13]))) (Z := ([.int .i64 a1.2.2.2.2.1] : List Value) ++ (([.int .i64 a1.2.2.2.2.2.1] : List Value) ++ ([.int .i64 a1.2.2.2.2.2.2]))) (off := 34) (u := .int .i64 a1.2.2.2.1) (by simp only [List.append_assoc, List.cons_append, List.nil_append, List.append_nil]) (show (k1 ++ (([.slice A7 a1.2.1.length c8] : List Value) ++ ([.slice A12 a1.2.2.1.length c13])) : List Value).length = 34 from by simp only [List.length_append, List.length_cons, List.length_nil, (show (k1 : List Value).length = 32 from ((hs3).len.trans (by rw [hl4]; rfl)))])))) (fun a h => ?_)
      refine g_yes h rfl rfl rfl rfl hB20 ?_
      refine s_x h rfl rfl (by decide) (x_bin h.k rfl rfl rfl ib_lss) (fun a h => ?_)
      refine s_x h rfl rfl (by decide) (x_pick (u' := undef) h.k rfl rfl (fun hh => absurd (hB20.symm.trans hh) (by decide)) (fun _ => rfl)) (fun a h => ?_)
      exact (h.mid 3 rfl).val (by first | rfl | (rw [hB20]; first | rfl | simp))
    refine s_move h rfl _ rfl rfl (by decide) rfl (fun a h => ?_)
    refine q_grp h 6 (t := 45) 51 ((((z36 || (decide (12 < (a1.2.1.length : Int)))) || (decide (12 < (a1.2.2.1.length : Int)))) || (decide (a1.2.2.2.1 < 0))) || (decide ((a0.length : Int) ≤ a1.2.2.2.1))) rfl (fun hB25 => ?_) (fun hB25 => ?_) (fun a w h => ?_)
    · refine g_no h rfl rfl rfl rfl hB25 rfl (by decide) (fun a h => ?_)
      refine g_no h rfl rfl rfl rfl hB25 rfl (by decide) (fun a h => ?_)
      refine g_no h rfl rfl rfl rfl hB25 rfl (by decide) (fun a h => ?_)
      refine g_no h rfl rfl rfl rfl hB25 rfl (by decide) (fun a h => ?_)
      refine g_no h rfl rfl rfl rfl hB25 rfl (by decide) (fun a h => ?_)
      refine s_x h rfl rfl (by decide) (x_pick (u' := undef) h.k rfl rfl (fun _ => rfl) (fun hh => absurd (hB25.symm.trans hh) (by decide))) (fun a h => ?_)
      exact (h.mid 5 rfl).val (by first | rfl | (rw [hB25]; first | rfl | simp))
    · refine g_yes h rfl rfl rfl rfl hB25 ?_
      refine s_x h rfl rfl (by decide) (x_faddr h.k rfl Try.underlying75 rfl sz_int rfl) (fun a h => ?_)
      refine g_yes h rfl rfl rfl rfl hB25 ?_
      refine s_x h rfl rfl (by decide) (x_ld h.k rfl Try.underlying3 rfl rfl ((h.m.cell (i := 1) rfl 34).trans (cell_oneE (X := k1 ++ (([.slice A7 a1.2.1.length c8] : List Value) ++ ([.slice A12 a1.2.2.1.length c13]))) (Z := ([.int .i64 a1.2.2.2.2.1] : List Value) ++ (([.int .i64 a1.2.2.2.2.2.1] : List Value) ++ ([.int .i64 a1.2.2.2.2.2.2]))) (off := 34) (u := .int .i64 a1.2.2.2.1) (by simp only [List.append_assoc, List.cons_append, List.nil_append, List.append_nil]) (show (k1 ++ (([.slice A7 a1.2.1.length c8] : List Value) ++ ([.slice A12 a1.2.2.1.length c13])) : List Value).length = 34 from by simp only [List.length_append, List.length_cons, List.length_nil, (show (k1 : List Value).length = 32 from ((hs3).len.trans (by rw [hl4]; rfl)))])))) (fun a h => ?_)
      refine g_yes h rfl rfl rfl rfl hB25 ?_
      refine s_move h rfl _ rfl rfl (by decide) rfl (fun a h => ?_)
      refine g_yes h rfl rfl rfl rfl hB25 ?_
      refine s_x h rfl rfl (by decide) (x_len h.k rfl Try.underlying61 rfl) (fun a h => ?_)
      refine g_yes h rfl rfl rfl rfl hB25 ?_
      refine s_x h rfl rfl (by decide) (x_bin h.k rfl rfl rfl ib_geq) (fun a h => ?_)
      refine s_x h rfl rfl (by decide) (x_pick (u' := undef) h.k rfl rfl (fun hh => absurd (hB25.symm.trans hh) (by decide)) (fun _ => rfl)) (fun a h => ?_)
      exact (h.mid 5 rfl).val (by first | rfl | (rw [hB25]; first | rfl | simp))
    refine l_end ?_
    refine c_cond h rfl (fun hb => ?_) (fun hb => ?_)
    · rw [if_pos hb] at hf
      refine c_rs ?_ -- region 4
      refine s_assign h rfl _ rfl rfl (by decide) rfl (fun a h => ?_)
      refine l_end ?_
      refine wp_ret ?_
      refine e_thenR ?_
      rw [← Option.some.inj hf]
      exact r_ret1 h rfl (rv_tmp h rfl) ⟨_, [], _, rfl, ⟨rfl, rfl, trivial⟩, rfl, (Up.refl _ _ _), (h.m.pick [2] _ (by decide) rfl)⟩
    · rw [if_neg (by rw [hb]; decide)] at hf
      refine wp_skip ?_
      refine e_thenN ?_
      refine c_rs ?_ -- region 5
      refine s_move h rfl _ rfl rfl (by decide) rfl (fun a h => ?_)
      refine s_x h rfl rfl (by decide) (x_faddr h.k rfl Try.underlying75 rfl sz_int rfl) (fun a h => ?_)
      refine s_x h rfl rfl (by decide) (x_ld h.k rfl Try.underlying3 rfl rfl ((h.m.cell (i := 1) rfl 34).trans (cell_oneE (X := k1 ++ (([.slice A7 a1.2.1.length c8] : List Value) ++ ([.slice A12 a1.2.2.1.length c13]))) (Z := ([.int .i64 a1.2.2.2.2.1] : List Value) ++ (([.int .i64 a1.2.2.2.2.2.1] : List Value) ++ ([.int .i64 a1.2.2.2.2.2.2]))) (off := 34) (u := .int .i64 a1.2.2.2.1) (by simp only [List.append_assoc, List.cons_append, List.nil_append, List.append_nil]) (show (k1 ++ (([.slice A7 a1.2.1.length c8] : List Value) ++ ([.slice A12 a1.2.2.1.length c13])) : List Value).length = 34 from by simp only [List.length_append, List.length_cons, List.length_nil, (show (k1 : List Value).length = 32 from ((hs3).len.trans (by rw [hl4]; rfl)))])))) (fun a h => ?_)
      obtain ⟨x49, h53, hf⟩ := bsome hf
      obtain ⟨m50, hi54, hm55, hx56⟩ := idx_some h53
      obtain ⟨b51, off52, k57, hA58, hu59, hc60⟩ := (hsa0).at (by decide) hx56 (h.m.snOK (i := 2) rfl)
      obtain ⟨k61, k62, rfl, ⟨rfl, hr63⟩, ⟨k64, k65, rfl, ⟨rfl, hr66⟩, ⟨k67, k68, rfl, ⟨rfl, hr69⟩, ⟨k70, k71, rfl, ⟨A72, c73, rfl, hs74⟩, ⟨k75, k76, rfl, ⟨A77, c78, rfl, hs79⟩, ⟨k80, k81, rfl, ⟨A82, c83, rfl, hs84⟩, ⟨A85, c86, rfl, hs87⟩⟩⟩⟩⟩⟩⟩ := hu59
      refine s_x h rfl rfl (by decide) (x_iaddrE h.k rfl Try.underlying61 sz_api_Space hA58 rfl rfl hi54 hm55) (fun a h => ?_)
      refine s_x h rfl rfl (by decide) (x_ldR h.k rfl ag_api_Space rfl ([.int .i64 x49.1, .int .i64 x49.2.1, .int .i64 x49.2.2.1, .slice A72 x49.2.2.2.1.length c73, .slice A77 x49.2.2.2.2.1.length c78, .slice A82 x49.2.2.2.2.2.1.length c83, .slice A85 x49.2.2.2.2.2.2.length c86]) rfl (hc60 _ (h.m.snOK (i := 2) rfl))) (fun a h => ?_)
      refine s_alloc h rfl rfl rfl (by decide) zi_api_Space rfl (fun a w g88 h => ?_)
      refine s_stW h rfl rfl rfl ag_api_Space rfl (es := [.int .i64 x49.1, .int .i64 x49.2.1, .int .i64 x49.2.2.1, .slice A72 x49.2.2.2.1.length c73, .slice A77 x49.2.2.2.2.1.length c78, .slice A82 x49.2.2.2.2.2.1.length c83, .slice A85 x49.2.2.2.2.2.2.length c86]) rfl rfl (by simp [Value.oneCell']) 0 rfl rfl (fun a w h => ?_)
      refine l_end ?_
      refine c_rs ?_ -- region 6
      obtain ⟨m89, h90, hf⟩ := bsome hf
      obtain ⟨hi91, hm92⟩ := ix_some h90
      refine s_x h rfl rfl (by decide) (x_iaddrA h.k rfl Try.underlying51 sz_int rfl rfl hi91 hm92 rfl) (fun a h => ?_)
      obtain ⟨x93, h94, hf⟩ := bsome hf
      obtain ⟨u95, hv96, hu97⟩ := (hs25).cell rfl h94
      obtain ⟨e99, hr98⟩ := hu97
      cases e99
      refine s_x h rfl rfl (by decide) (x_ld h.k rfl Try.underlying3 rfl rfl ((h.m.cell (i := 1) rfl _).trans (by rw [Nat.zero_add, Nat.mul_one]; exact hv96))) (fun a h => ?_)
      refine s_assign h rfl _ rfl rfl (by decide) rfl (fun a h => ?_)
      refine l_end ?_
      refine wp_seq ?_
      refine wp_seq ?_
      -- region 7 draws
      obtain ⟨z108, hz109, hf⟩ := bsome hf
      obtain ⟨z116, hz117, hf⟩ := bsome hf
      refine c_fin (fun a w => St 201 w0 (ownL ([] ++ [.sn S0])) [(0, .slice Aa0 a0.length ca0), (4, .pointer (some ⟨g27, 0, none⟩)), (5, .pointer (some ⟨g28, 0, none⟩)), (7, .pointer (some ⟨g88, 0, none⟩)), (8, .int .i64 x93), (107, .bool z116)] [.box g27 75 (k1 ++ ([.slice A7 a1.2.1.length c8, .slice A12 a1.2.2.1.length c13, .int .i64 a1.2.2.2.1, .int .i64 a1.2.2.2.2.1, .int .i64 a1.2.2.2.2.2.1, .int .i64 a1.2.2.2.2.2.2])), .box g28 51 csa2, .box g88 66 ([.int .i64 x49.1, .int .i64 x49.2.1, .int .i64 x49.2.2.1, .slice A72 x49.2.2.2.1.length c73, .slice A77 x49.2.2.2.2.1.length c78, .slice A82 x49.2.2.2.2.2.1.length c83, .slice A85 x49.2.2.2.2.2.2.length c86]), .sn S0] a w) ?_ (fun a w h => ?_)
      · refine d_start h (Mem _ _ _) 49 49 rfl (by kernel_rfl) (fun _ _ _ _ _ h => h) (fun _ h => h) (fun Q a w HE HN h HS => ?_)
        refine d_takeP h (fun _ => HS) HN 0 rfl (by kernel_rfl) (by kernel_rfl) (by kernel_rfl) (by decide) rfl rfl (by decide) (fun w' => x_faddr h.k rfl Try.underlying75 rfl sz_int rfl) (fun a h => ?_)
        refine d_take h HS HN 1 rfl (by kernel_rfl) (by kernel_rfl) (by kernel_rfl) (by kernel_rfl) (by kernel_rfl) rfl rfl (by decide) (fun w' hw => x_ld h.k rfl Try.underlying3 rfl rfl ((hw.cell (i := 2) rfl 35).trans (cell_oneE (X := k1 ++ (([.slice A7 a1.2.1.length c8] : List Value) ++ (([.slice A12 a1.2.2.1.length c13] : List Value) ++ ([.int .i64 a1.2.2.2.1])))) (Z := ([.int .i64 a1.2.2.2.2.2.1] : List Value) ++ ([.int .i64 a1.2.2.2.2.2.2])) (off := 35) (u := .int .i64 a1.2.2.2.2.1) (by simp only [List.append_assoc, List.cons_append, List.nil_append, List.append_nil]) (show (k1 ++ (([.slice A7 a1.2.1.length c8] : List Value) ++ (([.slice A12 a1.2.2.1.length c13] : List Value) ++ ([.int .i64 a1.2.2.2.1]))) : List Value).length = 35 from by simp only [List.length_append, List.length_cons, List.length_nil, (show (k1 : List Value).length = 32 from ((hs3).len.trans (by rw [hl4]; rfl)))])))) (fun a h => ?_)
        refine d_takeP h (fun _ => HS) HN 2 rfl (by kernel_rfl) (by kernel_rfl) (by kernel_rfl) (by decide) rfl rfl (by decide) (fun w' => x_faddr h.k rfl Try.underlying66 rfl sz_int rfl) (fun a h => ?_)
        refine d_take h HS HN 3 rfl (by kernel_rfl) (by kernel_rfl) (by kernel_rfl) (by kernel_rfl) (by kernel_rfl) rfl rfl (by decide) (fun w' hw => x_ld h.k rfl Try.underlying3 rfl rfl ((hw.cell (i := 0) rfl 0).trans rfl)) (fun a h => ?_)
        refine d_takeP h (fun _ => HS) HN 4 rfl (by kernel_rfl) (by kernel_rfl) (by kernel_rfl) (by decide) rfl rfl (by decide) (fun w' => x_bin h.k rfl rfl rfl ib_neq) (fun a h => ?_)
        refine d_takeP h (fun _ => HS) HN 5 rfl (by kernel_rfl) (by kernel_rfl) (by kernel_rfl) (by decide) rfl rfl (by decide) (fun w' => x_move h.k _ rfl rfl) (fun a h => ?_)
        refine d_split (t := 64) h rfl (fun hB5 => ?_) (fun hB5 => ?_)
        · refine d_takeNP h (fun _ => HS) HN 6 rfl (by kernel_rfl) (by kernel_rfl) (by kernel_rfl) (by decide) (by rw [g_want h rfl rfl rfl rfl hB5]; rfl) rfl (by decide) (fun a h => ?_)
          refine d_takeNP h (fun _ => HS) HN 7 rfl (by kernel_rfl) (by kernel_rfl) (by kernel_rfl) (by decide) (by rw [g_want h rfl rfl rfl rfl hB5]; rfl) rfl (by decide) (fun a h => ?_)
          refine d_takeNP h (fun _ => HS) HN 8 rfl (by kernel_rfl) (by kernel_rfl) (by kernel_rfl) (by decide) (by rw [g_want h rfl rfl rfl rfl hB5]; rfl) rfl (by decide) (fun a h => ?_)
          refine d_takeNP h (fun _ => HS) HN 9 rfl (by kernel_rfl) (by kernel_rfl) (by kernel_rfl) (by decide) (by rw [g_want h rfl rfl rfl rfl hB5]; rfl) rfl (by decide) (fun a h => ?_)
          refine d_takeNP h (fun _ => HS) HN 10 rfl (by kernel_rfl) (by kernel_rfl) (by kernel_rfl) (by decide) (by rw [g_want h rfl rfl rfl rfl hB5]; rfl) rfl (by decide) (fun a h => ?_)
          refine d_takeP h (fun _ => HS) HN 11 rfl (by kernel_rfl) (by kernel_rfl) (by kernel_rfl) (by decide) rfl rfl (by decide) (fun w' => x_pick (v := .bool ((decide (a1.2.2.2.2.1 ≠ x49.1)) || (decide (a1.2.2.2.2.2.1 ≠ x49.2.1)))) (u' := undef) h.k rfl rfl (fun _ => by rw [hB5]; first | rfl | simp [ev, List.lookup]) (fun hh => absurd (hB5.symm.trans hh) (by decide))) (fun a h => ?_)
          refine d_takeP h (fun _ => HS) HN 12 rfl (by kernel_rfl) (by kernel_rfl) (by kernel_rfl) (by decide) rfl rfl (by decide) (fun w' => x_move h.k _ rfl rfl) (fun a h => ?_)
          have hB12 : ((decide (a1.2.2.2.2.1 ≠ x49.1)) || (decide (a1.2.2.2.2.2.1 ≠ x49.2.1))) = true := (by rw [hB5]; first | rfl | simp)
          refine d_takeNP h (fun _ => HS) HN 13 rfl (by kernel_rfl) (by kernel_rfl) (by kernel_rfl) (by decide) (by rw [g_want h rfl rfl rfl rfl hB12]; rfl) rfl (by decide) (fun a h => ?_)
          refine d_takeNP h (fun _ => HS) HN 14 rfl (by kernel_rfl) (by kernel_rfl) (by kernel_rfl) (by decide) (by rw [g_want h rfl rfl rfl rfl hB12]; rfl) rfl (by decide) (fun a h => ?_)
          refine d_takeNP h (fun _ => HS) HN 15 rfl (by kernel_rfl) (by kernel_rfl) (by kernel_rfl) (by decide) (by rw [g_want h rfl rfl rfl rfl hB12]; rfl) rfl (by decide) (fun a h => ?_)
          refine d_takeNP h (fun _ => HS) HN 16 rfl (by kernel_rfl) (by kernel_rfl) (by kernel_rfl) (by decide) (by rw [g_want h rfl rfl rfl rfl hB12]; rfl) rfl (by decide) (fun a h => ?_)
          refine d_takeNP h (fun _ => HS) HN 17 rfl (by kernel_rfl) (by kernel_rfl) (by kernel_rfl) (by decide) (by rw [g_want h rfl rfl rfl rfl hB12]; rfl) rfl (by decide) (fun a h => ?_)
          refine d_takeP h (fun _ => HS) HN 18 rfl (by kernel_rfl) (by kernel_rfl) (by kernel_rfl) (by decide) rfl rfl (by decide) (fun w' => x_pick (v := .bool (((decide (a1.2.2.2.2.1 ≠ x49.1)) || (decide (a1.2.2.2.2.2.1 ≠ x49.2.1))) || (decide (a1.2.2.2.2.2.2 ≠ x49.2.2.1)))) (u' := undef) h.k rfl rfl (fun _ => by rw [hB12]; first | rfl | simp [ev, List.lookup]) (fun hh => absurd (hB12.symm.trans hh) (by decide))) (fun a h => ?_)
          refine d_takeP h (fun _ => HS) HN 19 rfl (by kernel_rfl) (by kernel_rfl) (by kernel_rfl) (by decide) rfl rfl (by decide) (fun w' => x_move h.k _ rfl rfl) (fun a h => ?_)
          have hB19 : (((decide (a1.2.2.2.2.1 ≠ x49.1)) || (decide (a1.2.2.2.2.2.1 ≠ x49.2.1))) || (decide (a1.2.2.2.2.2.2 ≠ x49.2.2.1))) = true := (by rw [hB12]; first | rfl | simp)
          refine d_takeNP h (fun _ => HS) HN 20 rfl (by kernel_rfl) (by kernel_rfl) (by kernel_rfl) (by decide) (by rw [g_want h rfl rfl rfl rfl hB19]; rfl) rfl (by decide) (fun a h => ?_)
          refine d_takeNP h (fun _ => HS) HN 21 rfl (by kernel_rfl) (by kernel_rfl) (by kernel_rfl) (by decide) (by rw [g_want h rfl rfl rfl rfl hB19]; rfl) rfl (by decide) (fun a h => ?_)
          refine d_takeP h (fun _ => HS) HN 22 rfl (by kernel_rfl) (by kernel_rfl) (by kernel_rfl) (by decide) rfl rfl (by decide) (fun w' => x_pick (v := .bool ((((decide (a1.2.2.2.2.1 ≠ x49.1)) || (decide (a1.2.2.2.2.2.1 ≠ x49.2.1))) || (decide (a1.2.2.2.2.2.2 ≠ x49.2.2.1))) || (decide (x93 < 0)))) (u' := undef) h.k rfl rfl (fun _ => by rw [hB19]; first | rfl | simp [ev, List.lookup]) (fun hh => absurd (hB19.symm.trans hh) (by decide))) (fun a h => ?_)
          refine d_takeP h (fun _ => HS) HN 23 rfl (by kernel_rfl) (by kernel_rfl) (by kernel_rfl) (by decide) rfl rfl (by decide) (fun w' => x_move h.k _ rfl rfl) (fun a h => ?_)
          have hB23 : ((((decide (a1.2.2.2.2.1 ≠ x49.1)) || (decide (a1.2.2.2.2.2.1 ≠ x49.2.1))) || (decide (a1.2.2.2.2.2.2 ≠ x49.2.2.1))) || (decide (x93 < 0))) = true := (by rw [hB19]; first | rfl | simp)
          refine d_takeNP h (fun _ => HS) HN 24 rfl (by kernel_rfl) (by kernel_rfl) (by kernel_rfl) (by decide) (by rw [g_want h rfl rfl rfl rfl hB23]; rfl) rfl (by decide) (fun a h => ?_)
          refine d_takeNP h (fun _ => HS) HN 25 rfl (by kernel_rfl) (by kernel_rfl) (by kernel_rfl) (by decide) (by rw [g_want h rfl rfl rfl rfl hB23]; rfl) rfl (by decide) (fun a h => ?_)
          refine d_takeNP h (fun _ => HS) HN 26 rfl (by kernel_rfl) (by kernel_rfl) (by kernel_rfl) (by decide) (by rw [g_want h rfl rfl rfl rfl hB23]; rfl) rfl (by decide) (fun a h => ?_)
          refine d_takeNP h (fun _ => HS) HN 27 rfl (by kernel_rfl) (by kernel_rfl) (by kernel_rfl) (by decide) (by rw [g_want h rfl rfl rfl rfl hB23]; rfl) rfl (by decide) (fun a h => ?_)
          refine d_takeP h (fun _ => HS) HN 28 rfl (by kernel_rfl) (by kernel_rfl) (by kernel_rfl) (by decide) rfl rfl (by decide) (fun w' => x_pick (v := .bool (((((decide (a1.2.2.2.2.1 ≠ x49.1)) || (decide (a1.2.2.2.2.2.1 ≠ x49.2.1))) || (decide (a1.2.2.2.2.2.2 ≠ x49.2.2.1))) || (decide (x93 < 0))) || (decide (x49.2.2.1 ≤ x93)))) (u' := undef) h.k rfl rfl (fun _ => by rw [hB23]; first | rfl | simp [ev, List.lookup]) (fun hh => absurd (hB23.symm.trans hh) (by decide))) (fun a h => ?_)
          refine d_takeP h (fun _ => HS) HN 29 rfl (by kernel_rfl) (by kernel_rfl) (by kernel_rfl) (by decide) rfl rfl (by decide) (fun w' => x_move h.k _ rfl rfl) (fun a h => ?_)
          have hB29 : (((((decide (a1.2.2.2.2.1 ≠ x49.1)) || (decide (a1.2.2.2.2.2.1 ≠ x49.2.1))) || (decide (a1.2.2.2.2.2.2 ≠ x49.2.2.1))) || (decide (x93 < 0))) || (decide (x49.2.2.1 ≤ x93))) = true := (by rw [hB23]; first | rfl | simp)
          rw [if_pos hB29] at hz109
          refine d_takeNP h (fun _ => HS) HN 30 rfl (by kernel_rfl) (by kernel_rfl) (by kernel_rfl) (by decide) (by rw [g_want h rfl rfl rfl rfl hB29]; rfl) rfl (by decide) (fun a h => ?_)
          refine d_takeNP h (fun _ => HS) HN 31 rfl (by kernel_rfl) (by kernel_rfl) (by kernel_rfl) (by decide) (by rw [g_want h rfl rfl rfl rfl hB29]; rfl) rfl (by decide) (fun a h => ?_)
          refine d_takeNP h (fun _ => HS) HN 32 rfl (by kernel_rfl) (by kernel_rfl) (by kernel_rfl) (by decide) (by rw [g_want h rfl rfl rfl rfl hB29]; rfl) rfl (by decide) (fun a h => ?_)
          refine d_takeNP h (fun _ => HS) HN 33 rfl (by kernel_rfl) (by kernel_rfl) (by kernel_rfl) (by decide) (by rw [g_want h rfl rfl rfl rfl hB29]; rfl) rfl (by decide) (fun a h => ?_)
          refine d_takeNP h (fun _ => HS) HN 34 rfl (by kernel_rfl) (by kernel_rfl) (by kernel_rfl) (by decide) (by rw [g_want h rfl rfl rfl rfl hB29]; rfl) rfl (by decide) (fun a h => ?_)
          refine d_takeNP h (fun _ => HS) HN 35 rfl (by kernel_rfl) (by kernel_rfl) (by kernel_rfl) (by decide) (by rw [g_want h rfl rfl rfl rfl hB29]; rfl) rfl (by decide) (fun a h => ?_)
          refine d_takeNP h (fun _ => HS) HN 36 rfl (by kernel_rfl) (by kernel_rfl) (by kernel_rfl) (by decide) (by rw [g_want h rfl rfl rfl rfl hB29]; rfl) rfl (by decide) (fun a h => ?_)
          refine d_takeNP h (fun _ => HS) HN 37 rfl (by kernel_rfl) (by kernel_rfl) (by kernel_rfl) (by decide) (by rw [g_want h rfl rfl rfl rfl hB29]; rfl) rfl (by decide) (fun a h => ?_)
          refine d_takeP h (fun _ => HS) HN 38 rfl (by kernel_rfl) (by kernel_rfl) (by kernel_rfl) (by decide) rfl rfl (by decide) (fun w' => x_pick (v := .bool z108) (u' := undef) h.k rfl rfl (fun _ => by rw [← Option.some.inj hz109]; rfl) (fun hh => absurd (hB29.symm.trans hh) (by decide))) (fun a h => ?_)
          refine d_takeP h (fun _ => HS) HN 39 rfl (by kernel_rfl) (by kernel_rfl) (by kernel_rfl) (by decide) rfl rfl (by decide) (fun w' => x_move h.k _ rfl rfl) (fun a h => ?_)
          have hB39 : z108 = true := (Option.some.inj hz109).symm
          rw [if_pos hB39] at hz117
          refine d_takeNP h (fun _ => HS) HN 40 rfl (by kernel_rfl) (by kernel_rfl) (by kernel_rfl) (by decide) (by rw [g_want h rfl rfl rfl rfl hB39]; rfl) rfl (by decide) (fun a h => ?_)
          refine d_takeNP h (fun _ => HS) HN 41 rfl (by kernel_rfl) (by kernel_rfl) (by kernel_rfl) (by decide) (by rw [g_want h rfl rfl rfl rfl hB39]; rfl) rfl (by decide) (fun a h => ?_)
          refine d_takeNP h (fun _ => HS) HN 42 rfl (by kernel_rfl) (by kernel_rfl) (by kernel_rfl) (by decide) (by rw [g_want h rfl rfl rfl rfl hB39]; rfl) rfl (by decide) (fun a h => ?_)
          refine d_takeNP h (fun _ => HS) HN 43 rfl (by kernel_rfl) (by kernel_rfl) (by kernel_rfl) (by decide) (by rw [g_want h rfl rfl rfl rfl hB39]; rfl) rfl (by decide) (fun a h => ?_)
          refine d_takeNP h (fun _ => HS) HN 44 rfl (by kernel_rfl) (by kernel_rfl) (by kernel_rfl) (by decide) (by rw [g_want h rfl rfl rfl rfl hB39]; rfl) rfl (by decide) (fun a h => ?_)
          refine d_takeNP h (fun _ => HS) HN 45 rfl (by kernel_rfl) (by kernel_rfl) (by kernel_rfl) (by decide) (by rw [g_want h rfl rfl rfl rfl hB39]; rfl) rfl (by decide) (fun a h => ?_)
          refine d_takeNP h (fun _ => HS) HN 46 rfl (by kernel_rfl) (by kernel_rfl) (by kernel_rfl) (by decide) (by rw [g_want h rfl rfl rfl rfl hB39]; rfl) rfl (by decide) (fun a h => ?_)
          refine d_takeNP h (fun _ => HS) HN 47 rfl (by kernel_rfl) (by kernel_rfl) (by kernel_rfl) (by decide) (by rw [g_want h rfl rfl rfl rfl hB39]; rfl) rfl (by decide) (fun a h => ?_)
          refine d_takeP h (fun _ => HS) HN 48 rfl (by kernel_rfl) (by kernel_rfl) (by kernel_rfl) (by decide) rfl rfl (by decide) (fun w' => x_pick (v := .bool z116) (u' := undef) h.k rfl rfl (fun _ => by rw [← Option.some.inj hz117]; rfl) (fun hh => absurd (hB39.symm.trans hh) (by decide))) (fun a h => ?_)
          refine d_done (by kernel_rfl) (HE _ _ ?_) _
          refine e_thenN ?_
          have h := h.pick [2, 1, 0, 3] (by decide) rfl
          exact h.has (by exact ⟨rfl, rfl, rfl, rfl, rfl, rfl, trivial⟩)
        · refine d_takeP h (fun _ => HS) HN 6 rfl (by kernel_rfl) (by kernel_rfl) (by kernel_rfl) (by decide) (by rw [g_want h rfl rfl rfl rfl hB5]; rfl) rfl (by decide) (fun w' => x_faddr h.k rfl Try.underlying75 rfl sz_int rfl) (fun a h => ?_)
          refine d_takeY h HS HN 7 rfl (by kernel_rfl) (by kernel_rfl) (by kernel_rfl) (by kernel_rfl) (by kernel_rfl) (by rw [g_want h rfl rfl rfl rfl hB5]; rfl) rfl (by decide) (fun w' hw => x_ld h.k rfl Try.underlying3 rfl rfl ((hw.cell (i := 2) rfl 36).trans (cell_oneE (X := k1 ++ (([.slice A7 a1.2.1.length c8] : List Value) ++ (([.slice A12 a1.2.2.1.length c13] : List Value) ++ (([.int .i64 a1.2.2.2.1] : List Value) ++ ([.int .i64 a1.2.2.2.2.1]))))) (Z := [.int .i64 a1.2.2.2.2.2.2]) (off := 36) (u := .int .i64 a1.2.2.2.2.2.1) (by simp only [List.append_assoc, List.cons_append, List.nil_append, List.append_nil]) (show (k1 ++ (([.slice A7 a1.2.1.length c8] : List Value) ++ (([.slice A12 a1.2.2.1.length c13] : List Value) ++ (([.int .i64 a1.2.2.2.1] : List Value) ++ ([.int .i64 a1.2.2.2.2.1])))) : List Value).length = 36 from by simp only [List.length_append, List.length_cons, List.length_nil, (show (k1 : List Value).length = 32 from ((hs3).len.trans (by rw [hl4]; rfl)))])))) (fun a h => ?_)
          refine d_takeP h (fun _ => HS) HN 8 rfl (by kernel_rfl) (by kernel_rfl) (by kernel_rfl) (by decide) (by rw [g_want h rfl rfl rfl rfl hB5]; rfl) rfl (by decide) (fun w' => x_faddr h.k rfl Try.underlying66 rfl sz_int rfl) (fun a h => ?_)
          refine d_takeY h HS HN 9 rfl (by kernel_rfl) (by kernel_rfl) (by kernel_rfl) (by kernel_rfl) (by kernel_rfl) (by rw [g_want h rfl rfl rfl rfl hB5]; rfl) rfl (by decide) (fun w' hw => x_ld h.k rfl Try.underlying3 rfl rfl ((hw.cell (i := 0) rfl 1).trans rfl)) (fun a h => ?_)
          refine d_takeP h (fun _ => HS) HN 10 rfl (by kernel_rfl) (by kernel_rfl) (by kernel_rfl) (by decide) (by rw [g_want h rfl rfl rfl rfl hB5]; rfl) rfl (by decide) (fun w' => x_bin h.k rfl rfl rfl ib_neq) (fun a h => ?_)
          refine d_takeP h (fun _ => HS) HN 11 rfl (by kernel_rfl) (by kernel_rfl) (by kernel_rfl) (by decide) rfl rfl (by decide) (fun w' => x_pick (v := .bool ((decide (a1.2.2.2.2.1 ≠ x49.1)) || (decide (a1.2.2.2.2.2.1 ≠ x49.2.1)))) (u' := undef) h.k rfl rfl (fun hh => absurd (hB5.symm.trans hh) (by decide)) (fun _ => by rw [hB5]; first | rfl | simp [ev, List.lookup])) (fun a h => ?_)
          refine d_takeP h (fun _ => HS) HN 12 rfl (by kernel_rfl) (by kernel_rfl) (by kernel_rfl) (by decide) rfl rfl (by decide) (fun w' => x_move h.k _ rfl rfl) (fun a h => ?_)
          refine d_split (t := 71) h rfl (fun hB12 => ?_) (fun hB12 => ?_)
          · refine d_takeNP h (fun _ => HS) HN 13 rfl (by kernel_rfl) (by kernel_rfl) (by kernel_rfl) (by decide) (by rw [g_want h rfl rfl rfl rfl hB12]; rfl) rfl (by decide) (fun a h => ?_)
            refine d_takeNP h (fun _ => HS) HN 14 rfl (by kernel_rfl) (by kernel_rfl) (by kernel_rfl) (by decide) (by rw [g_want h rfl rfl rfl rfl hB12]; rfl) rfl (by decide) (fun a h => ?_)
            refine d_takeNP h (fun _ => HS) HN 15 rfl (by kernel_rfl) (by kernel_rfl) (by kernel_rfl) (by decide) (by rw [g_want h rfl rfl rfl rfl hB12]; rfl) rfl (by decide) (fun a h => ?_)
            refine d_takeNP h (fun _ => HS) HN 16 rfl (by kernel_rfl) (by kernel_rfl) (by kernel_rfl) (by decide) (by rw [g_want h rfl rfl rfl rfl hB12]; rfl) rfl (by decide) (fun a h => ?_)
            refine d_takeNP h (fun _ => HS) HN 17 rfl (by kernel_rfl) (by kernel_rfl) (by kernel_rfl) (by decide) (by rw [g_want h rfl rfl rfl rfl hB12]; rfl) rfl (by decide) (fun a h => ?_)
            refine d_takeP h (fun _ => HS) HN 18 rfl (by kernel_rfl) (by kernel_rfl) (by kernel_rfl) (by decide) rfl rfl (by decide) (fun w' => x_pick (v := .bool (((decide (a1.2.2.2.2.1 ≠ x49.1)) || (decide (a1.2.2.2.2.2.1 ≠ x49.2.1))) || (decide (a1.2.2.2.2.2.2 ≠ x49.2.2.1)))) (u' := undef) h.k rfl rfl (fun _ => by rw [hB12]; first | rfl | simp [ev, List.lookup]) (fun hh => absurd (hB12.symm.trans hh) (by decide))) (fun a h => ?_)
            refine d_takeP h (fun _ => HS) HN 19 rfl (by kernel_rfl) (by kernel_rfl) (by kernel_rfl) (by decide) rfl rfl (by decide) (fun w' => x_move h.k _ rfl rfl) (fun a h => ?_)
            have hB19 : (((decide (a1.2.2.2.2.1 ≠ x49.1)) || (decide (a1.2.2.2.2.2.1 ≠ x49.2.1))) || (decide (a1.2.2.2.2.2.2 ≠ x49.2.2.1))) = true := (by rw [hB12]; first | rfl | simp)
            refine d_takeNP h (fun _ => HS) HN 20 rfl (by kernel_rfl) (by kernel_rfl) (by kernel_rfl) (by decide) (by rw [g_want h rfl rfl rfl rfl hB19]; rfl) rfl (by decide) (fun a h => ?_)
            refine d_takeNP h (fun _ => HS) HN 21 rfl (by kernel_rfl) (by kernel_rfl) (by kernel_rfl) (by decide) (by rw [g_want h rfl rfl rfl rfl hB19]; rfl) rfl (by decide) (fun a h => ?_)
            refine d_takeP h (fun _ => HS) HN 22 rfl (by kernel_rfl) (by kernel_rfl) (by kernel_rfl) (by decide) rfl rfl (by decide) (fun w' => x_pick (v := .bool ((((decide (a1.2.2.2.2.1 ≠ x49.1)) || (decide (a1.2.2.2.2.2.1 ≠ x49.2.1))) || (decide (a1.2.2.2.2.2.2 ≠ x49.2.2.1))) || (decide (x93 < 0)))) (u' := undef) h.k rfl rfl (fun _ => by rw [hB19]; first | rfl | simp [ev, List.lookup]) (fun hh => absurd (hB19.symm.trans hh) (by decide))) (fun a h => ?_)
            refine d_takeP h (fun _ => HS) HN 23 rfl (by kernel_rfl) (by kernel_rfl) (by kernel_rfl) (by decide) rfl rfl (by decide) (fun w' => x_move h.k _ rfl rfl) (fun a h => ?_)
            have hB23 : ((((decide (a1.2.2.2.2.1 ≠ x49.1)) || (decide (a1.2.2.2.2.2.1 ≠ x49.2.1))) || (decide (a1.2.2.2.2.2.2 ≠ x49.2.2.1))) || (decide (x93 < 0))) = true := (by rw [hB19]; first | rfl | simp)
            refine d_takeNP h (fun _ => HS) HN 24 rfl (by kernel_rfl) (by kernel_rfl) (by kernel_rfl) (by decide) (by rw [g_want h rfl rfl rfl rfl hB23]; rfl) rfl (by decide) (fun a h => ?_)
            refine d_takeNP h (fun _ => HS) HN 25 rfl (by kernel_rfl) (by kernel_rfl) (by kernel_rfl) (by decide) (by rw [g_want h rfl rfl rfl rfl hB23]; rfl) rfl (by decide) (fun a h => ?_)
            refine d_takeNP h (fun _ => HS) HN 26 rfl (by kernel_rfl) (by kernel_rfl) (by kernel_rfl) (by decide) (by rw [g_want h rfl rfl rfl rfl hB23]; rfl) rfl (by decide) (fun a h => ?_)
            refine d_takeNP h (fun _ => HS) HN 27 rfl (by kernel_rfl) (by kernel_rfl) (by kernel_rfl) (by decide) (by rw [g_want h rfl rfl rfl rfl hB23]; rfl) rfl (by decide) (fun a h => ?_)
            refine d_takeP h (fun _ => HS) HN 28 rfl (by kernel_rfl) (by kernel_rfl) (by kernel_rfl) (by decide) rfl rfl (by decide) (fun w' => x_pick (v := .bool (((((decide (a1.2.2.2.2.1 ≠ x49.1)) || (decide (a1.2.2.2.2.2.1 ≠ x49.2.1))) || (decide (a1.2.2.2.2.2.2 ≠ x49.2.2.1))) || (decide (x93 < 0))) || (decide (x49.2.2.1 ≤ x93)))) (u' := undef) h.k rfl rfl (fun _ => by rw [hB23]; first | rfl | simp [ev, List.lookup]) (fun hh => absurd (hB23.symm.trans hh) (by decide))) (fun a h => ?_)
            refine d_takeP h (fun _ => HS) HN 29 rfl (by kernel_rfl) (by kernel_rfl) (by kernel_rfl) (by decide) rfl rfl (by decide) (fun w' => x_move h.k _ rfl rfl) (fun a h => ?_)
            have hB29 : (((((decide (a1.2.2.2.2.1 ≠ x49.1)) || (decide (a1.2.2.2.2.2.1 ≠ x49.2.1))) || (decide (a1.2.2.2.2.2.2 ≠ x49.2.2.1))) || (decide (x93 < 0))) || (decide (x49.2.2.1 ≤ x93))) = true := (by rw [hB23]; first | rfl | simp)
            rw [if_pos hB29] at hz109
            refine d_takeNP h (fun _ => HS) HN 30 rfl (by kernel_rfl) (by kernel_rfl) (by kernel_rfl) (by decide) (by rw [g_want h rfl rfl rfl rfl hB29]; rfl) rfl (by decide) (fun a h => ?_)
            refine d_takeNP h (fun _ => HS) HN 31 rfl (by kernel_rfl) (by kernel_rfl) (by kernel_rfl) (by decide) (by rw [g_want h rfl rfl rfl rfl hB29]; rfl) rfl (by decide) (fun a h => ?_)
            refine d_takeNP h (fun _ => HS) HN 32 rfl (by kernel_rfl) (by kernel_rfl) (by kernel_rfl) (by decide) (by rw [g_want h rfl rfl rfl rfl hB29]; rfl) rfl (by decide) (fun a h => ?_)
            refine d_takeNP h (fun _ => HS) HN 33 rfl (by kernel_rfl) (by kernel_rfl) (by kernel_rfl) (by decide) (by rw [g_want h rfl rfl rfl rfl hB29]; rfl) rfl (by decide) (fun a h => ?_)
            refine d_takeNP h (fun _ => HS) HN 34 rfl (by kernel_rfl) (by kernel_rfl) (by kernel_rfl) (by decide) (by rw [g_want h rfl rfl rfl rfl hB29]; rfl) rfl (by decide) (fun a h => ?_)
            refine d_takeNP h (fun _ => HS) HN 35 rfl (by kernel_rfl) (by kernel_rfl) (by kernel_rfl) (by decide) (by rw [g_want h rfl rfl rfl rfl hB29]; rfl) rfl (by decide) (fun a h => ?_)
            refine d_takeNP h (fun _ => HS) HN 36 rfl (by kernel_rfl) (by kernel_rfl) (by kernel_rfl) (by decide) (by rw [g_want h rfl rfl rfl rfl hB29]; rfl) rfl (by decide) (fun a h => ?_)
            refine d_takeNP h (fun _ => HS) HN 37 rfl (by kernel_rfl) (by kernel_rfl) (by kernel_rfl) (by decide) (by rw [g_want h rfl rfl rfl rfl hB29]; rfl) rfl (by decide) (fun a h => ?_)
            refine d_takeP h (fun _ => HS) HN 38 rfl (by kernel_rfl) (by kernel_rfl) (by kernel_rfl) (by decide) rfl rfl (by decide) (fun w' => x_pick (v := .bool z108) (u' := undef) h.k rfl rfl (fun _ => by rw [← Option.some.inj hz109]; rfl) (fun hh => absurd (hB29.symm.trans hh) (by decide))) (fun a h => ?_)
            refine d_takeP h (fun _ => HS) HN 39 rfl (by kernel_rfl) (by kernel_rfl) (by kernel_rfl) (by decide) rfl rfl (by decide) (fun w' => x_move h.k _ rfl rfl) (fun a h => ?_)
            have hB39 : z108 = true := (Option.some.inj hz109).symm
            rw [if_pos hB39] at hz117
            refine d_takeNP h (fun _ => HS) HN 40 rfl (by kernel_rfl) (by kernel_rfl) (by kernel_rfl) (by decide) (by rw [g_want h rfl rfl rfl rfl hB39]; rfl) rfl (by decide) (fun a h => ?_)
            refine d_takeNP h (fun _ => HS) HN 41 rfl (by kernel_rfl) (by kernel_rfl) (by kernel_rfl) (by decide) (by rw [g_want h rfl rfl rfl rfl hB39]; rfl) rfl (by decide) (fun a h => ?_)
            refine d_takeNP h (fun _ => HS) HN 42 rfl (by kernel_rfl) (by kernel_rfl) (by kernel_rfl) (by decide) (by rw [g_want h rfl rfl rfl rfl hB39]; rfl) rfl (by decide) (fun a h => ?_)
            refine d_takeNP h (fun _ => HS) HN 43 rfl (by kernel_rfl) (by kernel_rfl) (by kernel_rfl) (by decide) (by rw [g_want h rfl rfl rfl rfl hB39]; rfl) rfl (by decide) (fun a h => ?_)
            refine d_takeNP h (fun _ => HS) HN 44 rfl (by kernel_rfl) (by kernel_rfl) (by kernel_rfl) (by decide) (by rw [g_want h rfl rfl rfl rfl hB39]; rfl) rfl (by decide) (fun a h => ?_)
            refine d_takeNP h (fun _ => HS) HN 45 rfl (by kernel_rfl) (by kernel_rfl) (by kernel_rfl) (by decide) (by rw [g_want h rfl rfl rfl rfl hB39]; rfl) rfl (by decide) (fun a h => ?_)
            refine d_takeNP h (fun _ => HS) HN 46 rfl (by kernel_rfl) (by kernel_rfl) (by kernel_rfl) (by decide) (by rw [g_want h rfl rfl rfl rfl hB39]; rfl) rfl (by decide) (fun a h => ?_)
            refine d_takeNP h (fun _ => HS) HN 47 rfl (by kernel_rfl) (by kernel_rfl) (by kernel_rfl) (by decide) (by rw [g_want h rfl rfl rfl rfl hB39]; rfl) rfl (by decide) (fun a h => ?_)
            refine d_takeP h (fun _ => HS) HN 48 rfl (by kernel_rfl) (by kernel_rfl) (by kernel_rfl) (by decide) rfl rfl (by decide) (fun w' => x_pick (v := .bool z116) (u' := undef) h.k rfl rfl (fun _ => by rw [← Option.some.inj hz117]; rfl) (fun hh => absurd (hB39.symm.trans hh) (by decide))) (fun a h => ?_)
            refine d_done (by kernel_rfl) (HE _ _ ?_) _
            refine e_thenN ?_
            have h := h.pick [2, 1, 0, 3] (by decide) rfl
            exact h.has (by exact ⟨rfl, rfl, rfl, rfl, rfl, rfl, trivial⟩)
          · refine d_takeP h (fun _ => HS) HN 13 rfl (by kernel_rfl) (by kernel_rfl) (by kernel_rfl) (by decide) (by rw [g_want h rfl rfl rfl rfl hB12]; rfl) rfl (by decide) (fun w' => x_faddr h.k rfl Try.underlying75 rfl sz_int rfl) (fun a h => ?_)
            refine d_takeY h HS HN 14 rfl (by kernel_rfl) (by kernel_rfl) (by kernel_rfl) (by kernel_rfl) (by kernel_rfl) (by rw [g_want h rfl rfl rfl rfl hB12]; rfl) rfl (by decide) (fun w' hw => x_ld h.k rfl Try.underlying3 rfl rfl ((hw.cell (i := 2) rfl 37).trans (cell_oneE (X := k1 ++ (([.slice A7 a1.2.1.length c8] : List Value) ++ (([.slice A12 a1.2.2.1.length c13] : List Value) ++ (([.int .i64 a1.2.2.2.1] : List Value) ++ (([.int .i64 a1.2.2.2.2.1] : List Value) ++ ([.int .i64 a1.2.2.2.2.2.1])))))) (Z := []) (off := 37) (u := .int .i64 a1.2.2.2.2.2.2) (by simp only [List.append_assoc, List.cons_append, List.nil_append, List.append_nil]) (show (k1 ++ (([.slice A7 a1.2.1.length c8] : List Value) ++ (([.slice A12 a1.2.2.1.length c13] : List Value) ++ (([.int .i64 a1.2.2.2.1] : List Value) ++ (([.int .i64 a1.2.2.2.2.1] : List Value) ++ ([.int .i64 a1.2.2.2.2.2.1]))))) : List Value).length = 37 from by simp only [List.length_append, List.length_cons, List.length_nil, (show (k1 : List Value).length = 32 from ((hs3).len.trans (by rw [hl4]; rfl)))])))) (fun a h => ?_)
            refine d_takeP h (fun _ => HS) HN 15 rfl (by kernel_rfl) (by kernel_rfl) (by kernel_rfl) (by decide) (by rw [g_want h rfl rfl rfl rfl hB12]; rfl) rfl (by decide) (fun w' => x_faddr h.k rfl Try.underlying66 rfl sz_int rfl) (fun a h => ?_)
            refine d_takeY h HS HN 16 rfl (by kernel_rfl) (by kernel_rfl) (by kernel_rfl) (by kernel_rfl) (by kernel_rfl) (by rw [g_want h rfl rfl rfl rfl hB12]; rfl) rfl (by decide) (fun w' hw => x_ld h.k rfl Try.underlying3 rfl rfl ((hw.cell (i := 0) rfl 2).trans rfl)) (fun a h => ?_)
            refine d_takeP h (fun _ => HS) HN 17 rfl (by kernel_rfl) (by kernel_rfl) (by kernel_rfl) (by decide) (by rw [g_want h rfl rfl rfl rfl hB12]; rfl) rfl (by decide) (fun w' => x_bin h.k rfl rfl rfl ib_neq) (fun a h => ?_)
            refine d_takeP h (fun _ => HS) HN 18 rfl (by kernel_rfl) (by kernel_rfl) (by kernel_rfl) (by decide) rfl rfl (by decide) (fun w' => x_pick (v := .bool (((decide (a1.2.2.2.2.1 ≠ x49.1)) || (decide (a1.2.2.2.2.2.1 ≠ x49.2.1))) || (decide (a1.2.2.2.2.2.2 ≠ x49.2.2.1)))) (u' := undef) h.k rfl rfl (fun hh => absurd (hB12.symm.trans hh) (by decide)) (fun _ => by rw [hB12]; first | rfl | simp [ev, List.lookup])) (fun a h => ?_)
            refine d_takeP h (fun _ => HS) HN 19 rfl (by kernel_rfl) (by kernel_rfl) (by kernel_rfl) (by decide) rfl rfl (by decide) (fun w' => x_move h.k _ rfl rfl) (fun a h => ?_)
            refine d_split (t := 78) h rfl (fun hB19 => ?_) (fun hB19 => ?_)
            · refine d_takeNP h (fun _ => HS) HN 20 rfl (by kernel_rfl) (by kernel_rfl) (by kernel_rfl) (by decide) (by rw [g_want h rfl rfl rfl rfl hB19]; rfl) rfl (by decide) (fun a h => ?_)
              refine d_takeNP h (fun _ => HS) HN 21 rfl (by kernel_rfl) (by kernel_rfl) (by kernel_rfl) (by decide) (by rw [g_want h rfl rfl rfl rfl hB19]; rfl) rfl (by decide) (fun a h => ?_)
              refine d_takeP h (fun _ => HS) HN 22 rfl (by kernel_rfl) (by kernel_rfl) (by kernel_rfl) (by decide) rfl rfl (by decide) (fun w' => x_pick (v := .bool ((((decide (a1.2.2.2.2.1 ≠ x49.1)) || (decide (a1.2.2.2.2.2.1 ≠ x49.2.1))) || (decide (a1.2.2.2.2.2.2 ≠ x49.2.2.1))) || (decide (x93 < 0)))) (u' := undef) h.k rfl rfl (fun _ => by rw [hB19]; first | rfl | simp [ev, List.lookup]) (fun hh => absurd (hB19.symm.trans hh) (by decide))) (fun a h => ?_)
              refine d_takeP h (fun _ => HS) HN 23 rfl (by kernel_rfl) (by kernel_rfl) (by kernel_rfl) (by decide) rfl rfl (by decide) (fun w' => x_move h.k _ rfl rfl) (fun a h => ?_)
              have hB23 : ((((decide (a1.2.2.2.2.1 ≠ x49.1)) || (decide (a1.2.2.2.2.2.1 ≠ x49.2.1))) || (decide (a1.2.2.2.2.2.2 ≠ x49.2.2.1))) || (decide (x93 < 0))) = true := (by rw [hB19]; first | rfl | simp)
              refine d_takeNP h (fun _ => HS) HN 24 rfl (by kernel_rfl) (by kernel_rfl) (by kernel_rfl) (by decide) (by rw [g_want h rfl rfl rfl rfl hB23]; rfl) rfl (by decide) (fun a h => ?_)
              refine d_takeNP h (fun _ => HS) HN 25 rfl (by kernel_rfl) (by kernel_rfl) (by kernel_rfl) (by decide) (by rw [g_want h rfl rfl rfl rfl hB23]; rfl) rfl (by decide) (fun a h => ?_)
              refine d_takeNP h (fun _ => HS) HN 26 rfl (by kernel_rfl) (by kernel_rfl) (by kernel_rfl) (by decide) (by rw [g_want h rfl rfl rfl rfl hB23]; rfl) rfl (by decide) (fun a h => ?_)
              refine d_takeNP h (fun _ => HS) HN 27 rfl (by kernel_rfl) (by kernel_rfl) (by kernel_rfl) (by decide) (by rw [g_want h rfl rfl rfl rfl hB23]; rfl) rfl (by decide) (fun a h => ?_)
              refine d_takeP h (fun _ => HS) HN 28 rfl (by kernel_rfl) (by kernel_rfl) (by kernel_rfl) (by decide) rfl rfl (by decide) (fun w' => x_pick (v := .bool (((((decide (a1.2.2.2.2.1 ≠ x49.1)) || (decide (a1.2.2.2.2.2.1 ≠ x49.2.1))) || (decide (a1.2.2.2.2.2.2 ≠ x49.2.2.1))) || (decide (x93 < 0))) || (decide (x49.2.2.1 ≤ x93)))) (u' := undef) h.k rfl rfl (fun _ => by rw [hB23]; first | rfl | simp [ev, List.lookup]) (fun hh => absurd (hB23.symm.trans hh) (by decide))) (fun a h => ?_)
              refine d_takeP h (fun _ => HS) HN 29 rfl (by kernel_rfl) (by kernel_rfl) (by kernel_rfl) (by decide) rfl rfl (by decide) (fun w' => x_move h.k _ rfl rfl) (fun a h => ?_)
              have hB29 : (((((decide (a1.2.2.2.2.1 ≠ x49.1)) || (decide (a1.2.2.2.2.2.1 ≠ x49.2.1))) || (decide (a1.2.2.2.2.2.2 ≠ x49.2.2.1))) || (decide (x93 < 0))) || (decide (x49.2.2.1 ≤ x93))) = true := (by rw [hB23]; first | rfl | simp)
              rw [if_pos hB29] at hz109
              refine d_takeNP h (fun _ => HS) HN 30 rfl (by kernel_rfl) (by kernel_rfl) (by kernel_rfl) (by decide) (by rw [g_want h rfl rfl rfl rfl hB29]; rfl) rfl (by decide) (fun a h => ?_)
              refine d_takeNP h (fun _ => HS) HN 31 rfl (by kernel_rfl) (by kernel_rfl) (by kernel_rfl) (by decide) (by rw [g_want h rfl rfl rfl rfl hB29]; rfl) rfl (by decide) (fun a h => ?_)
              refine d_takeNP h (fun _ => HS) HN 32 rfl (by kernel_rfl) (by kernel_rfl) (by kernel_rfl) (by decide) (by rw [g_want h rfl rfl rfl rfl hB29]; rfl) rfl (by decide) (fun a h => ?_)
              refine d_takeNP h (fun _ => HS) HN 33 rfl (by kernel_rfl) (by kernel_rfl) (by kernel_rfl) (by decide) (by rw [g_want h rfl rfl rfl rfl hB29]; rfl) rfl (by decide) (fun a h => ?_)
              refine d_takeNP h (fun _ => HS) HN 34 rfl (by kernel_rfl) (by kernel_rfl) (by kernel_rfl) (by decide) (by rw [g_want h rfl rfl rfl rfl hB29]; rfl) rfl (by decide) (fun a h => ?_)
              refine d_takeNP h (fun _ => HS) HN 35 rfl (by kernel_rfl) (by kernel_rfl) (by kernel_rfl) (by decide) (by rw [g_want h rfl rfl rfl rfl hB29]; rfl) rfl (by decide) (fun a h => ?_)
              refine d_takeNP h (fun _ => HS) HN 36 rfl (by kernel_rfl) (by kernel_rfl) (by kernel_rfl) (by decide) (by rw [g_want h rfl rfl rfl rfl hB29]; rfl) rfl (by decide) (fun a h => ?_)
              refine d_takeNP h (fun _ => HS) HN 37 rfl (by kernel_rfl) (by kernel_rfl) (by kernel_rfl) (by decide) (by rw [g_want h rfl rfl rfl rfl hB29]; rfl) rfl (by decide) (fun a h => ?_)
              refine d_takeP h (fun _ => HS) HN 38 rfl (by kernel_rfl) (by kernel_rfl) (by kernel_rfl) (by decide) rfl rfl (by decide) (fun w' => x_pick (v := .bool z108) (u' := undef) h.k rfl rfl (fun _ => by rw [← Option.some.inj hz109]; rfl) (fun hh => absurd (hB29.symm.trans hh) (by decide))) (fun a h => ?_)
              refine d_takeP h (fun _ => HS) HN 39 rfl (by kernel_rfl) (by kernel_rfl) (by kernel_rfl) (by decide) rfl rfl (by decide) (fun w' => x_move h.k _ rfl rfl) (fun a h => ?_)
              have hB39 : z108 = true := (Option.some.inj hz109).symm
              rw [if_pos hB39] at hz117
              refine d_takeNP h (fun _ => HS) HN 40 rfl (by kernel_rfl) (by kernel_rfl) (by kernel_rfl) (by decide) (by rw [g_want h rfl rfl rfl rfl hB39]; rfl) rfl (by decide) (fun a h => ?_)
              refine d_takeNP h (fun _ => HS) HN 41 rfl (by kernel_rfl) (by kernel_rfl) (by kernel_rfl) (by decide) (by rw [g_want h rfl rfl rfl rfl hB39]; rfl) rfl (by decide) (fun a h => ?_)
              refine d_takeNP h (fun _ => HS) HN 42 rfl (by kernel_rfl) (by kernel_rfl) (by kernel_rfl) (by decide) (by rw [g_want h rfl rfl rfl rfl hB39]; rfl) rfl (by decide) (fun a h => ?_)
              refine d_takeNP h (fun _ => HS) HN 43 rfl (by kernel_rfl) (by kernel_rfl) (by kernel_rfl) (by decide) (by rw [g_want h rfl rfl rfl rfl hB39]; rfl) rfl (by decide) (fun a h => ?_)
              refine d_takeNP h (fun _ => HS) HN 44 rfl (by kernel_rfl) (by kernel_rfl) (by kernel_rfl) (by decide) (by rw [g_want h rfl rfl rfl rfl hB39]; rfl) rfl (by decide) (fun a h => ?_)
              refine d_takeNP h (fun _ => HS) HN 45 rfl (by kernel_rfl) (by kernel_rfl) (by kernel_rfl) (by decide) (by rw [g_want h rfl rfl rfl rfl hB39]; rfl) rfl (by decide) (fun a h => ?_)
              refine d_takeNP h (fun _ => HS) HN 46 rfl (by kernel_rfl) (by kernel_rfl) (by kernel_rfl) (by decide) (by rw [g_want h rfl rfl rfl rfl hB39]; rfl) rfl (by decide) (fun a h => ?_)
              refine d_takeNP h (fun _ => HS) HN 47 rfl (by kernel_rfl) (by kernel_rfl) (by kernel_rfl) (by decide) (by rw [g_want h rfl rfl rfl rfl hB39]; rfl) rfl (by decide) (fun a h => ?_)
              refine d_takeP h (fun _ => HS) HN 48 rfl (by kernel_rfl) (by kernel_rfl) (by kernel_rfl) (by decide) rfl rfl (by decide) (fun w' => x_pick (v := .bool z116) (u' := undef) h.k rfl rfl (fun _ => by rw [← Option.some.inj hz117]; rfl) (fun hh => absurd (hB39.symm.trans hh) (by decide))) (fun a h => ?_)
              refine d_done (by kernel_rfl) (HE _ _ ?_) _
              refine e_thenN ?_
              have h := h.pick [2, 1, 0, 3] (by decide) rfl
              exact h.has (by exact ⟨rfl, rfl, rfl, rfl, rfl, rfl, trivial⟩)
            · refine d_takeP h (fun _ => HS) HN 20 rfl (by kernel_rfl) (by kernel_rfl) (by kernel_rfl) (by decide) (by rw [g_want h rfl rfl rfl rfl hB19]; rfl) rfl (by decide) (fun w' => x_move h.k _ rfl rfl) (fun a h => ?_)
              refine d_takeP h (fun _ => HS) HN 21 rfl (by kernel_rfl) (by kernel_rfl) (by kernel_rfl) (by decide) (by rw [g_want h rfl rfl rfl rfl hB19]; rfl) rfl (by decide) (fun w' => x_bin h.k rfl rfl rfl ib_lss) (fun a h => ?_)
              refine d_takeP h (fun _ => HS) HN 22 rfl (by kernel_rfl) (by kernel_rfl) (by kernel_rfl) (by decide) rfl rfl (by decide) (fun w' => x_pick (v := .bool ((((decide (a1.2.2.2.2.1 ≠ x49.1)) || (decide (a1.2.2.2.2.2.1 ≠ x49.2.1))) || (decide (a1.2.2.2.2.2.2 ≠ x49.2.2.1))) || (decide (x93 < 0)))) (u' := undef) h.k rfl rfl (fun hh => absurd (hB19.symm.trans hh) (by decide)) (fun _ => by rw [hB19]; first | rfl | simp [ev, List.lookup])) (fun a h => ?_)
              refine d_takeP h (fun _ => HS) HN 23 rfl (by kernel_rfl) (by kernel_rfl) (by kernel_rfl) (by decide) rfl rfl (by decide) (fun w' => x_move h.k _ rfl rfl) (fun a h => ?_)
              refine d_split (t := 82) h rfl (fun hB23 => ?_) (fun hB23 => ?_)
              · refine d_takeNP h (fun _ => HS) HN 24 rfl (by kernel_rfl) (by kernel_rfl) (by kernel_rfl) (by decide) (by rw [g_want h rfl rfl rfl rfl hB23]; rfl) rfl (by decide) (fun a h => ?_)
                refine d_takeNP h (fun _ => HS) HN 25 rfl (by kernel_rfl) (by kernel_rfl) (by kernel_rfl) (by decide) (by rw [g_want h rfl rfl rfl rfl hB23]; rfl) rfl (by decide) (fun a h => ?_)
                refine d_takeNP h (fun _ => HS) HN 26 rfl (by kernel_rfl) (by kernel_rfl) (by kernel_rfl) (by decide) (by rw [g_want h rfl rfl rfl rfl hB23]; rfl) rfl (by decide) (fun a h => ?_)
                refine d_takeNP h (fun _ => HS) HN 27 rfl (by kernel_rfl) (by kernel_rfl) (by kernel_rfl) (by decide) (by rw [g_want h rfl rfl rfl rfl hB23]; rfl) rfl (by decide) (fun a h => ?_)
                refine d_takeP h (fun _ => HS) HN 28 rfl (by kernel_rfl) (by kernel_rfl) (by kernel_rfl) (by decide) rfl rfl (by decide) (fun w' => x_pick (v := .bool (((((decide (a1.2.2.2.2.1 ≠ x49.1)) || (decide (a1.2.2.2.2.2.1 ≠ x49.2.1))) || (decide (a1.2.2.2.2.2.2 ≠ x49.2.2.1))) || (decide (x93 < 0))) || (decide (x49.2.2.1 ≤ x93)))) (u' := undef) h.k rfl rfl (fun _ => by rw [hB23]; first | rfl | simp [ev, List.lookup]) (fun hh => absurd (hB23.symm.trans hh) (by decide))) (fun a h => ?_)
                refine d_takeP h (fun _ => HS) HN 29 rfl (by kernel_rfl) (by kernel_rfl) (by kernel_rfl) (by decide) rfl rfl (by decide) (fun w' => x_move h.k _ rfl rfl) (fun a h => ?_)
                have hB29 : (((((decide (a1.2.2.2.2.1 ≠ x49.1)) || (decide (a1.2.2.2.2.2.1 ≠ x49.2.1))) || (decide (a1.2.2.2.2.2.2 ≠ x49.2.2.1))) || (decide (x93 < 0))) || (decide (x49.2.2.1 ≤ x93))) = true := (by rw [hB23]; first | rfl | simp)
                rw [if_pos hB29] at hz109
                refine d_takeNP h (fun _ => HS) HN 30 rfl (by kernel_rfl) (by kernel_rfl) (by kernel_rfl) (by decide) (by rw [g_want h rfl rfl rfl rfl hB29]; rfl) rfl (by decide) (fun a h => ?_)
                refine d_takeNP h (fun _ => HS) HN 31 rfl (by kernel_rfl) (by kernel_rfl) (by kernel_rfl) (by decide) (by rw [g_want h rfl rfl rfl rfl hB29]; rfl) rfl (by decide) (fun a h => ?_)
                refine d_takeNP h (fun _ => HS) HN 32 rfl (by kernel_rfl) (by kernel_rfl) (by kernel_rfl) (by decide) (by rw [g_want h rfl rfl rfl rfl hB29]; rfl) rfl (by decide) (fun a h => ?_)
                refine d_takeNP h (fun _ => HS) HN 33 rfl (by kernel_rfl) (by kernel_rfl) (by kernel_rfl) (by decide) (by rw [g_want h rfl rfl rfl rfl hB29]; rfl) rfl (by decide) (fun a h => ?_)
                refine d_takeNP h (fun _ => HS) HN 34 rfl (by kernel_rfl) (by kernel_rfl) (by kernel_rfl) (by decide) (by rw [g_want h rfl rfl rfl rfl hB29]; rfl) rfl (by decide) (fun a h => ?_)
                refine d_takeNP h (fun _ => HS) HN 35 rfl (by kernel_rfl) (by kernel_rfl) (by kernel_rfl) (by decide) (by rw [g_want h rfl rfl rfl rfl hB29]; rfl) rfl (by decide) (fun a h => ?_)
                refine d_takeNP h (fun _ => HS) HN 36 rfl (by kernel_rfl) (by kernel_rfl) (by kernel_rfl) (by decide) (by rw [g_want h rfl rfl rfl rfl hB29]; rfl) rfl (by decide) (fun a h => ?_)
                refine d_takeNP h (fun _ => HS) HN 37 rfl (by kernel_rfl) (by kernel_rfl) (by kernel_rfl) (by decide) (by rw [g_want h rfl rfl rfl rfl hB29]; rfl) rfl (by decide) (fun a h => ?_)
                refine d_takeP h (fun _ => HS) HN 38 rfl (by kernel_rfl) (by kernel_rfl) (by kernel_rfl) (by decide) rfl rfl (by decide) (fun w' => x_pick (v := .bool z108) (u' := undef) h.k rfl rfl (fun _ => by rw [← Option.some.inj hz109]; rfl) (fun hh => absurd (hB29.symm.trans hh) (by decide))) (fun a h => ?_)
                refine d_takeP h (fun _ => HS) HN 39 rfl (by kernel_rfl) (by kernel_rfl) (by kernel_rfl) (by decide) rfl rfl (by decide) (fun w' => x_move h.k _ rfl rfl) (fun a h => ?_)
                have hB39 : z108 = true := (Option.some.inj hz109).symm
                rw [if_pos hB39] at hz117
                refine d_takeNP h (fun _ => HS) HN 40 rfl (by kernel_rfl) (by kernel_rfl) (by kernel_rfl) (by decide) (by rw [g_want h rfl rfl rfl rfl hB39]; rfl) rfl (by decide) (fun a h => ?_)
                refine d_takeNP h (fun _ => HS) HN 41 rfl (by kernel_rfl) (by kernel_rfl) (by kernel_rfl) (by decide) (by rw [g_want h rfl rfl rfl rfl hB39]; rfl) rfl (by decide) (fun a h => ?_)
                refine d_takeNP h (fun _ => HS) HN 42 rfl (by kernel_rfl) (by kernel_rfl) (by kernel_rfl) (by decide) (by rw [g_want h rfl rfl rfl rfl hB39]; rfl) rfl (by decide) (fun a h => ?_)
                refine d_takeNP h (fun _ => HS) HN 43 rfl (by kernel_rfl) (by kernel_rfl) (by kernel_rfl) (by decide) (by rw [g_want h rfl rfl rfl rfl hB39]; rfl) rfl (by decide) (fun a h => ?_)
                refine d_takeNP h (fun _ => HS) HN 44 rfl (by kernel_rfl) (by kernel_rfl) (by kernel_rfl) (by decide) (by rw [g_want h rfl rfl rfl rfl hB39]; rfl) rfl (by decide) (fun a h => ?_)
                refine d_takeNP h (fun _ => HS) HN 45 rfl (by kernel_rfl) (by kernel_rfl) (by kernel_rfl) (by decide) (by rw [g_want h rfl rfl rfl rfl hB39]; rfl) rfl (by decide) (fun a h => ?_)
                refine d_takeNP h (fun _ => HS) HN 46 rfl (by kernel_rfl) (by kernel_rfl) (by kernel_rfl) (by decide) (by rw [g_want h rfl rfl rfl rfl hB39]; rfl) rfl (by decide) (fun a h => ?_)
                refine d_takeNP h (fun _ => HS) HN 47 rfl (by kernel_rfl) (by kernel_rfl) (by kernel_rfl) (by decide) (by rw [g_want h rfl rfl rfl rfl hB39]; rfl) rfl (by decide) (fun a h => ?_)
                refine d_takeP h (fun _ => HS) HN 48 rfl (by kernel_rfl) (by kernel_rfl) (by kernel_rfl) (by decide) rfl rfl (by decide) (fun w' => x_pick (v := .bool z116) (u' := undef) h.k rfl rfl (fun _ => by rw [← Option.some.inj hz117]; rfl) (fun hh => absurd (hB39.symm.trans hh) (by decide))) (fun a h => ?_)
                refine d_done (by kernel_rfl) (HE _ _ ?_) _
                refine e_thenN ?_
                have h := h.pick [2, 1, 0, 3] (by decide) rfl
                exact h.has (by exact ⟨rfl, rfl, rfl, rfl, rfl, rfl, trivial⟩)
              · refine d_takeP h (fun _ => HS) HN 24 rfl (by kernel_rfl) (by kernel_rfl) (by kernel_rfl) (by decide) (by rw [g_want h rfl rfl rfl rfl hB23]; rfl) rfl (by decide) (fun w' => x_move h.k _ rfl rfl) (fun a h => ?_)
                refine d_takeP h (fun _ => HS) HN 25 rfl (by kernel_rfl) (by kernel_rfl) (by kernel_rfl) (by decide) (by rw [g_want h rfl rfl rfl rfl hB23]; rfl) rfl (by decide) (fun w' => x_faddr h.k rfl Try.underlying66 rfl sz_int rfl) (fun a h => ?_)
                refine d_takeY h HS HN 26 rfl (by kernel_rfl) (by kernel_rfl) (by kernel_rfl) (by kernel_rfl) (by kernel_rfl) (by rw [g_want h rfl rfl rfl rfl hB23]; rfl) rfl (by decide) (fun w' hw => x_ld h.k rfl Try.underlying3 rfl rfl ((hw.cell (i := 0) rfl 2).trans rfl)) (fun a h => ?_)
                refine d_takeP h (fun _ => HS) HN 27 rfl (by kernel_rfl) (by kernel_rfl) (by kernel_rfl) (by decide) (by rw [g_want h rfl rfl rfl rfl hB23]; rfl) rfl (by decide) (fun w' => x_bin h.k rfl rfl rfl ib_geq) (fun a h => ?_)
                refine d_takeP h (fun _ => HS) HN 28 rfl (by kernel_rfl) (by kernel_rfl) (by kernel_rfl) (by decide) rfl rfl (by decide) (fun w' => x_pick (v := .bool (((((decide (a1.2.2.2.2.1 ≠ x49.1)) || (decide (a1.2.2.2.2.2.1 ≠ x49.2.1))) || (decide (a1.2.2.2.2.2.2 ≠ x49.2.2.1))) || (decide (x93 < 0))) || (decide (x49.2.2.1 ≤ x93)))) (u' := undef) h.k rfl rfl (fun hh => absurd (hB23.symm.trans hh) (by decide)) (fun _ => by rw [hB23]; first | rfl | simp [ev, List.lookup])) (fun a h => ?_)
                refine d_takeP h (fun _ => HS) HN 29 rfl (by kernel_rfl) (by kernel_rfl) (by kernel_rfl) (by decide) rfl rfl (by decide) (fun w' => x_move h.k _ rfl rfl) (fun a h => ?_)
                refine d_split (t := 88) h rfl (fun hB29 => ?_) (fun hB29 => ?_)
                · rw [if_pos hB29] at hz109
                  refine d_takeNP h (fun _ => HS) HN 30 rfl (by kernel_rfl) (by kernel_rfl) (by kernel_rfl) (by decide) (by rw [g_want h rfl rfl rfl rfl hB29]; rfl) rfl (by decide) (fun a h => ?_)
                  refine d_takeNP h (fun _ => HS) HN 31 rfl (by kernel_rfl) (by kernel_rfl) (by kernel_rfl) (by decide) (by rw [g_want h rfl rfl rfl rfl hB29]; rfl) rfl (by decide) (fun a h => ?_)
                  refine d_takeNP h (fun _ => HS) HN 32 rfl (by kernel_rfl) (by kernel_rfl) (by kernel_rfl) (by decide) (by rw [g_want h rfl rfl rfl rfl hB29]; rfl) rfl (by decide) (fun a h => ?_)
                  refine d_takeNP h (fun _ => HS) HN 33 rfl (by kernel_rfl) (by kernel_rfl) (by kernel_rfl) (by decide) (by rw [g_want h rfl rfl rfl rfl hB29]; rfl) rfl (by decide) (fun a h => ?_)
                  refine d_takeNP h (fun _ => HS) HN 34 rfl (by kernel_rfl) (by kernel_rfl) (by kernel_rfl) (by decide) (by rw [g_want h rfl rfl rfl rfl hB29]; rfl) rfl (by decide) (fun a h => ?_)
                  refine d_takeNP h (fun _ => HS) HN 35 rfl (by kernel_rfl) (by kernel_rfl) (by kernel_rfl) (by decide) (by rw [g_want h rfl rfl rfl rfl hB29]; rfl) rfl (by decide) (fun a h => ?_)
                  refine d_takeNP h (fun _ => HS) HN 36 rfl (by kernel_rfl) (by kernel_rfl) (by kernel_rfl) (by decide) (by rw [g_want h rfl rfl rfl rfl hB29]; rfl) rfl (by decide) (fun a h => ?_)
                  refine d_takeNP h (fun _ => HS) HN 37 rfl (by kernel_rfl) (by kernel_rfl) (by kernel_rfl) (by decide) (by rw [g_want h rfl rfl rfl rfl hB29]; rfl) rfl (by decide) (fun a h => ?_)
                  refine d_takeP h (fun _ => HS) HN 38 rfl (by kernel_rfl) (by kernel_rfl) (by kernel_rfl) (by decide) rfl rfl (by decide) (fun w' => x_pick (v := .bool z108) (u' := undef) h.k rfl rfl (fun _ => by rw [← Option.some.inj hz109]; rfl) (fun hh => absurd (hB29.symm.trans hh) (by decide))) (fun a h => ?_)
                  refine d_takeP h (fun _ => HS) HN 39 rfl (by kernel_rfl) (by kernel_rfl) (by kernel_rfl) (by decide) rfl rfl (by decide) (fun w' => x_move h.k _ rfl rfl) (fun a h => ?_)
                  have hB39 : z108 = true := (Option.some.inj hz109).symm
                  rw [if_pos hB39] at hz117
                  refine d_takeNP h (fun _ => HS) HN 40 rfl (by kernel_rfl) (by kernel_rfl) (by kernel_rfl) (by decide) (by rw [g_want h rfl rfl rfl rfl hB39]; rfl) rfl (by decide) (fun a h => ?_)
                  refine d_takeNP h (fun _ => HS) HN 41 rfl (by kernel_rfl) (by kernel_rfl) (by kernel_rfl) (by decide) (by rw [g_want h rfl rfl rfl rfl hB39]; rfl) rfl (by decide) (fun a h => ?_)
                  refine d_takeNP h (fun _ => HS) HN 42 rfl (by kernel_rfl) (by kernel_rfl) (by kernel_rfl) (by decide) (by rw [g_want h rfl rfl rfl rfl hB39]; rfl) rfl (by decide) (fun a h => ?_)
                  refine d_takeNP h (fun _ => HS) HN 43 rfl (by kernel_rfl) (by kernel_rfl) (by kernel_rfl) (by decide) (by rw [g_want h rfl rfl rfl rfl hB39]; rfl) rfl (by decide) (fun a h => ?_)
                  refine d_takeNP h (fun _ => HS) HN 44 rfl (by kernel_rfl) (by kernel_rfl) (by kernel_rfl) (by decide) (by rw [g_want h rfl rfl rfl rfl hB39]; rfl) rfl (by decide) (fun a h => ?_)
                  refine d_takeNP h (fun _ => HS) HN 45 rfl (by kernel_rfl) (by kernel_rfl) (by kernel_rfl) (by decide) (by rw [g_want h rfl rfl rfl rfl hB39]; rfl) rfl (by decide) (fun a h => ?_)
                  refine d_takeNP h (fun _ => HS) HN 46 rfl (by kernel_rfl) (by kernel_rfl) (by kernel_rfl) (by decide) (by rw [g_want h rfl rfl rfl rfl hB39]; rfl) rfl (by decide) (fun a h => ?_)
                  refine d_takeNP h (fun _ => HS) HN 47 rfl (by kernel_rfl) (by kernel_rfl) (by kernel_rfl) (by decide) (by rw [g_want h rfl rfl rfl rfl hB39]; rfl) rfl (by decide) (fun a h => ?_)
                  refine d_takeP h (fun _ => HS) HN 48 rfl (by kernel_rfl) (by kernel_rfl) (by kernel_rfl) (by decide) rfl rfl (by decide) (fun w' => x_pick (v := .bool z116) (u' := undef) h.k rfl rfl (fun _ => by rw [← Option.some.inj hz117]; rfl) (fun hh => absurd (hB39.symm.trans hh) (by decide))) (fun a h => ?_)
                  refine d_done (by kernel_rfl) (HE _ _ ?_) _
                  refine e_thenN ?_
                  have h := h.pick [2, 1, 0, 3] (by decide) rfl
                  exact h.has (by exact ⟨rfl, rfl, rfl, rfl, rfl, rfl, trivial⟩)
                · rw [if_neg (by rw [hB29]; decide)] at hz109
                  obtain ⟨m110, h111, hz109⟩ := bsome hz109
                  obtain ⟨x112, h113, hz109⟩ := bsome hz109
                  refine d_takeP h (fun _ => HS) HN 30 rfl (by kernel_rfl) (by kernel_rfl) (by kernel_rfl) (by decide) (by rw [g_want h rfl rfl rfl rfl hB29]; rfl) rfl (by decide) (fun w' => x_faddr h.k rfl Try.underlying75 rfl sz_SA32_uint8 rfl) (fun a h => ?_)
                  refine d_takeY h HS HN 31 rfl (by kernel_rfl) (by kernel_rfl) (by kernel_rfl) (by kernel_rfl) (by kernel_rfl) (by rw [g_want h rfl rfl rfl rfl hB29]; rfl) rfl (by decide) (fun w' hw => x_ld h.k rfl Try.underlying39 rfl rfl ((hw.cell (i := 2) rfl 32).trans (cell_oneE (X := k1) (Z := ([.slice A12 a1.2.2.1.length c13] : List Value) ++ (([.int .i64 a1.2.2.2.1] : List Value) ++ (([.int .i64 a1.2.2.2.2.1] : List Value) ++ (([.int .i64 a1.2.2.2.2.2.1] : List Value) ++ ([.int .i64 a1.2.2.2.2.2.2]))))) (off := 32) (u := .slice A7 a1.2.1.length c8) (by simp only [List.append_assoc, List.cons_append, List.nil_append, List.append_nil]) (show (k1 : List Value).length = 32 from by simp only [List.length_append, List.length_cons, List.length_nil, (show (k1 : List Value).length = 32 from ((hs3).len.trans (by rw [hl4]; rfl)))])))) (fun a h => ?_)
                  refine d_takeP h (fun _ => HS) HN 32 rfl (by kernel_rfl) (by kernel_rfl) (by kernel_rfl) (by decide) (by rw [g_want h rfl rfl rfl rfl hB29]; rfl) rfl (by decide) (fun w' => x_len h.k rfl Try.underlying39 rfl) (fun a h => ?_)
                  refine d_takeP h (fun _ => HS) HN 33 rfl (by kernel_rfl) (by kernel_rfl) (by kernel_rfl) (by decide) (by rw [g_want h rfl rfl rfl rfl hB29]; rfl) rfl (by decide) (fun w' => x_bin h.k rfl rfl (by rw [← shN_some h111]; rfl) (ib_shl_i64 _ m110)) (fun a h => ?_)
                  refine d_takeP h (fun _ => HS) HN 34 rfl (by kernel_rfl) (by kernel_rfl) (by kernel_rfl) (by decide) (by rw [g_want h rfl rfl rfl rfl hB29]; rfl) rfl (by decide) (fun w' => x_faddr h.k rfl Try.underlying66 rfl sz_int rfl) (fun a h => ?_)
                  refine d_takeY h HS HN 35 rfl (by kernel_rfl) (by kernel_rfl) (by kernel_rfl) (by kernel_rfl) (by kernel_rfl) (by rw [g_want h rfl rfl rfl rfl hB29]; rfl) rfl (by decide) (fun w' hw => x_ld h.k rfl Try.underlying3 rfl rfl ((hw.cell (i := 0) rfl 2).trans rfl)) (fun a h => ?_)
                  refine d_alone 36 rfl (by kernel_rfl) (fun K hK => ?_)
                  refine g_yes (j := 29) (t := 88) h rfl rfl rfl rfl hB29 ?_
                  have hX := chatelaineref23_Wide_ok Fu (S0 := snapAll _) x49.2.2.1 hr69 _ h113 _ h.startAll
                  refine q_callX hX h rfl rfl rfl (by decide) Try.func25 rfl rfl rfl (fun a w v L1 S1 hR hb1 h => ?_)
                  obtain ⟨rfl, rfl, hr115, _⟩ := hR
                  refine hK _ _ (fun _ _ => HS.ext hb1) ?_
                  replace HS := HS.ext hb1
                  clear hK
                  refine d_takeP h (fun _ => HS) HN 37 rfl (by kernel_rfl) (by kernel_rfl) (by kernel_rfl) (by decide) (by rw [g_want h rfl rfl rfl rfl hB29]; rfl) rfl (by decide) (fun w' => x_bin h.k rfl rfl rfl ib_neq) (fun a h => ?_)
                  refine d_takeP h (fun _ => HS) HN 38 rfl (by kernel_rfl) (by kernel_rfl) (by kernel_rfl) (by decide) rfl rfl (by decide) (fun w' => x_pick (v := .bool z108) (u' := undef) h.k rfl rfl (fun hh => absurd (hB29.symm.trans hh) (by decide)) (fun _ => by rw [← Option.some.inj hz109]; rfl)) (fun a h => ?_)
                  refine d_takeP h (fun _ => HS) HN 39 rfl (by kernel_rfl) (by kernel_rfl) (by kernel_rfl) (by decide) rfl rfl (by decide) (fun w' => x_move h.k _ rfl rfl) (fun a h => ?_)
                  refine d_split (t := 98) h rfl (fun hB39 => ?_) (fun hB39 => ?_)
                  · rw [if_pos hB39] at hz117
                    refine d_takeNP h (fun _ => HS) HN 40 rfl (by kernel_rfl) (by kernel_rfl) (by kernel_rfl) (by decide) (by rw [g_want h rfl rfl rfl rfl hB39]; rfl) rfl (by decide) (fun a h => ?_)
                    refine d_takeNP h (fun _ => HS) HN 41 rfl (by kernel_rfl) (by kernel_rfl) (by kernel_rfl) (by decide) (by rw [g_want h rfl rfl rfl rfl hB39]; rfl) rfl (by decide) (fun a h => ?_)
                    refine d_takeNP h (fun _ => HS) HN 42 rfl (by kernel_rfl) (by kernel_rfl) (by kernel_rfl) (by decide) (by rw [g_want h rfl rfl rfl rfl hB39]; rfl) rfl (by decide) (fun a h => ?_)
                    refine d_takeNP h (fun _ => HS) HN 43 rfl (by kernel_rfl) (by kernel_rfl) (by kernel_rfl) (by decide) (by rw [g_want h rfl rfl rfl rfl hB39]; rfl) rfl (by decide) (fun a h => ?_)
                    refine d_takeNP h (fun _ => HS) HN 44 rfl (by kernel_rfl) (by kernel_rfl) (by kernel_rfl) (by decide) (by rw [g_want h rfl rfl rfl rfl hB39]; rfl) rfl (by decide) (fun a h => ?_)
                    refine d_takeNP h (fun _ => HS) HN 45 rfl (by kernel_rfl) (by kernel_rfl) (by kernel_rfl) (by decide) (by rw [g_want h rfl rfl rfl rfl hB39]; rfl) rfl (by decide) (fun a h => ?_)
                    refine d_takeNP h (fun _ => HS) HN 46 rfl (by kernel_rfl) (by kernel_rfl) (by kernel_rfl) (by decide) (by rw [g_want h rfl rfl rfl rfl hB39]; rfl) rfl (by decide) (fun a h => ?_)
                    refine d_takeNP h (fun _ => HS) HN 47 rfl (by kernel_rfl) (by kernel_rfl) (by kernel_rfl) (by decide) (by rw [g_want h rfl rfl rfl rfl hB39]; rfl) rfl (by decide) (fun a h => ?_)
                    refine d_takeP h (fun _ => HS) HN 48 rfl (by kernel_rfl) (by kernel_rfl) (by kernel_rfl) (by decide) rfl rfl (by decide) (fun w' => x_pick (v := .bool z116) (u' := undef) h.k rfl rfl (fun _ => by rw [← Option.some.inj hz117]; rfl) (fun hh => absurd (hB39.symm.trans hh) (by decide))) (fun a h => ?_)
                    refine d_done (by kernel_rfl) (HE _ _ ?_) _
                    refine e_thenN ?_
                    have h := h.pick [2, 1, 0, 3] (by decide) rfl
                    exact h.has (by exact ⟨rfl, rfl, rfl, rfl, rfl, rfl, trivial⟩)
                  · rw [if_neg (by rw [hB39]; decide)] at hz117
                    obtain ⟨m118, h119, hz117⟩ := bsome hz117
                    obtain ⟨x120, h121, hz117⟩ := bsome hz117
                    refine d_takeP h (fun _ => HS) HN 40 rfl (by kernel_rfl) (by kernel_rfl) (by kernel_rfl) (by decide) (by rw [g_want h rfl rfl rfl rfl hB39]; rfl) rfl (by decide) (fun w' => x_faddr h.k rfl Try.underlying75 rfl sz_SA32_uint8 rfl) (fun a h => ?_)
                    refine d_takeY h HS HN 41 rfl (by kernel_rfl) (by kernel_rfl) (by kernel_rfl) (by kernel_rfl) (by kernel_rfl) (by rw [g_want h rfl rfl rfl rfl hB39]; rfl) rfl (by decide) (fun w' hw => x_ld h.k rfl Try.underlying39 rfl rfl ((hw.cell (i := 2) rfl 33).trans (cell_oneE (X := k1 ++ ([.slice A7 a1.2.1.length c8])) (Z := ([.int .i64 a1.2.2.2.1] : List Value) ++ (([.int .i64 a1.2.2.2.2.1] : List Value) ++ (([.int .i64 a1.2.2.2.2.2.1] : List Value) ++ ([.int .i64 a1.2.2.2.2.2.2])))) (off := 33) (u := .slice A12 a1.2.2.1.length c13) (by simp only [List.append_assoc, List.cons_append, List.nil_append, List.append_nil]) (show (k1 ++ ([.slice A7 a1.2.1.length c8]) : List Value).length = 33 from by simp only [List.length_append, List.length_cons, List.length_nil, (show (k1 : List Value).length = 32 from ((hs3).len.trans (by rw [hl4]; rfl)))])))) (fun a h => ?_)
                    refine d_takeP h (fun _ => HS) HN 42 rfl (by kernel_rfl) (by kernel_rfl) (by kernel_rfl) (by decide) (by rw [g_want h rfl rfl rfl rfl hB39]; rfl) rfl (by decide) (fun w' => x_len h.k rfl Try.underlying39 rfl) (fun a h => ?_)
                    refine d_takeP h (fun _ => HS) HN 43 rfl (by kernel_rfl) (by kernel_rfl) (by kernel_rfl) (by decide) (by rw [g_want h rfl rfl rfl rfl hB39]; rfl) rfl (by decide) (fun w' => x_bin h.k rfl rfl (by rw [← shN_some h119]; rfl) (ib_shl_i64 _ m118)) (fun a h => ?_)
                    refine d_takeP h (fun _ => HS) HN 44 rfl (by kernel_rfl) (by kernel_rfl) (by kernel_rfl) (by decide) (by rw [g_want h rfl rfl rfl rfl hB39]; rfl) rfl (by decide) (fun w' => x_move h.k _ rfl rfl) (fun a h => ?_)
                    refine d_takeP h (fun _ => HS) HN 45 rfl (by kernel_rfl) (by kernel_rfl) (by kernel_rfl) (by decide) (by rw [g_want h rfl rfl rfl rfl hB39]; rfl) rfl (by decide) (fun w' => x_len h.k rfl Try.underlying61 rfl) (fun a h => ?_)
                    refine d_alone 46 rfl (by kernel_rfl) (fun K hK => ?_)
                    refine g_yes (j := 39) (t := 98) h rfl rfl rfl rfl hB39 ?_
                    have hX := chatelaineref23_Wide_ok Fu (S0 := snapAll _) (a0.length : Int) (len_r (hsa0).len) _ h121 _ h.startAll
                    refine q_callX hX h rfl rfl rfl (by decide) Try.func25 rfl rfl rfl (fun a w v L1 S1 hR hb1 h => ?_)
                    obtain ⟨rfl, rfl, hr123, _⟩ := hR
                    refine hK _ _ (fun _ _ => HS.ext hb1) ?_
                    replace HS := HS.ext hb1
                    clear hK
                    refine d_takeP h (fun _ => HS) HN 47 rfl (by kernel_rfl) (by kernel_rfl) (by kernel_rfl) (by decide) (by rw [g_want h rfl rfl rfl rfl hB39]; rfl) rfl (by decide) (fun w' => x_bin h.k rfl rfl rfl ib_neq) (fun a h => ?_)
                    refine d_takeP h (fun _ => HS) HN 48 rfl (by kernel_rfl) (by kernel_rfl) (by kernel_rfl) (by decide) rfl rfl (by decide) (fun w' => x_pick (v := .bool z116) (u' := undef) h.k rfl rfl (fun hh => absurd (hB39.symm.trans hh) (by decide)) (fun _ => by rw [← Option.some.inj hz117]; rfl)) (fun a h => ?_)
                    refine d_done (by kernel_rfl) (HE _ _ ?_) _
                    refine e_thenN ?_
                    have h := h.pick [2, 1, 0, 3] (by decide) rfl
                    exact h.has (by exact ⟨rfl, rfl, rfl, rfl, rfl, rfl, trivial⟩)
      refine e_thenN ?_
      refine c_cond h rfl (fun hb => ?_) (fun hb => ?_)
      · rw [if_pos hb] at hf
        refine c_rs ?_ -- region 8
        refine s_assign h rfl _ rfl rfl (by decide) rfl (fun a h => ?_)
        refine l_end ?_
        refine wp_ret ?_
        refine e_thenR ?_
        rw [← Option.some.inj hf]
        exact r_ret1 h rfl (rv_tmp h rfl) ⟨_, [], _, rfl, ⟨rfl, rfl, trivial⟩, rfl, (Up.refl _ _ _), (h.m.pick [3] _ (by decide) rfl)⟩
      · rw [if_neg (by rw [hb]; decide)] at hf
        refine wp_skip ?_
        refine e_thenN ?_
        refine c_rs ?_ -- region 9
        obtain ⟨m124, h125, hf⟩ := bsome hf
        obtain ⟨hi126, hm127⟩ := ix_some h125
        refine s_x h rfl rfl (by decide) (x_iaddrA h.k rfl Try.underlying51 sz_int rfl rfl hi126 hm127 rfl) (fun a h => ?_)
        obtain ⟨x128, h129, hf⟩ := bsome hf
        obtain ⟨u130, hv131, hu132⟩ := (hs25).cell rfl h129
        obtain ⟨e134, hr133⟩ := hu132
        cases e134
        refine s_x h rfl rfl (by decide) (x_ld h.k rfl Try.underlying3 rfl rfl ((h.m.cell (i := 1) rfl _).trans (by rw [Nat.zero_add, Nat.mul_one]; exact hv131))) (fun a h => ?_)
        refine s_x h rfl rfl (by decide) (x_bin h.k rfl rfl rfl (ib_and rfl)) (fun a h => ?_)
        obtain ⟨n135, h136, hf⟩ := bsome hf
        refine q_make (T := ty8) (S := S0) h rfl rfl rfl (by decide) Try.underlying52 zb_uint8 rfl rfl (q := (0 : UInt8)) rfl rfl rfl h136 (fun a w A137 cs138 hq139 h => ?_)
        refine s_assign h rfl _ rfl rfl (by decide) rfl (fun a h => ?_)
        refine l_end ?_
        refine c_rs ?_ -- region 10
        refine s_x h rfl rfl (by decide) (x_faddr h.k rfl Try.underlying66 rfl sz_int rfl) (fun a h => ?_)
        refine s_x h rfl rfl (by decide) (x_ld h.k rfl Try.underlying3 rfl rfl ((h.m.cell (i := 3) rfl 0).trans rfl)) (fun a h => ?_)
        refine s_move h rfl _ rfl rfl (by decide) rfl (fun a h => ?_)
        refine s_move h rfl _ rfl rfl (by decide) rfl (fun a h => ?_)
        obtain ⟨x140, h141, hf⟩ := bsome hf
        have hX := chatelaineref23_Leaf_ok Fu (S0 := snapAll _) x49.1 hr63 x93 hr98 A137 n135 (List.replicate n135 ((0 : UInt8) : UInt8)) (h.m.rowAll (i := 0) rfl (j := 4) rfl hq139) _ h141 _ h.startAll
        refine q_callX hX h rfl rfl rfl (by decide) Try.func45 rfl rfl rfl (fun a w v L1 S1 hR hb1 h => ?_)
        obtain ⟨k143, rfl, rfl, hv144, _⟩ := hR
        obtain ⟨hs145, hl146⟩ := hv144
        have hq147 := hs145.fl (S' := S0) fl_8
        refine s_x h rfl rfl (by decide) (x_faddr h.k rfl Try.underlying75 rfl sz_A32_uint8 rfl) (fun a h => ?_)
        refine s_stP h rfl rfl rfl ag_A32_uint8 rfl (es := k143) rfl ((hq147).len.trans (by rw [hl146]; rfl)) (hq147).one 1 rfl ([]) (k1) (([.slice A7 a1.2.1.length c8] : List Value) ++ (([.slice A12 a1.2.2.1.length c13] : List Value) ++ (([.int .i64 a1.2.2.2.1] : List Value) ++ (([.int .i64 a1.2.2.2.2.1] : List Value) ++ (([.int .i64 a1.2.2.2.2.2.1] : List Value) ++ ([.int .i64 a1.2.2.2.2.2.2])))))) (by simp only [List.append_assoc, List.cons_append, List.nil_append, List.append_nil]) rfl ((hs3).len.trans (by rw [hl4]; rfl)) (fun a w h => ?_)
        have h := h.parts (L' := [.row (.slice A137 (List.replicate n135 ((0 : UInt8) : UInt8)).length n135) 5 1 (List.replicate n135 ((0 : UInt8) : UInt8)).length cs138, .box g27 75 (k143 ++ ([.slice A7 a1.2.1.length c8, .slice A12 a1.2.2.1.length c13, .int .i64 a1.2.2.2.1, .int .i64 a1.2.2.2.2.1, .int .i64 a1.2.2.2.2.2.1, .int .i64 a1.2.2.2.2.2.2])), .box g28 51 csa2, .box g88 66 ([.int .i64 x49.1, .int .i64 x49.2.1, .int .i64 x49.2.2.1, .slice A72 x49.2.2.2.1.length c73, .slice A77 x49.2.2.2.2.1.length c78, .slice A82 x49.2.2.2.2.2.1.length c83, .slice A85 x49.2.2.2.2.2.2.length c86]), .sn S0]) (by first | (simp only [List.set, List.append_assoc, List.cons_append, List.nil_append, List.append_nil]; done) | (simp only [List.set, List.append_assoc, List.cons_append, List.nil_append, List.append_nil]; rfl))
        refine l_end ?_
        refine wp_seq ?_
        refine wp_seq ?_
        -- region 11 draws
        obtain ⟨x148, h149, hf⟩ := bsome hf
        obtain ⟨x156, h157, hf⟩ := bsome hf
        obtain ⟨z159, hz160, hf⟩ := bsome hf
        refine c_fin (fun a w => St 201 w0 (ownL ([] ++ [.sn S0])) [(4, .pointer (some ⟨g27, 0, none⟩)), (7, .pointer (some ⟨g88, 0, none⟩)), (8, .int .i64 x93), (134, .bool z159)] [.box g27 75 (k143 ++ ([.slice A7 a1.2.1.length c8, .slice A12 a1.2.2.1.length c13, .int .i64 a1.2.2.2.1, .int .i64 a1.2.2.2.2.1, .int .i64 a1.2.2.2.2.2.1, .int .i64 a1.2.2.2.2.2.2])), .box g88 66 ([.int .i64 x49.1, .int .i64 x49.2.1, .int .i64 x49.2.2.1, .slice A72 x49.2.2.2.1.length c73, .slice A77 x49.2.2.2.2.1.length c78, .slice A82 x49.2.2.2.2.2.1.length c83, .slice A85 x49.2.2.2.2.2.2.length c86]), .sn S0] a w) ?_ (fun a w h => ?_)
        · refine d_start h (Mem _ _ _) 17 17 rfl (by kernel_rfl) (fun _ _ _ _ _ h => h) (fun _ h => h) (fun Q a w HE HN h HS => ?_)
          refine d_take h HS HN 0 rfl (by kernel_rfl) (by kernel_rfl) (by kernel_rfl) (by kernel_rfl) (by kernel_rfl) rfl rfl (by decide) (fun w' hw => x_ldR h.k rfl ag_api_Proof rfl (k143 ++ ([.slice A7 a1.2.1.length c8, .slice A12 a1.2.2.1.length c13, .int .i64 a1.2.2.2.1, .int .i64 a1.2.2.2.2.1, .int .i64 a1.2.2.2.2.2.1, .int .i64 a1.2.2.2.2.2.2])) (show (k143 ++ ([.slice A7 a1.2.1.length c8, .slice A12 a1.2.2.1.length c13, .int .i64 a1.2.2.2.1, .int .i64 a1.2.2.2.2.1, .int .i64 a1.2.2.2.2.2.1, .int .i64 a1.2.2.2.2.2.2]) : List Value).length = 38 from by simp only [List.length_append, List.length_cons, List.length_nil, (show (k143 : List Value).length = 32 from ((hq147).len.trans (by rw [hl146]; rfl)))]) (hw.range0 (i := 1) rfl)) (fun a h => ?_)
          refine d_takeP h (fun _ => HS) HN 1 rfl (by kernel_rfl) (by kernel_rfl) (by kernel_rfl) (by decide) rfl rfl (by decide) (fun w' => x_move h.k _ rfl rfl) (fun a h => ?_)
          refine d_takeP h (fun _ => HS) HN 3 rfl (by kernel_rfl) (by kernel_rfl) (by kernel_rfl) (by decide) rfl rfl (by decide) (fun w' => x_move h.k _ rfl rfl) (fun a h => ?_)
          refine d_takeP h (fun _ => HS) HN 4 rfl (by kernel_rfl) (by kernel_rfl) (by kernel_rfl) (by decide) rfl rfl (by decide) (fun w' => x_move h.k _ rfl rfl) (fun a h => ?_)
          refine d_alone 2 rfl (by kernel_rfl) (fun K hK => ?_)
          have hX := chatelaineref24_Root_ok Fu (S0 := snapAll _) Aa0 ca0 a0 (hsa0.mono (h.m.leAll (i := 4) rfl)) _ h149 _ h.startAll
          refine q_callX hX h rfl rfl rfl (by decide) Try.func43 rfl rfl rfl (fun a w v L1 S1 hR hb1 h => ?_)
          obtain ⟨k151, rfl, rfl, hv152, _⟩ := hR
          obtain ⟨hs153, hl154⟩ := hv152
          have hq155 := hs153.fl (S' := S0) fl_8
          refine hK _ _ (fun _ _ => HS.ext hb1) ?_
          replace HS := HS.ext hb1
          clear hK
          refine d_alone 5 rfl (by kernel_rfl) (fun K hK => ?_)
          have hX := forest_Holds_ok Fu (S0 := snapAll _) (k143 ++ ([.slice A7 a1.2.1.length c8, .slice A12 a1.2.2.1.length c13, .int .i64 a1.2.2.2.1, .int .i64 a1.2.2.2.2.1, .int .i64 a1.2.2.2.2.2.1, .int .i64 a1.2.2.2.2.2.2])) (x140, a1.2.1, a1.2.2.1, a1.2.2.2.1, a1.2.2.2.2.1, a1.2.2.2.2.2.1, a1.2.2.2.2.2.2) ((tyP (tyA 32 ty8) (tyP (tyL (tyA 32 ty8)) (tyP (tyL (tyA 32 ty8)) (tyP tyI (tyP tyI (tyP tyI tyI)))))).mono (h.m.leAll (i := 4) rfl) (show (tyP (tyA 32 ty8) (tyP (tyL (tyA 32 ty8)) (tyP (tyL (tyA 32 ty8)) (tyP tyI (tyP tyI (tyP tyI tyI)))))).rep S0 (k143 ++ ([.slice A7 a1.2.1.length c8, .slice A12 a1.2.2.1.length c13, .int .i64 a1.2.2.2.1, .int .i64 a1.2.2.2.2.1, .int .i64 a1.2.2.2.2.2.1, .int .i64 a1.2.2.2.2.2.2])) (x140, a1.2.1, a1.2.2.1, a1.2.2.2.1, a1.2.2.2.2.1, a1.2.2.2.2.2.1, a1.2.2.2.2.2.2) from ⟨k143, [.slice A7 a1.2.1.length c8, .slice A12 a1.2.2.1.length c13, .int .i64 a1.2.2.2.1, .int .i64 a1.2.2.2.2.1, .int .i64 a1.2.2.2.2.2.1, .int .i64 a1.2.2.2.2.2.2], rfl, ⟨hq147, hl146⟩, ⟨[.slice A7 a1.2.1.length c8], [.slice A12 a1.2.2.1.length c13, .int .i64 a1.2.2.2.1, .int .i64 a1.2.2.2.2.1, .int .i64 a1.2.2.2.2.2.1, .int .i64 a1.2.2.2.2.2.2], rfl, ⟨_, _, rfl, hs9⟩, ⟨[.slice A12 a1.2.2.1.length c13], [.int .i64 a1.2.2.2.1, .int .i64 a1.2.2.2.2.1, .int .i64 a1.2.2.2.2.2.1, .int .i64 a1.2.2.2.2.2.2], rfl, ⟨_, _, rfl, hs14⟩, ⟨[.int .i64 a1.2.2.2.1], [.int .i64 a1.2.2.2.2.1, .int .i64 a1.2.2.2.2.2.1, .int .i64 a1.2.2.2.2.2.2], rfl, ⟨rfl, hr17⟩, ⟨[.int .i64 a1.2.2.2.2.1], [.int .i64 a1.2.2.2.2.2.1, .int .i64 a1.2.2.2.2.2.2], rfl, ⟨rfl, hr20⟩, ⟨[.int .i64 a1.2.2.2.2.2.1], [.int .i64 a1.2.2.2.2.2.2], rfl, ⟨rfl, hr23⟩, ⟨rfl, hr24⟩⟩⟩⟩⟩⟩⟩)) k151 x148 ((tyA 32 ty8).mono (h.m.leAll (i := 4) rfl) (show (tyA 32 ty8).rep S0 k151 x148 from ⟨hq155, hl154⟩)) x93 hr98 A137 n135 (List.replicate n135 ((0 : UInt8) : UInt8)) (h.m.rowAll (i := 0) rfl (j := 4) rfl hq139) _ h157 _ h.startAll
          refine q_callX hX h rfl rfl rfl (by decide) Try.func46 rfl rfl rfl (fun a w v L1 S1 hR hb1 h => ?_)
          obtain ⟨rfl, rfl, _⟩ := hR
          refine hK _ _ (fun _ _ => HS.ext hb1) ?_
          replace HS := HS.ext hb1
          clear hK
          refine d_takeP h (fun _ => HS) HN 6 rfl (by kernel_rfl) (by kernel_rfl) (by kernel_rfl) (by decide) rfl rfl (by decide) (fun w' => x_not h.k rfl rfl) (fun a h => ?_)
          refine d_takeP h (fun _ => HS) HN 7 rfl (by kernel_rfl) (by kernel_rfl) (by kernel_rfl) (by decide) rfl rfl (by decide) (fun w' => x_move h.k _ rfl rfl) (fun a h => ?_)
          refine d_split (t := 125) h rfl (fun hB7 => ?_) (fun hB7 => ?_)
          · rw [if_pos hB7] at hz160
            refine d_takeNP h (fun _ => HS) HN 8 rfl (by kernel_rfl) (by kernel_rfl) (by kernel_rfl) (by decide) (by rw [g_want h rfl rfl rfl rfl hB7]; rfl) rfl (by decide) (fun a h => ?_)
            refine d_takeNP h (fun _ => HS) HN 9 rfl (by kernel_rfl) (by kernel_rfl) (by kernel_rfl) (by decide) (by rw [g_want h rfl rfl rfl rfl hB7]; rfl) rfl (by decide) (fun a h => ?_)
            refine d_takeNP h (fun _ => HS) HN 10 rfl (by kernel_rfl) (by kernel_rfl) (by kernel_rfl) (by decide) (by rw [g_want h rfl rfl rfl rfl hB7]; rfl) rfl (by decide) (fun a h => ?_)
            refine d_takeNP h (fun _ => HS) HN 11 rfl (by kernel_rfl) (by kernel_rfl) (by kernel_rfl) (by decide) (by rw [g_want h rfl rfl rfl rfl hB7]; rfl) rfl (by decide) (fun a h => ?_)
            refine d_takeNP h (fun _ => HS) HN 12 rfl (by kernel_rfl) (by kernel_rfl) (by kernel_rfl) (by decide) (by rw [g_want h rfl rfl rfl rfl hB7]; rfl) rfl (by decide) (fun a h => ?_)
            refine d_takeNP h (fun _ => HS) HN 13 rfl (by kernel_rfl) (by kernel_rfl) (by kernel_rfl) (by decide) (by rw [g_want h rfl rfl rfl rfl hB7]; rfl) rfl (by decide) (fun a h => ?_)
            refine d_takeNP h (fun _ => HS) HN 14 rfl (by kernel_rfl) (by kernel_rfl) (by kernel_rfl) (by decide) (by rw [g_want h rfl rfl rfl rfl hB7]; rfl) rfl (by decide) (fun a h => ?_)
            refine d_takeNP h (fun _ => HS) HN 15 rfl (by kernel_rfl) (by kernel_rfl) (by kernel_rfl) (by decide) (by rw [g_want h rfl rfl rfl rfl hB7]; rfl) rfl (by decide) (fun a h => ?_)
            refine d_takeP h (fun _ => HS) HN 16 rfl (by kernel_rfl) (by kernel_rfl) (by kernel_rfl) (by decide) rfl rfl (by decide) (fun w' => x_pick (v := .bool z159) (u' := undef) h.k rfl rfl (fun _ => by rw [← Option.some.inj hz160]; rfl) (fun hh => absurd (hB7.symm.trans hh) (by decide))) (fun a h => ?_)
            refine d_done (by kernel_rfl) (HE _ _ ?_) _
            refine e_thenN ?_
            have h := h.pick [1, 3, 4] (by decide) rfl
            exact h.has (by exact ⟨rfl, rfl, rfl, rfl, trivial⟩)
          · rw [if_neg (by rw [hB7]; decide)] at hz160
            obtain ⟨x161, h165, hz160⟩ := bsome hz160
            refine d_takeP h (fun _ => HS) HN 8 rfl (by kernel_rfl) (by kernel_rfl) (by kernel_rfl) (by decide) (by rw [g_want h rfl rfl rfl rfl hB7]; rfl) rfl (by decide) (fun w' => x_faddr h.k rfl Try.underlying75 rfl sz_A32_uint8 rfl) (fun a h => ?_)
            refine d_takeY h HS HN 9 rfl (by kernel_rfl) (by kernel_rfl) (by kernel_rfl) (by kernel_rfl) (by kernel_rfl) (by rw [g_want h rfl rfl rfl rfl hB7]; rfl) rfl (by decide) (fun w' hw => x_ldR h.k rfl ag_A32_uint8 rfl k143 ((hq147).len.trans (by rw [hl146]; rfl)) (hw.rangeMid (i := 1) (off := 0) (X := []) (Y := k143) (Z := ([.slice A7 a1.2.1.length c8] : List Value) ++ (([.slice A12 a1.2.2.1.length c13] : List Value) ++ (([.int .i64 a1.2.2.2.1] : List Value) ++ (([.int .i64 a1.2.2.2.2.1] : List Value) ++ (([.int .i64 a1.2.2.2.2.2.1] : List Value) ++ ([.int .i64 a1.2.2.2.2.2.2])))))) rfl (by simp only [List.append_assoc, List.cons_append, List.nil_append, List.append_nil]) rfl)) (fun a h => ?_)
            refine d_takeP h (fun _ => HS) HN 10 rfl (by kernel_rfl) (by kernel_rfl) (by kernel_rfl) (by decide) (by rw [g_want h rfl rfl rfl rfl hB7]; rfl) rfl (by decide) (fun w' => x_faddr h.k rfl Try.underlying66 rfl sz_SA32_uint8 rfl) (fun a h => ?_)
            refine d_takeY h HS HN 11 rfl (by kernel_rfl) (by kernel_rfl) (by kernel_rfl) (by kernel_rfl) (by kernel_rfl) (by rw [g_want h rfl rfl rfl rfl hB7]; rfl) rfl (by decide) (fun w' hw => x_ld h.k rfl Try.underlying39 rfl rfl ((hw.cell (i := 3) rfl 6).trans rfl)) (fun a h => ?_)
            refine d_takeP h (fun _ => HS) HN 12 rfl (by kernel_rfl) (by kernel_rfl) (by kernel_rfl) (by decide) (by rw [g_want h rfl rfl rfl rfl hB7]; rfl) rfl (by decide) (fun w' => x_move h.k _ rfl rfl) (fun a h => ?_)
            obtain ⟨m162, hi166, hm167, hx168⟩ := idx_some h165
            obtain ⟨b163, off164, k169, hA170, hu171, hc172⟩ := (hs87).at (by decide) hx168 (h.m.snOK (i := 4) rfl)
            obtain ⟨hs173, hl174⟩ := hu171
            refine d_takeP h (fun _ => HS) HN 13 rfl (by kernel_rfl) (by kernel_rfl) (by kernel_rfl) (by decide) (by rw [g_want h rfl rfl rfl rfl hB7]; rfl) rfl (by decide) (fun w' => x_iaddrE h.k rfl Try.underlying39 sz_A32_uint8 hA170 rfl rfl hi166 hm167) (fun a h => ?_)
            refine d_takeY h HS HN 14 rfl (by kernel_rfl) (by kernel_rfl) (by kernel_rfl) (by kernel_rfl) (by kernel_rfl) (by rw [g_want h rfl rfl rfl rfl hB7]; rfl) rfl (by decide) (fun w' hw => x_ldR h.k rfl ag_A32_uint8 rfl k169 ((hs173).len.trans (by rw [hl174]; rfl)) (hc172 _ (hw.snOK (i := 4) rfl))) (fun a h => ?_)
            refine d_takeP h (fun _ => HS) HN 15 rfl (by kernel_rfl) (by kernel_rfl) (by kernel_rfl) (by decide) (by rw [g_want h rfl rfl rfl rfl hB7]; rfl) rfl (by decide) (fun w' => x_eqlA8 (X := k143) (Y := k169) h.k rfl Try.underlying40 Try.underlying5 sz_uint8 gda_A32_uint8 rfl rfl hq147 hs173 hl146 hl174) (fun a h => ?_)
            refine d_takeP h (fun _ => HS) HN 16 rfl (by kernel_rfl) (by kernel_rfl) (by kernel_rfl) (by decide) rfl rfl (by decide) (fun w' => x_pick (v := .bool z159) (u' := undef) h.k rfl rfl (fun hh => absurd (hB7.symm.trans hh) (by decide)) (fun _ => by rw [← Option.some.inj hz160]; rfl)) (fun a h => ?_)
            refine d_done (by kernel_rfl) (HE _ _ ?_) _
            refine e_thenN ?_
            have h := h.pick [1, 3, 4] (by decide) rfl
            exact h.has (by exact ⟨rfl, rfl, rfl, rfl, trivial⟩)
        refine e_thenN ?_
        refine c_cond h rfl (fun hb => ?_) (fun hb => ?_)
        · rw [if_pos hb] at hf
          refine c_rs ?_ -- region 12
          refine s_assign h rfl _ rfl rfl (by decide) rfl (fun a h => ?_)
          refine l_end ?_
          refine wp_ret ?_
          refine e_thenR ?_
          rw [← Option.some.inj hf]
          exact r_ret1 h rfl (rv_tmp h rfl) ⟨_, [], _, rfl, ⟨rfl, rfl, trivial⟩, rfl, (Up.refl _ _ _), (h.m.pick [2] _ (by decide) rfl)⟩
        · rw [if_neg (by rw [hb]; decide)] at hf
          refine wp_skip ?_
          refine e_thenN ?_
          refine c_rs ?_ -- region 13
          refine s_x h rfl rfl (by decide) (x_faddr h.k rfl Try.underlying75 rfl sz_A32_uint8 rfl) (fun a h => ?_)
          refine s_x h rfl rfl (by decide) (x_ldR h.k rfl ag_A32_uint8 rfl k143 ((hq147).len.trans (by rw [hl146]; rfl)) (h.m.rangeMid (i := 0) (off := 0) (X := []) (Y := k143) (Z := ([.slice A7 a1.2.1.length c8] : List Value) ++ (([.slice A12 a1.2.2.1.length c13] : List Value) ++ (([.int .i64 a1.2.2.2.1] : List Value) ++ (([.int .i64 a1.2.2.2.2.1] : List Value) ++ (([.int .i64 a1.2.2.2.2.2.1] : List Value) ++ ([.int .i64 a1.2.2.2.2.2.2])))))) rfl (by simp only [List.append_assoc, List.cons_append, List.nil_append, List.append_nil]) rfl)) (fun a h => ?_)
          refine s_move h rfl _ rfl rfl (by decide) rfl (fun a h => ?_)
          refine s_alloc h rfl rfl rfl (by decide) zi_A32_uint8 rfl (fun a w g175 h => ?_)
          refine s_stW h rfl rfl rfl ag_A32_uint8 rfl (es := k143) rfl ((hq147).len.trans (by rw [hl146]; rfl)) (hq147).one 0 rfl (by first | rfl | simp_all) (fun a w h => ?_)
          refine s_assign h rfl _ rfl rfl (by decide) rfl (fun a h => ?_)
          refine l_end ?_
          refine wp_seq ?_
          refine c_rs ?_ -- region 14
          refine s_assign h rfl _ rfl rfl (by decide) rfl (fun a h => ?_)
          refine s_assign h rfl _ rfl rfl (by decide) rfl (fun a h => ?_)
          refine l_end ?_
          obtain ⟨o176, hl177, hf⟩ := bsome hf
          refine c_fin (fun a w => ∃ (x188 : List UInt8), ∃ (k189 : List Value), (.inr x188) = o176 ∧ reps ty8 S0 k189 x188 ∧ x188.length = 32 ∧ St 201 w0 (ownL ([] ++ [.sn S0])) [(7, .pointer (some ⟨g88, 0, none⟩)), (10, .pointer (some ⟨g175, 0, none⟩))] [.box g88 66 ([.int .i64 x49.1, .int .i64 x49.2.1, .int .i64 x49.2.2.1, .slice A72 x49.2.2.2.1.length c73, .slice A77 x49.2.2.2.2.1.length c78, .slice A82 x49.2.2.2.2.2.1.length c83, .slice A85 x49.2.2.2.2.2.2.length c86]), .box g175 40 k189, .sn S0] a w) ?_ ?_
          · refine wp_block ?_
            have h := h.pick [1, 2, 0, 3] (by decide) rfl
            refine c_loop (fun m193 a w => ∃ (x178 : Int), ∃ (x180 : Int), ∃ (x182 : Int), ∃ (x184 : List UInt8), ∃ (k185 : List Value), chatelainelaw24_ForestBinds_l0 Fu a1 x49 m193 x178 x180 x182 x184 = some o176 ∧ r64 x178 ∧ r64 x180 ∧ r64 x182 ∧ reps ty8 S0 k185 x184 ∧ x184.length = 32 ∧ St 201 w0 (ownL ([] ++ [.sn S0])) [(4, .pointer (some ⟨g27, 0, none⟩)), (7, .pointer (some ⟨g88, 0, none⟩)), (10, .pointer (some ⟨g175, 0, none⟩)), (11, .int .i64 x178), (12, .int .i64 x180), (13, .int .i64 x182)] [.box g27 75 (k143 ++ ([.slice A7 a1.2.1.length c8, .slice A12 a1.2.2.1.length c13, .int .i64 a1.2.2.2.1, .int .i64 a1.2.2.2.2.1, .int .i64 a1.2.2.2.2.2.1, .int .i64 a1.2.2.2.2.2.2])), .box g88 66 ([.int .i64 x49.1, .int .i64 x49.2.1, .int .i64 x49.2.2.1, .slice A72 x49.2.2.2.1.length c73, .slice A77 x49.2.2.2.2.1.length c78, .slice A82 x49.2.2.2.2.2.1.length c83, .slice A85 x49.2.2.2.2.2.2.length c86]), .box g175 40 k185, .sn S0] a w) Fu ⟨x93, 1, 0, x140, k143, hl177, hr98, (show r64 1 from ⟨by decide, by decide⟩), (show r64 0 from ⟨by decide, by decide⟩), hq147, hl146, h.has (by exact ⟨rfl, rfl, rfl, rfl, rfl, rfl, trivial⟩)⟩ (fun m193 a w hI => ?_)
            obtain ⟨x178, x180, x182, x184, k185, hl192, hr179, hr181, hr183, hs186, hl187, h⟩ := hI
            obtain _ | m193 := m193
            · rw [chatelainelaw24_ForestBinds_l0] at hl192; cases hl192
            rw [chatelainelaw24_ForestBinds_l0] at hl192
            refine wp_seq ?_
            refine c_rs ?_ -- region 15
            refine s_move h rfl _ rfl rfl (by decide) rfl (fun a h => ?_)
            refine s_x h rfl rfl (by decide) (x_faddr h.k rfl Try.underlying75 rfl sz_SA32_uint8 rfl) (fun a h => ?_)
            refine s_x h rfl rfl (by decide) (x_ld h.k rfl Try.underlying39 rfl rfl ((h.m.cell (i := 0) rfl 32).trans (cell_oneE (X := k143) (Z := ([.slice A12 a1.2.2.1.length c13] : List Value) ++ (([.int .i64 a1.2.2.2.1] : List Value) ++ (([.int .i64 a1.2.2.2.2.1] : List Value) ++ (([.int .i64 a1.2.2.2.2.2.1] : List Value) ++ ([.int .i64 a1.2.2.2.2.2.2]))))) (off := 32) (u := .slice A7 a1.2.1.length c8) (by simp only [List.append_assoc, List.cons_append, List.nil_append, List.append_nil]) (show (k143 : List Value).length = 32 from by simp only [List.length_append, List.length_cons, List.length_nil, (show (k143 : List Value).length = 32 from ((hq147).len.trans (by rw [hl146]; rfl)))])))) (fun a h => ?_)
            refine s_x h rfl rfl (by decide) (x_len h.k rfl Try.underlying39 rfl) (fun a h => ?_)
            refine s_x h rfl rfl (by decide) (x_bin h.k rfl rfl rfl ib_lss) (fun a h => ?_)
            refine l_end ?_
            refine c_cond h rfl (fun hb => ?_) (fun hb => ?_)
            · rw [if_pos (of_decide_eq_true hb)] at hl192
              refine wp_skip ?_
              refine e_thenN ?_
              refine wp_seq ?_
              refine wp_block ?_
              refine wp_seq ?_
              -- region 17 draws
              obtain ⟨x194, h198, hl192⟩ := bsome hl192
              refine c_fin (fun a w => ∃ (g208 : Nat), ∃ (k210 : List Value), ∃ (g209 : Nat), ∃ (k213 : List Value), reps ty8 S0 k210 x184 ∧ x184.length = 32 ∧ reps ty8 S0 k213 x194 ∧ x194.length = 32 ∧ St 201 w0 (ownL ([] ++ [.sn S0])) [(4, .pointer (some ⟨g27, 0, none⟩)), (7, .pointer (some ⟨g88, 0, none⟩)), (10, .pointer (some ⟨g175, 0, none⟩)), (11, .int .i64 x178), (12, .int .i64 x180), (13, .int .i64 x182), (14, .pointer (some ⟨g208, 0, none⟩)), (15, .pointer (some ⟨g209, 0, none⟩))] [.box g27 75 (k143 ++ ([.slice A7 a1.2.1.length c8, .slice A12 a1.2.2.1.length c13, .int .i64 a1.2.2.2.1, .int .i64 a1.2.2.2.2.1, .int .i64 a1.2.2.2.2.2.1, .int .i64 a1.2.2.2.2.2.2])), .box g88 66 ([.int .i64 x49.1, .int .i64 x49.2.1, .int .i64 x49.2.2.1, .slice A72 x49.2.2.2.1.length c73, .slice A77 x49.2.2.2.2.1.length c78, .slice A82 x49.2.2.2.2.2.1.length c83, .slice A85 x49.2.2.2.2.2.2.length c86]), .box g175 40 k185, .box g208 40 k210, .box g209 40 k213, .sn S0] a w) ?_ (fun a w h => ?_)
              · refine d_start h (Mem _ _ _) 10 10 rfl (by kernel_rfl) (fun _ _ _ _ _ h => h) (fun _ h => h.pick [0, 1, 2, 3] [.box g27 75 (k143 ++ ([.slice A7 a1.2.1.length c8, .slice A12 a1.2.2.1.length c13, .int .i64 a1.2.2.2.1, .int .i64 a1.2.2.2.2.1, .int .i64 a1.2.2.2.2.2.1, .int .i64 a1.2.2.2.2.2.2])), .box g88 66 ([.int .i64 x49.1, .int .i64 x49.2.1, .int .i64 x49.2.2.1, .slice A72 x49.2.2.2.1.length c73, .slice A77 x49.2.2.2.2.1.length c78, .slice A82 x49.2.2.2.2.2.1.length c83, .slice A85 x49.2.2.2.2.2.2.length c86]), .box g175 40 k185, .sn S0] (by decide) rfl) (fun Q a w HE HN h HS => ?_)
                refine d_take h HS HN 0 rfl (by kernel_rfl) (by kernel_rfl) (by kernel_rfl) (by kernel_rfl) (by kernel_rfl) rfl rfl (by decide) (fun w' hw => x_ldR h.k rfl ag_A32_uint8 rfl k185 ((hs186).len.trans (by rw [hl187]; rfl)) (hw.range0 (i := 2) rfl)) (fun a h => ?_)
                refine d_takeP h (fun _ => HS) HN 1 rfl (by kernel_rfl) (by kernel_rfl) (by kernel_rfl) (by decide) rfl rfl (by decide) (fun w' => x_faddr h.k rfl Try.underlying75 rfl sz_SA32_uint8 rfl) (fun a h => ?_)
                refine d_take h HS HN 2 rfl (by kernel_rfl) (by kernel_rfl) (by kernel_rfl) (by kernel_rfl) (by kernel_rfl) rfl rfl (by decide) (fun w' hw => x_ld h.k rfl Try.underlying39 rfl rfl ((hw.cell (i := 0) rfl 32).trans (cell_oneE (X := k143) (Z := ([.slice A12 a1.2.2.1.length c13] : List Value) ++ (([.int .i64 a1.2.2.2.1] : List Value) ++ (([.int .i64 a1.2.2.2.2.1] : List Value) ++ (([.int .i64 a1.2.2.2.2.2.1] : List Value) ++ ([.int .i64 a1.2.2.2.2.2.2]))))) (off := 32) (u := .slice A7 a1.2.1.length c8) (by simp only [List.append_assoc, List.cons_append, List.nil_append, List.append_nil]) (show (k143 : List Value).length = 32 from by simp only [List.length_append, List.length_cons, List.length_nil, (show (k143 : List Value).length = 32 from ((hq147).len.trans (by rw [hl146]; rfl)))])))) (fun a h => ?_)
                refine d_takeP h (fun _ => HS) HN 3 rfl (by kernel_rfl) (by kernel_rfl) (by kernel_rfl) (by decide) rfl rfl (by decide) (fun w' => x_move h.k _ rfl rfl) (fun a h => ?_)
                obtain ⟨m195, hi199, hm200, hx201⟩ := idx_some h198
                obtain ⟨b196, off197, k202, hA203, hu204, hc205⟩ := (hs9).at (by decide) hx201 (h.m.snOK (i := 3) rfl)
                obtain ⟨hs206, hl207⟩ := hu204
                refine d_takeP h (fun _ => HS) HN 4 rfl (by kernel_rfl) (by kernel_rfl) (by kernel_rfl) (by decide) rfl rfl (by decide) (fun w' => x_iaddrE h.k rfl Try.underlying39 sz_A32_uint8 hA203 rfl rfl hi199 hm200) (fun a h => ?_)
                refine d_take h HS HN 5 rfl (by kernel_rfl) (by kernel_rfl) (by kernel_rfl) (by kernel_rfl) (by kernel_rfl) rfl rfl (by decide) (fun w' hw => x_ldR h.k rfl ag_A32_uint8 rfl k202 ((hs206).len.trans (by rw [hl207]; rfl)) (hc205 _ (hw.snOK (i := 3) rfl))) (fun a h => ?_)
                refine d_two 6 7 (by kernel_rfl) (d_one 6 rfl _ (fun K hK => ?_)) (d_one 7 rfl _ (fun K hK => ?_))
                · refine s_alloc h rfl rfl rfl (by decide) zi_A32_uint8 rfl (fun a w g208 h => ?_)
                  replace HS := h.m.pick [1, 2, 3, 4] [.box g27 75 (k143 ++ ([.slice A7 a1.2.1.length c8, .slice A12 a1.2.2.1.length c13, .int .i64 a1.2.2.2.1, .int .i64 a1.2.2.2.2.1, .int .i64 a1.2.2.2.2.2.1, .int .i64 a1.2.2.2.2.2.2])), .box g88 66 ([.int .i64 x49.1, .int .i64 x49.2.1, .int .i64 x49.2.2.1, .slice A72 x49.2.2.2.1.length c73, .slice A77 x49.2.2.2.2.1.length c78, .slice A82 x49.2.2.2.2.2.1.length c83, .slice A85 x49.2.2.2.2.2.2.length c86]), .box g175 40 k185, .sn S0] (by decide) rfl
                  refine hK _ _ ⟨fun _ _ => HS, ?_⟩
                  clear hK
                  refine d_alone 7 rfl (by kernel_rfl) (fun K hK => ?_)
                  refine s_alloc h rfl rfl rfl (by decide) zi_A32_uint8 rfl (fun a w g209 h => ?_)
                  replace HS := h.m.pick [2, 3, 4, 5] [.box g27 75 (k143 ++ ([.slice A7 a1.2.1.length c8, .slice A12 a1.2.2.1.length c13, .int .i64 a1.2.2.2.1, .int .i64 a1.2.2.2.2.1, .int .i64 a1.2.2.2.2.2.1, .int .i64 a1.2.2.2.2.2.2])), .box g88 66 ([.int .i64 x49.1, .int .i64 x49.2.1, .int .i64 x49.2.2.1, .slice A72 x49.2.2.2.1.length c73, .slice A77 x49.2.2.2.2.1.length c78, .slice A82 x49.2.2.2.2.2.1.length c83, .slice A85 x49.2.2.2.2.2.2.length c86]), .box g175 40 k185, .sn S0] (by decide) rfl
                  refine hK _ _ (fun _ _ => HS) ?_
                  clear hK
                  refine d_alone 8 rfl (by kernel_rfl) (fun K hK => ?_)
                  refine s_stW h rfl rfl rfl ag_A32_uint8 rfl (es := k185) rfl ((hs186).len.trans (by rw [hl187]; rfl)) (hs186).one 1 rfl (by first | rfl | simp_all) (fun a w h => ?_)
                  replace HS := h.m.pick [2, 3, 4, 5] [.box g27 75 (k143 ++ ([.slice A7 a1.2.1.length c8, .slice A12 a1.2.2.1.length c13, .int .i64 a1.2.2.2.1, .int .i64 a1.2.2.2.2.1, .int .i64 a1.2.2.2.2.2.1, .int .i64 a1.2.2.2.2.2.2])), .box g88 66 ([.int .i64 x49.1, .int .i64 x49.2.1, .int .i64 x49.2.2.1, .slice A72 x49.2.2.2.1.length c73, .slice A77 x49.2.2.2.2.1.length c78, .slice A82 x49.2.2.2.2.2.1.length c83, .slice A85 x49.2.2.2.2.2.2.length c86]), .box g175 40 k185, .sn S0] (by decide) rfl
                  refine hK _ _ (fun _ _ => HS) ?_
                  clear hK
                  refine d_alone 9 rfl (by kernel_rfl) (fun K hK => ?_)
                  refine s_stW h rfl rfl rfl ag_A32_uint8 rfl (es := k202) rfl ((hs206).len.trans (by rw [hl207]; rfl)) (hs206).one 0 rfl (by first | rfl | simp_all) (fun a w h => ?_)
                  replace HS := h.m.pick [2, 3, 4, 5] [.box g27 75 (k143 ++ ([.slice A7 a1.2.1.length c8, .slice A12 a1.2.2.1.length c13, .int .i64 a1.2.2.2.1, .int .i64 a1.2.2.2.2.1, .int .i64 a1.2.2.2.2.2.1, .int .i64 a1.2.2.2.2.2.2])), .box g88 66 ([.int .i64 x49.1, .int .i64 x49.2.1, .int .i64 x49.2.2.1, .slice A72 x49.2.2.2.1.length c73, .slice A77 x49.2.2.2.2.1.length c78, .slice A82 x49.2.2.2.2.2.1.length c83, .slice A85 x49.2.2.2.2.2.2.length c86]), .box g175 40 k185, .sn S0] (by decide) rfl
                  refine hK _ _ (fun _ _ => HS) ?_
                  clear hK
                  refine d_done (by kernel_rfl) (HE _ _ ?_) _
                  refine e_thenN ?_
                  have h := h.pick [2, 3, 4, 1, 0, 5] (by decide) rfl
                  exact ⟨g208, k185, g209, k202, hs186, hl187, hs206, hl207, h.has (by exact ⟨rfl, rfl, rfl, rfl, rfl, rfl, rfl, rfl, trivial⟩)⟩
                · refine s_alloc h rfl rfl rfl (by decide) zi_A32_uint8 rfl (fun a w g209 h => ?_)
                  replace HS := h.m.pick [1, 2, 3, 4] [.box g27 75 (k143 ++ ([.slice A7 a1.2.1.length c8, .slice A12 a1.2.2.1.length c13, .int .i64 a1.2.2.2.1, .int .i64 a1.2.2.2.2.1, .int .i64 a1.2.2.2.2.2.1, .int .i64 a1.2.2.2.2.2.2])), .box g88 66 ([.int .i64 x49.1, .int .i64 x49.2.1, .int .i64 x49.2.2.1, .slice A72 x49.2.2.2.1.length c73, .slice A77 x49.2.2.2.2.1.length c78, .slice A82 x49.2.2.2.2.2.1.length c83, .slice A85 x49.2.2.2.2.2.2.length c86]), .box g175 40 k185, .sn S0] (by decide) rfl
                  refine hK _ _ ⟨fun _ _ => HS, ?_⟩
                  clear hK
                  refine d_alone 6 rfl (by kernel_rfl) (fun K hK => ?_)
                  refine s_alloc h rfl rfl rfl (by decide) zi_A32_uint8 rfl (fun a w g208 h => ?_)
                  replace HS := h.m.pick [2, 3, 4, 5] [.box g27 75 (k143 ++ ([.slice A7 a1.2.1.length c8, .slice A12 a1.2.2.1.length c13, .int .i64 a1.2.2.2.1, .int .i64 a1.2.2.2.2.1, .int .i64 a1.2.2.2.2.2.1, .int .i64 a1.2.2.2.2.2.2])), .box g88 66 ([.int .i64 x49.1, .int .i64 x49.2.1, .int .i64 x49.2.2.1, .slice A72 x49.2.2.2.1.length c73, .slice A77 x49.2.2.2.2.1.length c78, .slice A82 x49.2.2.2.2.2.1.length c83, .slice A85 x49.2.2.2.2.2.2.length c86]), .box g175 40 k185, .sn S0] (by decide) rfl
                  refine hK _ _ (fun _ _ => HS) ?_
                  clear hK
                  refine d_alone 8 rfl (by kernel_rfl) (fun K hK => ?_)
                  refine s_stW h rfl rfl rfl ag_A32_uint8 rfl (es := k185) rfl ((hs186).len.trans (by rw [hl187]; rfl)) (hs186).one 0 rfl (by first | rfl | simp_all) (fun a w h => ?_)
                  replace HS := h.m.pick [2, 3, 4, 5] [.box g27 75 (k143 ++ ([.slice A7 a1.2.1.length c8, .slice A12 a1.2.2.1.length c13, .int .i64 a1.2.2.2.1, .int .i64 a1.2.2.2.2.1, .int .i64 a1.2.2.2.2.2.1, .int .i64 a1.2.2.2.2.2.2])), .box g88 66 ([.int .i64 x49.1, .int .i64 x49.2.1, .int .i64 x49.2.2.1, .slice A72 x49.2.2.2.1.length c73, .slice A77 x49.2.2.2.2.1.length c78, .slice A82 x49.2.2.2.2.2.1.length c83, .slice A85 x49.2.2.2.2.2.2.length c86]), .box g175 40 k185, .sn S0] (by decide) rfl
                  refine hK _ _ (fun _ _ => HS) ?_
                  clear hK
                  refine d_alone 9 rfl (by kernel_rfl) (fun K hK => ?_)
                  refine s_stW h rfl rfl rfl ag_A32_uint8 rfl (es := k202) rfl ((hs206).len.trans (by rw [hl207]; rfl)) (hs206).one 1 rfl (by first | rfl | simp_all) (fun a w h => ?_)
                  replace HS := h.m.pick [2, 3, 4, 5] [.box g27 75 (k143 ++ ([.slice A7 a1.2.1.length c8, .slice A12 a1.2.2.1.length c13, .int .i64 a1.2.2.2.1, .int .i64 a1.2.2.2.2.1, .int .i64 a1.2.2.2.2.2.1, .int .i64 a1.2.2.2.2.2.2])), .box g88 66 ([.int .i64 x49.1, .int .i64 x49.2.1, .int .i64 x49.2.2.1, .slice A72 x49.2.2.2.1.length c73, .slice A77 x49.2.2.2.2.1.length c78, .slice A82 x49.2.2.2.2.2.1.length c83, .slice A85 x49.2.2.2.2.2.2.length c86]), .box g175 40 k185, .sn S0] (by decide) rfl
                  refine hK _ _ (fun _ _ => HS) ?_
                  clear hK
                  refine d_done (by kernel_rfl) (HE _ _ ?_) _
                  refine e_thenN ?_
                  have h := h.pick [2, 3, 4, 0, 1, 5] (by decide) rfl
                  exact ⟨g208, k185, g209, k202, hs186, hl187, hs206, hl207, h.has (by exact ⟨rfl, rfl, rfl, rfl, rfl, rfl, rfl, rfl, trivial⟩)⟩
              obtain ⟨g208, k210, g209, k213, hs211, hl212, hs214, hl215, h⟩ := h
              refine e_thenN ?_
              obtain ⟨o216, hc217, hl192⟩ := bsome hl192
              refine c_cut (fun a w => ∃ (x218 : List UInt8), ∃ (k219 : List Value), ∃ (x222 : List UInt8), ∃ (k223 : List Value), (x218, x222) = o216 ∧ reps ty8 S0 k219 x218 ∧ x218.length = 32 ∧ reps ty8 S0 k223 x222 ∧ x222.length = 32 ∧ St 201 w0 (ownL ([] ++ [.sn S0])) [(4, .pointer (some ⟨g27, 0, none⟩)), (7, .pointer (some ⟨g88, 0, none⟩)), (10, .pointer (some ⟨g175, 0, none⟩)), (11, .int .i64 x178), (12, .int .i64 x180), (13, .int .i64 x182), (14, .pointer (some ⟨g208, 0, none⟩)), (15, .pointer (some ⟨g209, 0, none⟩))] [.box g27 75 (k143 ++ ([.slice A7 a1.2.1.length c8, .slice A12 a1.2.2.1.length c13, .int .i64 a1.2.2.2.1, .int .i64 a1.2.2.2.2.1, .int .i64 a1.2.2.2.2.2.1, .int .i64 a1.2.2.2.2.2.2])), .box g88 66 ([.int .i64 x49.1, .int .i64 x49.2.1, .int .i64 x49.2.2.1, .slice A72 x49.2.2.2.1.length c73, .slice A77 x49.2.2.2.2.1.length c78, .slice A82 x49.2.2.2.2.2.1.length c83, .slice A85 x49.2.2.2.2.2.2.length c86]), .box g175 40 k185, .box g208 40 k219, .box g209 40 k223, .sn S0] a w) ?_ ?_
              · refine c_rs ?_ -- region 18
                refine s_move h rfl _ rfl rfl (by decide) rfl (fun a h => ?_)
                refine s_x h rfl rfl (by decide) (x_bin h.k rfl rfl rfl (ib_remw (by decide))) (fun a h => ?_)
                refine s_x h rfl rfl (by decide) (x_bin h.k rfl rfl rfl ib_eql) (fun a h => ?_)
                refine l_end ?_
                refine c_cond h rfl (fun hb => ?_) (fun hb => ?_)
                · rw [if_pos (of_decide_eq_true hb)] at hc217
                  refine c_r ?_ -- region 19
                  refine s_x h rfl rfl (by decide) (x_ldR h.k rfl ag_A32_uint8 rfl k213 ((hs214).len.trans (by rw [hl215]; rfl)) (h.m.range0 (i := 4) rfl)) (fun a h => ?_)
                  refine s_x h rfl rfl (by decide) (x_ldR h.k rfl ag_A32_uint8 rfl k210 ((hs211).len.trans (by rw [hl212]; rfl)) (h.m.range0 (i := 3) rfl)) (fun a h => ?_)
                  refine s_stW h rfl rfl rfl ag_A32_uint8 rfl (es := k213) rfl ((hs214).len.trans (by rw [hl215]; rfl)) (hs214).one 3 rfl ((hs211).len.trans (by rw [hl212]; rfl)) (fun a w h => ?_)
                  refine s_stW h rfl rfl rfl ag_A32_uint8 rfl (es := k210) rfl ((hs211).len.trans (by rw [hl212]; rfl)) (hs211).one 4 rfl ((hs214).len.trans (by rw [hl215]; rfl)) (fun a w h => ?_)
                  refine l_nil ?_
                  refine e_thenN ?_
                  exact ⟨x194, k213, x184, k210, (Option.some.inj hc217), hs214, hl215, hs211, hl212, h.has (by exact ⟨rfl, rfl, rfl, rfl, rfl, rfl, rfl, rfl, trivial⟩)⟩
                · rw [if_neg (of_decide_eq_false hb)] at hc217
                  refine wp_skip ?_
                  refine e_thenN ?_
                  exact ⟨x184, k210, x194, k213, (Option.some.inj hc217), hs211, hl212, hs214, hl215, h.has (by exact ⟨rfl, rfl, rfl, rfl, rfl, rfl, rfl, rfl, trivial⟩)⟩
              · rintro a w ⟨x218, k219, x222, k223, rfl, hs220, hl221, hs224, hl225, h⟩
                try dsimp only at hl192
                refine wp_seq ?_
                -- region 20 draws
                obtain ⟨x226, h227, hl192⟩ := bsome hl192
                obtain ⟨x234, h235, hl192⟩ := bsome hl192
                refine c_fin (fun a w => ∃ (g242 : Nat), ∃ (k244 : List Value), ∃ (g243 : Nat), ∃ (k247 : List Value), reps ty8 S0 k244 x226 ∧ x226.length = 32 ∧ reps ty8 S0 k247 x234 ∧ x234.length = 32 ∧ St 201 w0 (ownL ([] ++ [.sn S0])) [(4, .pointer (some ⟨g27, 0, none⟩)), (7, .pointer (some ⟨g88, 0, none⟩)), (10, .pointer (some ⟨g175, 0, none⟩)), (11, .int .i64 x178), (12, .int .i64 x180), (13, .int .i64 x182), (14, .pointer (some ⟨g208, 0, none⟩)), (15, .pointer (some ⟨g209, 0, none⟩)), (16, .pointer (some ⟨g242, 0, none⟩)), (17, .pointer (some ⟨g243, 0, none⟩))] [.box g27 75 (k143 ++ ([.slice A7 a1.2.1.length c8, .slice A12 a1.2.2.1.length c13, .int .i64 a1.2.2.2.1, .int .i64 a1.2.2.2.2.1, .int .i64 a1.2.2.2.2.2.1, .int .i64 a1.2.2.2.2.2.2])), .box g88 66 ([.int .i64 x49.1, .int .i64 x49.2.1, .int .i64 x49.2.2.1, .slice A72 x49.2.2.2.1.length c73, .slice A77 x49.2.2.2.2.1.length c78, .slice A82 x49.2.2.2.2.2.1.length c83, .slice A85 x49.2.2.2.2.2.2.length c86]), .box g175 40 k185, .box g208 40 k219, .box g209 40 k223, .box g242 40 k244, .box g243 40 k247, .sn S0] a w) ?_ (fun a w h => ?_)
                · refine d_start h (Mem _ _ _) 20 20 rfl (by kernel_rfl) (fun _ _ _ _ _ h => h) (fun _ h => h.pick [0, 1, 2, 3, 4, 5] [.box g27 75 (k143 ++ ([.slice A7 a1.2.1.length c8, .slice A12 a1.2.2.1.length c13, .int .i64 a1.2.2.2.1, .int .i64 a1.2.2.2.2.1, .int .i64 a1.2.2.2.2.2.1, .int .i64 a1.2.2.2.2.2.2])), .box g88 66 ([.int .i64 x49.1, .int .i64 x49.2.1, .int .i64 x49.2.2.1, .slice A72 x49.2.2.2.1.length c73, .slice A77 x49.2.2.2.2.1.length c78, .slice A82 x49.2.2.2.2.2.1.length c83, .slice A85 x49.2.2.2.2.2.2.length c86]), .box g175 40 k185, .box g208 40 k219, .box g209 40 k223, .sn S0] (by decide) rfl) (fun Q a w HE HN h HS => ?_)
                  refine d_takeP h (fun _ => HS) HN 0 rfl (by kernel_rfl) (by kernel_rfl) (by kernel_rfl) (by decide) rfl rfl (by decide) (fun w' => x_faddr h.k rfl Try.underlying66 rfl sz_SA32_uint8 rfl) (fun a h => ?_)
                  refine d_take h HS HN 1 rfl (by kernel_rfl) (by kernel_rfl) (by kernel_rfl) (by kernel_rfl) (by kernel_rfl) rfl rfl (by decide) (fun w' hw => x_ld h.k rfl Try.underlying39 rfl rfl ((hw.cell (i := 1) rfl 6).trans rfl)) (fun a h => ?_)
                  refine d_takeP h (fun _ => HS) HN 2 rfl (by kernel_rfl) (by kernel_rfl) (by kernel_rfl) (by decide) rfl rfl (by decide) (fun w' => x_move h.k _ rfl rfl) (fun a h => ?_)
                  refine d_takeP h (fun _ => HS) HN 3 rfl (by kernel_rfl) (by kernel_rfl) (by kernel_rfl) (by decide) rfl rfl (by decide) (fun w' => x_bin h.k rfl rfl rfl (ib_andNot rfl)) (fun a h => ?_)
                  refine d_takeP h (fun _ => HS) HN 4 rfl (by kernel_rfl) (by kernel_rfl) (by kernel_rfl) (by decide) rfl rfl (by decide) (fun w' => x_move h.k _ rfl rfl) (fun a h => ?_)
                  refine d_takeP h (fun _ => HS) HN 5 rfl (by kernel_rfl) (by kernel_rfl) (by kernel_rfl) (by decide) rfl rfl (by decide) (fun w' => x_bin h.k rfl rfl rfl (ib_mul rfl)) (fun a h => ?_)
                  refine d_takeP h (fun _ => HS) HN 6 rfl (by kernel_rfl) (by kernel_rfl) (by kernel_rfl) (by decide) rfl rfl (by decide) (fun w' => x_move h.k _ rfl rfl) (fun a h => ?_)
                  refine d_takeP h (fun _ => HS) HN 8 rfl (by kernel_rfl) (by kernel_rfl) (by kernel_rfl) (by decide) rfl rfl (by decide) (fun w' => x_faddr h.k rfl Try.underlying66 rfl sz_SA32_uint8 rfl) (fun a h => ?_)
                  refine d_take h HS HN 9 rfl (by kernel_rfl) (by kernel_rfl) (by kernel_rfl) (by kernel_rfl) (by kernel_rfl) rfl rfl (by decide) (fun w' hw => x_ld h.k rfl Try.underlying39 rfl rfl ((hw.cell (i := 1) rfl 6).trans rfl)) (fun a h => ?_)
                  refine d_takeP h (fun _ => HS) HN 10 rfl (by kernel_rfl) (by kernel_rfl) (by kernel_rfl) (by decide) rfl rfl (by decide) (fun w' => x_move h.k _ rfl rfl) (fun a h => ?_)
                  refine d_takeP h (fun _ => HS) HN 11 rfl (by kernel_rfl) (by kernel_rfl) (by kernel_rfl) (by decide) rfl rfl (by decide) (fun w' => x_bin h.k rfl rfl rfl (ib_or rfl)) (fun a h => ?_)
                  refine d_takeP h (fun _ => HS) HN 12 rfl (by kernel_rfl) (by kernel_rfl) (by kernel_rfl) (by decide) rfl rfl (by decide) (fun w' => x_move h.k _ rfl rfl) (fun a h => ?_)
                  refine d_takeP h (fun _ => HS) HN 13 rfl (by kernel_rfl) (by kernel_rfl) (by kernel_rfl) (by decide) rfl rfl (by decide) (fun w' => x_bin h.k rfl rfl rfl (ib_mul rfl)) (fun a h => ?_)
                  refine d_takeP h (fun _ => HS) HN 14 rfl (by kernel_rfl) (by kernel_rfl) (by kernel_rfl) (by decide) rfl rfl (by decide) (fun w' => x_move h.k _ rfl rfl) (fun a h => ?_)
                  refine d_three 7 16 17 (by kernel_rfl) (d_one 7 rfl _ (fun K hK => ?_)) (d_one 16 rfl _ (fun K hK => ?_)) (d_one 17 rfl _ (fun K hK => ?_))
                  · have hX := chatelaineref23_Node_ok Fu (S0 := snapAll _) A85 c86 x49.2.2.2.2.2.2 (hs87.mono (h.m.leAll (i := 5) rfl)) (w64 ((i64_andNot x178 1) * x180)) (w64_r _) x180 hr181 _ h227 _ h.startAll
                    refine q_callX hX h rfl rfl rfl (by decide) Try.func26 rfl rfl rfl (fun a w v L1 S1 hR hb1 h => ?_)
                    obtain ⟨k229, rfl, rfl, hv230, _⟩ := hR
                    obtain ⟨hs231, hl232⟩ := hv230
                    have hq233 := hs231.fl (S' := S0) fl_8
                    replace HS := h.m.pick [0, 1, 2, 3, 4, 5] [.box g27 75 (k143 ++ ([.slice A7 a1.2.1.length c8, .slice A12 a1.2.2.1.length c13, .int .i64 a1.2.2.2.1, .int .i64 a1.2.2.2.2.1, .int .i64 a1.2.2.2.2.2.1, .int .i64 a1.2.2.2.2.2.2])), .box g88 66 ([.int .i64 x49.1, .int .i64 x49.2.1, .int .i64 x49.2.2.1, .slice A72 x49.2.2.2.1.length c73, .slice A77 x49.2.2.2.2.1.length c78, .slice A82 x49.2.2.2.2.2.1.length c83, .slice A85 x49.2.2.2.2.2.2.length c86]), .box g175 40 k185, .box g208 40 k219, .box g209 40 k223, .sn S0] (by decide) rfl
                    refine hK _ _ ⟨fun _ _ => HS, ?_⟩
                    clear hK
                    refine d_three 15 16 17 (by kernel_rfl) (d_one 15 rfl _ (fun K hK => ?_)) (d_one 16 rfl _ (fun K hK => ?_)) (d_one 17 rfl _ (fun K hK => ?_))
                    · have hX := chatelaineref23_Node_ok Fu (S0 := snapAll _) A85 c86 x49.2.2.2.2.2.2 (hs87.mono (h.m.leAll (i := 5) rfl)) (w64 ((i64_or x178 1) * x180)) (w64_r _) x180 hr181 _ h235 _ h.startAll
                      refine q_callX hX h rfl rfl rfl (by decide) Try.func26 rfl rfl rfl (fun a w v L1 S1 hR hb1 h => ?_)
                      obtain ⟨k237, rfl, rfl, hv238, _⟩ := hR
                      obtain ⟨hs239, hl240⟩ := hv238
                      have hq241 := hs239.fl (S' := S0) fl_8
                      replace HS := h.m.pick [0, 1, 2, 3, 4, 5] [.box g27 75 (k143 ++ ([.slice A7 a1.2.1.length c8, .slice A12 a1.2.2.1.length c13, .int .i64 a1.2.2.2.1, .int .i64 a1.2.2.2.2.1, .int .i64 a1.2.2.2.2.2.1, .int .i64 a1.2.2.2.2.2.2])), .box g88 66 ([.int .i64 x49.1, .int .i64 x49.2.1, .int .i64 x49.2.2.1, .slice A72 x49.2.2.2.1.length c73, .slice A77 x49.2.2.2.2.1.length c78, .slice A82 x49.2.2.2.2.2.1.length c83, .slice A85 x49.2.2.2.2.2.2.length c86]), .box g175 40 k185, .box g208 40 k219, .box g209 40 k223, .sn S0] (by decide) rfl
                      refine hK _ _ ⟨fun _ _ => HS, ?_⟩
                      clear hK
                      refine d_two 16 17 (by kernel_rfl) (d_one 16 rfl _ (fun K hK => ?_)) (d_one 17 rfl _ (fun K hK => ?_))
                      · refine s_alloc h rfl rfl rfl (by decide) zi_A32_uint8 rfl (fun a w g242 h => ?_)
                        replace HS := h.m.pick [1, 2, 3, 4, 5, 6] [.box g27 75 (k143 ++ ([.slice A7 a1.2.1.length c8, .slice A12 a1.2.2.1.length c13, .int .i64 a1.2.2.2.1, .int .i64 a1.2.2.2.2.1, .int .i64 a1.2.2.2.2.2.1, .int .i64 a1.2.2.2.2.2.2])), .box g88 66 ([.int .i64 x49.1, .int .i64 x49.2.1, .int .i64 x49.2.2.1, .slice A72 x49.2.2.2.1.length c73, .slice A77 x49.2.2.2.2.1.length c78, .slice A82 x49.2.2.2.2.2.1.length c83, .slice A85 x49.2.2.2.2.2.2.length c86]), .box g175 40 k185, .box g208 40 k219, .box g209 40 k223, .sn S0] (by decide) rfl
                        refine hK _ _ ⟨fun _ _ => HS, ?_⟩
                        clear hK
                        refine d_alone 17 rfl (by kernel_rfl) (fun K hK => ?_)
                        refine s_alloc h rfl rfl rfl (by decide) zi_A32_uint8 rfl (fun a w g243 h => ?_)
                        replace HS := h.m.pick [2, 3, 4, 5, 6, 7] [.box g27 75 (k143 ++ ([.slice A7 a1.2.1.length c8, .slice A12 a1.2.2.1.length c13, .int .i64 a1.2.2.2.1, .int .i64 a1.2.2.2.2.1, .int .i64 a1.2.2.2.2.2.1, .int .i64 a1.2.2.2.2.2.2])), .box g88 66 ([.int .i64 x49.1, .int .i64 x49.2.1, .int .i64 x49.2.2.1, .slice A72 x49.2.2.2.1.length c73, .slice A77 x49.2.2.2.2.1.length c78, .slice A82 x49.2.2.2.2.2.1.length c83, .slice A85 x49.2.2.2.2.2.2.length c86]), .box g175 40 k185, .box g208 40 k219, .box g209 40 k223, .sn S0] (by decide) rfl
                        refine hK _ _ (fun _ _ => HS) ?_
                        clear hK
                        refine d_alone 18 rfl (by kernel_rfl) (fun K hK => ?_)
                        refine s_stW h rfl rfl rfl ag_A32_uint8 rfl (es := k229) rfl ((hq233).len.trans (by rw [hl232]; rfl)) (hq233).one 1 rfl (by first | rfl | simp_all) (fun a w h => ?_)
                        replace HS := h.m.pick [2, 3, 4, 5, 6, 7] [.box g27 75 (k143 ++ ([.slice A7 a1.2.1.length c8, .slice A12 a1.2.2.1.length c13, .int .i64 a1.2.2.2.1, .int .i64 a1.2.2.2.2.1, .int .i64 a1.2.2.2.2.2.1, .int .i64 a1.2.2.2.2.2.2])), .box g88 66 ([.int .i64 x49.1, .int .i64 x49.2.1, .int .i64 x49.2.2.1, .slice A72 x49.2.2.2.1.length c73, .slice A77 x49.2.2.2.2.1.length c78, .slice A82 x49.2.2.2.2.2.1.length c83, .slice A85 x49.2.2.2.2.2.2.length c86]), .box g175 40 k185, .box g208 40 k219, .box g209 40 k223, .sn S0] (by decide) rfl
                        refine hK _ _ (fun _ _ => HS) ?_
                        clear hK
                        refine d_alone 19 rfl (by kernel_rfl) (fun K hK => ?_)
                        refine s_stW h rfl rfl rfl ag_A32_uint8 rfl (es := k237) rfl ((hq241).len.trans (by rw [hl240]; rfl)) (hq241).one 0 rfl (by first | rfl | simp_all) (fun a w h => ?_)
                        replace HS := h.m.pick [2, 3, 4, 5, 6, 7] [.box g27 75 (k143 ++ ([.slice A7 a1.2.1.length c8, .slice A12 a1.2.2.1.length c13, .int .i64 a1.2.2.2.1, .int .i64 a1.2.2.2.2.1, .int .i64 a1.2.2.2.2.2.1, .int .i64 a1.2.2.2.2.2.2])), .box g88 66 ([.int .i64 x49.1, .int .i64 x49.2.1, .int .i64 x49.2.2.1, .slice A72 x49.2.2.2.1.length c73, .slice A77 x49.2.2.2.2.1.length c78, .slice A82 x49.2.2.2.2.2.1.length c83, .slice A85 x49.2.2.2.2.2.2.length c86]), .box g175 40 k185, .box g208 40 k219, .box g209 40 k223, .sn S0] (by decide) rfl
                        refine hK _ _ (fun _ _ => HS) ?_
                        clear hK
                        refine d_done (by kernel_rfl) (HE _ _ ?_) _
                        refine e_thenN ?_
                        have h := h.pick [2, 3, 4, 5, 6, 1, 0, 7] (by decide) rfl
                        exact ⟨g242, k229, g243, k237, hq233, hl232, hq241, hl240, h.has (by exact ⟨rfl, rfl, rfl, rfl, rfl, rfl, rfl, rfl, rfl, rfl, trivial⟩)⟩
                      · refine s_alloc h rfl rfl rfl (by decide) zi_A32_uint8 rfl (fun a w g243 h => ?_)
                        replace HS := h.m.pick [1, 2, 3, 4, 5, 6] [.box g27 75 (k143 ++ ([.slice A7 a1.2.1.length c8, .slice A12 a1.2.2.1.length c13, .int .i64 a1.2.2.2.1, .int .i64 a1.2.2.2.2.1, .int .i64 a1.2.2.2.2.2.1, .int .i64 a1.2.2.2.2.2.2])), .box g88 66 ([.int .i64 x49.1, .int .i64 x49.2.1, .int .i64 x49.2.2.1, .slice A72 x49.2.2.2.1.length c73, .slice A77 x49.2.2.2.2.1.length c78, .slice A82 x49.2.2.2.2.2.1.length c83, .slice A85 x49.2.2.2.2.2.2.length c86]), .box g175 40 k185, .box g208 40 k219, .box g209 40 k223, .sn S0] (by decide) rfl
                        refine hK _ _ ⟨fun _ _ => HS, ?_⟩
                        clear hK
                        refine d_alone 16 rfl (by kernel_rfl) (fun K hK => ?_)
                        refine s_alloc h rfl rfl rfl (by decide) zi_A32_uint8 rfl (fun a w g242 h => ?_)
                        replace HS := h.m.pick [2, 3, 4, 5, 6, 7] [.box g27 75 (k143 ++ ([.slice A7 a1.2.1.length c8, .slice A12 a1.2.2.1.length c13, .int .i64 a1.2.2.2.1, .int .i64 a1.2.2.2.2.1, .int .i64 a1.2.2.2.2.2.1, .int .i64 a1.2.2.2.2.2.2])), .box g88 66 ([.int .i64 x49.1, .int .i64 x49.2.1, .int .i64 x49.2.2.1, .slice A72 x49.2.2.2.1.length c73, .slice A77 x49.2.2.2.2.1.length c78, .slice A82 x49.2.2.2.2.2.1.length c83, .slice A85 x49.2.2.2.2.2.2.length c86]), .box g175 40 k185, .box g208 40 k219, .box g209 40 k223, .sn S0] (by decide) rfl
                        refine hK _ _ (fun _ _ => HS) ?_
                        clear hK
                        refine d_alone 18 rfl (by kernel_rfl) (fun K hK => ?_)
                        refine s_stW h rfl rfl rfl ag_A32_uint8 rfl (es := k229) rfl ((hq233).len.trans (by rw [hl232]; rfl)) (hq233).one 0 rfl (by first | rfl | simp_all) (fun a w h => ?_)
                        replace HS := h.m.pick [2, 3, 4, 5, 6, 7] [.box g27 75 (k143 ++ ([.slice A7 a1.2.1.length c8, .slice A12 a1.2.2.1.length c13, .int .i64 a1.2.2.2.1, .int .i64 a1.2.2.2.2.1, .int .i64 a1.2.2.2.2.2.1, .int .i64 a1.2.2.2.2.2.2])), .box g88 66 ([.int .i64 x49.1, .int .i64 x49.2.1, .int .i64 x49.2.2.1, .slice A72 x49.2.2.2.1.length c73, .slice A77 x49.2.2.2.2.1.length c78, .slice A82 x49.2.2.2.2.2.1.length c83, .slice A85 x49.2.2.2.2.2.2.length c86]), .box g175 40 k185, .box g208 40 k219, .box g209 40 k223, .sn S0] (by decide) rfl
                        refine hK _ _ (fun _ _ => HS) ?_
                        clear hK
                        refine d_alone 19 rfl (by kernel_rfl) (fun K hK => ?_)
                        refine s_stW h rfl rfl rfl ag_A32_uint8 rfl (es := k237) rfl ((hq241).len.trans (by rw [hl240]; rfl)) (hq241).one 1 rfl (by first | rfl | simp_all) (fun a w h => ?_)
                        replace HS := h.m.pick [2, 3, 4, 5, 6, 7] [.box g27 75 (k143 ++ ([.slice A7 a1.2.1.length c8, .slice A12 a1.2.2.1.length c13, .int .i64 a1.2.2.2.1, .int .i64 a1.2.2.2.2.1, .int .i64 a1.2.2.2.2.2.1, .int .i64 a1.2.2.2.2.2.2])), .box g88 66 ([.int .i64 x49.1, .int .i64 x49.2.1, .int .i64 x49.2.2.1, .slice A72 x49.2.2.2.1.length c73, .slice A77 x49.2.2.2.2.1.length c78, .slice A82 x49.2.2.2.2.2.1.length c83, .slice A85 x49.2.2.2.2.2.2.length c86]), .box g175 40 k185, .box g208 40 k219, .box g209 40 k223, .sn S0] (by decide) rfl
                        refine hK _ _ (fun _ _ => HS) ?_
                        clear hK
                        refine d_done (by kernel_rfl) (HE _ _ ?_) _
                        refine e_thenN ?_
                        have h := h.pick [2, 3, 4, 5, 6, 0, 1, 7] (by decide) rfl
                        exact ⟨g242, k229, g243, k237, hq233, hl232, hq241, hl240, h.has (by exact ⟨rfl, rfl, rfl, rfl, rfl, rfl, rfl, rfl, rfl, rfl, trivial⟩)⟩
                    · refine s_alloc h rfl rfl rfl (by decide) zi_A32_uint8 rfl (fun a w g242 h => ?_)
                      replace HS := h.m.pick [1, 2, 3, 4, 5, 6] [.box g27 75 (k143 ++ ([.slice A7 a1.2.1.length c8, .slice A12 a1.2.2.1.length c13, .int .i64 a1.2.2.2.1, .int .i64 a1.2.2.2.2.1, .int .i64 a1.2.2.2.2.2.1, .int .i64 a1.2.2.2.2.2.2])), .box g88 66 ([.int .i64 x49.1, .int .i64 x49.2.1, .int .i64 x49.2.2.1, .slice A72 x49.2.2.2.1.length c73, .slice A77 x49.2.2.2.2.1.length c78, .slice A82 x49.2.2.2.2.2.1.length c83, .slice A85 x49.2.2.2.2.2.2.length c86]), .box g175 40 k185, .box g208 40 k219, .box g209 40 k223, .sn S0] (by decide) rfl
                      refine hK _ _ ⟨fun _ _ => HS, ?_⟩
                      clear hK
                      refine d_two 15 17 (by kernel_rfl) (d_one 15 rfl _ (fun K hK => ?_)) (d_one 17 rfl _ (fun K hK => ?_))
                      · have hX := chatelaineref23_Node_ok Fu (S0 := snapAll _) A85 c86 x49.2.2.2.2.2.2 (hs87.mono (h.m.leAll (i := 6) rfl)) (w64 ((i64_or x178 1) * x180)) (w64_r _) x180 hr181 _ h235 _ h.startAll
                        refine q_callX hX h rfl rfl rfl (by decide) Try.func26 rfl rfl rfl (fun a w v L1 S1 hR hb1 h => ?_)
                        obtain ⟨k237, rfl, rfl, hv238, _⟩ := hR
                        obtain ⟨hs239, hl240⟩ := hv238
                        have hq241 := hs239.fl (S' := S0) fl_8
                        replace HS := h.m.pick [1, 2, 3, 4, 5, 6] [.box g27 75 (k143 ++ ([.slice A7 a1.2.1.length c8, .slice A12 a1.2.2.1.length c13, .int .i64 a1.2.2.2.1, .int .i64 a1.2.2.2.2.1, .int .i64 a1.2.2.2.2.2.1, .int .i64 a1.2.2.2.2.2.2])), .box g88 66 ([.int .i64 x49.1, .int .i64 x49.2.1, .int .i64 x49.2.2.1, .slice A72 x49.2.2.2.1.length c73, .slice A77 x49.2.2.2.2.1.length c78, .slice A82 x49.2.2.2.2.2.1.length c83, .slice A85 x49.2.2.2.2.2.2.length c86]), .box g175 40 k185, .box g208 40 k219, .box g209 40 k223, .sn S0] (by decide) rfl
                        refine hK _ _ ⟨fun _ _ => HS, ?_⟩
                        clear hK
                        refine d_alone 17 rfl (by kernel_rfl) (fun K hK => ?_)
                        refine s_alloc h rfl rfl rfl (by decide) zi_A32_uint8 rfl (fun a w g243 h => ?_)
                        replace HS := h.m.pick [2, 3, 4, 5, 6, 7] [.box g27 75 (k143 ++ ([.slice A7 a1.2.1.length c8, .slice A12 a1.2.2.1.length c13, .int .i64 a1.2.2.2.1, .int .i64 a1.2.2.2.2.1, .int .i64 a1.2.2.2.2.2.1, .int .i64 a1.2.2.2.2.2.2])), .box g88 66 ([.int .i64 x49.1, .int .i64 x49.2.1, .int .i64 x49.2.2.1, .slice A72 x49.2.2.2.1.length c73, .slice A77 x49.2.2.2.2.1.length c78, .slice A82 x49.2.2.2.2.2.1.length c83, .slice A85 x49.2.2.2.2.2.2.length c86]), .box g175 40 k185, .box g208 40 k219, .box g209 40 k223, .sn S0] (by decide) rfl
                        refine hK _ _ (fun _ _ => HS) ?_
                        clear hK
                        refine d_alone 18 rfl (by kernel_rfl) (fun K hK => ?_)
                        refine s_stW h rfl rfl rfl ag_A32_uint8 rfl (es := k229) rfl ((hq233).len.trans (by rw [hl232]; rfl)) (hq233).one 1 rfl (by first | rfl | simp_all) (fun a w h => ?_)
                        replace HS := h.m.pick [2, 3, 4, 5, 6, 7] [.box g27 75 (k143 ++ ([.slice A7 a1.2.1.length c8, .slice A12 a1.2.2.1.length c13, .int .i64 a1.2.2.2.1, .int .i64 a1.2.2.2.2.1, .int .i64 a1.2.2.2.2.2.1, .int .i64 a1.2.2.2.2.2.2])), .box g88 66 ([.int .i64 x49.1, .int .i64 x49.2.1, .int .i64 x49.2.2.1, .slice A72 x49.2.2.2.1.length c73, .slice A77 x49.2.2.2.2.1.length c78, .slice A82 x49.2.2.2.2.2.1.length c83, .slice A85 x49.2.2.2.2.2.2.length c86]), .box g175 40 k185, .box g208 40 k219, .box g209 40 k223, .sn S0] (by decide) rfl
                        refine hK _ _ (fun _ _ => HS) ?_
                        clear hK
                        refine d_alone 19 rfl (by kernel_rfl) (fun K hK => ?_)
                        refine s_stW h rfl rfl rfl ag_A32_uint8 rfl (es := k237) rfl ((hq241).len.trans (by rw [hl240]; rfl)) (hq241).one 0 rfl (by first | rfl | simp_all) (fun a w h => ?_)
                        replace HS := h.m.pick [2, 3, 4, 5, 6, 7] [.box g27 75 (k143 ++ ([.slice A7 a1.2.1.length c8, .slice A12 a1.2.2.1.length c13, .int .i64 a1.2.2.2.1, .int .i64 a1.2.2.2.2.1, .int .i64 a1.2.2.2.2.2.1, .int .i64 a1.2.2.2.2.2.2])), .box g88 66 ([.int .i64 x49.1, .int .i64 x49.2.1, .int .i64 x49.2.2.1, .slice A72 x49.2.2.2.1.length c73, .slice A77 x49.2.2.2.2.1.length c78, .slice A82 x49.2.2.2.2.2.1.length c83, .slice A85 x49.2.2.2.2.2.2.length c86]), .box g175 40 k185, .box g208 40 k219, .box g209 40 k223, .sn S0] (by decide) rfl
                        refine hK _ _ (fun _ _ => HS) ?_
                        clear hK
                        refine d_done (by kernel_rfl) (HE _ _ ?_) _
                        refine e_thenN ?_
                        have h := h.pick [2, 3, 4, 5, 6, 1, 0, 7] (by decide) rfl
                        exact ⟨g242, k229, g243, k237, hq233, hl232, hq241, hl240, h.has (by exact ⟨rfl, rfl, rfl, rfl, rfl, rfl, rfl, rfl, rfl, rfl, trivial⟩)⟩
                      · refine s_alloc h rfl rfl rfl (by decide) zi_A32_uint8 rfl (fun a w g243 h => ?_)
                        replace HS := h.m.pick [2, 3, 4, 5, 6, 7] [.box g27 75 (k143 ++ ([.slice A7 a1.2.1.length c8, .slice A12 a1.2.2.1.length c13, .int .i64 a1.2.2.2.1, .int .i64 a1.2.2.2.2.1, .int .i64 a1.2.2.2.2.2.1, .int .i64 a1.2.2.2.2.2.2])), .box g88 66 ([.int .i64 x49.1, .int .i64 x49.2.1, .int .i64 x49.2.2.1, .slice A72 x49.2.2.2.1.length c73, .slice A77 x49.2.2.2.2.1.length c78, .slice A82 x49.2.2.2.2.2.1.length c83, .slice A85 x49.2.2.2.2.2.2.length c86]), .box g175 40 k185, .box g208 40 k219, .box g209 40 k223, .sn S0] (by decide) rfl
                        refine hK _ _ ⟨fun _ _ => HS, ?_⟩
                        clear hK
                        refine d_alone 15 rfl (by kernel_rfl) (fun K hK => ?_)
                        have hX := chatelaineref23_Node_ok Fu (S0 := snapAll _) A85 c86 x49.2.2.2.2.2.2 (hs87.mono (h.m.leAll (i := 7) rfl)) (w64 ((i64_or x178 1) * x180)) (w64_r _) x180 hr181 _ h235 _ h.startAll
                        refine q_callX hX h rfl rfl rfl (by decide) Try.func26 rfl rfl rfl (fun a w v L1 S1 hR hb1 h => ?_)
                        obtain ⟨k237, rfl, rfl, hv238, _⟩ := hR
                        obtain ⟨hs239, hl240⟩ := hv238
                        have hq241 := hs239.fl (S' := S0) fl_8
                        replace HS := h.m.pick [2, 3, 4, 5, 6, 7] [.box g27 75 (k143 ++ ([.slice A7 a1.2.1.length c8, .slice A12 a1.2.2.1.length c13, .int .i64 a1.2.2.2.1, .int .i64 a1.2.2.2.2.1, .int .i64 a1.2.2.2.2.2.1, .int .i64 a1.2.2.2.2.2.2])), .box g88 66 ([.int .i64 x49.1, .int .i64 x49.2.1, .int .i64 x49.2.2.1, .slice A72 x49.2.2.2.1.length c73, .slice A77 x49.2.2.2.2.1.length c78, .slice A82 x49.2.2.2.2.2.1.length c83, .slice A85 x49.2.2.2.2.2.2.length c86]), .box g175 40 k185, .box g208 40 k219, .box g209 40 k223, .sn S0] (by decide) rfl
                        refine hK _ _ (fun _ _ => HS) ?_
                        clear hK
                        refine d_alone 18 rfl (by kernel_rfl) (fun K hK => ?_)
                        refine s_stW h rfl rfl rfl ag_A32_uint8 rfl (es := k229) rfl ((hq233).len.trans (by rw [hl232]; rfl)) (hq233).one 1 rfl (by first | rfl | simp_all) (fun a w h => ?_)
                        replace HS := h.m.pick [2, 3, 4, 5, 6, 7] [.box g27 75 (k143 ++ ([.slice A7 a1.2.1.length c8, .slice A12 a1.2.2.1.length c13, .int .i64 a1.2.2.2.1, .int .i64 a1.2.2.2.2.1, .int .i64 a1.2.2.2.2.2.1, .int .i64 a1.2.2.2.2.2.2])), .box g88 66 ([.int .i64 x49.1, .int .i64 x49.2.1, .int .i64 x49.2.2.1, .slice A72 x49.2.2.2.1.length c73, .slice A77 x49.2.2.2.2.1.length c78, .slice A82 x49.2.2.2.2.2.1.length c83, .slice A85 x49.2.2.2.2.2.2.length c86]), .box g175 40 k185, .box g208 40 k219, .box g209 40 k223, .sn S0] (by decide) rfl
                        refine hK _ _ (fun _ _ => HS) ?_
                        clear hK
                        refine d_alone 19 rfl (by kernel_rfl) (fun K hK => ?_)
                        refine s_stW h rfl rfl rfl ag_A32_uint8 rfl (es := k237) rfl ((hq241).len.trans (by rw [hl240]; rfl)) (hq241).one 0 rfl (by first | rfl | simp_all) (fun a w h => ?_)
                        replace HS := h.m.pick [2, 3, 4, 5, 6, 7] [.box g27 75 (k143 ++ ([.slice A7 a1.2.1.length c8, .slice A12 a1.2.2.1.length c13, .int .i64 a1.2.2.2.1, .int .i64 a1.2.2.2.2.1, .int .i64 a1.2.2.2.2.2.1, .int .i64 a1.2.2.2.2.2.2])), .box g88 66 ([.int .i64 x49.1, .int .i64 x49.2.1, .int .i64 x49.2.2.1, .slice A72 x49.2.2.2.1.length c73, .slice A77 x49.2.2.2.2.1.length c78, .slice A82 x49.2.2.2.2.2.1.length c83, .slice A85 x49.2.2.2.2.2.2.length c86]), .box g175 40 k185, .box g208 40 k219, .box g209 40 k223, .sn S0] (by decide) rfl
                        refine hK _ _ (fun _ _ => HS) ?_
                        clear hK
                        refine d_done (by kernel_rfl) (HE _ _ ?_) _
                        refine e_thenN ?_
                        have h := h.pick [2, 3, 4, 5, 6, 1, 0, 7] (by decide) rfl
                        exact ⟨g242, k229, g243, k237, hq233, hl232, hq241, hl240, h.has (by exact ⟨rfl, rfl, rfl, rfl, rfl, rfl, rfl, rfl, rfl, rfl, trivial⟩)⟩
                    · refine s_alloc h rfl rfl rfl (by decide) zi_A32_uint8 rfl (fun a w g243 h => ?_)
                      replace HS := h.m.pick [1, 2, 3, 4, 5, 6] [.box g27 75 (k143 ++ ([.slice A7 a1.2.1.length c8, .slice A12 a1.2.2.1.length c13, .int .i64 a1.2.2.2.1, .int .i64 a1.2.2.2.2.1, .int .i64 a1.2.2.2.2.2.1, .int .i64 a1.2.2.2.2.2.2])), .box g88 66 ([.int .i64 x49.1, .int .i64 x49.2.1, .int .i64 x49.2.2.1, .slice A72 x49.2.2.2.1.length c73, .slice A77 x49.2.2.2.2.1.length c78, .slice A82 x49.2.2.2.2.2.1.length c83, .slice A85 x49.2.2.2.2.2.2.length c86]), .box g175 40 k185, .box g208 40 k219, .box g209 40 k223, .sn S0] (by decide) rfl
                      refine hK _ _ ⟨fun _ _ => HS, ?_⟩
                      clear hK
                      refine d_two 15 16 (by kernel_rfl) (d_one 15 rfl _ (fun K hK => ?_)) (d_one 16 rfl _ (fun K hK => ?_))
                      · have hX := chatelaineref23_Node_ok Fu (S0 := snapAll _) A85 c86 x49.2.2.2.2.2.2 (hs87.mono (h.m.leAll (i := 6) rfl)) (w64 ((i64_or x178 1) * x180)) (w64_r _) x180 hr181 _ h235 _ h.startAll
                        refine q_callX hX h rfl rfl rfl (by decide) Try.func26 rfl rfl rfl (fun a w v L1 S1 hR hb1 h => ?_)
                        obtain ⟨k237, rfl, rfl, hv238, _⟩ := hR
                        obtain ⟨hs239, hl240⟩ := hv238
                        have hq241 := hs239.fl (S' := S0) fl_8
                        replace HS := h.m.pick [1, 2, 3, 4, 5, 6] [.box g27 75 (k143 ++ ([.slice A7 a1.2.1.length c8, .slice A12 a1.2.2.1.length c13, .int .i64 a1.2.2.2.1, .int .i64 a1.2.2.2.2.1, .int .i64 a1.2.2.2.2.2.1, .int .i64 a1.2.2.2.2.2.2])), .box g88 66 ([.int .i64 x49.1, .int .i64 x49.2.1, .int .i64 x49.2.2.1, .slice A72 x49.2.2.2.1.length c73, .slice A77 x49.2.2.2.2.1.length c78, .slice A82 x49.2.2.2.2.2.1.length c83, .slice A85 x49.2.2.2.2.2.2.length c86]), .box g175 40 k185, .box g208 40 k219, .box g209 40 k223, .sn S0] (by decide) rfl
                        refine hK _ _ ⟨fun _ _ => HS, ?_⟩
                        clear hK
                        refine d_alone 16 rfl (by kernel_rfl) (fun K hK => ?_)
                        refine s_alloc h rfl rfl rfl (by decide) zi_A32_uint8 rfl (fun a w g242 h => ?_)
                        replace HS := h.m.pick [2, 3, 4, 5, 6, 7] [.box g27 75 (k143 ++ ([.slice A7 a1.2.1.length c8, .slice A12 a1.2.2.1.length c13, .int .i64 a1.2.2.2.1, .int .i64 a1.2.2.2.2.1, .int .i64 a1.2.2.2.2.2.1, .int .i64 a1.2.2.2.2.2.2])), .box g88 66 ([.int .i64 x49.1, .int .i64 x49.2.1, .int .i64 x49.2.2.1, .slice A72 x49.2.2.2.1.length c73, .slice A77 x49.2.2.2.2.1.length c78, .slice A82 x49.2.2.2.2.2.1.length c83, .slice A85 x49.2.2.2.2.2.2.length c86]), .box g175 40 k185, .box g208 40 k219, .box g209 40 k223, .sn S0] (by decide) rfl
                        refine hK _ _ (fun _ _ => HS) ?_
                        clear hK
                        refine d_alone 18 rfl (by kernel_rfl) (fun K hK => ?_)
                        refine s_stW h rfl rfl rfl ag_A32_uint8 rfl (es := k229) rfl ((hq233).len.trans (by rw [hl232]; rfl)) (hq233).one 0 rfl (by first | rfl | simp_all) (fun a w h => ?_)
                        replace HS := h.m.pick [2, 3, 4, 5, 6, 7] [.box g27 75 (k143 ++ ([.slice A7 a1.2.1.length c8, .slice A12 a1.2.2.1.length c13, .int .i64 a1.2.2.2.1, .int .i64 a1.2.2.2.2.1, .int .i64 a1.2.2.2.2.2.1, .int .i64 a1.2.2.2.2.2.2])), .box g88 66 ([.int .i64 x49.1, .int .i64 x49.2.1, .int .i64 x49.2.2.1, .slice A72 x49.2.2.2.1.length c73, .slice A77 x49.2.2.2.2.1.length c78, .slice A82 x49.2.2.2.2.2.1.length c83, .slice A85 x49.2.2.2.2.2.2.length c86]), .box g175 40 k185, .box g208 40 k219, .box g209 40 k223, .sn S0] (by decide) rfl
                        refine hK _ _ (fun _ _ => HS) ?_
                        clear hK
                        refine d_alone 19 rfl (by kernel_rfl) (fun K hK => ?_)
                        refine s_stW h rfl rfl rfl ag_A32_uint8 rfl (es := k237) rfl ((hq241).len.trans (by rw [hl240]; rfl)) (hq241).one 1 rfl (by first | rfl | simp_all) (fun a w h => ?_)
                        replace HS := h.m.pick [2, 3, 4, 5, 6, 7] [.box g27 75 (k143 ++ ([.slice A7 a1.2.1.length c8, .slice A12 a1.2.2.1.length c13, .int .i64 a1.2.2.2.1, .int .i64 a1.2.2.2.2.1, .int .i64 a1.2.2.2.2.2.1, .int .i64 a1.2.2.2.2.2.2])), .box g88 66 ([.int .i64 x49.1, .int .i64 x49.2.1, .int .i64 x49.2.2.1, .slice A72 x49.2.2.2.1.length c73, .slice A77 x49.2.2.2.2.1.length c78, .slice A82 x49.2.2.2.2.2.1.length c83, .slice A85 x49.2.2.2.2.2.2.length c86]), .box g175 40 k185, .box g208 40 k219, .box g209 40 k223, .sn S0] (by decide) rfl
                        refine hK _ _ (fun _ _ => HS) ?_
                        clear hK
                        refine d_done (by kernel_rfl) (HE _ _ ?_) _
                        refine e_thenN ?_
                        have h := h.pick [2, 3, 4, 5, 6, 0, 1, 7] (by decide) rfl
                        exact ⟨g242, k229, g243, k237, hq233, hl232, hq241, hl240, h.has (by exact ⟨rfl, rfl, rfl, rfl, rfl, rfl, rfl, rfl, rfl, rfl, trivial⟩)⟩
                      · refine s_alloc h rfl rfl rfl (by decide) zi_A32_uint8 rfl (fun a w g242 h => ?_)
                        replace HS := h.m.pick [2, 3, 4, 5, 6, 7] [.box g27 75 (k143 ++ ([.slice A7 a1.2.1.length c8, .slice A12 a1.2.2.1.length c13, .int .i64 a1.2.2.2.1, .int .i64 a1.2.2.2.2.1, .int .i64 a1.2.2.2.2.2.1, .int .i64 a1.2.2.2.2.2.2])), .box g88 66 ([.int .i64 x49.1, .int .i64 x49.2.1, .int .i64 x49.2.2.1, .slice A72 x49.2.2.2.1.length c73, .slice A77 x49.2.2.2.2.1.length c78, .slice A82 x49.2.2.2.2.2.1.length c83, .slice A85 x49.2.2.2.2.2.2.length c86]), .box g175 40 k185, .box g208 40 k219, .box g209 40 k223, .sn S0] (by decide) rfl
                        refine hK _ _ ⟨fun _ _ => HS, ?_⟩
                        clear hK
                        refine d_alone 15 rfl (by kernel_rfl) (fun K hK => ?_)
                        have hX := chatelaineref23_Node_ok Fu (S0 := snapAll _) A85 c86 x49.2.2.2.2.2.2 (hs87.mono (h.m.leAll (i := 7) rfl)) (w64 ((i64_or x178 1) * x180)) (w64_r _) x180 hr181 _ h235 _ h.startAll
                        refine q_callX hX h rfl rfl rfl (by decide) Try.func26 rfl rfl rfl (fun a w v L1 S1 hR hb1 h => ?_)
                        obtain ⟨k237, rfl, rfl, hv238, _⟩ := hR
                        obtain ⟨hs239, hl240⟩ := hv238
                        have hq241 := hs239.fl (S' := S0) fl_8
                        replace HS := h.m.pick [2, 3, 4, 5, 6, 7] [.box g27 75 (k143 ++ ([.slice A7 a1.2.1.length c8, .slice A12 a1.2.2.1.length c13, .int .i64 a1.2.2.2.1, .int .i64 a1.2.2.2.2.1, .int .i64 a1.2.2.2.2.2.1, .int .i64 a1.2.2.2.2.2.2])), .box g88 66 ([.int .i64 x49.1, .int .i64 x49.2.1, .int .i64 x49.2.2.1, .slice A72 x49.2.2.2.1.length c73, .slice A77 x49.2.2.2.2.1.length c78, .slice A82 x49.2.2.2.2.2.1.length c83, .slice A85 x49.2.2.2.2.2.2.length c86]), .box g175 40 k185, .box g208 40 k219, .box g209 40 k223, .sn S0] (by decide) rfl
                        refine hK _ _ (fun _ _ => HS) ?_
                        clear hK
                        refine d_alone 18 rfl (by kernel_rfl) (fun K hK => ?_)
                        refine s_stW h rfl rfl rfl ag_A32_uint8 rfl (es := k229) rfl ((hq233).len.trans (by rw [hl232]; rfl)) (hq233).one 0 rfl (by first | rfl | simp_all) (fun a w h => ?_)
                        replace HS := h.m.pick [2, 3, 4, 5, 6, 7] [.box g27 75 (k143 ++ ([.slice A7 a1.2.1.length c8, .slice A12 a1.2.2.1.length c13, .int .i64 a1.2.2.2.1, .int .i64 a1.2.2.2.2.1, .int .i64 a1.2.2.2.2.2.1, .int .i64 a1.2.2.2.2.2.2])), .box g88 66 ([.int .i64 x49.1, .int .i64 x49.2.1, .int .i64 x49.2.2.1, .slice A72 x49.2.2.2.1.length c73, .slice A77 x49.2.2.2.2.1.length c78, .slice A82 x49.2.2.2.2.2.1.length c83, .slice A85 x49.2.2.2.2.2.2.length c86]), .box g175 40 k185, .box g208 40 k219, .box g209 40 k223, .sn S0] (by decide) rfl
                        refine hK _ _ (fun _ _ => HS) ?_
                        clear hK
                        refine d_alone 19 rfl (by kernel_rfl) (fun K hK => ?_)
                        refine s_stW h rfl rfl rfl ag_A32_uint8 rfl (es := k237) rfl ((hq241).len.trans (by rw [hl240]; rfl)) (hq241).one 1 rfl (by first | rfl | simp_all) (fun a w h => ?_)
                        replace HS := h.m.pick [2, 3, 4, 5, 6, 7] [.box g27 75 (k143 ++ ([.slice A7 a1.2.1.length c8, .slice A12 a1.2.2.1.length c13, .int .i64 a1.2.2.2.1, .int .i64 a1.2.2.2.2.1, .int .i64 a1.2.2.2.2.2.1, .int .i64 a1.2.2.2.2.2.2])), .box g88 66 ([.int .i64 x49.1, .int .i64 x49.2.1, .int .i64 x49.2.2.1, .slice A72 x49.2.2.2.1.length c73, .slice A77 x49.2.2.2.2.1.length c78, .slice A82 x49.2.2.2.2.2.1.length c83, .slice A85 x49.2.2.2.2.2.2.length c86]), .box g175 40 k185, .box g208 40 k219, .box g209 40 k223, .sn S0] (by decide) rfl
                        refine hK _ _ (fun _ _ => HS) ?_
                        clear hK
                        refine d_done (by kernel_rfl) (HE _ _ ?_) _
                        refine e_thenN ?_
                        have h := h.pick [2, 3, 4, 5, 6, 0, 1, 7] (by decide) rfl
                        exact ⟨g242, k229, g243, k237, hq233, hl232, hq241, hl240, h.has (by exact ⟨rfl, rfl, rfl, rfl, rfl, rfl, rfl, rfl, rfl, rfl, trivial⟩)⟩
                  · refine s_alloc h rfl rfl rfl (by decide) zi_A32_uint8 rfl (fun a w g242 h => ?_)
                    replace HS := h.m.pick [1, 2, 3, 4, 5, 6] [.box g27 75 (k143 ++ ([.slice A7 a1.2.1.length c8, .slice A12 a1.2.2.1.length c13, .int .i64 a1.2.2.2.1, .int .i64 a1.2.2.2.2.1, .int .i64 a1.2.2.2.2.2.1, .int .i64 a1.2.2.2.2.2.2])), .box g88 66 ([.int .i64 x49.1, .int .i64 x49.2.1, .int .i64 x49.2.2.1, .slice A72 x49.2.2.2.1.length c73, .slice A77 x49.2.2.2.2.1.length c78, .slice A82 x49.2.2.2.2.2.1.length c83, .slice A85 x49.2.2.2.2.2.2.length c86]), .box g175 40 k185, .box g208 40 k219, .box g209 40 k223, .sn S0] (by decide) rfl
                    refine hK _ _ ⟨fun _ _ => HS, ?_⟩
                    clear hK
                    refine d_two 7 17 (by kernel_rfl) (d_one 7 rfl _ (fun K hK => ?_)) (d_one 17 rfl _ (fun K hK => ?_))
                    · have hX := chatelaineref23_Node_ok Fu (S0 := snapAll _) A85 c86 x49.2.2.2.2.2.2 (hs87.mono (h.m.leAll (i := 6) rfl)) (w64 ((i64_andNot x178 1) * x180)) (w64_r _) x180 hr181 _ h227 _ h.startAll
                      refine q_callX hX h rfl rfl rfl (by decide) Try.func26 rfl rfl rfl (fun a w v L1 S1 hR hb1 h => ?_)
                      obtain ⟨k229, rfl, rfl, hv230, _⟩ := hR
                      obtain ⟨hs231, hl232⟩ := hv230
                      have hq233 := hs231.fl (S' := S0) fl_8
                      replace HS := h.m.pick [1, 2, 3, 4, 5, 6] [.box g27 75 (k143 ++ ([.slice A7 a1.2.1.length c8, .slice A12 a1.2.2.1.length c13, .int .i64 a1.2.2.2.1, .int .i64 a1.2.2.2.2.1, .int .i64 a1.2.2.2.2.2.1, .int .i64 a1.2.2.2.2.2.2])), .box g88 66 ([.int .i64 x49.1, .int .i64 x49.2.1, .int .i64 x49.2.2.1, .slice A72 x49.2.2.2.1.length c73, .slice A77 x49.2.2.2.2.1.length c78, .slice A82 x49.2.2.2.2.2.1.length c83, .slice A85 x49.2.2.2.2.2.2.length c86]), .box g175 40 k185, .box g208 40 k219, .box g209 40 k223, .sn S0] (by decide) rfl
                      refine hK _ _ ⟨fun _ _ => HS, ?_⟩
                      clear hK
                      refine d_two 15 17 (by kernel_rfl) (d_one 15 rfl _ (fun K hK => ?_)) (d_one 17 rfl _ (fun K hK => ?_))
                      · have hX := chatelaineref23_Node_ok Fu (S0 := snapAll _) A85 c86 x49.2.2.2.2.2.2 (hs87.mono (h.m.leAll (i := 6) rfl)) (w64 ((i64_or x178 1) * x180)) (w64_r _) x180 hr181 _ h235 _ h.startAll
                        refine q_callX hX h rfl rfl rfl (by decide) Try.func26 rfl rfl rfl (fun a w v L1 S1 hR hb1 h => ?_)
                        obtain ⟨k237, rfl, rfl, hv238, _⟩ := hR
                        obtain ⟨hs239, hl240⟩ := hv238
                        have hq241 := hs239.fl (S' := S0) fl_8
                        replace HS := h.m.pick [1, 2, 3, 4, 5, 6] [.box g27 75 (k143 ++ ([.slice A7 a1.2.1.length c8, .slice A12 a1.2.2.1.length c13, .int .i64 a1.2.2.2.1, .int .i64 a1.2.2.2.2.1, .int .i64 a1.2.2.2.2.2.1, .int .i64 a1.2.2.2.2.2.2])), .box g88 66 ([.int .i64 x49.1, .int .i64 x49.2.1, .int .i64 x49.2.2.1, .slice A72 x49.2.2.2.1.length c73, .slice A77 x49.2.2.2.2.1.length c78, .slice A82 x49.2.2.2.2.2.1.length c83, .slice A85 x49.2.2.2.2.2.2.length c86]), .box g175 40 k185, .box g208 40 k219, .box g209 40 k223, .sn S0] (by decide) rfl
                        refine hK _ _ ⟨fun _ _ => HS, ?_⟩
                        clear hK
                        refine d_alone 17 rfl (by kernel_rfl) (fun K hK => ?_)
                        refine s_alloc h rfl rfl rfl (by decide) zi_A32_uint8 rfl (fun a w g243 h => ?_)
                        replace HS := h.m.pick [2, 3, 4, 5, 6, 7] [.box g27 75 (k143 ++ ([.slice A7 a1.2.1.length c8, .slice A12 a1.2.2.1.length c13, .int .i64 a1.2.2.2.1, .int .i64 a1.2.2.2.2.1, .int .i64 a1.2.2.2.2.2.1, .int .i64 a1.2.2.2.2.2.2])), .box g88 66 ([.int .i64 x49.1, .int .i64 x49.2.1, .int .i64 x49.2.2.1, .slice A72 x49.2.2.2.1.length c73, .slice A77 x49.2.2.2.2.1.length c78, .slice A82 x49.2.2.2.2.2.1.length c83, .slice A85 x49.2.2.2.2.2.2.length c86]), .box g175 40 k185, .box g208 40 k219, .box g209 40 k223, .sn S0] (by decide) rfl
                        refine hK _ _ (fun _ _ => HS) ?_
                        clear hK
                        refine d_alone 18 rfl (by kernel_rfl) (fun K hK => ?_)
                        refine s_stW h rfl rfl rfl ag_A32_uint8 rfl (es := k229) rfl ((hq233).len.trans (by rw [hl232]; rfl)) (hq233).one 1 rfl (by first | rfl | simp_all) (fun a w h => ?_)
                        replace HS := h.m.pick [2, 3, 4, 5, 6, 7] [.box g27 75 (k143 ++ ([.slice A7 a1.2.1.length c8, .slice A12 a1.2.2.1.length c13, .int .i64 a1.2.2.2.1, .int .i64 a1.2.2.2.2.1, .int .i64 a1.2.2.2.2.2.1, .int .i64 a1.2.2.2.2.2.2])), .box g88 66 ([.int .i64 x49.1, .int .i64 x49.2.1, .int .i64 x49.2.2.1, .slice A72 x49.2.2.2.1.length c73, .slice A77 x49.2.2.2.2.1.length c78, .slice A82 x49.2.2.2.2.2.1.length c83, .slice A85 x49.2.2.2.2.2.2.length c86]), .box g175 40 k185, .box g208 40 k219, .box g209 40 k223, .sn S0] (by decide) rfl
                        refine hK _ _ (fun _ _ => HS) ?_
                        clear hK
                        refine d_alone 19 rfl (by kernel_rfl) (fun K hK => ?_)
                        refine s_stW h rfl rfl rfl ag_A32_uint8 rfl (es := k237) rfl ((hq241).len.trans (by rw [hl240]; rfl)) (hq241).one 0 rfl (by first | rfl | simp_all) (fun a w h => ?_)
                        replace HS := h.m.pick [2, 3, 4, 5, 6, 7] [.box g27 75 (k143 ++ ([.slice A7 a1.2.1.length c8, .slice A12 a1.2.2.1.length c13, .int .i64 a1.2.2.2.1, .int .i64 a1.2.2.2.2.1, .int .i64 a1.2.2.2.2.2.1, .int .i64 a1.2.2.2.2.2.2])), .box g88 66 ([.int .i64 x49.1, .int .i64 x49.2.1, .int .i64 x49.2.2.1, .slice A72 x49.2.2.2.1.length c73, .slice A77 x49.2.2.2.2.1.length c78, .slice A82 x49.2.2.2.2.2.1.length c83, .slice A85 x49.2.2.2.2.2.2.length c86]), .box g175 40 k185, .box g208 40 k219, .box g209 40 k223, .sn S0] (by decide) rfl
                        refine hK _ _ (fun _ _ => HS) ?_
                        clear hK
                        refine d_done (by kernel_rfl) (HE _ _ ?_) _
                        refine e_thenN ?_
                        have h := h.pick [2, 3, 4, 5, 6, 1, 0, 7] (by decide) rfl
                        exact ⟨g242, k229, g243, k237, hq233, hl232, hq241, hl240, h.has (by exact ⟨rfl, rfl, rfl, rfl, rfl, rfl, rfl, rfl, rfl, rfl, trivial⟩)⟩
                      · refine s_alloc h rfl rfl rfl (by decide) zi_A32_uint8 rfl (fun a w g243 h => ?_)
                        replace HS := h.m.pick [2, 3, 4, 5, 6, 7] [.box g27 75 (k143 ++ ([.slice A7 a1.2.1.length c8, .slice A12 a1.2.2.1.length c13, .int .i64 a1.2.2.2.1, .int .i64 a1.2.2.2.2.1, .int .i64 a1.2.2.2.2.2.1, .int .i64 a1.2.2.2.2.2.2])), .box g88 66 ([.int .i64 x49.1, .int .i64 x49.2.1, .int .i64 x49.2.2.1, .slice A72 x49.2.2.2.1.length c73, .slice A77 x49.2.2.2.2.1.length c78, .slice A82 x49.2.2.2.2.2.1.length c83, .slice A85 x49.2.2.2.2.2.2.length c86]), .box g175 40 k185, .box g208 40 k219, .box g209 40 k223, .sn S0] (by decide) rfl
                        refine hK _ _ ⟨fun _ _ => HS, ?_⟩
                        clear hK
                        refine d_alone 15 rfl (by kernel_rfl) (fun K hK => ?_)
                        have hX := chatelaineref23_Node_ok Fu (S0 := snapAll _) A85 c86 x49.2.2.2.2.2.2 (hs87.mono (h.m.leAll (i := 7) rfl)) (w64 ((i64_or x178 1) * x180)) (w64_r _) x180 hr181 _ h235 _ h.startAll
                        refine q_callX hX h rfl rfl rfl (by decide) Try.func26 rfl rfl rfl (fun a w v L1 S1 hR hb1 h => ?_)
                        obtain ⟨k237, rfl, rfl, hv238, _⟩ := hR
                        obtain ⟨hs239, hl240⟩ := hv238
                        have hq241 := hs239.fl (S' := S0) fl_8
                        replace HS := h.m.pick [2, 3, 4, 5, 6, 7] [.box g27 75 (k143 ++ ([.slice A7 a1.2.1.length c8, .slice A12 a1.2.2.1.length c13, .int .i64 a1.2.2.2.1, .int .i64 a1.2.2.2.2.1, .int .i64 a1.2.2.2.2.2.1, .int .i64 a1.2.2.2.2.2.2])), .box g88 66 ([.int .i64 x49.1, .int .i64 x49.2.1, .int .i64 x49.2.2.1, .slice A72 x49.2.2.2.1.length c73, .slice A77 x49.2.2.2.2.1.length c78, .slice A82 x49.2.2.2.2.2.1.length c83, .slice A85 x49.2.2.2.2.2.2.length c86]), .box g175 40 k185, .box g208 40 k219, .box g209 40 k223, .sn S0] (by decide) rfl
                        refine hK _ _ (fun _ _ => HS) ?_
                        clear hK
                        refine d_alone 18 rfl (by kernel_rfl) (fun K hK => ?_)
                        refine s_stW h rfl rfl rfl ag_A32_uint8 rfl (es := k229) rfl ((hq233).len.trans (by rw [hl232]; rfl)) (hq233).one 1 rfl (by first | rfl | simp_all) (fun a w h => ?_)
                        replace HS := h.m.pick [2, 3, 4, 5, 6, 7] [.box g27 75 (k143 ++ ([.slice A7 a1.2.1.length c8, .slice A12 a1.2.2.1.length c13, .int .i64 a1.2.2.2.1, .int .i64 a1.2.2.2.2.1, .int .i64 a1.2.2.2.2.2.1, .int .i64 a1.2.2.2.2.2.2])), .box g88 66 ([.int .i64 x49.1, .int .i64 x49.2.1, .int .i64 x49.2.2.1, .slice A72 x49.2.2.2.1.length c73, .slice A77 x49.2.2.2.2.1.length c78, .slice A82 x49.2.2.2.2.2.1.length c83, .slice A85 x49.2.2.2.2.2.2.length c86]), .box g175 40 k185, .box g208 40 k219, .box g209 40 k223, .sn S0] (by decide) rfl
                        refine hK _ _ (fun _ _ => HS) ?_
                        clear hK
                        refine d_alone 19 rfl (by kernel_rfl) (fun K hK => ?_)
                        refine s_stW h rfl rfl rfl ag_A32_uint8 rfl (es := k237) rfl ((hq241).len.trans (by rw [hl240]; rfl)) (hq241).one 0 rfl (by first | rfl | simp_all) (fun a w h => ?_)
                        replace HS := h.m.pick [2, 3, 4, 5, 6, 7] [.box g27 75 (k143 ++ ([.slice A7 a1.2.1.length c8, .slice A12 a1.2.2.1.length c13, .int .i64 a1.2.2.2.1, .int .i64 a1.2.2.2.2.1, .int .i64 a1.2.2.2.2.2.1, .int .i64 a1.2.2.2.2.2.2])), .box g88 66 ([.int .i64 x49.1, .int .i64 x49.2.1, .int .i64 x49.2.2.1, .slice A72 x49.2.2.2.1.length c73, .slice A77 x49.2.2.2.2.1.length c78, .slice A82 x49.2.2.2.2.2.1.length c83, .slice A85 x49.2.2.2.2.2.2.length c86]), .box g175 40 k185, .box g208 40 k219, .box g209 40 k223, .sn S0] (by decide) rfl
                        refine hK _ _ (fun _ _ => HS) ?_
                        clear hK
                        refine d_done (by kernel_rfl) (HE _ _ ?_) _
                        refine e_thenN ?_
                        have h := h.pick [2, 3, 4, 5, 6, 1, 0, 7] (by decide) rfl
                        exact ⟨g242, k229, g243, k237, hq233, hl232, hq241, hl240, h.has (by exact ⟨rfl, rfl, rfl, rfl, rfl, rfl, rfl, rfl, rfl, rfl, trivial⟩)⟩
                    · refine s_alloc h rfl rfl rfl (by decide) zi_A32_uint8 rfl (fun a w g243 h => ?_)
                      replace HS := h.m.pick [2, 3, 4, 5, 6, 7] [.box g27 75 (k143 ++ ([.slice A7 a1.2.1.length c8, .slice A12 a1.2.2.1.length c13, .int .i64 a1.2.2.2.1, .int .i64 a1.2.2.2.2.1, .int .i64 a1.2.2.2.2.2.1, .int .i64 a1.2.2.2.2.2.2])), .box g88 66 ([.int .i64 x49.1, .int .i64 x49.2.1, .int .i64 x49.2.2.1, .slice A72 x49.2.2.2.1.length c73, .slice A77 x49.2.2.2.2.1.length c78, .slice A82 x49.2.2.2.2.2.1.length c83, .slice A85 x49.2.2.2.2.2.2.length c86]), .box g175 40 k185, .box g208 40 k219, .box g209 40 k223, .sn S0] (by decide) rfl
                      refine hK _ _ ⟨fun _ _ => HS, ?_⟩
                      clear hK
                      refine d_alone 7 rfl (by kernel_rfl) (fun K hK => ?_)
                      have hX := chatelaineref23_Node_ok Fu (S0 := snapAll _) A85 c86 x49.2.2.2.2.2.2 (hs87.mono (h.m.leAll (i := 7) rfl)) (w64 ((i64_andNot x178 1) * x180)) (w64_r _) x180 hr181 _ h227 _ h.startAll
                      refine q_callX hX h rfl rfl rfl (by decide) Try.func26 rfl rfl rfl (fun a w v L1 S1 hR hb1 h => ?_)
                      obtain ⟨k229, rfl, rfl, hv230, _⟩ := hR
                      obtain ⟨hs231, hl232⟩ := hv230
                      have hq233 := hs231.fl (S' := S0) fl_8
                      replace HS := h.m.pick [2, 3, 4, 5, 6, 7] [.box g27 75 (k143 ++ ([.slice A7 a1.2.1.length c8, .slice A12 a1.2.2.1.length c13, .int .i64 a1.2.2.2.1, .int .i64 a1.2.2.2.2.1, .int .i64 a1.2.2.2.2.2.1, .int .i64 a1.2.2.2.2.2.2])), .box g88 66 ([.int .i64 x49.1, .int .i64 x49.2.1, .int .i64 x49.2.2.1, .slice A72 x49.2.2.2.1.length c73, .slice A77 x49.2.2.2.2.1.length c78, .slice A82 x49.2.2.2.2.2.1.length c83, .slice A85 x49.2.2.2.2.2.2.length c86]), .box g175 40 k185, .box g208 40 k219, .box g209 40 k223, .sn S0] (by decide) rfl
                      refine hK _ _ (fun _ _ => HS) ?_
                      clear hK
                      refine d_alone 15 rfl (by kernel_rfl) (fun K hK => ?_)
                      have hX := chatelaineref23_Node_ok Fu (S0 := snapAll _) A85 c86 x49.2.2.2.2.2.2 (hs87.mono (h.m.leAll (i := 7) rfl)) (w64 ((i64_or x178 1) * x180)) (w64_r _) x180 hr181 _ h235 _ h.startAll
                      refine q_callX hX h rfl rfl rfl (by decide) Try.func26 rfl rfl rfl (fun a w v L1 S1 hR hb1 h => ?_)
                      obtain ⟨k237, rfl, rfl, hv238, _⟩ := hR
                      obtain ⟨hs239, hl240⟩ := hv238
                      have hq241 := hs239.fl (S' := S0) fl_8
                      replace HS := h.m.pick [2, 3, 4, 5, 6, 7] [.box g27 75 (k143 ++ ([.slice A7 a1.2.1.length c8, .slice A12 a1.2.2.1.length c13, .int .i64 a1.2.2.2.1, .int .i64 a1.2.2.2.2.1, .int .i64 a1.2.2.2.2.2.1, .int .i64 a1.2.2.2.2.2.2])), .box g88 66 ([.int .i64 x49.1, .int .i64 x49.2.1, .int .i64 x49.2.2.1, .slice A72 x49.2.2.2.1.length c73, .slice A77 x49.2.2.2.2.1.length c78, .slice A82 x49.2.2.2.2.2.1.length c83, .slice A85 x49.2.2.2.2.2.2.length c86]), .box g175 40 k185, .box g208 40 k219, .box g209 40 k223, .sn S0] (by decide) rfl
                      refine hK _ _ (fun _ _ => HS) ?_
                      clear hK
                      refine d_alone 18 rfl (by kernel_rfl) (fun K hK => ?_)
                      refine s_stW h rfl rfl rfl ag_A32_uint8 rfl (es := k229) rfl ((hq233).len.trans (by rw [hl232]; rfl)) (hq233).one 1 rfl (by first | rfl | simp_all) (fun a w h => ?_)
                      replace HS := h.m.pick [2, 3, 4, 5, 6, 7] [.box g27 75 (k143 ++ ([.slice A7 a1.2.1.length c8, .slice A12 a1.2.2.1.length c13, .int .i64 a1.2.2.2.1, .int .i64 a1.2.2.2.2.1, .int .i64 a1.2.2.2.2.2.1, .int .i64 a1.2.2.2.2.2.2])), .box g88 66 ([.int .i64 x49.1, .int .i64 x49.2.1, .int .i64 x49.2.2.1, .slice A72 x49.2.2.2.1.length c73, .slice A77 x49.2.2.2.2.1.length c78, .slice A82 x49.2.2.2.2.2.1.length c83, .slice A85 x49.2.2.2.2.2.2.length c86]), .box g175 40 k185, .box g208 40 k219, .box g209 40 k223, .sn S0] (by decide) rfl
                      refine hK _ _ (fun _ _ => HS) ?_
                      clear hK
                      refine d_alone 19 rfl (by kernel_rfl) (fun K hK => ?_)
                      refine s_stW h rfl rfl rfl ag_A32_uint8 rfl (es := k237) rfl ((hq241).len.trans (by rw [hl240]; rfl)) (hq241).one 0 rfl (by first | rfl | simp_all) (fun a w h => ?_)
                      replace HS := h.m.pick [2, 3, 4, 5, 6, 7] [.box g27 75 (k143 ++ ([.slice A7 a1.2.1.length c8, .slice A12 a1.2.2.1.length c13, .int .i64 a1.2.2.2.1, .int .i64 a1.2.2.2.2.1, .int .i64 a1.2.2.2.2.2.1, .int .i64 a1.2.2.2.2.2.2])), .box g88 66 ([.int .i64 x49.1, .int .i64 x49.2.1, .int .i64 x49.2.2.1, .slice A72 x49.2.2.2.1.length c73, .slice A77 x49.2.2.2.2.1.length c78, .slice A82 x49.2.2.2.2.2.1.length c83, .slice A85 x49.2.2.2.2.2.2.length c86]), .box g175 40 k185, .box g208 40 k219, .box g209 40 k223, .sn S0] (by decide) rfl
                      refine hK _ _ (fun _ _ => HS) ?_
                      clear hK
                      refine d_done (by kernel_rfl) (HE _ _ ?_) _
                      refine e_thenN ?_
                      have h := h.pick [2, 3, 4, 5, 6, 1, 0, 7] (by decide) rfl
                      exact ⟨g242, k229, g243, k237, hq233, hl232, hq241, hl240, h.has (by exact ⟨rfl, rfl, rfl, rfl, rfl, rfl, rfl, rfl, rfl, rfl, trivial⟩)⟩
                  · refine s_alloc h rfl rfl rfl (by decide) zi_A32_uint8 rfl (fun a w g243 h => ?_)
                    replace HS := h.m.pick [1, 2, 3, 4, 5, 6] [.box g27 75 (k143 ++ ([.slice A7 a1.2.1.length c8, .slice A12 a1.2.2.1.length c13, .int .i64 a1.2.2.2.1, .int .i64 a1.2.2.2.2.1, .int .i64 a1.2.2.2.2.2.1, .int .i64 a1.2.2.2.2.2.2])), .box g88 66 ([.int .i64 x49.1, .int .i64 x49.2.1, .int .i64 x49.2.2.1, .slice A72 x49.2.2.2.1.length c73, .slice A77 x49.2.2.2.2.1.length c78, .slice A82 x49.2.2.2.2.2.1.length c83, .slice A85 x49.2.2.2.2.2.2.length c86]), .box g175 40 k185, .box g208 40 k219, .box g209 40 k223, .sn S0] (by decide) rfl
                    refine hK _ _ ⟨fun _ _ => HS, ?_⟩
                    clear hK
                    refine d_two 7 16 (by kernel_rfl) (d_one 7 rfl _ (fun K hK => ?_)) (d_one 16 rfl _ (fun K hK => ?_))
                    · have hX := chatelaineref23_Node_ok Fu (S0 := snapAll _) A85 c86 x49.2.2.2.2.2.2 (hs87.mono (h.m.leAll (i := 6) rfl)) (w64 ((i64_andNot x178 1) * x180)) (w64_r _) x180 hr181 _ h227 _ h.startAll
                      refine q_callX hX h rfl rfl rfl (by decide) Try.func26 rfl rfl rfl (fun a w v L1 S1 hR hb1 h => ?_)
                      obtain ⟨k229, rfl, rfl, hv230, _⟩ := hR
                      obtain ⟨hs231, hl232⟩ := hv230
                      have hq233 := hs231.fl (S' := S0) fl_8
                      replace HS := h.m.pick [1, 2, 3, 4, 5, 6] [.box g27 75 (k143 ++ ([.slice A7 a1.2.1.length c8, .slice A12 a1.2.2.1.length c13, .int .i64 a1.2.2.2.1, .int .i64 a1.2.2.2.2.1, .int .i64 a1.2.2.2.2.2.1, .int .i64 a1.2.2.2.2.2.2])), .box g88 66 ([.int .i64 x49.1, .int .i64 x49.2.1, .int .i64 x49.2.2.1, .slice A72 x49.2.2.2.1.length c73, .slice A77 x49.2.2.2.2.1.length c78, .slice A82 x49.2.2.2.2.2.1.length c83, .slice A85 x49.2.2.2.2.2.2.length c86]), .box g175 40 k185, .box g208 40 k219, .box g209 40 k223, .sn S0] (by decide) rfl
                      refine hK _ _ ⟨fun _ _ => HS, ?_⟩
                      clear hK
                      refine d_two 15 16 (by kernel_rfl) (d_one 15 rfl _ (fun K hK => ?_)) (d_one 16 rfl _ (fun K hK => ?_))
                      · have hX := chatelaineref23_Node_ok Fu (S0 := snapAll _) A85 c86 x49.2.2.2.2.2.2 (hs87.mono (h.m.leAll (i := 6) rfl)) (w64 ((i64_or x178 1) * x180)) (w64_r _) x180 hr181 _ h235 _ h.startAll
                        refine q_callX hX h rfl rfl rfl (by decide) Try.func26 rfl rfl rfl (fun a w v L1 S1 hR hb1 h => ?_)
                        obtain ⟨k237, rfl, rfl, hv238, _⟩ := hR
                        obtain ⟨hs239, hl240⟩ := hv238
                        have hq241 := hs239.fl (S' := S0) fl_8
                        replace HS := h.m.pick [1, 2, 3, 4, 5, 6] [.box g27 75 (k143 ++ ([.slice A7 a1.2.1.length c8, .slice A12 a1.2.2.1.length c13, .int .i64 a1.2.2.2.1, .int .i64 a1.2.2.2.2.1, .int .i64 a1.2.2.2.2.2.1, .int .i64 a1.2.2.2.2.2.2])), .box g88 66 ([.int .i64 x49.1, .int .i64 x49.2.1, .int .i64 x49.2.2.1, .slice A72 x49.2.2.2.1.length c73, .slice A77 x49.2.2.2.2.1.length c78, .slice A82 x49.2.2.2.2.2.1.length c83, .slice A85 x49.2.2.2.2.2.2.length c86]), .box g175 40 k185, .box g208 40 k219, .box g209 40 k223, .sn S0] (by decide) rfl
                        refine hK _ _ ⟨fun _ _ => HS, ?_⟩
                        clear hK
                        refine d_alone 16 rfl (by kernel_rfl) (fun K hK => ?_)
                        refine s_alloc h rfl rfl rfl (by decide) zi_A32_uint8 rfl (fun a w g242 h => ?_)
                        replace HS := h.m.pick [2, 3, 4, 5, 6, 7] [.box g27 75 (k143 ++ ([.slice A7 a1.2.1.length c8, .slice A12 a1.2.2.1.length c13, .int .i64 a1.2.2.2.1, .int .i64 a1.2.2.2.2.1, .int .i64 a1.2.2.2.2.2.1, .int .i64 a1.2.2.2.2.2.2])), .box g88 66 ([.int .i64 x49.1, .int .i64 x49.2.1, .int .i64 x49.2.2.1, .slice A72 x49.2.2.2.1.length c73, .slice A77 x49.2.2.2.2.1.length c78, .slice A82 x49.2.2.2.2.2.1.length c83, .slice A85 x49.2.2.2.2.2.2.length c86]), .box g175 40 k185, .box g208 40 k219, .box g209 40 k223, .sn S0] (by decide) rfl
                        refine hK _ _ (fun _ _ => HS) ?_
                        clear hK
                        refine d_alone 18 rfl (by kernel_rfl) (fun K hK => ?_)
                        refine s_stW h rfl rfl rfl ag_A32_uint8 rfl (es := k229) rfl ((hq233).len.trans (by rw [hl232]; rfl)) (hq233).one 0 rfl (by first | rfl | simp_all) (fun a w h => ?_)
                        replace HS := h.m.pick [2, 3, 4, 5, 6, 7] [.box g27 75 (k143 ++ ([.slice A7 a1.2.1.length c8, .slice A12 a1.2.2.1.length c13, .int .i64 a1.2.2.2.1, .int .i64 a1.2.2.2.2.1, .int .i64 a1.2.2.2.2.2.1, .int .i64 a1.2.2.2.2.2.2])), .box g88 66 ([.int .i64 x49.1, .int .i64 x49.2.1, .int .i64 x49.2.2.1, .slice A72 x49.2.2.2.1.length c73, .slice A77 x49.2.2.2.2.1.length c78, .slice A82 x49.2.2.2.2.2.1.length c83, .slice A85 x49.2.2.2.2.2.2.length c86]), .box g175 40 k185, .box g208 40 k219, .box g209 40 k223, .sn S0] (by decide) rfl
                        refine hK _ _ (fun _ _ => HS) ?_
                        clear hK
                        refine d_alone 19 rfl (by kernel_rfl) (fun K hK => ?_)
                        refine s_stW h rfl rfl rfl ag_A32_uint8 rfl (es := k237) rfl ((hq241).len.trans (by rw [hl240]; rfl)) (hq241).one 1 rfl (by first | rfl | simp_all) (fun a w h => ?_)
                        replace HS := h.m.pick [2, 3, 4, 5, 6, 7] [.box g27 75 (k143 ++ ([.slice A7 a1.2.1.length c8, .slice A12 a1.2.2.1.length c13, .int .i64 a1.2.2.2.1, .int .i64 a1.2.2.2.2.1, .int .i64 a1.2.2.2.2.2.1, .int .i64 a1.2.2.2.2.2.2])), .box g88 66 ([.int .i64 x49.1, .int .i64 x49.2.1, .int .i64 x49.2.2.1, .slice A72 x49.2.2.2.1.length c73, .slice A77 x49.2.2.2.2.1.length c78, .slice A82 x49.2.2.2.2.2.1.length c83, .slice A85 x49.2.2.2.2.2.2.length c86]), .box g175 40 k185, .box g208 40 k219, .box g209 40 k223, .sn S0] (by decide) rfl
                        refine hK _ _ (fun _ _ => HS) ?_
                        clear hK
                        refine d_done (by kernel_rfl) (HE _ _ ?_) _
                        refine e_thenN ?_
                        have h := h.pick [2, 3, 4, 5, 6, 0, 1, 7] (by decide) rfl
                        exact ⟨g242, k229, g243, k237, hq233, hl232, hq241, hl240, h.has (by exact ⟨rfl, rfl, rfl, rfl, rfl, rfl, rfl, rfl, rfl, rfl, trivial⟩)⟩
                      · refine s_alloc h rfl rfl rfl (by decide) zi_A32_uint8 rfl (fun a w g242 h => ?_)
                        replace HS := h.m.pick [2, 3, 4, 5, 6, 7] [.box g27 75 (k143 ++ ([.slice A7 a1.2.1.length c8, .slice A12 a1.2.2.1.length c13, .int .i64 a1.2.2.2.1, .int .i64 a1.2.2.2.2.1, .int .i64 a1.2.2.2.2.2.1, .int .i64 a1.2.2.2.2.2.2])), .box g88 66 ([.int .i64 x49.1, .int .i64 x49.2.1, .int .i64 x49.2.2.1, .slice A72 x49.2.2.2.1.length c73, .slice A77 x49.2.2.2.2.1.length c78, .slice A82 x49.2.2.2.2.2.1.length c83, .slice A85 x49.2.2.2.2.2.2.length c86]), .box g175 40 k185, .box g208 40 k219, .box g209 40 k223, .sn S0] (by decide) rfl
                        refine hK _ _ ⟨fun _ _ => HS, ?_⟩
                        clear hK
                        refine d_alone 15 rfl (by kernel_rfl) (fun K hK => ?_)
                        have hX := chatelaineref23_Node_ok Fu (S0 := snapAll _) A85 c86 x49.2.2.2.2.2.2 (hs87.mono (h.m.leAll (i := 7) rfl)) (w64 ((i64_or x178 1) * x180)) (w64_r _) x180 hr181 _ h235 _ h.startAll
                        refine q_callX hX h rfl rfl rfl (by decide) Try.func26 rfl rfl rfl (fun a w v L1 S1 hR hb1 h => ?_)
                        obtain ⟨k237, rfl, rfl, hv238, _⟩ := hR
                        obtain ⟨hs239, hl240⟩ := hv238
                        have hq241 := hs239.fl (S' := S0) fl_8
                        replace HS := h.m.pick [2, 3, 4, 5, 6, 7] [.box g27 75 (k143 ++ ([.slice A7 a1.2.1.length c8, .slice A12 a1.2.2.1.length c13, .int .i64 a1.2.2.2.1, .int .i64 a1.2.2.2.2.1, .int .i64 a1.2.2.2.2.2.1, .int .i64 a1.2.2.2.2.2.2])), .box g88 66 ([.int .i64 x49.1, .int .i64 x49.2.1, .int .i64 x49.2.2.1, .slice A72 x49.2.2.2.1.length c73, .slice A77 x49.2.2.2.2.1.length c78, .slice A82 x49.2.2.2.2.2.1.length c83, .slice A85 x49.2.2.2.2.2.2.length c86]), .box g175 40 k185, .box g208 40 k219, .box g209 40 k223, .sn S0] (by decide) rfl
                        refine hK _ _ (fun _ _ => HS) ?_
                        clear hK
                        refine d_alone 18 rfl (by kernel_rfl) (fun K hK => ?_)
                        refine s_stW h rfl rfl rfl ag_A32_uint8 rfl (es := k229) rfl ((hq233).len.trans (by rw [hl232]; rfl)) (hq233).one 0 rfl (by first | rfl | simp_all) (fun a w h => ?_)
                        replace HS := h.m.pick [2, 3, 4, 5, 6, 7] [.box g27 75 (k143 ++ ([.slice A7 a1.2.1.length c8, .slice A12 a1.2.2.1.length c13, .int .i64 a1.2.2.2.1, .int .i64 a1.2.2.2.2.1, .int .i64 a1.2.2.2.2.2.1, .int .i64 a1.2.2.2.2.2.2])), .box g88 66 ([.int .i64 x49.1, .int .i64 x49.2.1, .int .i64 x49.2.2.1, .slice A72 x49.2.2.2.1.length c73, .slice A77 x49.2.2.2.2.1.length c78, .slice A82 x49.2.2.2.2.2.1.length c83, .slice A85 x49.2.2.2.2.2.2.length c86]), .box g175 40 k185, .box g208 40 k219, .box g209 40 k223, .sn S0] (by decide) rfl
                        refine hK _ _ (fun _ _ => HS) ?_
                        clear hK
                        refine d_alone 19 rfl (by kernel_rfl) (fun K hK => ?_)
                        refine s_stW h rfl rfl rfl ag_A32_uint8 rfl (es := k237) rfl ((hq241).len.trans (by rw [hl240]; rfl)) (hq241).one 1 rfl (by first | rfl | simp_all) (fun a w h => ?_)
                        replace HS := h.m.pick [2, 3, 4, 5, 6, 7] [.box g27 75 (k143 ++ ([.slice A7 a1.2.1.length c8, .slice A12 a1.2.2.1.length c13, .int .i64 a1.2.2.2.1, .int .i64 a1.2.2.2.2.1, .int .i64 a1.2.2.2.2.2.1, .int .i64 a1.2.2.2.2.2.2])), .box g88 66 ([.int .i64 x49.1, .int .i64 x49.2.1, .int .i64 x49.2.2.1, .slice A72 x49.2.2.2.1.length c73, .slice A77 x49.2.2.2.2.1.length c78, .slice A82 x49.2.2.2.2.2.1.length c83, .slice A85 x49.2.2.2.2.2.2.length c86]), .box g175 40 k185, .box g208 40 k219, .box g209 40 k223, .sn S0] (by decide) rfl
                        refine hK _ _ (fun _ _ => HS) ?_
                        clear hK
                        refine d_done (by kernel_rfl) (HE _ _ ?_) _
                        refine e_thenN ?_
                        have h := h.pick [2, 3, 4, 5, 6, 0, 1, 7] (by decide) rfl
                        exact ⟨g242, k229, g243, k237, hq233, hl232, hq241, hl240, h.has (by exact ⟨rfl, rfl, rfl, rfl, rfl, rfl, rfl, rfl, rfl, rfl, trivial⟩)⟩
                    · refine s_alloc h rfl rfl rfl (by decide) zi_A32_uint8 rfl (fun a w g242 h => ?_)
                      replace HS := h.m.pick [2, 3, 4, 5, 6, 7] [.box g27 75 (k143 ++ ([.slice A7 a1.2.1.length c8, .slice A12 a1.2.2.1.length c13, .int .i64 a1.2.2.2.1, .int .i64 a1.2.2.2.2.1, .int .i64 a1.2.2.2.2.2.1, .int .i64 a1.2.2.2.2.2.2])), .box g88 66 ([.int .i64 x49.1, .int .i64 x49.2.1, .int .i64 x49.2.2.1, .slice A72 x49.2.2.2.1.length c73, .slice A77 x49.2.2.2.2.1.length c78, .slice A82 x49.2.2.2.2.2.1.length c83, .slice A85 x49.2.2.2.2.2.2.length c86]), .box g175 40 k185, .box g208 40 k219, .box g209 40 k223, .sn S0] (by decide) rfl
                      refine hK _ _ ⟨fun _ _ => HS, ?_⟩
                      clear hK
                      refine d_alone 7 rfl (by kernel_rfl) (fun K hK => ?_)
                      have hX := chatelaineref23_Node_ok Fu (S0 := snapAll _) A85 c86 x49.2.2.2.2.2.2 (hs87.mono (h.m.leAll (i := 7) rfl)) (w64 ((i64_andNot x178 1) * x180)) (w64_r _) x180 hr181 _ h227 _ h.startAll
                      refine q_callX hX h rfl rfl rfl (by decide) Try.func26 rfl rfl rfl (fun a w v L1 S1 hR hb1 h => ?_)
                      obtain ⟨k229, rfl, rfl, hv230, _⟩ := hR
                      obtain ⟨hs231, hl232⟩ := hv230
                      have hq233 := hs231.fl (S' := S0) fl_8
                      replace HS := h.m.pick [2, 3, 4, 5, 6, 7] [.box g27 75 (k143 ++ ([.slice A7 a1.2.1.length c8, .slice A12 a1.2.2.1.length c13, .int .i64 a1.2.2.2.1, .int .i64 a1.2.2.2.2.1, .int .i64 a1.2.2.2.2.2.1, .int .i64 a1.2.2.2.2.2.2])), .box g88 66 ([.int .i64 x49.1, .int .i64 x49.2.1, .int .i64 x49.2.2.1, .slice A72 x49.2.2.2.1.length c73, .slice A77 x49.2.2.2.2.1.length c78, .slice A82 x49.2.2.2.2.2.1.length c83, .slice A85 x49.2.2.2.2.2.2.length c86]), .box g175 40 k185, .box g208 40 k219, .box g209 40 k223, .sn S0] (by decide) rfl
                      refine hK _ _ (fun _ _ => HS) ?_
                      clear hK
                      refine d_alone 15 rfl (by kernel_rfl) (fun K hK => ?_)
                      have hX := chatelaineref23_Node_ok Fu (S0 := snapAll _) A85 c86 x49.2.2.2.2.2.2 (hs87.mono (h.m.leAll (i := 7) rfl)) (w64 ((i64_or x178 1) * x180)) (w64_r _) x180 hr181 _ h235 _ h.startAll
                      refine q_callX hX h rfl rfl rfl (by decide) Try.func26 rfl rfl rfl (fun a w v L1 S1 hR hb1 h => ?_)
                      obtain ⟨k237, rfl, rfl, hv238, _⟩ := hR
                      obtain ⟨hs239, hl240⟩ := hv238
                      have hq241 := hs239.fl (S' := S0) fl_8
                      replace HS := h.m.pick [2, 3, 4, 5, 6, 7] [.box g27 75 (k143 ++ ([.slice A7 a1.2.1.length c8, .slice A12 a1.2.2.1.length c13, .int .i64 a1.2.2.2.1, .int .i64 a1.2.2.2.2.1, .int .i64 a1.2.2.2.2.2.1, .int .i64 a1.2.2.2.2.2.2])), .box g88 66 ([.int .i64 x49.1, .int .i64 x49.2.1, .int .i64 x49.2.2.1, .slice A72 x49.2.2.2.1.length c73, .slice A77 x49.2.2.2.2.1.length c78, .slice A82 x49.2.2.2.2.2.1.length c83, .slice A85 x49.2.2.2.2.2.2.length c86]), .box g175 40 k185, .box g208 40 k219, .box g209 40 k223, .sn S0] (by decide) rfl
                      refine hK _ _ (fun _ _ => HS) ?_
                      clear hK
                      refine d_alone 18 rfl (by kernel_rfl) (fun K hK => ?_)
                      refine s_stW h rfl rfl rfl ag_A32_uint8 rfl (es := k229) rfl ((hq233).len.trans (by rw [hl232]; rfl)) (hq233).one 0 rfl (by first | rfl | simp_all) (fun a w h => ?_)
                      replace HS := h.m.pick [2, 3, 4, 5, 6, 7] [.box g27 75 (k143 ++ ([.slice A7 a1.2.1.length c8, .slice A12 a1.2.2.1.length c13, .int .i64 a1.2.2.2.1, .int .i64 a1.2.2.2.2.1, .int .i64 a1.2.2.2.2.2.1, .int .i64 a1.2.2.2.2.2.2])), .box g88 66 ([.int .i64 x49.1, .int .i64 x49.2.1, .int .i64 x49.2.2.1, .slice A72 x49.2.2.2.1.length c73, .slice A77 x49.2.2.2.2.1.length c78, .slice A82 x49.2.2.2.2.2.1.length c83, .slice A85 x49.2.2.2.2.2.2.length c86]), .box g175 40 k185, .box g208 40 k219, .box g209 40 k223, .sn S0] (by decide) rfl
                      refine hK _ _ (fun _ _ => HS) ?_
                      clear hK
                      refine d_alone 19 rfl (by kernel_rfl) (fun K hK => ?_)
                      refine s_stW h rfl rfl rfl ag_A32_uint8 rfl (es := k237) rfl ((hq241).len.trans (by rw [hl240]; rfl)) (hq241).one 1 rfl (by first | rfl | simp_all) (fun a w h => ?_)
                      replace HS := h.m.pick [2, 3, 4, 5, 6, 7] [.box g27 75 (k143 ++ ([.slice A7 a1.2.1.length c8, .slice A12 a1.2.2.1.length c13, .int .i64 a1.2.2.2.1, .int .i64 a1.2.2.2.2.1, .int .i64 a1.2.2.2.2.2.1, .int .i64 a1.2.2.2.2.2.2])), .box g88 66 ([.int .i64 x49.1, .int .i64 x49.2.1, .int .i64 x49.2.2.1, .slice A72 x49.2.2.2.1.length c73, .slice A77 x49.2.2.2.2.1.length c78, .slice A82 x49.2.2.2.2.2.1.length c83, .slice A85 x49.2.2.2.2.2.2.length c86]), .box g175 40 k185, .box g208 40 k219, .box g209 40 k223, .sn S0] (by decide) rfl
                      refine hK _ _ (fun _ _ => HS) ?_
                      clear hK
                      refine d_done (by kernel_rfl) (HE _ _ ?_) _
                      refine e_thenN ?_
                      have h := h.pick [2, 3, 4, 5, 6, 0, 1, 7] (by decide) rfl
                      exact ⟨g242, k229, g243, k237, hq233, hl232, hq241, hl240, h.has (by exact ⟨rfl, rfl, rfl, rfl, rfl, rfl, rfl, rfl, rfl, rfl, trivial⟩)⟩
                obtain ⟨g242, k244, g243, k247, hs245, hl246, hs248, hl249, h⟩ := h
                refine e_thenN ?_
                refine wp_seq ?_
                refine wp_seq ?_
                -- region 21 draws
                obtain ⟨z252, hz253, hl192⟩ := bsome hl192
                refine c_fin (fun a w => St 201 w0 (ownL ([] ++ [.sn S0])) [(4, .pointer (some ⟨g27, 0, none⟩)), (7, .pointer (some ⟨g88, 0, none⟩)), (10, .pointer (some ⟨g175, 0, none⟩)), (11, .int .i64 x178), (12, .int .i64 x180), (13, .int .i64 x182), (14, .pointer (some ⟨g208, 0, none⟩)), (15, .pointer (some ⟨g209, 0, none⟩)), (190, .bool z252)] [.box g27 75 (k143 ++ ([.slice A7 a1.2.1.length c8, .slice A12 a1.2.2.1.length c13, .int .i64 a1.2.2.2.1, .int .i64 a1.2.2.2.2.1, .int .i64 a1.2.2.2.2.2.1, .int .i64 a1.2.2.2.2.2.2])), .box g88 66 ([.int .i64 x49.1, .int .i64 x49.2.1, .int .i64 x49.2.2.1, .slice A72 x49.2.2.2.1.length c73, .slice A77 x49.2.2.2.2.1.length c78, .slice A82 x49.2.2.2.2.2.1.length c83, .slice A85 x49.2.2.2.2.2.2.length c86]), .box g175 40 k185, .box g208 40 k219, .box g209 40 k223, .sn S0] a w) ?_ (fun a w h => ?_)
                · refine d_start h (Mem _ _ _) 17 17 rfl (by kernel_rfl) (fun _ _ _ _ _ h => h) (fun _ h => h) (fun Q a w HE HN h HS => ?_)
                  refine d_take h HS HN 0 rfl (by kernel_rfl) (by kernel_rfl) (by kernel_rfl) (by kernel_rfl) (by kernel_rfl) rfl rfl (by decide) (fun w' hw => x_ldR h.k rfl ag_A32_uint8 rfl k219 ((hs220).len.trans (by rw [hl221]; rfl)) (hw.range0 (i := 3) rfl)) (fun a h => ?_)
                  refine d_take h HS HN 1 rfl (by kernel_rfl) (by kernel_rfl) (by kernel_rfl) (by kernel_rfl) (by kernel_rfl) rfl rfl (by decide) (fun w' hw => x_ldR h.k rfl ag_A32_uint8 rfl k244 ((hs245).len.trans (by rw [hl246]; rfl)) (hw.range0 (i := 5) rfl)) (fun a h => ?_)
                  refine d_takeP h (fun _ => HS) HN 2 rfl (by kernel_rfl) (by kernel_rfl) (by kernel_rfl) (by decide) rfl rfl (by decide) (fun w' => x_neqA8 (X := k219) (Y := k244) h.k rfl Try.underlying40 Try.underlying5 sz_uint8 gda_A32_uint8 rfl rfl hs220 hs245 hl221 hl246) (fun a h => ?_)
                  refine d_takeP h (fun _ => HS) HN 3 rfl (by kernel_rfl) (by kernel_rfl) (by kernel_rfl) (by decide) rfl rfl (by decide) (fun w' => x_move h.k _ rfl rfl) (fun a h => ?_)
                  refine d_split (t := 177) h rfl (fun hB3 => ?_) (fun hB3 => ?_)
                  · refine d_takeNP h (fun _ => HS) HN 4 rfl (by kernel_rfl) (by kernel_rfl) (by kernel_rfl) (by decide) (by rw [g_want h rfl rfl rfl rfl hB3]; rfl) rfl (by decide) (fun a h => ?_)
                    refine d_takeNP h (fun _ => HS) HN 5 rfl (by kernel_rfl) (by kernel_rfl) (by kernel_rfl) (by decide) (by rw [g_want h rfl rfl rfl rfl hB3]; rfl) rfl (by decide) (fun a h => ?_)
                    refine d_takeNP h (fun _ => HS) HN 6 rfl (by kernel_rfl) (by kernel_rfl) (by kernel_rfl) (by decide) (by rw [g_want h rfl rfl rfl rfl hB3]; rfl) rfl (by decide) (fun a h => ?_)
                    refine d_takeP h (fun _ => HS) HN 7 rfl (by kernel_rfl) (by kernel_rfl) (by kernel_rfl) (by decide) rfl rfl (by decide) (fun w' => x_pick (v := .bool ((!(decide (x218 = x226))) || (!(decide (x222 = x234))))) (u' := undef) h.k rfl rfl (fun _ => by rw [hB3]; first | rfl | simp [ev, List.lookup]) (fun hh => absurd (hB3.symm.trans hh) (by decide))) (fun a h => ?_)
                    refine d_takeP h (fun _ => HS) HN 8 rfl (by kernel_rfl) (by kernel_rfl) (by kernel_rfl) (by decide) rfl rfl (by decide) (fun w' => x_move h.k _ rfl rfl) (fun a h => ?_)
                    have hB8 : ((!(decide (x218 = x226))) || (!(decide (x222 = x234)))) = true := (by rw [hB3]; first | rfl | simp)
                    rw [if_pos hB8] at hz253
                    obtain ⟨x254, h255, hz253⟩ := bsome hz253
                    obtain ⟨x262, h263, hz253⟩ := bsome hz253
                    refine d_takeY h HS HN 9 rfl (by kernel_rfl) (by kernel_rfl) (by kernel_rfl) (by kernel_rfl) (by kernel_rfl) (by rw [g_want h rfl rfl rfl rfl hB8]; rfl) rfl (by decide) (fun w' hw => x_ldR h.k rfl ag_A32_uint8 rfl k219 ((hs220).len.trans (by rw [hl221]; rfl)) (hw.range0 (i := 3) rfl)) (fun a h => ?_)
                    refine d_takeY h HS HN 10 rfl (by kernel_rfl) (by kernel_rfl) (by kernel_rfl) (by kernel_rfl) (by kernel_rfl) (by rw [g_want h rfl rfl rfl rfl hB8]; rfl) rfl (by decide) (fun w' hw => x_ldR h.k rfl ag_A32_uint8 rfl k223 ((hs224).len.trans (by rw [hl225]; rfl)) (hw.range0 (i := 4) rfl)) (fun a h => ?_)
                    refine d_takeY h HS HN 12 rfl (by kernel_rfl) (by kernel_rfl) (by kernel_rfl) (by kernel_rfl) (by kernel_rfl) (by rw [g_want h rfl rfl rfl rfl hB8]; rfl) rfl (by decide) (fun w' hw => x_ldR h.k rfl ag_A32_uint8 rfl k244 ((hs245).len.trans (by rw [hl246]; rfl)) (hw.range0 (i := 5) rfl)) (fun a h => ?_)
                    refine d_takeY h HS HN 13 rfl (by kernel_rfl) (by kernel_rfl) (by kernel_rfl) (by kernel_rfl) (by kernel_rfl) (by rw [g_want h rfl rfl rfl rfl hB8]; rfl) rfl (by decide) (fun w' hw => x_ldR h.k rfl ag_A32_uint8 rfl k247 ((hs248).len.trans (by rw [hl249]; rfl)) (hw.range0 (i := 6) rfl)) (fun a h => ?_)
                    refine d_alone 11 rfl (by kernel_rfl) (fun K hK => ?_)
                    refine g_yes (j := 8) (t := 182) h rfl rfl rfl rfl hB8 ?_
                    have hX := chatelaineref23_Pair_ok Fu (S0 := snapAll _) k219 x218 ((tyA 32 ty8).mono (h.m.leAll (i := 7) rfl) (show (tyA 32 ty8).rep S0 k219 x218 from ⟨hs220, hl221⟩)) k223 x222 ((tyA 32 ty8).mono (h.m.leAll (i := 7) rfl) (show (tyA 32 ty8).rep S0 k223 x222 from ⟨hs224, hl225⟩)) _ h255 _ h.startAll
                    refine q_callX hX h rfl rfl rfl (by decide) Try.func27 rfl rfl rfl (fun a w v L1 S1 hR hb1 h => ?_)
                    obtain ⟨k257, rfl, rfl, hv258, _⟩ := hR
                    obtain ⟨hs259, hl260⟩ := hv258
                    have hq261 := hs259.fl (S' := S0) fl_8
                    refine hK _ _ (fun _ _ => HS.ext hb1) ?_
                    replace HS := HS.ext hb1
                    clear hK
                    refine d_alone 14 rfl (by kernel_rfl) (fun K hK => ?_)
                    refine g_yes (j := 8) (t := 182) h rfl rfl rfl rfl hB8 ?_
                    have hX := chatelaineref23_Pair_ok Fu (S0 := snapAll _) k244 x226 ((tyA 32 ty8).mono (h.m.leAll (i := 7) rfl) (show (tyA 32 ty8).rep S0 k244 x226 from ⟨hs245, hl246⟩)) k247 x234 ((tyA 32 ty8).mono (h.m.leAll (i := 7) rfl) (show (tyA 32 ty8).rep S0 k247 x234 from ⟨hs248, hl249⟩)) _ h263 _ h.startAll
                    refine q_callX hX h rfl rfl rfl (by decide) Try.func27 rfl rfl rfl (fun a w v L1 S1 hR hb1 h => ?_)
                    obtain ⟨k265, rfl, rfl, hv266, _⟩ := hR
                    obtain ⟨hs267, hl268⟩ := hv266
                    have hq269 := hs267.fl (S' := S0) fl_8
                    refine hK _ _ (fun _ _ => HS.ext hb1) ?_
                    replace HS := HS.ext hb1
                    clear hK
                    refine d_takeP h (fun _ => HS) HN 15 rfl (by kernel_rfl) (by kernel_rfl) (by kernel_rfl) (by decide) (by rw [g_want h rfl rfl rfl rfl hB8]; rfl) rfl (by decide) (fun w' => x_eqlA8 (X := k257) (Y := k265) h.k rfl Try.underlying40 Try.underlying5 sz_uint8 gda_A32_uint8 rfl rfl hq261 hq269 hl260 hl268) (fun a h => ?_)
                    refine d_takeP h (fun _ => HS) HN 16 rfl (by kernel_rfl) (by kernel_rfl) (by kernel_rfl) (by decide) rfl rfl (by decide) (fun w' => x_pick (v := .bool z252) (u' := undef) h.k rfl rfl (fun _ => by rw [← Option.some.inj hz253]; rfl) (fun hh => absurd (hB8.symm.trans hh) (by decide))) (fun a h => ?_)
                    refine d_done (by kernel_rfl) (HE _ _ ?_) _
                    refine e_thenN ?_
                    have h := h.pick [0, 1, 2, 3, 4, 7] (by decide) rfl
                    exact h.has (by exact ⟨rfl, rfl, rfl, rfl, rfl, rfl, rfl, rfl, rfl, trivial⟩)
                  · refine d_takeY h HS HN 4 rfl (by kernel_rfl) (by kernel_rfl) (by kernel_rfl) (by kernel_rfl) (by kernel_rfl) (by rw [g_want h rfl rfl rfl rfl hB3]; rfl) rfl (by decide) (fun w' hw => x_ldR h.k rfl ag_A32_uint8 rfl k223 ((hs224).len.trans (by rw [hl225]; rfl)) (hw.range0 (i := 4) rfl)) (fun a h => ?_)
                    refine d_takeY h HS HN 5 rfl (by kernel_rfl) (by kernel_rfl) (by kernel_rfl) (by kernel_rfl) (by kernel_rfl) (by rw [g_want h rfl rfl rfl rfl hB3]; rfl) rfl (by decide) (fun w' hw => x_ldR h.k rfl ag_A32_uint8 rfl k247 ((hs248).len.trans (by rw [hl249]; rfl)) (hw.range0 (i := 6) rfl)) (fun a h => ?_)
                    refine d_takeP h (fun _ => HS) HN 6 rfl (by kernel_rfl) (by kernel_rfl) (by kernel_rfl) (by decide) (by rw [g_want h rfl rfl rfl rfl hB3]; rfl) rfl (by decide) (fun w' => x_neqA8 (X := k223) (Y := k247) h.k rfl Try.underlying40 Try.underlying5 sz_uint8 gda_A32_uint8 rfl rfl hs224 hs248 hl225 hl249) (fun a h => ?_)
                    refine d_takeP h (fun _ => HS) HN 7 rfl (by kernel_rfl) (by kernel_rfl) (by kernel_rfl) (by decide) rfl rfl (by decide) (fun w' => x_pick (v := .bool ((!(decide (x218 = x226))) || (!(decide (x222 = x234))))) (u' := undef) h.k rfl rfl (fun hh => absurd (hB3.symm.trans hh) (by decide)) (fun _ => by rw [hB3]; first | rfl | simp [ev, List.lookup])) (fun a h => ?_)
                    refine d_takeP h (fun _ => HS) HN 8 rfl (by kernel_rfl) (by kernel_rfl) (by kernel_rfl) (by decide) rfl rfl (by decide) (fun w' => x_move h.k _ rfl rfl) (fun a h => ?_)
                    refine d_split (t := 182) h rfl (fun hB8 => ?_) (fun hB8 => ?_)
                    · rw [if_pos hB8] at hz253
                      obtain ⟨x254, h255, hz253⟩ := bsome hz253
                      obtain ⟨x262, h263, hz253⟩ := bsome hz253
                      refine d_takeY h HS HN 9 rfl (by kernel_rfl) (by kernel_rfl) (by kernel_rfl) (by kernel_rfl) (by kernel_rfl) (by rw [g_want h rfl rfl rfl rfl hB8]; rfl) rfl (by decide) (fun w' hw => x_ldR h.k rfl ag_A32_uint8 rfl k219 ((hs220).len.trans (by rw [hl221]; rfl)) (hw.range0 (i := 3) rfl)) (fun a h => ?_)
                      refine d_takeY h HS HN 10 rfl (by kernel_rfl) (by kernel_rfl) (by kernel_rfl) (by kernel_rfl) (by kernel_rfl) (by rw [g_want h rfl rfl rfl rfl hB8]; rfl) rfl (by decide) (fun w' hw => x_ldR h.k rfl ag_A32_uint8 rfl k223 ((hs224).len.trans (by rw [hl225]; rfl)) (hw.range0 (i := 4) rfl)) (fun a h => ?_)
                      refine d_takeY h HS HN 12 rfl (by kernel_rfl) (by kernel_rfl) (by kernel_rfl) (by kernel_rfl) (by kernel_rfl) (by rw [g_want h rfl rfl rfl rfl hB8]; rfl) rfl (by decide) (fun w' hw => x_ldR h.k rfl ag_A32_uint8 rfl k244 ((hs245).len.trans (by rw [hl246]; rfl)) (hw.range0 (i := 5) rfl)) (fun a h => ?_)
                      refine d_takeY h HS HN 13 rfl (by kernel_rfl) (by kernel_rfl) (by kernel_rfl) (by kernel_rfl) (by kernel_rfl) (by rw [g_want h rfl rfl rfl rfl hB8]; rfl) rfl (by decide) (fun w' hw => x_ldR h.k rfl ag_A32_uint8 rfl k247 ((hs248).len.trans (by rw [hl249]; rfl)) (hw.range0 (i := 6) rfl)) (fun a h => ?_)
                      refine d_alone 11 rfl (by kernel_rfl) (fun K hK => ?_)
                      refine g_yes (j := 8) (t := 182) h rfl rfl rfl rfl hB8 ?_
                      have hX := chatelaineref23_Pair_ok Fu (S0 := snapAll _) k219 x218 ((tyA 32 ty8).mono (h.m.leAll (i := 7) rfl) (show (tyA 32 ty8).rep S0 k219 x218 from ⟨hs220, hl221⟩)) k223 x222 ((tyA 32 ty8).mono (h.m.leAll (i := 7) rfl) (show (tyA 32 ty8).rep S0 k223 x222 from ⟨hs224, hl225⟩)) _ h255 _ h.startAll
                      refine q_callX hX h rfl rfl rfl (by decide) Try.func27 rfl rfl rfl (fun a w v L1 S1 hR hb1 h => ?_)
                      obtain ⟨k257, rfl, rfl, hv258, _⟩ := hR
                      obtain ⟨hs259, hl260⟩ := hv258
                      have hq261 := hs259.fl (S' := S0) fl_8
                      refine hK _ _ (fun _ _ => HS.ext hb1) ?_
                      replace HS := HS.ext hb1
                      clear hK
                      refine d_alone 14 rfl (by kernel_rfl) (fun K hK => ?_)
                      refine g_yes (j := 8) (t := 182) h rfl rfl rfl rfl hB8 ?_
                      have hX := chatelaineref23_Pair_ok Fu (S0 := snapAll _) k244 x226 ((tyA 32 ty8).mono (h.m.leAll (i := 7) rfl) (show (tyA 32 ty8).rep S0 k244 x226 from ⟨hs245, hl246⟩)) k247 x234 ((tyA 32 ty8).mono (h.m.leAll (i := 7) rfl) (show (tyA 32 ty8).rep S0 k247 x234 from ⟨hs248, hl249⟩)) _ h263 _ h.startAll
                      refine q_callX hX h rfl rfl rfl (by decide) Try.func27 rfl rfl rfl (fun a w v L1 S1 hR hb1 h => ?_)
                      obtain ⟨k265, rfl, rfl, hv266, _⟩ := hR
                      obtain ⟨hs267, hl268⟩ := hv266
                      have hq269 := hs267.fl (S' := S0) fl_8
                      refine hK _ _ (fun _ _ => HS.ext hb1) ?_
                      replace HS := HS.ext hb1
                      clear hK
                      refine d_takeP h (fun _ => HS) HN 15 rfl (by kernel_rfl) (by kernel_rfl) (by kernel_rfl) (by decide) (by rw [g_want h rfl rfl rfl rfl hB8]; rfl) rfl (by decide) (fun w' => x_eqlA8 (X := k257) (Y := k265) h.k rfl Try.underlying40 Try.underlying5 sz_uint8 gda_A32_uint8 rfl rfl hq261 hq269 hl260 hl268) (fun a h => ?_)
                      refine d_takeP h (fun _ => HS) HN 16 rfl (by kernel_rfl) (by kernel_rfl) (by kernel_rfl) (by decide) rfl rfl (by decide) (fun w' => x_pick (v := .bool z252) (u' := undef) h.k rfl rfl (fun _ => by rw [← Option.some.inj hz253]; rfl) (fun hh => absurd (hB8.symm.trans hh) (by decide))) (fun a h => ?_)
                      refine d_done (by kernel_rfl) (HE _ _ ?_) _
                      refine e_thenN ?_
                      have h := h.pick [0, 1, 2, 3, 4, 7] (by decide) rfl
                      exact h.has (by exact ⟨rfl, rfl, rfl, rfl, rfl, rfl, rfl, rfl, rfl, trivial⟩)
                    · rw [if_neg (by rw [hB8]; decide)] at hz253
                      refine d_takeNP h (fun _ => HS) HN 9 rfl (by kernel_rfl) (by kernel_rfl) (by kernel_rfl) (by decide) (by rw [g_want h rfl rfl rfl rfl hB8]; rfl) rfl (by decide) (fun a h => ?_)
                      refine d_takeNP h (fun _ => HS) HN 10 rfl (by kernel_rfl) (by kernel_rfl) (by kernel_rfl) (by decide) (by rw [g_want h rfl rfl rfl rfl hB8]; rfl) rfl (by decide) (fun a h => ?_)
                      refine d_takeNP h (fun _ => HS) HN 11 rfl (by kernel_rfl) (by kernel_rfl) (by kernel_rfl) (by decide) (by rw [g_want h rfl rfl rfl rfl hB8]; rfl) rfl (by decide) (fun a h => ?_)
                      refine d_takeNP h (fun _ => HS) HN 12 rfl (by kernel_rfl) (by kernel_rfl) (by kernel_rfl) (by decide) (by rw [g_want h rfl rfl rfl rfl hB8]; rfl) rfl (by decide) (fun a h => ?_)
                      refine d_takeNP h (fun _ => HS) HN 13 rfl (by kernel_rfl) (by kernel_rfl) (by kernel_rfl) (by decide) (by rw [g_want h rfl rfl rfl rfl hB8]; rfl) rfl (by decide) (fun a h => ?_)
                      refine d_takeNP h (fun _ => HS) HN 14 rfl (by kernel_rfl) (by kernel_rfl) (by kernel_rfl) (by decide) (by rw [g_want h rfl rfl rfl rfl hB8]; rfl) rfl (by decide) (fun a h => ?_)
                      refine d_takeNP h (fun _ => HS) HN 15 rfl (by kernel_rfl) (by kernel_rfl) (by kernel_rfl) (by decide) (by rw [g_want h rfl rfl rfl rfl hB8]; rfl) rfl (by decide) (fun a h => ?_)
                      refine d_takeP h (fun _ => HS) HN 16 rfl (by kernel_rfl) (by kernel_rfl) (by kernel_rfl) (by decide) rfl rfl (by decide) (fun w' => x_pick (v := .bool z252) (u' := undef) h.k rfl rfl (fun hh => absurd (hB8.symm.trans hh) (by decide)) (fun _ => by rw [← Option.some.inj hz253]; rfl)) (fun a h => ?_)
                      refine d_done (by kernel_rfl) (HE _ _ ?_) _
                      refine e_thenN ?_
                      have h := h.pick [0, 1, 2, 3, 4, 7] (by decide) rfl
                      exact h.has (by exact ⟨rfl, rfl, rfl, rfl, rfl, rfl, rfl, rfl, rfl, trivial⟩)
                refine e_thenN ?_
                refine c_cond h rfl (fun hb => ?_) (fun hb => ?_)
                · rw [if_pos hb] at hl192
                  refine c_rs ?_ -- region 22
                  refine s_assign h rfl _ rfl rfl (by decide) rfl (fun a h => ?_)
                  refine l_end ?_
                  refine wp_ret ?_
                  refine e_thenR ?_
                  refine e_blkR ?_
                  refine e_thenR ?_
                  refine e_thenR ?_
                  refine e_blkR ?_
                  refine e_thenR ?_
                  cases hl192
                  try dsimp only at hf
                  refine e_thenR ?_
                  rw [← Option.some.inj hf]
                  exact r_ret1 h rfl (rv_tmp h rfl) ⟨_, [], _, rfl, ⟨rfl, rfl, trivial⟩, rfl, (Up.refl _ _ _), (h.m.pick [5] _ (by decide) rfl)⟩
                · rw [if_neg (by rw [hb]; decide)] at hl192
                  refine wp_skip ?_
                  refine e_thenN ?_
                  refine c_r ?_ -- region 23
                  refine s_x h rfl rfl (by decide) (x_ldR h.k rfl ag_A32_uint8 rfl k219 ((hs220).len.trans (by rw [hl221]; rfl)) (h.m.range0 (i := 3) rfl)) (fun a h => ?_)
                  refine s_x h rfl rfl (by decide) (x_ldR h.k rfl ag_A32_uint8 rfl k223 ((hs224).len.trans (by rw [hl225]; rfl)) (h.m.range0 (i := 4) rfl)) (fun a h => ?_)
                  obtain ⟨x270, h271, hl192⟩ := bsome hl192
                  have hX := chatelaineref23_Pair_ok Fu (S0 := snapAll _) k219 x218 ((tyA 32 ty8).mono (h.m.leAll (i := 5) rfl) (show (tyA 32 ty8).rep S0 k219 x218 from ⟨hs220, hl221⟩)) k223 x222 ((tyA 32 ty8).mono (h.m.leAll (i := 5) rfl) (show (tyA 32 ty8).rep S0 k223 x222 from ⟨hs224, hl225⟩)) _ h271 _ h.startAll
                  refine q_callX hX h rfl rfl rfl (by decide) Try.func27 rfl rfl rfl (fun a w v L1 S1 hR hb1 h => ?_)
                  obtain ⟨k273, rfl, rfl, hv274, _⟩ := hR
                  obtain ⟨hs275, hl276⟩ := hv274
                  have hq277 := hs275.fl (S' := S0) fl_8
                  refine s_move h rfl _ rfl rfl (by decide) rfl (fun a h => ?_)
                  refine s_x h rfl rfl (by decide) (x_bin h.k rfl rfl rfl (ib_quow (by decide))) (fun a h => ?_)
                  refine s_stW h rfl rfl rfl ag_A32_uint8 rfl (es := k273) rfl ((hq277).len.trans (by rw [hl276]; rfl)) (hq277).one 2 rfl ((hs186).len.trans (by rw [hl187]; rfl)) (fun a w h => ?_)
                  refine s_assign h rfl _ rfl rfl (by decide) rfl (fun a h => ?_)
                  refine l_nil ?_
                  refine e_blkN ?_
                  refine e_thenN ?_
                  refine c_r ?_ -- region 16
                  refine s_move h rfl _ rfl rfl (by decide) rfl (fun a h => ?_)
                  refine s_x h rfl rfl (by decide) (x_bin h.k rfl rfl rfl (ib_mul rfl)) (fun a h => ?_)
                  refine s_move h rfl _ rfl rfl (by decide) rfl (fun a h => ?_)
                  refine s_x h rfl rfl (by decide) (x_bin h.k rfl rfl rfl (ib_add rfl)) (fun a h => ?_)
                  refine s_assign h rfl _ rfl rfl (by decide) rfl (fun a h => ?_)
                  refine s_assign h rfl _ rfl rfl (by decide) rfl (fun a h => ?_)
                  refine l_nil ?_
                  have h := h.pick [0, 1, 2, 5] (by decide) rfl
                  exact e_thenN ⟨m193, Nat.lt_succ_self _, w64 (Int.tdiv x178 2), w64 (x180 * 2), w64 (x182 + 1), x270, k273, hl192, (w64_r _), (w64_r _), (w64_r _), hq277, hl276, h.has (by exact ⟨rfl, rfl, rfl, rfl, rfl, rfl, trivial⟩)⟩
            · rw [if_neg (of_decide_eq_false hb)] at hl192
              refine wp_exit ?_
              refine e_thenX ?_
              refine e_thenX ?_
              refine e_blkX ?_
              refine e_thenN ?_
              have h := h.pick [1, 2, 3] (by decide) rfl
              exact ⟨x184, k185, (Option.some.inj hl192), hs186, hl187, h.has (by exact ⟨rfl, rfl, trivial⟩)⟩
          · rintro a w ⟨x188, k189, rfl, hs190, hl191, h⟩
            try dsimp only at hf
            refine e_thenN ?_
            refine wp_seq ?_
            refine wp_seq ?_
            -- region 24 draws
            obtain ⟨x279, h280, hf⟩ := bsome hf
            refine d_start h (Mem _ _ _) 5 5 rfl (by kernel_rfl) (fun _ _ _ _ _ h => h) (fun _ h => h) (fun Q a w HE HN h HS => ?_)
            refine d_take h HS HN 0 rfl (by kernel_rfl) (by kernel_rfl) (by kernel_rfl) (by kernel_rfl) (by kernel_rfl) rfl rfl (by decide) (fun w' hw => x_ldR h.k rfl ag_A32_uint8 rfl k189 ((hs190).len.trans (by rw [hl191]; rfl)) (hw.range0 (i := 1) rfl)) (fun a h => ?_)
            refine d_takeP h (fun _ => HS) HN 1 rfl (by kernel_rfl) (by kernel_rfl) (by kernel_rfl) (by decide) rfl rfl (by decide) (fun w' => x_faddr h.k rfl Try.underlying66 rfl sz_SA32_uint8 rfl) (fun a h => ?_)
            refine d_take h HS HN 2 rfl (by kernel_rfl) (by kernel_rfl) (by kernel_rfl) (by kernel_rfl) (by kernel_rfl) rfl rfl (by decide) (fun w' hw => x_ld h.k rfl Try.underlying39 rfl rfl ((hw.cell (i := 0) rfl 6).trans rfl)) (fun a h => ?_)
            refine d_alone 3 rfl (by kernel_rfl) (fun K hK => ?_)
            have hX := chatelaineref23_Root_ok Fu (S0 := snapAll _) A85 c86 x49.2.2.2.2.2.2 (hs87.mono (h.m.leAll (i := 2) rfl)) _ h280 _ h.startAll
            refine q_callX hX h rfl rfl rfl (by decide) Try.func32 rfl rfl rfl (fun a w v L1 S1 hR hb1 h => ?_)
            obtain ⟨k282, rfl, rfl, hv283, _⟩ := hR
            obtain ⟨hs284, hl285⟩ := hv283
            have hq286 := hs284.fl (S' := S0) fl_8
            refine hK _ _ (fun _ _ => HS.ext hb1) ?_
            replace HS := HS.ext hb1
            clear hK
            refine d_takeP h (fun _ => HS) HN 4 rfl (by kernel_rfl) (by kernel_rfl) (by kernel_rfl) (by decide) rfl rfl (by decide) (fun w' => x_eqlA8 (X := k189) (Y := k282) h.k rfl Try.underlying40 Try.underlying5 sz_uint8 gda_A32_uint8 rfl rfl hs190 hq286 hl191 hl285) (fun a h => ?_)
            refine d_done (by kernel_rfl) (HE _ _ ?_) _
            refine e_thenN ?_
            refine c_cond h rfl (fun hb => ?_) (fun hb => ?_)
            · rw [if_pos (of_decide_eq_true hb)] at hf
              refine c_rs ?_ -- region 25
              refine s_assign h rfl _ rfl rfl (by decide) rfl (fun a h => ?_)
              refine l_end ?_
              refine wp_ret ?_
              refine e_thenR ?_
              rw [← Option.some.inj hf]
              exact r_ret1 h rfl (rv_tmp h rfl) ⟨_, [], _, rfl, ⟨rfl, rfl, trivial⟩, rfl, (Up.refl _ _ _), (h.m.pick [2] _ (by decide) rfl)⟩
            · rw [if_neg (of_decide_eq_false hb)] at hf
              refine wp_skip ?_
              refine e_thenN ?_
              refine c_rs ?_ -- region 26
              refine s_assign h rfl _ rfl rfl (by decide) rfl (fun a h => ?_)
              refine l_end ?_
              refine wp_ret ?_
              rw [← Option.some.inj hf]
              exact r_ret1 h rfl (rv_tmp h rfl) ⟨_, [], _, rfl, ⟨rfl, rfl, trivial⟩, rfl, (Up.refl _ _ _), (h.m.pick [2] _ (by decide) rfl)⟩
end Go.Proofs.Ytlgcfnbhnpnkiaa
