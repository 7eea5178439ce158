/- Hd, Fh together. -/
import Derived.Test.YtlgcfnbhnpnkiaaHb
import Derived.Test.YtlgcfnbhnpnkiaaMk5
import Derived.Test.YtlgcfnbhnpnkiaaFs
set_option linter.unusedVariables false
set_option linter.unusedSimpArgs false
namespace Go.Proofs.Ytlgcfnbhnpnkiaa
open Go.RowKit
def merkle_Along (Fu : Nat) (a0 : List UInt8) (a1 : Int) (a2 : List (List UInt8)) : Option (List UInt8 × Int) := some (alongV a0 a1 a2, errV (wayOk a1 a2.length))
theorem merkle_Along_ok (Fu : Nat) {S0 : Snap} (csa0 : List Value) (a0 : List UInt8) (hsa0 : (tyA 32 ty8).rep S0 csa0 a0) (a1 : Int) (hra1 : r64 a1) (Aa2 : Option Addr) (ca2 : Nat) (a2 : List (List UInt8)) (hsa2 : slS (tyA 32 ty8) S0 Aa2 ca2 a2) (r : List UInt8 × Int) (hf : merkle_Along Fu a0 a1 a2 = some r) (w0 : World) (hm : Mem w0 (ownL ([] ++ [.sn S0])) ([] ++ [.sn S0]) w0) :
    Calls Try.prog 29 #[.agg csa0.toArray, .int .i64 a1, .slice Aa2 a2.length ca2] w0 (Ret w0 S0 [] (fun v L1 S1 => ∃ (k : List Value), v = .tuple #[.agg k.toArray, .int .i64 r.2] ∧ L1 = [] ∧ (tyA 32 ty8).rep S1 k r.1 ∧ r64 r.2 ∧ True)) := by
  have hw := hm.snOK (i := 0) rfl
  cases hf
  obtain ⟨h1, h2⟩ := slS_sums hsa2 hw
  obtain rfl := reps8 hsa0.1
  exact (along_ok w0 a0 hsa0.2 a1 hra1 Aa2 a2 ca2 h1 h2).mono fun e w' ⟨he, hb⟩ => ret_below hm he hb ⟨_, rfl, rfl, ⟨rep8 _ _, by
    show (alongV a0 a1 a2).length = 32
    unfold alongV; split
    · exact alongS_length _ _ _ hsa0.2
    · rfl⟩, by unfold errV r64; split <;> omega, trivial⟩
def merkle_Leaf (Fu : Nat) (a0 a1 : Int) (a2 : List UInt8) : Option (List UInt8) := if a2.length ≤ 1099511627000 then some (leafS a0 a1 a2) else none
theorem merkle_Leaf_ok (Fu : Nat) {S0 : Snap} (a0 : Int) (hra0 : r64 a0) (a1 : Int) (hra1 : r64 a1) (Aa2 : Option Addr) (ca2 : Nat) (a2 : List UInt8) (hsa2 : slS ty8 S0 Aa2 ca2 a2) (r : List UInt8) (hf : merkle_Leaf Fu a0 a1 a2 = some r) (w0 : World) (hm : Mem w0 (ownL ([] ++ [.sn S0])) ([] ++ [.sn S0]) w0) :
    Calls Try.prog 30 #[.int .i64 a0, .int .i64 a1, .slice Aa2 a2.length ca2] w0 (Ret w0 S0 [] (fun v L1 S1 => ∃ (k : List Value), v = .agg k.toArray ∧ L1 = [] ∧ (tyA 32 ty8).rep S1 k r ∧ True)) := by
  have hw := hm.snOK (i := 0) rfl
  unfold merkle_Leaf at hf
  split at hf
  · rename_i ht
    cases hf
    have h1 := hsa2.1; have h2 := hsa2.2.1
    exact (leaf_ok w0 a0 a1 hra0 hra1 Aa2 a2 ca2 (slS_bytes hsa2 hw) h1 (by unfold maxLen at h2; omega) ht).mono fun e w' ⟨he, hb⟩ => ret_below hm he hb ⟨_, rfl, rfl, ⟨rep8 _ _, leafS_length _ _ _⟩, trivial⟩
  · cases hf
def chatelaineref23_Leaf (Fu : Nat) (a0 a1 : Int) (a2 : List UInt8) : Option (List UInt8) := if a2.length ≤ 1099511627000 then some (leafS a0 a1 a2) else none
theorem chatelaineref23_Leaf_ok (Fu : Nat) {S0 : Snap} (a0 : Int) (hra0 : r64 a0) (a1 : Int) (hra1 : r64 a1) (Aa2 : Option Addr) (ca2 : Nat) (a2 : List UInt8) (hsa2 : slS ty8 S0 Aa2 ca2 a2) (r : List UInt8) (hf : chatelaineref23_Leaf Fu a0 a1 a2 = some r) (w0 : World) (hm : Mem w0 (ownL ([] ++ [.sn S0])) ([] ++ [.sn S0]) w0) :
    Calls Try.prog 45 #[.int .i64 a0, .int .i64 a1, .slice Aa2 a2.length ca2] w0 (Ret w0 S0 [] (fun v L1 S1 => ∃ (k : List Value), v = .agg k.toArray ∧ L1 = [] ∧ (tyA 32 ty8).rep S1 k r ∧ True)) := by
  have hw := hm.snOK (i := 0) rfl
  unfold chatelaineref23_Leaf at hf
  split at hf
  · rename_i ht
    cases hf
    exact (rleaf_ok w0 a0 a1 hra0 hra1 Aa2 a2 ca2 (slS_bytes hsa2 hw) ht).mono fun e w' ⟨he, hb⟩ => ret_below hm he hb ⟨_, rfl, rfl, ⟨rep8 _ _, leafS_length _ _ _⟩, trivial⟩
  · cases hf
def chatelaineref23_Wide (Fu : Nat) (a0 : Int) : Option Int := if 1 ≤ a0 ∧ a0 ≤ 4096 then some ((2 ^ lg a0.toNat : Nat) : Int) else none
theorem chatelaineref23_Wide_ok (Fu : Nat) {S0 : Snap} (a0 : Int) (hra0 : r64 a0) (r : Int) (hf : chatelaineref23_Wide Fu a0 = some r) (w0 : World) (hm : Mem w0 (ownL ([] ++ [.sn S0])) ([] ++ [.sn S0]) w0) :
    Calls Try.prog 25 #[.int .i64 a0] w0 (Ret w0 S0 [] (fun v L1 S1 => v = .int .i64 r ∧ L1 = [] ∧ r64 r ∧ True)) := by
  unfold chatelaineref23_Wide at hf
  split at hf
  · rename_i ht
    cases hf
    obtain ⟨n, rfl⟩ : ∃ n : Nat, a0 = (n : Int) := ⟨a0.toNat, by omega⟩
    rw [Int.toNat_natCast]
    have hl := (lg_spec n (by omega)).1
    obtain ⟨q, hq⟩ : ∃ q, q = 2 ^ lg n := ⟨_, rfl⟩
    rw [← hq] at hl
    exact (rwide_ok w0 n (by omega) (by omega)).mono fun e w' ⟨he, hb⟩ => ret_below hm he hb ⟨rfl, rfl, by rw [← hq]; unfold r64; omega, trivial⟩
  · cases hf
def chatelaineref23_Pair (Fu : Nat) (a0 a1 : List UInt8) : Option (List UInt8) := some (pairS a0 a1)
theorem chatelaineref23_Pair_ok (Fu : Nat) {S0 : Snap} (csa0 : List Value) (a0 : List UInt8) (hsa0 : (tyA 32 ty8).rep S0 csa0 a0) (csa1 : List Value) (a1 : List UInt8) (hsa1 : (tyA 32 ty8).rep S0 csa1 a1) (r : List UInt8) (hf : chatelaineref23_Pair Fu a0 a1 = some r) (w0 : World) (hm : Mem w0 (ownL ([] ++ [.sn S0])) ([] ++ [.sn S0]) w0) :
    Calls Try.prog 27 #[.agg csa0.toArray, .agg csa1.toArray] w0 (Ret w0 S0 [] (fun v L1 S1 => ∃ (k : List Value), v = .agg k.toArray ∧ L1 = [] ∧ (tyA 32 ty8).rep S1 k r ∧ True)) := by
  cases hf
  obtain rfl := reps8 hsa0.1
  obtain rfl := reps8 hsa1.1
  exact (rpair_ok w0 a0 a1 hsa0.2 hsa1.2).mono fun e w' ⟨he, hb⟩ => ret_below hm he hb ⟨_, rfl, rfl, ⟨rep8 _ _, pairS_length _ _⟩, trivial⟩
def nodeOk (n : Nat) (k m : Int) : Prop := 0 ≤ k ∧ 0 ≤ m ∧ 2 ^ Nat.log2 m.toNat = m.toNat ∧ k + m ≤ 1099511627776 ∧ n ≤ 1099511627776
instance (n : Nat) (k m : Int) : Decidable (nodeOk n k m) := by unfold nodeOk; infer_instance
def chatelaineref23_Node (Fu : Nat) (a0 : List (List UInt8)) (a1 a2 : Int) : Option (List UInt8) := if nodeOk a0.length a1 a2 then some (nodeS a0 (Nat.log2 a2.toNat) a1.toNat) else none
theorem chatelaineref23_Node_ok (Fu : Nat) {S0 : Snap} (Aa0 : Option Addr) (ca0 : Nat) (a0 : List (List UInt8)) (hsa0 : slS (tyA 32 ty8) S0 Aa0 ca0 a0) (a1 : Int) (hra1 : r64 a1) (a2 : Int) (hra2 : r64 a2) (r : List UInt8) (hf : chatelaineref23_Node Fu a0 a1 a2 = some r) (w0 : World) (hm : Mem w0 (ownL ([] ++ [.sn S0])) ([] ++ [.sn S0]) w0) :
    Calls Try.prog 26 #[.slice Aa0 a0.length ca0, .int .i64 a1, .int .i64 a2] w0 (Ret w0 S0 [] (fun v L1 S1 => ∃ (k : List Value), v = .agg k.toArray ∧ L1 = [] ∧ (tyA 32 ty8).rep S1 k r ∧ True)) := by
  have hw := hm.snOK (i := 0) rfl
  unfold chatelaineref23_Node at hf
  split at hf
  · rename_i ht
    cases hf
    obtain ⟨h1, h2⟩ := slS_sums hsa0 hw
    obtain ⟨t1, t2, t3, t4, t5⟩ := ht
    obtain ⟨k, rfl⟩ : ∃ n : Nat, a1 = (n : Int) := ⟨a1.toNat, by omega⟩
    obtain ⟨m, rfl⟩ : ∃ n : Nat, a2 = (n : Int) := ⟨a2.toNat, by omega⟩
    rw [Int.toNat_natCast] at *
    exact (rnode_ok a0 h1 Aa0 ca0 t5 (Nat.log2 m) w0 k m t3.symm h2 (by omega)).mono fun e w' ⟨he, hb⟩ => ret_below hm he hb ⟨_, rfl, rfl, ⟨rep8 _ _, nodeS_length h1 _ _⟩, trivial⟩
  · cases hf
def forest_Holds (Fu : Nat) (a0 : (List UInt8) × (List (List UInt8)) × (List (List UInt8)) × Int × Int × Int × Int) (a1 : List UInt8) (a2 : Int) (a3 : List UInt8) : Option Bool :=
  (merkle_Leaf Fu a0.2.2.2.2.1 a2 a3).bind fun x29 => if (!(decide (a0.1 = x29))) = true then (some false) else ((merkle_Along Fu a0.1 a2 a0.2.1).bind fun x37 => if x37.2 ≠ 0 then (some false) else ((forest_head Fu a0.2.2.2.2.1 a0.2.2.2.2.2.1 a0.2.2.2.2.2.2 x37.1).bind fun x47 => (merkle_Along Fu x47 a0.2.2.2.1 a0.2.2.1).bind fun x55 => some ((decide (x55.2 = 0)) && (decide (x55.1 = a1)))))
set_option maxRecDepth 100000 in
set_option maxHeartbeats 2000000 in
theorem forest_Holds_ok (Fu : Nat) {S0 : Snap} (csa0 : List Value) (a0 : (List UInt8) × (List (List UInt8)) × (List (List UInt8)) × Int × Int × Int × Int) (hsa0 : (tyP (tyA 32 ty8) (tyP (tyL (tyA 32 ty8)) (tyP (tyL (tyA 32 ty8)) (tyP tyI (tyP tyI (tyP tyI tyI)))))).rep S0 csa0 a0) (csa1 : List Value) (a1 : List UInt8) (hsa1 : (tyA 32 ty8).rep S0 csa1 a1) (a2 : Int) (hra2 : r64 a2) (Aa3 : Option Addr) (ca3 : Nat) (a3 : List UInt8) (hsa3 : slS ty8 S0 Aa3 ca3 a3) (r : Bool) (hf : forest_Holds Fu a0 a1 a2 a3 = some r) (w0 : World) (hm : Mem w0 (ownL ([] ++ [.sn S0])) ([] ++ [.sn S0]) w0) :
    Calls Try.prog 46 #[.agg csa0.toArray, .agg csa1.toArray, .int .i64 a2, .slice Aa3 a3.length ca3] w0 (Ret w0 S0 [] (fun v L1 S1 => v = .bool r ∧ L1 = [] ∧ True)) := by
  unfold forest_Holds at hf
  obtain ⟨k1, k2, rfl, ⟨hs3, hl4⟩, ⟨k5, k6, rfl, ⟨A7, c8, rfl, hs9⟩, ⟨k10, k11, rfl, ⟨A12, c13, rfl, hs14⟩, ⟨k15, k16, rfl, ⟨rfl, hr17⟩, ⟨k18, k19, rfl, ⟨rfl, hr20⟩, ⟨k21, k22, rfl, ⟨rfl, hr23⟩, ⟨rfl, hr24⟩⟩⟩⟩⟩⟩⟩ := hsa0
  obtain ⟨hs25, hl26⟩ := hsa1
  refine c_enterM Try.func46 rfl 54 rfl (by simp) _ hm _ rfl (fun a h => ?_)
  refine c_rs ?_ -- region 0
  refine s_box h rfl rfl rfl (by decide) rfl (cs := k1 ++ ([.slice A7 a0.2.1.length c8, .slice A12 a0.2.2.1.length c13, .int .i64 a0.2.2.2.1, .int .i64 a0.2.2.2.2.1, .int .i64 a0.2.2.2.2.2.1, .int .i64 a0.2.2.2.2.2.2])) (by rfl) (fun a w g27 h => ?_)
  refine s_box h rfl rfl rfl (by decide) rfl (cs := csa1) (by rfl) (fun a w g28 h => ?_)
  refine s_assign h rfl _ rfl rfl (by decide) rfl (fun a h => ?_)
  refine l_end ?_
  refine wp_seq ?_
  refine wp_seq ?_
  -- region 1 draws
  obtain ⟨x29, h30, hf⟩ := bsome hf
  refine d_start h (Mem _ _ _) 8 8 rfl (by kernel_rfl) (fun _ _ _ _ _ h => h) (fun _ h => h) (fun Q a w HE HN h HS => ?_)
  refine d_takeP h (fun _ => HS) HN 0 rfl (by kernel_rfl) (by kernel_rfl) (by kernel_rfl) (by decide) rfl rfl (by decide) (fun w' => x_faddr h.k rfl Try.underlying75 rfl sz_A32_uint8 rfl) (fun a h => ?_)
  refine d_take h HS HN 1 rfl (by kernel_rfl) (by kernel_rfl) (by kernel_rfl) (by kernel_rfl) (by kernel_rfl) rfl rfl (by decide) (fun w' hw => x_ldR h.k rfl ag_A32_uint8 rfl k1 ((hs3).len.trans (by rw [hl4]; rfl)) (hw.rangeMid (i := 1) (off := 0) (X := []) (Y := k1) (Z := ([.slice A7 a0.2.1.length c8] : List Value) ++ (([.slice A12 a0.2.2.1.length c13] : List Value) ++ (([.int .i64 a0.2.2.2.1] : List Value) ++ (([.int .i64 a0.2.2.2.2.1] : List Value) ++ (([.int .i64 a0.2.2.2.2.2.1] : List Value) ++ ([.int .i64 a0.2.2.2.2.2.2])))))) rfl (by simp only [List.append_assoc, List.cons_append, List.nil_append, List.append_nil]) rfl)) (fun a h => ?_)
  refine d_takeP h (fun _ => HS) HN 2 rfl (by kernel_rfl) (by kernel_rfl) (by kernel_rfl) (by decide) rfl rfl (by decide) (fun w' => x_faddr h.k rfl Try.underlying75 rfl sz_int rfl) (fun a h => ?_)
  refine d_take h HS HN 3 rfl (by kernel_rfl) (by kernel_rfl) (by kernel_rfl) (by kernel_rfl) (by kernel_rfl) rfl rfl (by decide) (fun w' hw => x_ld h.k rfl Try.underlying3 rfl rfl ((hw.cell (i := 1) rfl 35).trans (cell_oneE (X := k1 ++ (([.slice A7 a0.2.1.length c8] : List Value) ++ (([.slice A12 a0.2.2.1.length c13] : List Value) ++ ([.int .i64 a0.2.2.2.1])))) (Z := ([.int .i64 a0.2.2.2.2.2.1] : List Value) ++ ([.int .i64 a0.2.2.2.2.2.2])) (off := 35) (u := .int .i64 a0.2.2.2.2.1) (by simp only [List.append_assoc, List.cons_append, List.nil_append, List.append_nil]) (show (k1 ++ (([.slice A7 a0.2.1.length c8] : List Value) ++ (([.slice A12 a0.2.2.1.length c13] : List Value) ++ ([.int .i64 a0.2.2.2.1]))) : List Value).length = 35 from by simp only [List.length_append, List.length_cons, List.length_nil, (show (k1 : List Value).length = 32 from ((hs3).len.trans (by rw [hl4]; rfl)))])))) (fun a h => ?_)
  refine d_takeP h (fun _ => HS) HN 4 rfl (by kernel_rfl) (by kernel_rfl) (by kernel_rfl) (by decide) rfl rfl (by decide) (fun w' => x_move h.k _ rfl rfl) (fun a h => ?_)
  refine d_takeP h (fun _ => HS) HN 5 rfl (by kernel_rfl) (by kernel_rfl) (by kernel_rfl) (by decide) rfl rfl (by decide) (fun w' => x_move h.k _ rfl rfl) (fun a h => ?_)
  refine d_alone 6 rfl (by kernel_rfl) (fun K hK => ?_)
  have hX := merkle_Leaf_ok Fu (S0 := snapAll _) a0.2.2.2.2.1 hr20 a2 hra2 Aa3 ca3 a3 (hsa3.mono (h.m.leAll (i := 2) rfl)) _ h30 _ h.startAll
  refine q_callX hX h rfl rfl rfl (by decide) Try.func30 rfl rfl rfl (fun a w v L1 S1 hR hb1 h => ?_)
  obtain ⟨k32, rfl, rfl, hv33, _⟩ := hR
  obtain ⟨hs34, hl35⟩ := hv33
  have hq36 := hs34.fl (S' := S0) fl_8
  refine hK _ _ (fun _ _ => HS.ext hb1) ?_
  replace HS := HS.ext hb1
  clear hK
  refine d_takeP h (fun _ => HS) HN 7 rfl (by kernel_rfl) (by kernel_rfl) (by kernel_rfl) (by decide) rfl rfl (by decide) (fun w' => x_neqA8 (X := k1) (Y := k32) h.k rfl Try.underlying40 Try.underlying5 sz_uint8 gda_A32_uint8 rfl rfl hs3 hq36 hl4 hl35) (fun a h => ?_)
  refine d_done (by kernel_rfl) (HE _ _ ?_) _
  refine e_thenN ?_
  refine c_cond h rfl (fun hb => ?_) (fun hb => ?_)
  · rw [if_pos hb] at hf
    refine c_rs ?_ -- region 2
    refine s_assign h rfl _ rfl rfl (by decide) rfl (fun a h => ?_)
    refine l_end ?_
    refine wp_ret ?_
    refine e_thenR ?_
    rw [← Option.some.inj hf]
    exact r_ret1 h rfl (rv_tmp h rfl) ⟨_, [], _, rfl, ⟨rfl, rfl, trivial⟩, rfl, (Up.refl _ _ _), (h.m.pick [2] _ (by decide) rfl)⟩
  · rw [if_neg (by rw [hb]; decide)] at hf
    refine wp_skip ?_
    refine e_thenN ?_
    refine c_rs ?_ -- region 3
    refine s_x h rfl rfl (by decide) (x_faddr h.k rfl Try.underlying75 rfl sz_A32_uint8 rfl) (fun a h => ?_)
    refine s_x h rfl rfl (by decide) (x_ldR h.k rfl ag_A32_uint8 rfl k1 ((hs3).len.trans (by rw [hl4]; rfl)) (h.m.rangeMid (i := 1) (off := 0) (X := []) (Y := k1) (Z := ([.slice A7 a0.2.1.length c8] : List Value) ++ (([.slice A12 a0.2.2.1.length c13] : List Value) ++ (([.int .i64 a0.2.2.2.1] : List Value) ++ (([.int .i64 a0.2.2.2.2.1] : List Value) ++ (([.int .i64 a0.2.2.2.2.2.1] : List Value) ++ ([.int .i64 a0.2.2.2.2.2.2])))))) rfl (by simp only [List.append_assoc, List.cons_append, List.nil_append, List.append_nil]) rfl)) (fun a h => ?_)
    refine s_move h rfl _ rfl rfl (by decide) rfl (fun a h => ?_)
    refine s_x h rfl rfl (by decide) (x_faddr h.k rfl Try.underlying75 rfl sz_SA32_uint8 rfl) (fun a h => ?_)
    refine s_x h rfl rfl (by decide) (x_ld h.k rfl Try.underlying39 rfl rfl ((h.m.cell (i := 1) rfl 32).trans (cell_oneE (X := k1) (Z := ([.slice A12 a0.2.2.1.length c13] : List Value) ++ (([.int .i64 a0.2.2.2.1] : List Value) ++ (([.int .i64 a0.2.2.2.2.1] : List Value) ++ (([.int .i64 a0.2.2.2.2.2.1] : List Value) ++ ([.int .i64 a0.2.2.2.2.2.2]))))) (off := 32) (u := .slice A7 a0.2.1.length c8) (by simp only [List.append_assoc, List.cons_append, List.nil_append, List.append_nil]) (show (k1 : List Value).length = 32 from by simp only [List.length_append, List.length_cons, List.length_nil, (show (k1 : List Value).length = 32 from ((hs3).len.trans (by rw [hl4]; rfl)))])))) (fun a h => ?_)
    obtain ⟨x37, h38, hf⟩ := bsome hf
    have hX := merkle_Along_ok Fu (S0 := snapAll _) k1 a0.1 ((tyA 32 ty8).mono (h.m.leAll (i := 2) rfl) (show (tyA 32 ty8).rep S0 k1 a0.1 from ⟨hs3, hl4⟩)) a2 hra2 A7 c8 a0.2.1 (hs9.mono (h.m.leAll (i := 2) rfl)) _ h38 _ h.startAll
    refine q_callX hX h rfl rfl rfl (by decide) Try.func29 rfl rfl rfl (fun a w v L1 S1 hR hb1 h => ?_)
    obtain ⟨k40, rfl, rfl, hv41, hr44, _⟩ := hR
    obtain ⟨hs42, hl43⟩ := hv41
    have hq45 := hs42.fl (S' := S0) fl_8
    refine s_move h rfl _ rfl rfl (by decide) rfl (fun a h => ?_)
    refine s_x h rfl rfl (by decide) (x_ext h.k rfl rfl rfl) (fun a h => ?_)
    refine s_x h rfl rfl (by decide) (x_ext h.k rfl rfl rfl) (fun a h => ?_)
    refine s_alloc h rfl rfl rfl (by decide) zi_A32_uint8 rfl (fun a w g46 h => ?_)
    refine s_stW h rfl rfl rfl ag_A32_uint8 rfl (es := k40) rfl ((hq45).len.trans (by rw [hl43]; rfl)) (hq45).one 0 rfl (by first | rfl | simp_all) (fun a w h => ?_)
    refine s_assign h rfl _ rfl rfl (by decide) rfl (fun a h => ?_)
    refine l_end ?_
    refine wp_seq ?_
    refine c_rs ?_ -- region 4
    refine s_move h rfl _ rfl rfl (by decide) rfl (fun a h => ?_)
    refine s_x h rfl rfl (by decide) (x_bin h.k rfl rfl rfl ib_neq) (fun a h => ?_)
    refine l_end ?_
    refine c_cond h rfl (fun hb => ?_) (fun hb => ?_)
    · rw [if_pos (of_decide_eq_true hb)] at hf
      refine c_rs ?_ -- region 5
      refine s_assign h rfl _ rfl rfl (by decide) rfl (fun a h => ?_)
      refine l_end ?_
      refine wp_ret ?_
      refine e_thenR ?_
      rw [← Option.some.inj hf]
      exact r_ret1 h rfl (rv_tmp h rfl) ⟨_, [], _, rfl, ⟨rfl, rfl, trivial⟩, rfl, (Up.refl _ _ _), (h.m.pick [3] _ (by decide) rfl)⟩
    · rw [if_neg (of_decide_eq_false hb)] at hf
      refine wp_skip ?_
      refine e_thenN ?_
      refine wp_seq ?_
      -- region 6 draws
      obtain ⟨x47, h48, hf⟩ := bsome hf
      obtain ⟨x55, h56, hf⟩ := bsome hf
      refine c_fin (fun a w => ∃ (g64 : Nat), ∃ (k65 : List Value), reps ty8 S0 k65 x55.1 ∧ x55.1.length = 32 ∧ St 54 w0 (ownL ([] ++ [.sn S0])) [(5, .pointer (some ⟨g28, 0, none⟩)), (10, .int .i64 x55.2), (11, .pointer (some ⟨g64, 0, none⟩))] [.box g28 40 csa1, .box g64 40 k65, .sn S0] a w) ?_ (fun a w h => ?_)
      · refine d_start h (Mem _ _ _) 17 19 rfl (by kernel_rfl) (fun _ _ _ _ _ h => h) (fun _ h => h) (fun Q a w HE HN h HS => ?_)
        refine d_takeP h (fun _ => HS) HN 0 rfl (by kernel_rfl) (by kernel_rfl) (by kernel_rfl) (by decide) rfl rfl (by decide) (fun w' => x_faddr h.k rfl Try.underlying75 rfl sz_int rfl) (fun a h => ?_)
        refine d_take h HS HN 1 rfl (by kernel_rfl) (by kernel_rfl) (by kernel_rfl) (by kernel_rfl) (by kernel_rfl) rfl rfl (by decide) (fun w' hw => x_ld h.k rfl Try.underlying3 rfl rfl ((hw.cell (i := 2) rfl 35).trans (cell_oneE (X := k1 ++ (([.slice A7 a0.2.1.length c8] : List Value) ++ (([.slice A12 a0.2.2.1.length c13] : List Value) ++ ([.int .i64 a0.2.2.2.1])))) (Z := ([.int .i64 a0.2.2.2.2.2.1] : List Value) ++ ([.int .i64 a0.2.2.2.2.2.2])) (off := 35) (u := .int .i64 a0.2.2.2.2.1) (by simp only [List.append_assoc, List.cons_append, List.nil_append, List.append_nil]) (show (k1 ++ (([.slice A7 a0.2.1.length c8] : List Value) ++ (([.slice A12 a0.2.2.1.length c13] : List Value) ++ ([.int .i64 a0.2.2.2.1]))) : List Value).length = 35 from by simp only [List.length_append, List.length_cons, List.length_nil, (show (k1 : List Value).length = 32 from ((hs3).len.trans (by rw [hl4]; rfl)))])))) (fun a h => ?_)
        refine d_takeP h (fun _ => HS) HN 2 rfl (by kernel_rfl) (by kernel_rfl) (by kernel_rfl) (by decide) rfl rfl (by decide) (fun w' => x_faddr h.k rfl Try.underlying75 rfl sz_int rfl) (fun a h => ?_)
        refine d_take h HS HN 3 rfl (by kernel_rfl) (by kernel_rfl) (by kernel_rfl) (by kernel_rfl) (by kernel_rfl) rfl rfl (by decide) (fun w' hw => x_ld h.k rfl Try.underlying3 rfl rfl ((hw.cell (i := 2) rfl 36).trans (cell_oneE (X := k1 ++ (([.slice A7 a0.2.1.length c8] : List Value) ++ (([.slice A12 a0.2.2.1.length c13] : List Value) ++ (([.int .i64 a0.2.2.2.1] : List Value) ++ ([.int .i64 a0.2.2.2.2.1]))))) (Z := [.int .i64 a0.2.2.2.2.2.2]) (off := 36) (u := .int .i64 a0.2.2.2.2.2.1) (by simp only [List.append_assoc, List.cons_append, List.nil_append, List.append_nil]) (show (k1 ++ (([.slice A7 a0.2.1.length c8] : List Value) ++ (([.slice A12 a0.2.2.1.length c13] : List Value) ++ (([.int .i64 a0.2.2.2.1] : List Value) ++ ([.int .i64 a0.2.2.2.2.1])))) : List Value).length = 36 from by simp only [List.length_append, List.length_cons, List.length_nil, (show (k1 : List Value).length = 32 from ((hs3).len.trans (by rw [hl4]; rfl)))])))) (fun a h => ?_)
        refine d_takeP h (fun _ => HS) HN 4 rfl (by kernel_rfl) (by kernel_rfl) (by kernel_rfl) (by decide) rfl rfl (by decide) (fun w' => x_faddr h.k rfl Try.underlying75 rfl sz_int rfl) (fun a h => ?_)
        refine d_take h HS HN 5 rfl (by kernel_rfl) (by kernel_rfl) (by kernel_rfl) (by kernel_rfl) (by kernel_rfl) rfl rfl (by decide) (fun w' hw => x_ld h.k rfl Try.underlying3 rfl rfl ((hw.cell (i := 2) rfl 37).trans (cell_oneE (X := k1 ++ (([.slice A7 a0.2.1.length c8] : List Value) ++ (([.slice A12 a0.2.2.1.length c13] : List Value) ++ (([.int .i64 a0.2.2.2.1] : List Value) ++ (([.int .i64 a0.2.2.2.2.1] : List Value) ++ ([.int .i64 a0.2.2.2.2.2.1])))))) (Z := []) (off := 37) (u := .int .i64 a0.2.2.2.2.2.2) (by simp only [List.append_assoc, List.cons_append, List.nil_append, List.append_nil]) (show (k1 ++ (([.slice A7 a0.2.1.length c8] : List Value) ++ (([.slice A12 a0.2.2.1.length c13] : List Value) ++ (([.int .i64 a0.2.2.2.1] : List Value) ++ (([.int .i64 a0.2.2.2.2.1] : List Value) ++ ([.int .i64 a0.2.2.2.2.2.1]))))) : List Value).length = 37 from by simp only [List.length_append, List.length_cons, List.length_nil, (show (k1 : List Value).length = 32 from ((hs3).len.trans (by rw [hl4]; rfl)))])))) (fun a h => ?_)
        refine d_take h HS HN 6 rfl (by kernel_rfl) (by kernel_rfl) (by kernel_rfl) (by kernel_rfl) (by kernel_rfl) rfl rfl (by decide) (fun w' hw => x_ldR h.k rfl ag_A32_uint8 rfl k40 ((hq45).len.trans (by rw [hl43]; rfl)) (hw.range0 (i := 0) rfl)) (fun a h => ?_)
        refine d_takeP h (fun _ => HS) HN 8 rfl (by kernel_rfl) (by kernel_rfl) (by kernel_rfl) (by decide) rfl rfl (by decide) (fun w' => x_faddr h.k rfl Try.underlying75 rfl sz_int rfl) (fun a h => ?_)
        refine d_take h HS HN 9 rfl (by kernel_rfl) (by kernel_rfl) (by kernel_rfl) (by kernel_rfl) (by kernel_rfl) rfl rfl (by decide) (fun w' hw => x_ld h.k rfl Try.underlying3 rfl rfl ((hw.cell (i := 2) rfl 34).trans (cell_oneE (X := k1 ++ (([.slice A7 a0.2.1.length c8] : List Value) ++ ([.slice A12 a0.2.2.1.length c13]))) (Z := ([.int .i64 a0.2.2.2.2.1] : List Value) ++ (([.int .i64 a0.2.2.2.2.2.1] : List Value) ++ ([.int .i64 a0.2.2.2.2.2.2]))) (off := 34) (u := .int .i64 a0.2.2.2.1) (by simp only [List.append_assoc, List.cons_append, List.nil_append, List.append_nil]) (show (k1 ++ (([.slice A7 a0.2.1.length c8] : List Value) ++ ([.slice A12 a0.2.2.1.length c13])) : List Value).length = 34 from by simp only [List.length_append, List.length_cons, List.length_nil, (show (k1 : List Value).length = 32 from ((hs3).len.trans (by rw [hl4]; rfl)))])))) (fun a h => ?_)
        refine d_takeP h (fun _ => HS) HN 10 rfl (by kernel_rfl) (by kernel_rfl) (by kernel_rfl) (by decide) rfl rfl (by decide) (fun w' => x_faddr h.k rfl Try.underlying75 rfl sz_SA32_uint8 rfl) (fun a h => ?_)
        refine d_take h HS HN 11 rfl (by kernel_rfl) (by kernel_rfl) (by kernel_rfl) (by kernel_rfl) (by kernel_rfl) rfl rfl (by decide) (fun w' hw => x_ld h.k rfl Try.underlying39 rfl rfl ((hw.cell (i := 2) rfl 33).trans (cell_oneE (X := k1 ++ ([.slice A7 a0.2.1.length c8])) (Z := ([.int .i64 a0.2.2.2.1] : List Value) ++ (([.int .i64 a0.2.2.2.2.1] : List Value) ++ (([.int .i64 a0.2.2.2.2.2.1] : List Value) ++ ([.int .i64 a0.2.2.2.2.2.2])))) (off := 33) (u := .slice A12 a0.2.2.1.length c13) (by simp only [List.append_assoc, List.cons_append, List.nil_append, List.append_nil]) (show (k1 ++ ([.slice A7 a0.2.1.length c8]) : List Value).length = 33 from by simp only [List.length_append, List.length_cons, List.length_nil, (show (k1 : List Value).length = 32 from ((hs3).len.trans (by rw [hl4]; rfl)))])))) (fun a h => ?_)
        refine d_two 7 16 (by kernel_rfl) (d_one 7 rfl _ (fun K hK => ?_)) (d_one 16 rfl _ (fun K hK => ?_))
        · have hX := forest_head_ok Fu (S0 := snapAll _) a0.2.2.2.2.1 hr20 a0.2.2.2.2.2.1 hr23 a0.2.2.2.2.2.2 hr24 k40 x37.1 ((tyA 32 ty8).mono (h.m.leAll (i := 3) rfl) (show (tyA 32 ty8).rep S0 k40 x37.1 from ⟨hq45, hl43⟩)) _ h48 _ h.startAll
          refine q_callX hX h rfl rfl rfl (by decide) Try.func78 rfl rfl rfl (fun a w v L1 S1 hR hb1 h => ?_)
          obtain ⟨k50, rfl, rfl, hv51, _⟩ := hR
          obtain ⟨hs52, hl53⟩ := hv51
          have hq54 := hs52.fl (S' := S0) fl_8
          refine hK _ _ ⟨fun _ _ => HS.ext hb1, ?_⟩
          replace HS := HS.ext hb1
          clear hK
          refine d_two 12 16 (by kernel_rfl) (d_one 12 rfl _ (fun K hK => ?_)) (d_one 16 rfl _ (fun K hK => ?_))
          · have hX := merkle_Along_ok Fu (S0 := snapAll _) k50 x47 ((tyA 32 ty8).mono (h.m.leAll (i := 3) rfl) (show (tyA 32 ty8).rep S0 k50 x47 from ⟨hq54, hl53⟩)) a0.2.2.2.1 hr17 A12 c13 a0.2.2.1 (hs14.mono (h.m.leAll (i := 3) rfl)) _ h56 _ h.startAll
            refine q_callX hX h rfl rfl rfl (by decide) Try.func29 rfl rfl rfl (fun a w v L1 S1 hR hb1 h => ?_)
            obtain ⟨k58, rfl, rfl, hv59, hr62, _⟩ := hR
            obtain ⟨hs60, hl61⟩ := hv59
            have hq63 := hs60.fl (S' := S0) fl_8
            refine hK _ _ ⟨fun _ _ => HS.ext hb1, ?_⟩
            replace HS := HS.ext hb1
            clear hK
            refine d_takeP h (fun _ => HS) HN 13 rfl (by kernel_rfl) (by kernel_rfl) (by kernel_rfl) (by decide) rfl rfl (by decide) (fun w' => x_move h.k _ rfl rfl) (fun a h => ?_)
            refine d_takeP h (fun _ => HS) HN 14 rfl (by kernel_rfl) (by kernel_rfl) (by kernel_rfl) (by decide) rfl rfl (by decide) (fun w' => x_ext h.k rfl rfl rfl) (fun a h => ?_)
            refine d_takeP h (fun _ => HS) HN 15 rfl (by kernel_rfl) (by kernel_rfl) (by kernel_rfl) (by decide) rfl rfl (by decide) (fun w' => x_ext h.k rfl rfl rfl) (fun a h => ?_)
            refine d_alone 16 rfl (by kernel_rfl) (fun K hK => ?_)
            refine s_alloc h rfl rfl rfl (by decide) zi_A32_uint8 rfl (fun a w g64 h => ?_)
            replace HS := h.m.pick [1, 2, 3, 4] [.box g46 40 k40, .box g28 40 csa1, .box g27 75 (k1 ++ ([.slice A7 a0.2.1.length c8, .slice A12 a0.2.2.1.length c13, .int .i64 a0.2.2.2.1, .int .i64 a0.2.2.2.2.1, .int .i64 a0.2.2.2.2.2.1, .int .i64 a0.2.2.2.2.2.2])), .sn S0] (by decide) rfl
            refine hK _ _ (fun _ _ => HS) ?_
            clear hK
            refine d_alone 17 rfl (by kernel_rfl) (fun K hK => ?_)
            refine s_stW h rfl rfl rfl ag_A32_uint8 rfl (es := k58) rfl ((hq63).len.trans (by rw [hl61]; rfl)) (hq63).one 0 rfl (by first | rfl | simp_all) (fun a w h => ?_)
            refine hK _ _ (fun hne _ => absurd rfl hne) ?_
            clear hK
            refine d_takeP h (fun hl => absurd hl (by decide)) HN 18 rfl (by kernel_rfl) (by kernel_rfl) (by kernel_rfl) (by decide) rfl rfl (by decide) (fun w' => x_assign h.k _ rfl rfl) (fun a h => ?_)
            refine d_done (by kernel_rfl) (HE _ _ ?_) _
            refine e_thenN ?_
            have h := h.pick [2, 0, 4] (by decide) rfl
            exact ⟨g64, k58, hq63, hl61, h.has (by exact ⟨rfl, rfl, rfl, trivial⟩)⟩
          · refine s_alloc h rfl rfl rfl (by decide) zi_A32_uint8 rfl (fun a w g64 h => ?_)
            replace HS := h.m.pick [1, 2, 3, 4] [.box g46 40 k40, .box g28 40 csa1, .box g27 75 (k1 ++ ([.slice A7 a0.2.1.length c8, .slice A12 a0.2.2.1.length c13, .int .i64 a0.2.2.2.1, .int .i64 a0.2.2.2.2.1, .int .i64 a0.2.2.2.2.2.1, .int .i64 a0.2.2.2.2.2.2])), .sn S0] (by decide) rfl
            refine hK _ _ ⟨fun _ _ => HS, ?_⟩
            clear hK
            refine d_alone 12 rfl (by kernel_rfl) (fun K hK => ?_)
            have hX := merkle_Along_ok Fu (S0 := snapAll _) k50 x47 ((tyA 32 ty8).mono (h.m.leAll (i := 4) rfl) (show (tyA 32 ty8).rep S0 k50 x47 from ⟨hq54, hl53⟩)) a0.2.2.2.1 hr17 A12 c13 a0.2.2.1 (hs14.mono (h.m.leAll (i := 4) rfl)) _ h56 _ h.startAll
            refine q_callX hX h rfl rfl rfl (by decide) Try.func29 rfl rfl rfl (fun a w v L1 S1 hR hb1 h => ?_)
            obtain ⟨k58, rfl, rfl, hv59, hr62, _⟩ := hR
            obtain ⟨hs60, hl61⟩ := hv59
            have hq63 := hs60.fl (S' := S0) fl_8
            refine hK _ _ (fun _ _ => HS.ext hb1) ?_
            replace HS := HS.ext hb1
            clear hK
            refine d_takeP h (fun _ => HS) HN 13 rfl (by kernel_rfl) (by kernel_rfl) (by kernel_rfl) (by decide) rfl rfl (by decide) (fun w' => x_move h.k _ rfl rfl) (fun a h => ?_)
            refine d_takeP h (fun _ => HS) HN 14 rfl (by kernel_rfl) (by kernel_rfl) (by kernel_rfl) (by decide) rfl rfl (by decide) (fun w' => x_ext h.k rfl rfl rfl) (fun a h => ?_)
            refine d_takeP h (fun _ => HS) HN 15 rfl (by kernel_rfl) (by kernel_rfl) (by kernel_rfl) (by decide) rfl rfl (by decide) (fun w' => x_ext h.k rfl rfl rfl) (fun a h => ?_)
            refine d_alone 17 rfl (by kernel_rfl) (fun K hK => ?_)
            refine s_stW h rfl rfl rfl ag_A32_uint8 rfl (es := k58) rfl ((hq63).len.trans (by rw [hl61]; rfl)) (hq63).one 0 rfl (by first | rfl | simp_all) (fun a w h => ?_)
            refine hK _ _ (fun hne _ => absurd rfl hne) ?_
            clear hK
            refine d_takeP h (fun hl => absurd hl (by decide)) HN 18 rfl (by kernel_rfl) (by kernel_rfl) (by kernel_rfl) (by decide) rfl rfl (by decide) (fun w' => x_assign h.k _ rfl rfl) (fun a h => ?_)
            refine d_done (by kernel_rfl) (HE _ _ ?_) _
            refine e_thenN ?_
            have h := h.pick [2, 0, 4] (by decide) rfl
            exact ⟨g64, k58, hq63, hl61, h.has (by exact ⟨rfl, rfl, rfl, trivial⟩)⟩
        · refine s_alloc h rfl rfl rfl (by decide) zi_A32_uint8 rfl (fun a w g64 h => ?_)
          replace HS := h.m.pick [1, 2, 3, 4] [.box g46 40 k40, .box g28 40 csa1, .box g27 75 (k1 ++ ([.slice A7 a0.2.1.length c8, .slice A12 a0.2.2.1.length c13, .int .i64 a0.2.2.2.1, .int .i64 a0.2.2.2.2.1, .int .i64 a0.2.2.2.2.2.1, .int .i64 a0.2.2.2.2.2.2])), .sn S0] (by decide) rfl
          refine hK _ _ ⟨fun _ _ => HS, ?_⟩
          clear hK
          refine d_alone 7 rfl (by kernel_rfl) (fun K hK => ?_)
          have hX := forest_head_ok Fu (S0 := snapAll _) a0.2.2.2.2.1 hr20 a0.2.2.2.2.2.1 hr23 a0.2.2.2.2.2.2 hr24 k40 x37.1 ((tyA 32 ty8).mono (h.m.leAll (i := 4) rfl) (show (tyA 32 ty8).rep S0 k40 x37.1 from ⟨hq45, hl43⟩)) _ h48 _ h.startAll
          refine q_callX hX h rfl rfl rfl (by decide) Try.func78 rfl rfl rfl (fun a w v L1 S1 hR hb1 h => ?_)
          obtain ⟨k50, rfl, rfl, hv51, _⟩ := hR
          obtain ⟨hs52, hl53⟩ := hv51
          have hq54 := hs52.fl (S' := S0) fl_8
          refine hK _ _ (fun _ _ => HS.ext hb1) ?_
          replace HS := HS.ext hb1
          clear hK
          refine d_alone 12 rfl (by kernel_rfl) (fun K hK => ?_)
          have hX := merkle_Along_ok Fu (S0 := snapAll _) k50 x47 ((tyA 32 ty8).mono (h.m.leAll (i := 4) rfl) (show (tyA 32 ty8).rep S0 k50 x47 from ⟨hq54, hl53⟩)) a0.2.2.2.1 hr17 A12 c13 a0.2.2.1 (hs14.mono (h.m.leAll (i := 4) rfl)) _ h56 _ h.startAll
          refine q_callX hX h rfl rfl rfl (by decide) Try.func29 rfl rfl rfl (fun a w v L1 S1 hR hb1 h => ?_)
          obtain ⟨k58, rfl, rfl, hv59, hr62, _⟩ := hR
          obtain ⟨hs60, hl61⟩ := hv59
          have hq63 := hs60.fl (S' := S0) fl_8
          refine hK _ _ (fun _ _ => HS.ext hb1) ?_
          replace HS := HS.ext hb1
          clear hK
          refine d_takeP h (fun _ => HS) HN 13 rfl (by kernel_rfl) (by kernel_rfl) (by kernel_rfl) (by decide) rfl rfl (by decide) (fun w' => x_move h.k _ rfl rfl) (fun a h => ?_)
          refine d_takeP h (fun _ => HS) HN 14 rfl (by kernel_rfl) (by kernel_rfl) (by kernel_rfl) (by decide) rfl rfl (by decide) (fun w' => x_ext h.k rfl rfl rfl) (fun a h => ?_)
          refine d_takeP h (fun _ => HS) HN 15 rfl (by kernel_rfl) (by kernel_rfl) (by kernel_rfl) (by decide) rfl rfl (by decide) (fun w' => x_ext h.k rfl rfl rfl) (fun a h => ?_)
          refine d_alone 17 rfl (by kernel_rfl) (fun K hK => ?_)
          refine s_stW h rfl rfl rfl ag_A32_uint8 rfl (es := k58) rfl ((hq63).len.trans (by rw [hl61]; rfl)) (hq63).one 0 rfl (by first | rfl | simp_all) (fun a w h => ?_)
          refine hK _ _ (fun hne _ => absurd rfl hne) ?_
          clear hK
          refine d_takeP h (fun hl => absurd hl (by decide)) HN 18 rfl (by kernel_rfl) (by kernel_rfl) (by kernel_rfl) (by decide) rfl rfl (by decide) (fun w' => x_assign h.k _ rfl rfl) (fun a h => ?_)
          refine d_done (by kernel_rfl) (HE _ _ ?_) _
          refine e_thenN ?_
          have h := h.pick [2, 0, 4] (by decide) rfl
          exact ⟨g64, k58, hq63, hl61, h.has (by exact ⟨rfl, rfl, rfl, trivial⟩)⟩
      obtain ⟨g64, k65, hs66, hl67, h⟩ := h
      refine e_thenN ?_
      refine c_rs ?_ -- region 7
      refine s_move h rfl _ rfl rfl (by decide) rfl (fun a h => ?_)
      refine s_x h rfl rfl (by decide) (x_bin h.k rfl rfl rfl ib_eql) (fun a h => ?_)
      refine s_move h rfl _ rfl rfl (by decide) rfl (fun a h => ?_)
      refine q_grp h 4 (t := 49) 53 ((decide (x55.2 = 0)) && (decide (x55.1 = a1))) rfl (fun hB2 => ?_) (fun hB2 => ?_) (fun a w h => ?_)
      · refine g_yes h rfl rfl rfl rfl hB2 ?_
        refine s_x h rfl rfl (by decide) (x_ldR h.k rfl ag_A32_uint8 rfl k65 ((hs66).len.trans (by rw [hl67]; rfl)) (h.m.range0 (i := 1) rfl)) (fun a h => ?_)
        refine g_yes h rfl rfl rfl rfl hB2 ?_
        refine s_x h rfl rfl (by decide) (x_ldR h.k rfl ag_A32_uint8 rfl csa1 ((hs25).len.trans (by rw [hl26]; rfl)) (h.m.range0 (i := 0) rfl)) (fun a h => ?_)
        refine g_yes h rfl rfl rfl rfl hB2 ?_
        refine s_x h rfl rfl (by decide) (x_eqlA8 (X := k65) (Y := csa1) h.k rfl Try.underlying40 Try.underlying5 sz_uint8 gda_A32_uint8 rfl rfl hs66 hs25 hl67 hl26) (fun a h => ?_)
        refine s_x h rfl rfl (by decide) (x_pick (u' := undef) h.k rfl rfl (fun _ => rfl) (fun hh => absurd (hB2.symm.trans hh) (by decide))) (fun a h => ?_)
        exact (h.mid 3 rfl).val (by first | rfl | (rw [hB2]; first | rfl | simp))
      · refine g_no h rfl rfl rfl rfl hB2 rfl (by decide) (fun a h => ?_)
        refine g_no h rfl rfl rfl rfl hB2 rfl (by decide) (fun a h => ?_)
        refine g_no h rfl rfl rfl rfl hB2 rfl (by decide) (fun a h => ?_)
        refine s_x h rfl rfl (by decide) (x_pick (u' := undef) h.k rfl rfl (fun hh => absurd (hB2.symm.trans hh) (by decide)) (fun _ => rfl)) (fun a h => ?_)
        exact (h.mid 3 rfl).val (by first | rfl | (rw [hB2]; first | rfl | simp))
      refine s_assign h rfl _ rfl rfl (by decide) rfl (fun a h => ?_)
      refine l_end ?_
      refine wp_ret ?_
      obtain rfl := Option.some.inj hf
      exact r_ret1 h rfl (rv_tmp h rfl) ⟨_, [], _, rfl, ⟨rfl, rfl, trivial⟩, rfl, (Up.refl _ _ _), (h.m.pick [2] _ (by decide) rfl)⟩
end Go.Proofs.Ytlgcfnbhnpnkiaa
