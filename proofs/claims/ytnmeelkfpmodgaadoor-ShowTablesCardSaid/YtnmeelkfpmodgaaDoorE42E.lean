/- Extents as text, the program's and the document's, told over lists. -/
import Derived.Test.YtnmeelkfpmodgaaDoorE42D
import Derived.Test.YtnmeelkfpmodgaaDoorE42S
set_option linter.unusedVariables false
set_option linter.unusedSimpArgs false
namespace Go.Proofs.YtnmeelkfpmodgaaDoor
open Go.RowKit
def mayB (x : Int × Int) : Bool := decide (0 ≤ x.1 ∧ x.1 ≤ 1048576 ∧ 1 ≤ x.2 ∧ x.2 ≤ 1048576 ∧ x.1 + x.2 ≤ 1048576)
theorem mayB_iff {x : Int × Int} : mayB x = true ↔ 0 ≤ x.1 ∧ x.1 ≤ 1048576 ∧ 1 ≤ x.2 ∧ x.2 ≤ 1048576 ∧ x.1 + x.2 ≤ 1048576 := by unfold mayB; simp
theorem cMay (Fu : Nat) (x : Int × Int) : show_may Fu x = some (mayB x) := by
  unfold show_may
  congr 1
  rw [Bool.eq_iff_iff, mayB_iff]
  simp only [Bool.and_eq_true, decide_eq_true_eq]
  by_cases h : 1 ≤ x.2 ∧ x.2 ≤ 1048576
  · rw [w64_of (by omega)]; omega
  · constructor <;> intro hh <;> omega
def exW (x : Int × Int) : List UInt8 := Lib.itoa x.1 ++ (if 1 < x.2 then 45 :: Lib.itoa (x.1 + x.2 - 1) else [])
def exT (l : List (Int × Int)) : List UInt8 := Lib.join ((l.filter mayB).map exW) [32]
theorem itoa7 {n : Int} (h : 0 ≤ n ∧ n ≤ 1048576) : (Lib.itoa n).length ≤ 7 := by
  rw [show n = ((n.toNat : Nat) : Int) by omega, itoa_nat]
  exact decDigits_le 6 n.toNat (by omega)
theorem exW_len {x : Int × Int} (h : mayB x = true) : (exW x).length ≤ 15 ∧ 0 < (exW x).length := by
  have h := mayB_iff.1 h
  have h1 := itoa7 (n := x.1) (by omega)
  have h2 := itoa7 (n := x.1 + x.2 - 1) (by omega)
  have h3 := itoa_pos x.1
  unfold exW
  split <;> simp <;> omega
def stE (acc : List (List UInt8)) (x : Int × Int) : List (List UInt8) := if mayB x = true then acc ++ [exW x] else acc
theorem stE_fold : ∀ (l : List (Int × Int)) (acc : List (List UInt8)), l.foldl stE acc = acc ++ (l.filter mayB).map exW
  | [], acc => by simp
  | x :: l, acc => by
    rw [List.foldl_cons, stE_fold l, List.filter_cons]
    unfold stE
    by_cases h : mayB x = true
    · rw [if_pos h, if_pos h, List.map_cons, List.append_assoc]; rfl
    · rw [if_neg h, if_neg h]
theorem exJ_len (l : List (Int × Int)) : (exT l).length ≤ 16 * l.length := by
  have h := join_len 32 ((l.filter mayB).map exW)
  refine Nat.le_trans h ?_
  rw [List.map_map]
  induction l with
  | nil => simp
  | cons x l ih =>
    rw [List.filter_cons]
    split
    · rename_i hx
      have := (exW_len hx).1
      have ih := ih (join_len 32 _)
      rw [List.map_cons, List.sum_cons]
      simp only [Function.comp_apply, List.length_cons]
      omega
    · have ih := ih (join_len 32 _)
      simp only [List.length_cons]
      omega
theorem cExt (Fu : Nat) (l : List (Int × Int)) (hl : l.length ≤ 1000) (hF : 2000 ≤ Fu) : show_Extents Fu l = some (exT l) := by
  unfold show_Extents
  have h := loopM0 l stE (fun k s i => show_Extents_l0 Fu l k s i) id (fun i s => s.length ≤ i)
    (fun k s i hi hs => by
      have e : (show_Extents_l0 Fu l (k + 1) s (i : Int)) = show_Extents_l0 Fu l k (stE s l[i]) ((i + 1 : Nat) : Int) := by
        rw [show_Extents_l0, if_pos (by omega), idx_at hi]
        simp only [Option.bind_some]
        rw [cMay]
        simp only [Option.bind_some]
        unfold stE
        by_cases hm : mayB l[i] = true
        · have hm2 := mayB_iff.1 hm
          have h7 := itoa7 (n := l[i].1) (by omega)
          rw [hm, if_neg (by decide), if_pos rfl, itoaC]
          simp only [Option.bind_some]
          have ew : (if 1 < l[i].2 then ((strconv_Itoa Fu (w64 ((w64 (l[i].1 + l[i].2)) - 1))).bind fun x53 => (sapp ([45] : List UInt8) x53).bind fun x57 => (sapp (Lib.itoa l[i].1) x57).bind fun x59 => some x59) else (some (Lib.itoa l[i].1))) = some (exW l[i]) := by
            unfold exW
            by_cases h1 : 1 < l[i].2
            · have h8 := itoa7 (n := l[i].1 + l[i].2 - 1) (by omega)
              rw [if_pos h1, if_pos h1, w64_of (x := l[i].1 + l[i].2) (by omega), w64_of (by omega), itoaC]
              simp only [Option.bind_some]
              rw [sapp_k _ _ (by simp; omega)]
              simp only [Option.bind_some]
              rw [sapp_k _ _ (by simp; omega)]; rfl
            · rw [if_neg h1, if_neg h1, List.append_nil]
          rw [ew]
          simp only [Option.bind_some]
          rw [appk 16 _ _ (by omega) (by simp; omega)]
          simp only [Option.bind_some]
          rw [w_sm (by omega), show ((i : Int) + 1) = ((i + 1 : Nat) : Int) by omega]
        · rw [if_neg hm, show mayB l[i] = false by simpa using hm, if_pos (by decide)]
          simp only [Option.bind_some]
          rw [w_sm (by omega), show ((i : Int) + 1) = ((i + 1 : Nat) : Int) by omega]
      refine ⟨e, ?_⟩
      show (stE s l[i]).length ≤ i + 1
      unfold stE
      split <;> (try simp only [List.length_append, List.length_cons, List.length_nil]) <;> omega)
    (fun k s hs => by
      show show_Extents_l0 Fu l (k + 1) s _ = _
      rw [show_Extents_l0, if_neg (by omega)]; rfl) Fu [] (by omega) (by simp)
  try dsimp only at h
  rw [h]
  simp only [Option.bind_some, id]
  rw [stE_fold, List.nil_append, joinC Fu _ 32 (by have := List.length_filter_le mayB l; simp; omega) (by have := exJ_len l; unfold exT at this; omega)]; rfl
end Go.Proofs.YtnmeelkfpmodgaaDoor
