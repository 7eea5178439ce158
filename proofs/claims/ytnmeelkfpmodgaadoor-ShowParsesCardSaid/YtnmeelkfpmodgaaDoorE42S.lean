/- Words of a text: split at spaces, joined; cut at a dash. -/
import Derived.Test.YtnmeelkfpmodgaaDoorSc
import Derived.Test.YtnmeelkfpmodgaaDoorRb
import Derived.Test.YtnmeelkfpmodgaaDoorLp
import Derived.Lib.SplitLaws
set_option linter.unusedVariables false
set_option linter.unusedSimpArgs false
namespace Go.Proofs.YtnmeelkfpmodgaaDoor
open Go.RowKit
/-- the words of a text, at the byte c -/
def spl (c : UInt8) : List UInt8 → List (List UInt8)
  | [] => [[]]
  | b :: t => if b = c then [] :: spl c t else match spl c t with | [] => [[b]] | h :: r => (b :: h) :: r
theorem spl_ne (c : UInt8) : ∀ t, spl c t ≠ []
  | [] => by simp [spl]
  | b :: t => by
    rw [spl]
    split
    · simp
    · split <;> simp
theorem idx_cons_ne {b c : UInt8} (h : b ≠ c) (l : List UInt8) : Lib.index (b :: l) [c] = if Lib.index l [c] == -1 then -1 else Lib.index l [c] + 1 := by
  rw [Lib.index]
  have hp : ([c] : List UInt8).isPrefixOf (b :: l) = false := by simp [List.isPrefixOf, Ne.symm h]
  rw [hp]; simp
theorem idx_cons_eq (c : UInt8) (l : List UInt8) : Lib.index (c :: l) [c] = ((0 : Nat) : Int) := by rw [Lib.index]; simp [List.isPrefixOf]
theorem splitK_spl (c : UInt8) : ∀ s : List UInt8, Lib.splitK [c] 0 (s.count c) s = spl c s
  | [] => rfl
  | b :: t => by
    by_cases h : b = c
    · subst h
      rw [List.count_cons_self, Lib.splitK, idx_cons_eq, spl, if_pos rfl]
      rw [if_neg (by decide)]
      have ih := splitK_spl b t
      simp only [Int.toNat_natCast, Nat.add_zero, List.take_zero, List.length_cons, List.length_nil, Nat.zero_add, List.drop_succ_cons, List.drop_zero]
      rw [ih]
    · have ih := splitK_spl c t
      rw [List.count_cons_of_ne h, spl, if_neg h]
      rcases hk : t.count c with _ | m
      · rw [hk] at ih
        rw [← ih]; rfl
      · rw [hk] at ih
        have hpos : 0 < Lib.count t [c] := by rw [Lib.count_one, hk]; omega
        have hge := Lib.index_ge t [c]
        have hne : Lib.index t [c] ≠ -1 := fun e => by rw [Lib.count_miss e] at hpos; omega
        obtain ⟨i, hi⟩ : ∃ i : Nat, Lib.index t [c] = (i : Int) := ⟨(Lib.index t [c]).toNat, by omega⟩
        have h1 : Lib.index (b :: t) [c] = ((i + 1 : Nat) : Int) := by
          rw [idx_cons_ne h, hi, if_neg (by simp)]; omega
        rw [Lib.splitK, hi, if_neg (by simp)] at ih
        rw [Lib.splitK, h1, if_neg (by simp; omega), ← ih]
        simp [List.take_succ_cons, Nat.add_comm, Nat.add_left_comm]
theorem split_spl (s : List UInt8) (c : UInt8) : Lib.split s [c] = spl c s := by
  unfold Lib.split
  rw [Lib.count_one]
  exact splitK_spl c s
theorem join_spl (c : UInt8) : ∀ s : List UInt8, Lib.join (spl c s) [c] = s
  | [] => rfl
  | b :: t => by
    have ih := join_spl c t
    obtain ⟨h, r, e⟩ : ∃ h r, spl c t = h :: r := by
      cases hs : spl c t with
      | nil => exact absurd hs (spl_ne c t)
      | cons h r => exact ⟨h, r, rfl⟩
    rw [spl]
    rw [e, Lib.join_cons] at ih
    by_cases hb : b = c
    · rw [if_pos hb, e, Lib.join_cons, hb]
      unfold Lib.joinTail
      rw [List.map_cons, List.flatten_cons, List.nil_append, List.append_assoc]
      unfold Lib.joinTail at ih
      rw [ih]; rfl
    · rw [if_neg hb, e]
      dsimp only
      rw [Lib.join_cons, List.cons_append, ih]
theorem spl_app (c : UInt8) : ∀ (w t : List UInt8), c ∉ w → spl c (w ++ c :: t) = w :: spl c t
  | [], t, _ => by rw [List.nil_append, spl, if_pos rfl]
  | b :: w, t, h => by
    rw [List.cons_append, spl, if_neg (fun e => h (by simp [e])), spl_app c w t (fun e => h (by simp [e]))]
theorem spl_one (c : UInt8) : ∀ (w : List UInt8), c ∉ w → spl c w = [w]
  | [], _ => rfl
  | b :: w, h => by rw [spl, if_neg (fun e => h (by simp [e])), spl_one c w (fun e => h (by simp [e]))]
theorem spl_join (c : UInt8) : ∀ (ws : List (List UInt8)), ws ≠ [] → (∀ w ∈ ws, c ∉ w) → spl c (Lib.join ws [c]) = ws
  | [], h, _ => absurd rfl h
  | [w], _, h => by rw [Lib.join_one, spl_one c w (h w (by simp))]
  | w :: v :: r, _, h => by
    have ih := spl_join c (v :: r) (by simp) (fun x hx => h x (by simp [hx]))
    have e : Lib.join (w :: v :: r) [c] = w ++ c :: Lib.join (v :: r) [c] := by
      rw [Lib.join_cons, Lib.join_cons]
      unfold Lib.joinTail
      simp
    rw [e, spl_app c w _ (h w (by simp)), ih]
theorem spl_len (c : UInt8) : ∀ s : List UInt8, (spl c s).length ≤ s.length + 1
  | [] => by simp [spl]
  | b :: t => by
    have := spl_len c t
    rw [spl]
    split
    · simp; omega
    · split
      · simp
      · rename_i h r e; rw [e] at this; simp at this ⊢; omega
theorem spl_mem_len (c : UInt8) : ∀ (s w : List UInt8), w ∈ spl c s → w.length ≤ s.length
  | [], w, h => by simp [spl] at h; subst h; simp
  | b :: t, w, h => by
    rw [spl] at h
    split at h
    · rcases List.mem_cons.1 h with rfl | h
      · simp
      · have := spl_mem_len c t w h; simp; omega
    · split at h
      · simp at h; subst h; simp
      · rename_i h' r e
        rcases List.mem_cons.1 h with rfl | h
        · have := spl_mem_len c t h' (by rw [e]; simp); simp; omega
        · have := spl_mem_len c t w (by rw [e]; simp [h]); simp; omega
/-- a word cut at the first dash -/
theorem cut_miss {c : UInt8} {w : List UInt8} (h : c ∉ w) : Lib.cut w [c] = (w, [], false) := by
  have : Lib.index w [c] = -1 := by
    induction w with
    | nil => rfl
    | cons b w ih =>
      have hb : b ≠ c := fun e => h (by simp [e])
      rw [idx_cons_ne hb, ih (fun e => h (by simp [e]))]; rfl
  unfold Lib.cut
  rw [this, if_neg (by decide)]
theorem cut_hit {c : UInt8} {w : List UInt8} (t : List UInt8) (h : c ∉ w) : Lib.cut (w ++ c :: t) [c] = (w, t, true) := by
  have : Lib.index (w ++ c :: t) [c] = (w.length : Int) := by
    induction w with
    | nil => exact idx_cons_eq c t
    | cons b w ih =>
      have hb : b ≠ c := fun e => h (by simp [e])
      rw [List.cons_append, idx_cons_ne hb, ih (fun e => h (by simp [e])), if_neg (by simp)]; simp
  unfold Lib.cut
  rw [this, if_pos (by omega)]
  simp
theorem cut_cases (c : UInt8) : ∀ w : List UInt8, c ∉ w ∨ ∃ a b, w = a ++ c :: b ∧ c ∉ a
  | [] => .inl (by simp)
  | x :: w => by
    by_cases hx : x = c
    · subst hx; exact .inr ⟨[], w, rfl, by simp⟩
    · rcases cut_cases c w with h | ⟨a, b, rfl, ha⟩
      · exact .inl (by simp [Ne.symm hx, h])
      · exact .inr ⟨x :: a, b, rfl, by simp [Ne.symm hx, ha]⟩
theorem joinC (Fu : Nat) (ws : List (List UInt8)) (c : UInt8) (h1 : ws.length ≤ 100000) (h2 : (Lib.join ws [c]).length ≤ 1000000) : strings_Join Fu ws [c] = some (Lib.join ws [c]) := by
  unfold strings_Join; rw [if_pos (by omega)]
theorem splitC (Fu : Nat) (s : List UInt8) (c : UInt8) (h : s.length ≤ 1000000) : strings_Split Fu s [c] = some (spl c s) := by
  unfold strings_Split; rw [if_pos ⟨by omega, by simp⟩, split_spl]
theorem cutC (Fu : Nat) (s : List UInt8) (c : UInt8) (h : s.length ≤ 1000000) : strings_Cut Fu s [c] = some (Lib.cut s [c]) := by
  unfold strings_Cut; rw [if_pos (by omega)]
theorem join_snoc (ws : List (List UInt8)) (w : List UInt8) (c : UInt8) (h : ws ≠ []) : Lib.join (ws ++ [w]) [c] = Lib.join ws [c] ++ (c :: w) := by
  obtain _ | ⟨x, r⟩ := ws
  · exact absurd rfl h
  · rw [List.cons_append, Lib.join_cons, Lib.join_cons]
    unfold Lib.joinTail
    simp
theorem join_len (c : UInt8) : ∀ ws : List (List UInt8), (Lib.join ws [c]).length ≤ (ws.map fun w => w.length + 1).sum
  | [] => by simp [Lib.join]
  | w :: r => by
    rw [Lib.join_cons]
    unfold Lib.joinTail
    simp only [List.length_append, List.length_flatten, List.map_map, List.map_cons, List.sum_cons]
    have : (r.map (List.length ∘ ([c] ++ ·))).sum = (r.map fun w => w.length + 1).sum := by
      refine congrArg List.sum (List.map_congr_left fun x _ => ?_)
      simp [Nat.add_comm]
    rw [this]; omega
end Go.Proofs.YtnmeelkfpmodgaaDoor
