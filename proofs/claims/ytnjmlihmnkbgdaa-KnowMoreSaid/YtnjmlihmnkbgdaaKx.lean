/- Texts put together. -/
import Derived.Test.YtnjmlihmnkbgdaaE37B
import Derived.Test.YtnjmlihmnkbgdaaKl
import Derived.Test.YtnjmlihmnkbgdaaKq
set_option linter.unusedVariables false
set_option linter.unusedSimpArgs false
namespace Go.Proofs.Ytnjmlihmnkbgdaa
open Go.RowKit
section
theorem awake37 : chatelainelaw37_awake 1000 = some true := by decide +kernel
theorem eq_sorted : ∀ (l1 l2 : List Int), l1.Pairwise (· < ·) → l2.Pairwise (· < ·) → (∀ x, x ∈ l1 ↔ x ∈ l2) → l1 = l2
  | [], [], _, _, _ => rfl
  | [], y :: ys, _, _, h => by have := (h y).2 (List.mem_cons_self ..); cases this
  | x :: xs, [], _, _, h => by have := (h x).1 (List.mem_cons_self ..); cases this
  | x :: xs, y :: ys, h1, h2, h => by
    have a1 := List.pairwise_cons.1 h1
    have a2 := List.pairwise_cons.1 h2
    have hxy : x = y := by
      rcases List.mem_cons.1 ((h x).1 (List.mem_cons_self ..)) with e | e
      · exact e
      · rcases List.mem_cons.1 ((h y).2 (List.mem_cons_self ..)) with e2 | e2
        · exact e2.symm
        · have := a1.1 _ e2; have := a2.1 _ e; omega
    subst hxy
    have : xs = ys := eq_sorted xs ys a1.2 a2.2 (fun z => by
      constructor
      · intro hz
        rcases List.mem_cons.1 ((h z).1 (List.mem_cons_of_mem _ hz)) with e | e
        · have := a1.1 _ hz; omega
        · exact e
      · intro hz
        rcases List.mem_cons.1 ((h z).2 (List.mem_cons_of_mem _ hz)) with e | e
        · have := a2.1 _ hz; omega
        · exact e)
    rw [this]
theorem KS.nodup {T : List Tm} {g : List Int} {b : List Bool} {o : List Int} (h : KS T g b o) : o.Nodup := by
  unfold List.Nodup
  rw [List.pairwise_iff_getElem]
  intro i j hi hj hij he
  have := h.nd i j o[i] (List.getElem?_eq_getElem hi) (by rw [List.getElem?_eq_getElem hj, he])
  omega
theorem sortI_lt {l : List Int} (h : l.Nodup) : (sortI l).Pairwise (· < ·) := by
  have h1 : (sortI l).Pairwise (fun a b => decide (a ≤ b) = true) := List.pairwise_mergeSort (fun a b c => by simp; omega) (fun a b => by simp; omega) l
  have h2 : (sortI l).Nodup := (List.mergeSort_perm l _).nodup_iff.2 h
  exact (h1.and h2).imp (fun ⟨ha, hb⟩ => by have := of_decide_eq_true ha; omega)
/-- what a row of marks marks -/
def wantL (b : List Bool) (n : Nat) : List Int := ((List.range n).filter fun j => bt b j).map (fun (j : Nat) => (j : Int))
theorem wantL_len (b : List Bool) (n : Nat) : (wantL b n).length ≤ n := by
  unfold wantL
  rw [List.length_map]
  exact Nat.le_trans (List.length_filter_le _ _) (by simp)
theorem wantL_lt (b : List Bool) (n : Nat) : (wantL b n).Pairwise (· < ·) := by
  unfold wantL
  rw [List.pairwise_map]
  exact (List.Pairwise.filter _ List.pairwise_lt_range).imp (fun h => by omega)
theorem wantL_mem (b : List Bool) (n : Nat) (x : Int) : x ∈ wantL b n ↔ ∃ m : Nat, x = (m : Int) ∧ m < n ∧ bt b m = true := by
  unfold wantL
  simp only [List.mem_map, List.mem_filter, List.mem_range]
  constructor
  · rintro ⟨m, ⟨h1, h2⟩, rfl⟩; exact ⟨m, rfl, h1, h2⟩
  · rintro ⟨m, rfl, h1, h2⟩; exact ⟨m, ⟨h1, h2⟩, rfl⟩
theorem KS.sort {T : List Tm} {g : List Int} {b : List Bool} {o : List Int} (h : KS T g b o) : sortI o = wantL b T.length := by
  refine eq_sorted _ _ (sortI_lt h.nodup) (wantL_lt b _) (fun x => ?_)
  rw [sortI_mem, wantL_mem]
  constructor
  · intro hx
    obtain ⟨n, rfl, hn⟩ := h.rng x hx
    exact ⟨n, rfl, hn, (h.mem n).2 hx⟩
  · rintro ⟨m, rfl, h1, h2⟩
    exact (h.mem m).1 h2
theorem wantL_same {b c : List Bool} (h : ∀ i, bt b i = bt c i) (n : Nat) : wantL b n = wantL c n := by
  unfold wantL
  rw [show (fun j => bt b j) = (fun j => bt c j) from funext h]
theorem appSeq (Fu : Nat) : ∀ (l acc : List Int), acc.length + l.length < 1000000 → slices_AppendSeq___int_int_nils0_iter1_enc1_int_r0 Fu l acc = some (acc ++ l)
  | [], acc, _ => by rw [slices_AppendSeq___int_int_nils0_iter1_enc1_int_r0, List.append_nil]
  | x :: l, acc, h => by
    simp only [List.length_cons] at h
    rw [slices_AppendSeq___int_int_nils0_iter1_enc1_int_r0, app8 _ _ (by omega)]
    simp only [Option.bind_some]
    rw [appSeq Fu l (acc ++ [x]) (by simp; omega), List.append_assoc]; rfl
theorem kList (Fu : Nat) {T : List Tm} {g : List Int} {b : List Bool} {o : List Int} (h : KS T g b o) (hT : T.length ≤ 100) : know_Set_List Fu (T, b, o, true) = some (wantL b T.length) := by
  have hl := h.olen
  unfold know_Set_List know_Set_made slices_Values___int_int slices_Sorted_int_iter0_enc1_int slices_Collect_int_iter0_enc1_int slices_AppendSeq___int_int_nils0_iter1_enc1_int
  simp only [Option.bind_some]
  rw [if_neg (by simp), appSeq Fu o [] (by simp; omega)]
  simp only [Option.bind_some, List.nil_append]
  unfold srt
  rw [if_pos (by omega)]
  simp only [Option.bind_some]
  rw [h.sort]
theorem rInts_l0 (Fu : Nat) (a : List Int) (ha : a.length < 1000000) : ∀ t k j, j + t = a.length → t < k → chatelaineref01_Ints_l0 Fu a a k (j : Int) = some (.inr ()) := by
  intro t
  induction t with
  | zero =>
    intro k j hj hk
    obtain ⟨k, rfl⟩ : ∃ m, k = m + 1 := ⟨k - 1, by omega⟩
    rw [chatelaineref01_Ints_l0, if_neg (by omega)]
  | succ t ih =>
    intro k j hj hk
    obtain ⟨k, rfl⟩ : ∃ m, k = m + 1 := ⟨k - 1, by omega⟩
    rw [chatelaineref01_Ints_l0, if_pos (by omega), idx_nat, List.getElem?_eq_getElem (by omega)]
    simp only [Option.bind_some]
    rw [if_neg (by simp), w_id (by omega)]
    exact ih k (j + 1) (by omega) (by omega)
theorem rInts (Fu : Nat) (a : List Int) (ha : a.length < 1000000) (h : a.length < Fu) : chatelaineref01_Ints Fu a a = some true := by
  unfold chatelaineref01_Ints
  rw [if_neg (by simp), show (0 : Int) = ((0 : Nat) : Int) from rfl, rInts_l0 Fu a ha a.length Fu 0 (by omega) h]; rfl
theorem bad_of {T : List Tm} {g : List Int} (hg : ¬ okG T g) : ∃ x ∈ g, x < 0 ∨ (T.length : Int) ≤ x := by
  apply Decidable.byContradiction
  intro hno
  apply hg
  intro x hx
  refine ⟨x.toNat, ?_, ?_⟩
  · apply Decidable.byContradiction; intro h0; exact hno ⟨x, hx, by omega⟩
  · apply Decidable.byContradiction; intro h0; exact hno ⟨x, hx, by omega⟩
end
section

end
end Go.Proofs.Ytnjmlihmnkbgdaa
