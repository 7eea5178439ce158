/- Texts put together. -/
import Derived.Test.YtohgmggdfmjgnaaGf
import Derived.Test.YtohgmggdfmjgnaaE04B
import Derived.Test.YtohgmggdfmjgnaaWp
set_option linter.unusedVariables false
set_option linter.unusedSimpArgs false
namespace Go.Proofs.Ytohgmggdfmjgnaa
open Go.RowKit
section
section

end
section
def getW (key : List UInt8) (i : Nat) : UInt32 := mk4 (key.getD (4 * i) 0) (key.getD (4 * i + 1) 0) (key.getD (4 * i + 2) 0) (key.getD (4 * i + 3) 0)
def nxT (k i : Nat) (plus : UInt8) (pre : List UInt32) : UInt32 :=
  if i % k = 0 then swpd (rotw (pre.getD (i - 1) 0)) ^^^ u32_shl (UInt32.ofNat plus.toNat) 24 else if k = 8 ∧ i % 8 = 4 then swpd (pre.getD (i - 1) 0) else pre.getD (i - 1) 0
def nxW (k i : Nat) (plus : UInt8) (pre : List UInt32) : UInt32 := pre.getD (i - k) 0 ^^^ nxT k i plus pre
def nxP (k i : Nat) (plus : UInt8) : UInt8 := if i % k = 0 then tw plus else plus
def sch (k : Nat) : Nat → Nat → UInt8 → List UInt32 → List UInt32
  | 0, _, _, pre => pre
  | d + 1, i, plus, pre => sch k d (i + 1) (nxP k i plus) (pre ++ [nxW k i plus pre])
def kws (key : List UInt8) (k : Nat) : List UInt32 := (List.range k).map (getW key)
def schedA (key : List UInt8) : List UInt32 := sch (key.length / 4) (4 * (key.length / 4 + 7) - key.length / 4) (key.length / 4) 1 (kws key (key.length / 4))
theorem sch_len (k : Nat) : ∀ d i plus pre, (sch k d i plus pre).length = pre.length + d
  | 0, _, _, _ => rfl
  | d + 1, i, plus, pre => by rw [sch, sch_len k d]; simp; omega
theorem sched_len {key : List UInt8} (h : key.length = 16 ∨ key.length = 32) : (schedA key).length = 4 * (key.length / 4 + 6 + 1) := by
  unfold schedA kws
  rw [sch_len]
  simp only [List.length_map, List.length_range]
  rcases h with h | h <;> rw [h]
theorem set_mid {α : Type} (pre : List α) (d : Nat) (z v : α) : (pre ++ List.replicate (d + 1) z).set pre.length v = (pre ++ [v]) ++ List.replicate d z := by
  rw [List.set_append_right _ _ (Nat.le_refl _), Nat.sub_self, List.replicate_succ, List.set_cons_zero, List.append_assoc]; rfl
theorem sub4 (key : List UInt8) (i : Nat) (h : 4 * i + 4 ≤ key.length) : sub key (4 * (i : Int)) (4 * (i : Int) + 4) = some [key.getD (4 * i) 0, key.getD (4 * i + 1) 0, key.getD (4 * i + 2) 0, key.getD (4 * i + 3) 0] := by
  unfold sub
  rw [if_pos (by omega), show (4 * (i : Int) + 4).toNat = 4 * i + 4 by omega, show (4 * (i : Int)).toNat = 4 * i by omega, ← List.take_drop]
  congr 1
  apply List.ext_getElem?
  intro j
  rw [List.getElem?_take]
  rcases j with _ | _ | _ | _ | j
  · rw [if_pos (by omega), List.getElem?_drop, getD_some 0 (by omega)]; rfl
  · rw [if_pos (by omega), List.getElem?_drop, getD_some 0 (by omega)]; rfl
  · rw [if_pos (by omega), List.getElem?_drop, getD_some 0 (by omega)]; rfl
  · rw [if_pos (by omega), List.getElem?_drop, getD_some 0 (by omega)]; rfl
  · rw [if_neg (by omega)]; rfl
section
variable {key : List UInt8} {k N : Nat} {q : List UInt8}
theorem tdiv4 (h : key.length = 4 * k) (hk : k ≤ 8) : w64 (Int.tdiv (key.length : Int) 4) = (k : Int) := by
  rw [show (4 : Int) = ((4 : Nat) : Int) from rfl, ← Int.ofNat_tdiv, h, Nat.mul_div_cancel_left _ (by decide)]
  exact k_id (by omega)
theorem out_get {pre : List UInt32} {d m : Nat} {z : UInt32} (h : m < pre.length) : (pre ++ List.replicate d z)[m]? = some (pre.getD m 0) := by
  rw [List.getElem?_append_left h, getD_some 0 h]
theorem remI_nat {i k : Nat} (h : k ≠ 0) : remI (i : Int) (k : Int) = some ((i % k : Nat) : Int) := by
  unfold remI
  rw [if_neg (by omega), ← Int.ofNat_tmod]
theorem ex1 (h : key.length = 4 * k) (hk : k ≤ 8) (K i d : Nat) (plus : UInt8) (pre : List UInt32) (hp : pre.length = i) (hi : i < k) (hN : i + (d + 1) = N) (hN2 : N ≤ 100) :
    aes_expand_at0_aes_Cipher_1_l0 300 key (K + 1) plus (N : Int) (i : Int) [] bxL q (pre ++ List.replicate (d + 1) 0) = aes_expand_at0_aes_Cipher_1_l0 300 key K plus (N : Int) ((i + 1 : Nat) : Int) [] bxL q ((pre ++ [getW key i]) ++ List.replicate d 0) := by
  rw [aes_expand_at0_aes_Cipher_1_l0, if_pos (by omega), tdiv4 h hk, if_pos (by omega), k_id (x := 4 * (i : Int)) (by omega), k_id (x := 4 * (i : Int) + 4) (by omega), sub4 key i (by omega)]
  simp only [Option.bind_some]
  rw [show word_Get32 300 [key.getD (4 * i) 0, key.getD (4 * i + 1) 0, key.getD (4 * i + 2) 0, key.getD (4 * i + 3) 0] = some (getW key i, true) from rfl]
  simp only [Option.bind_some]
  rw [ix_nat (by simp; omega)]
  simp only [Option.bind_some]
  rw [← hp, set_mid, hp, k_id (by omega)]
  rfl
theorem ex2 (h : key.length = 4 * k) (hk : k ≤ 8) (hk0 : 0 < k) (K i d : Nat) (plus : UInt8) (pre : List UInt32) (hp : pre.length = i) (hi : k ≤ i) (hN : i + (d + 1) = N) (hN2 : N ≤ 100) :
    aes_expand_at0_aes_Cipher_1_l0 300 key (K + 1) plus (N : Int) (i : Int) [] bxL q (pre ++ List.replicate (d + 1) 0) = aes_expand_at0_aes_Cipher_1_l0 300 key K (nxP k i plus) (N : Int) ((i + 1 : Nat) : Int) [] bxL q ((pre ++ [nxW k i plus pre]) ++ List.replicate d 0) := by
  rw [aes_expand_at0_aes_Cipher_1_l0, if_pos (by omega), tdiv4 h hk, if_neg (by omega), k_id (x := (i : Int) - 1) (by omega), show (i : Int) - 1 = ((i - 1 : Nat) : Int) by omega, ix_nat (by simp; omega)]
  simp only [Option.bind_some]
  rw [out_get (by omega)]
  simp only [Option.bind_some]
  rw [remI_nat (by omega)]
  simp only [Option.bind_some]
  have e : (if ((i % k : Nat) : Int) = 0 then
          ((word_Rotate 300 (pre.getD (i - 1) 0) (-8)).bind fun x147 =>
            (aes_swapped_at0_aes_Cipher_1 300 ([], bxL, q) x147).bind fun x150 =>
              (gf_Times 300 plus (2 : UInt8)).bind fun x165 => some (x165, (x150.1 ^^^ (u32_shl (UInt32.ofNat plus.toNat) 24)), x150.2.1, x150.2.2.1, x150.2.2.2))
        else (if ((decide ((k : Int) = 8)) && (decide (Int.tmod (i : Int) 8 = 4))) = true then ((aes_swapped_at0_aes_Cipher_1 300 ([], bxL, q) (pre.getD (i - 1) 0)).bind fun x170 => some (plus, x170.1, x170.2.1, x170.2.2.1, x170.2.2.2)) else (some (plus, pre.getD (i - 1) 0, [], bxL, q)))) =
      some (nxP k i plus, nxT k i plus pre, [], bxL, q) := by
    unfold nxP nxT
    by_cases h1 : i % k = 0
    · rw [if_pos (by omega), if_pos h1, if_pos h1, pRotate]
      simp only [Option.bind_some]
      rw [pSwapped]
      simp only [Option.bind_some]
      rw [pTimes2]
      rfl
    · rw [if_neg (by omega), if_neg h1, if_neg h1]
      by_cases h2 : k = 8 ∧ i % 8 = 4
      · rw [if_pos (by rw [show (8 : Int) = ((8 : Nat) : Int) from rfl, ← Int.ofNat_tmod]; simp; omega), if_pos h2, pSwapped]
        rfl
      · rw [if_neg (by rw [show (8 : Int) = ((8 : Nat) : Int) from rfl, ← Int.ofNat_tmod]; simp; omega), if_neg h2]
  rw [e]
  simp only [Option.bind_some]
  rw [k_id (x := (i : Int) - (k : Int)) (by omega), show (i : Int) - (k : Int) = ((i - k : Nat) : Int) by omega, ix_nat (by simp; omega)]
  simp only [Option.bind_some]
  rw [out_get (by omega)]
  simp only [Option.bind_some]
  rw [ix_nat (by simp; omega)]
  simp only [Option.bind_some]
  rw [show (pre ++ List.replicate (d + 1) (0 : UInt32)).set i (pre.getD (i - k) 0 ^^^ nxT k i plus pre) = (pre ++ [nxW k i plus pre]) ++ List.replicate d 0 by rw [← hp, set_mid, hp]; rfl, k_id (by omega)]
  rfl
theorem exA (h : key.length = 4 * k) (hk : k ≤ 8) (hk0 : 0 < k) (hN2 : N ≤ 100) : ∀ d K i plus (pre : List UInt32), pre.length = i → k ≤ i → i + d = N → d < K →
    aes_expand_at0_aes_Cipher_1_l0 300 key K plus (N : Int) (i : Int) [] bxL q (pre ++ List.replicate d 0) = some ([], bxL, q, sch k d i plus pre) := by
  intro d
  induction d with
  | zero =>
    intro K i plus pre hp hi hN hK
    obtain ⟨K, rfl⟩ : ∃ m, K = m + 1 := ⟨K - 1, by omega⟩
    rw [aes_expand_at0_aes_Cipher_1_l0, if_neg (by omega)]
    simp [sch]
  | succ d ih =>
    intro K i plus pre hp hi hN hK
    obtain ⟨K, rfl⟩ : ∃ m, K = m + 1 := ⟨K - 1, by omega⟩
    rw [ex2 h hk hk0 K i d plus pre hp hi hN hN2, ih K (i + 1) _ _ (by simp [hp]) (by omega) (by omega) (by omega)]
    rfl
theorem exB (h : key.length = 4 * k) (hk : k ≤ 8) (hk0 : 0 < k) (hN2 : N ≤ 100) (hkN : k ≤ N) (hNK : N < 200) : ∀ e i K, i + e = k → N - i < K →
    aes_expand_at0_aes_Cipher_1_l0 300 key K 1 (N : Int) (i : Int) [] bxL q ((List.range i).map (getW key) ++ List.replicate (N - i) 0) = some ([], bxL, q, sch k (N - k) k 1 (kws key k)) := by
  intro e
  induction e with
  | zero =>
    intro i K hi hK
    obtain rfl : i = k := by omega
    exact exA h hk hk0 hN2 (N - i) K i 1 _ (by simp) (Nat.le_refl _) (by omega) hK
  | succ e ih =>
    intro i K hi hK
    obtain ⟨K, rfl⟩ : ∃ m, K = m + 1 := ⟨K - 1, by omega⟩
    obtain ⟨d, hd⟩ : ∃ d, N - i = d + 1 := ⟨N - i - 1, by omega⟩
    rw [hd, ex1 h hk K i d 1 _ (by simp) (by omega) (by omega) hN2, ← ih (i + 1) K (by omega) (by omega), show N - (i + 1) = d by omega, List.range_succ, List.map_append]
    rfl
theorem pExpand (h : key.length = 16 ∨ key.length = 32) : aes_expand_at0_aes_Cipher_1 300 ([], bxL, q) key = some (schedA key, ([], bxL, q)) := by
  unfold aes_expand_at0_aes_Cipher_1 aes_rounds
  rcases h with h | h
  · have := exB (N := 44) (q := q) (k := 4) (key := key) (by omega) (by omega) (by omega) (by omega) (by omega) (by omega) 4 0 300 (by omega) (by omega)
    rw [show (((44 : Nat) : Int)) = (44 : Int) from rfl] at this
    unfold schedA
    rw [h]
    show (aes_expand_at0_aes_Cipher_1_l0 300 key 300 1 (44 : Int) 0 [] bxL q (List.replicate 44 0)).bind _ = _
    rw [show (List.replicate 44 (0 : UInt32)) = (List.range 0).map (getW key) ++ List.replicate (44 - 0) 0 from rfl, show (0 : Int) = ((0 : Nat) : Int) from rfl, this]
    rfl
  · have := exB (N := 60) (q := q) (k := 8) (key := key) (by omega) (by omega) (by omega) (by omega) (by omega) (by omega) 8 0 300 (by omega) (by omega)
    rw [show (((60 : Nat) : Int)) = (60 : Int) from rfl] at this
    unfold schedA
    rw [h]
    show (aes_expand_at0_aes_Cipher_1_l0 300 key 300 1 (60 : Int) 0 [] bxL q (List.replicate 60 0)).bind _ = _
    rw [show (List.replicate 60 (0 : UInt32)) = (List.range 0).map (getW key) ++ List.replicate (60 - 0) 0 from rfl, show (0 : Int) = ((0 : Nat) : Int) from rfl, this]
    rfl
theorem pNew (h : key.length = 16 ∨ key.length = 32) : aes_New 300 key = some (.inr ((schedA key, bxL, bkL), 0)) := by
  unfold aes_New
  have e : aes_rounds 300 (key.length : Int) = some (if key.length = 16 then 10 else 14) := by
    unfold aes_rounds
    rcases h with h | h <;> rw [h] <;> rfl
  rw [e]
  simp only [Option.bind_some]
  rw [if_neg (by split <;> decide), box_is]
  simp only [Option.bind_some]
  rw [swap_is]
  simp only [Option.bind_some]
  rw [pExpand h]
  rfl
theorem pNewBad (h : key.length ≠ 16 ∧ key.length ≠ 32) : aes_New 300 key = some (.inl 20) := by
  unfold aes_New aes_rounds
  rw [if_neg (by omega), if_neg (by omega)]
  rfl
end
end
end
section
theorem bnd_eqW {α β : Type} {o : Option α} {x : α} (h : o = some x) (f : α → Option β) : o.bind f = f x := by rw [h]; rfl
/-! counts as bytes -/
def be8 (t : Nat) : List UInt8 := [0, 0, 0, 0, 0, 0, 0, UInt8.ofNat t]
theorem be8_all : ∀ t : Fin 49, word_Put64 300 (u64I (t.val : Int)) = some (be8 t.val) := by decide +kernel
theorem pPut64 (t : Nat) (h : t ≤ 48) : word_Put64 300 (u64I (t : Int)) = some (be8 t) := be8_all ⟨t, by omega⟩
def cnt (s : List UInt8) (t : Nat) : List UInt8 := ad (s.take 8) (be8 t) ++ s.drop 8
theorem cnt_len {s : List UInt8} (h : s.length = 16) (t : Nat) : (cnt s t).length = 16 := by
  obtain ⟨a0, a1, a2, a3, a4, a5, a6, a7, a8, a9, a10, a11, a12, a13, a14, a15, rfl⟩ := l16 s h
  rfl
theorem cnt_cnt {s : List UInt8} (h : s.length = 16) (t : Nat) : cnt (cnt s t) t = s := by
  have h8 : (s.take 8).length = 8 := by rw [List.length_take]; omega
  have hl : (ad (s.take 8) (be8 t)).length = 8 := by simp [ad, h8, be8]
  unfold cnt
  rw [List.take_left' hl, List.drop_left' hl, ad_ad _ _ (by rw [h8]; exact Nat.le_refl _), List.take_append_drop]
theorem pCount {s : List UInt8} (h : s.length = 16) (t : Nat) (ht : t ≤ 48) : wrap_count_view0_16_uint8 300 s (0, 8) (t : Int) = some (cnt s t) := by
  unfold wrap_count_view0_16_uint8
  refine (bnd_eqW (pPut64 t ht) _).trans ?_
  obtain ⟨a0, a1, a2, a3, a4, a5, a6, a7, a8, a9, a10, a11, a12, a13, a14, a15, rfl⟩ := l16 s h
  unfold be8 cnt be8
  generalize UInt8.ofNat t = z
  rfl
/-! pieces -/
abbrev WS := List UInt8 × List (List UInt8)
def okW (n : Nat) (s : WS) : Prop := s.1.length = 8 ∧ s.2.length = n ∧ ∀ r ∈ s.2, r.length = 8
def flW (s : WS) : List UInt8 := s.1 ++ s.2.flatten
def stepW (f : List UInt8 → List UInt8) (t m : Nat) (s : WS) : WS := ((cnt (f (s.1 ++ s.2.getD m [])) t).take 8, s.2.set m ((cnt (f (s.1 ++ s.2.getD m [])) t).drop 8))
def unW (g : List UInt8 → List UInt8) (t m : Nat) (s : WS) : WS := ((g (cnt (s.1 ++ s.2.getD m []) t)).take 8, s.2.set m ((g (cnt (s.1 ++ s.2.getD m []) t)).drop 8))
def wN (f : List UInt8 → List UInt8) (n : Nat) : Nat → WS → WS
  | 0, s => s
  | t + 1, s => stepW f (t + 1) (t % n) (wN f n t s)
def uN (g : List UInt8 → List UInt8) (n : Nat) : Nat → WS → WS
  | 0, s => s
  | t + 1, s => uN g n t (unW g (t + 1) (t % n) s)
theorem fl8_len : ∀ (R : List (List UInt8)), (∀ r ∈ R, r.length = 8) → R.flatten.length = 8 * R.length
  | [], _ => rfl
  | r :: R, h => by
    rw [List.flatten_cons, List.length_append, fl8_len R (fun x hx => h x (by simp [hx])), h r (by simp), List.length_cons]; omega
theorem fl8_split : ∀ (R : List (List UInt8)) (m : Nat) (v : List UInt8), (∀ r ∈ R, r.length = 8) → m < R.length → ∃ P Q, P.length = 8 * m ∧ R.flatten = P ++ (R.getD m [] ++ Q) ∧ (R.set m v).flatten = P ++ (v ++ Q)
  | [], m, v, _, hm => by simp at hm
  | r :: R, 0, v, h, hm => ⟨[], R.flatten, rfl, rfl, rfl⟩
  | r :: R, m + 1, v, h, hm => by
    obtain ⟨P, Q, h1, h2, h3⟩ := fl8_split R m v (fun x hx => h x (by simp [hx])) (by simpa using hm)
    refine ⟨r ++ P, Q, ?_, ?_, ?_⟩
    · rw [List.length_append, h r (by simp), h1]; omega
    · rw [List.flatten_cons, h2, List.getD_cons_succ, List.append_assoc]
    · rw [List.set_cons_succ, List.flatten_cons, h3, List.append_assoc]
theorem getD_len {R : List (List UInt8)} {m : Nat} (h : ∀ r ∈ R, r.length = 8) (hm : m < R.length) : (R.getD m []).length = 8 := by
  rw [List.getD, List.getElem?_eq_getElem hm]
  exact h _ (List.getElem_mem hm)
theorem mem_set8 {R : List (List UInt8)} {m : Nat} {v : List UInt8} (h : ∀ r ∈ R, r.length = 8) (hv : v.length = 8) : ∀ r ∈ R.set m v, r.length = 8 := by
  intro r hr
  rcases List.mem_or_eq_of_mem_set hr with h1 | h1
  · exact h r h1
  · rw [h1]; exact hv
section
variable {f g : List UInt8 → List UInt8} {n : Nat}
theorem stepW_ok (hf : ∀ s, s.length = 16 → (f s).length = 16) {s : WS} (h : okW n s) {t m : Nat} (hm : m < n) : okW n (stepW f t m s) := by
  obtain ⟨h1, h2, h3⟩ := h
  have hr := getD_len h3 (show m < s.2.length by omega)
  have hc := cnt_len (hf (s.1 ++ s.2.getD m []) (by rw [List.length_append]; omega)) t
  refine ⟨by simp only [stepW, List.length_take]; omega, by simp only [stepW, List.length_set]; exact h2, mem_set8 h3 (by rw [List.length_drop]; omega)⟩
theorem unW_ok (hg : ∀ s, s.length = 16 → (g s).length = 16) {s : WS} (h : okW n s) {t m : Nat} (hm : m < n) : okW n (unW g t m s) := by
  obtain ⟨h1, h2, h3⟩ := h
  have hr := getD_len h3 (show m < s.2.length by omega)
  have hc := hg _ (cnt_len (s := s.1 ++ s.2.getD m []) (by rw [List.length_append]; omega) t)
  refine ⟨by simp only [unW, List.length_take]; omega, by simp only [unW, List.length_set]; exact h2, mem_set8 h3 (by rw [List.length_drop]; omega)⟩
theorem set_back {R : List (List UInt8)} {m : Nat} (v : List UInt8) (hm : m < R.length) : (R.set m v).set m (R.getD m []) = R := by
  apply List.ext_getElem?
  intro j
  by_cases hj : m = j
  · subst hj
    rw [List.getElem?_set_self (by simpa using hm), List.getD, List.getElem?_eq_getElem hm]; rfl
  · rw [List.getElem?_set_ne hj, List.getElem?_set_ne hj]
theorem un_step (hf : ∀ s, s.length = 16 → (f s).length = 16) (hfg : ∀ s, s.length = 16 → g (f s) = s) {s : WS} (h : okW n s) {t m : Nat} (hm : m < n) : unW g t m (stepW f t m s) = s := by
  obtain ⟨A, R⟩ := s
  obtain ⟨h1, h2, h3⟩ := h
  dsimp only at h1 h2 h3
  have hr := getD_len h3 (show m < R.length by omega)
  have hA : (A ++ R.getD m []).length = 16 := by rw [List.length_append]; omega
  have hc := cnt_len (hf _ hA) t
  unfold unW stepW
  dsimp only
  have e : (R.set m ((cnt (f (A ++ R.getD m [])) t).drop 8)).getD m [] = (cnt (f (A ++ R.getD m [])) t).drop 8 := by
    rw [List.getD, List.getElem?_set_self (by omega)]; rfl
  rw [e, List.take_append_drop, cnt_cnt (hf _ hA), hfg _ hA, List.take_left' h1, List.drop_left' h1, set_back _ (by omega)]
theorem step_un (hg : ∀ s, s.length = 16 → (g s).length = 16) (hgf : ∀ s, s.length = 16 → f (g s) = s) {s : WS} (h : okW n s) {t m : Nat} (hm : m < n) : stepW f t m (unW g t m s) = s := by
  obtain ⟨A, R⟩ := s
  obtain ⟨h1, h2, h3⟩ := h
  dsimp only at h1 h2 h3
  have hr := getD_len h3 (show m < R.length by omega)
  have hA : (A ++ R.getD m []).length = 16 := by rw [List.length_append]; omega
  have hc := cnt_len hA t
  unfold unW stepW
  dsimp only
  have e : (R.set m ((g (cnt (A ++ R.getD m []) t)).drop 8)).getD m [] = (g (cnt (A ++ R.getD m []) t)).drop 8 := by
    rw [List.getD, List.getElem?_set_self (by omega)]; rfl
  rw [e, List.take_append_drop, hgf _ hc, cnt_cnt hA, List.take_left' h1, List.drop_left' h1, set_back _ (by omega)]
theorem wN_ok (hf : ∀ s, s.length = 16 → (f s).length = 16) (hn : 0 < n) {s : WS} (h : okW n s) : ∀ t, okW n (wN f n t s)
  | 0 => h
  | t + 1 => stepW_ok hf (wN_ok hf hn h t) (Nat.mod_lt _ hn)
theorem uN_ok (hg : ∀ s, s.length = 16 → (g s).length = 16) (hn : 0 < n) : ∀ t (s : WS), okW n s → okW n (uN g n t s)
  | 0, _, h => h
  | t + 1, s, h => uN_ok hg hn t _ (unW_ok hg h (Nat.mod_lt _ hn))
theorem uN_wN (hf : ∀ s, s.length = 16 → (f s).length = 16) (hfg : ∀ s, s.length = 16 → g (f s) = s) (hn : 0 < n) {s : WS} (h : okW n s) : ∀ t, uN g n t (wN f n t s) = s
  | 0 => rfl
  | t + 1 => by
    rw [wN, uN, un_step hf hfg (wN_ok hf hn h t) (Nat.mod_lt _ hn), uN_wN hf hfg hn h t]
theorem wN_uN (hg : ∀ s, s.length = 16 → (g s).length = 16) (hgf : ∀ s, s.length = 16 → f (g s) = s) (hn : 0 < n) : ∀ t (s : WS), okW n s → wN f n t (uN g n t s) = s
  | 0, _, _ => rfl
  | t + 1, s, h => by
    rw [uN, wN, wN_uN hg hgf hn t _ (unW_ok hg h (Nat.mod_lt _ hn)), step_un hg hgf h (Nat.mod_lt _ hn)]
end
/-! chunks of a key -/
def chunk : Nat → List UInt8 → List (List UInt8)
  | 0, _ => []
  | n + 1, l => l.take 8 :: chunk n (l.drop 8)
theorem chunk_len : ∀ n l, (chunk n l).length = n
  | 0, _ => rfl
  | n + 1, l => by rw [chunk, List.length_cons, chunk_len n]
theorem chunk_flat : ∀ n (l : List UInt8), l.length = 8 * n → (chunk n l).flatten = l
  | 0, l, h => by
    have : l = [] := List.eq_nil_of_length_eq_zero (by omega)
    subst this; rfl
  | n + 1, l, h => by
    rw [chunk, List.flatten_cons, chunk_flat n (l.drop 8) (by rw [List.length_drop]; omega), List.take_append_drop]
theorem chunk_8 : ∀ n (l : List UInt8), l.length = 8 * n → ∀ r ∈ chunk n l, r.length = 8
  | 0, l, h => by intro r hr; simp [chunk] at hr
  | n + 1, l, h => by
    intro r hr
    rw [chunk, List.mem_cons] at hr
    rcases hr with rfl | hr
    · rw [List.length_take]; omega
    · exact chunk_8 n (l.drop 8) (by rw [List.length_drop]; omega) r hr
theorem chunk_of : ∀ (R : List (List UInt8)), (∀ r ∈ R, r.length = 8) → chunk R.length R.flatten = R
  | [], _ => rfl
  | r :: R, h => by
    have hr := h r (by simp)
    rw [List.length_cons, chunk, List.flatten_cons, List.take_left' hr, List.drop_left' hr, chunk_of R (fun x hx => h x (by simp [hx]))]
/-! copies -/
theorem cpy_mid {X Y Z M : List UInt8} {l g : Nat} (hX : X.length = l) (hM : M.length = Y.length) (hg : l + Y.length ≤ g) : cpy (X ++ (Y ++ Z)) l g M = X ++ (M ++ Z) := by
  unfold cpy
  subst hX
  rw [List.take_left, List.take_of_length_le (by omega), Nat.min_eq_left (by omega), ← List.drop_drop, List.drop_left, hM, List.drop_left]
theorem bnd_nat {N l g : Nat} (h1 : l ≤ g) (h2 : g ≤ N) : bnd N (l : Int) (g : Int) = some (l, g) := by
  unfold bnd; rw [if_pos (by omega)]; rfl
end
end Go.Proofs.Ytohgmggdfmjgnaa
