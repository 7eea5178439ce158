/- Keys, wrapped in keys, told over lists of pieces. -/
import Derived.Test.YthaoiajbgadcjaaWp
import Derived.Test.YthaoiajbgadcjaaE04C
set_option linter.unusedVariables false
set_option linter.unusedSimpArgs false
namespace Go.Proofs.Ythaoiajbgadcjaa
open Go.RowKit
theorem bnd_eqW {α β : Type} {o : Option α} {x : α} (h : o = some x) (f : α → Option β) : o.bind f = f x := by rw [h]; rfl
/-! counts as bytes -/
def be8 (t : Nat) : List UInt8 := [0, 0, 0, 0, 0, 0, 0, UInt8.ofNat t]
theorem be8_all : ∀ t : Fin 49, word_Put64 300 (u64I (t.val : Int)) = some (be8 t.val) := by decide +kernel
theorem pPut64 (t : Nat) (h : t ≤ 48) : word_Put64 300 (u64I (t : Int)) = some (be8 t) := be8_all ⟨t, by omega⟩
def cnt (s : List UInt8) (t : Nat) : List UInt8 := ad (s.take 8) (be8 t) ++ s.drop 8
theorem cnt_len {s : List UInt8} (h : s.length = 16) (t : Nat) : (cnt s t).length = 16 := by
  obtain ⟨a0, a1, a2, a3, a4, a5, a6, a7, a8, a9, a10, a11, a12, a13, a14, a15, rfl⟩ := l16 s h
  rfl
theorem cnt_cnt {s : List UInt8} (h : s.length = 16) (t : Nat) : cnt (cnt s t) t = s := by
  have h8 : (s.take 8).length = 8 := by rw [List.length_take]; omega
  have hl : (ad (s.take 8) (be8 t)).length = 8 := by simp [ad, h8, be8]
  unfold cnt
  rw [List.take_left' hl, List.drop_left' hl, ad_ad _ _ (by rw [h8]; exact Nat.le_refl _), List.take_append_drop]
theorem pCount {s : List UInt8} (h : s.length = 16) (t : Nat) (ht : t ≤ 48) : wrap_count_view0_16_uint8 300 s (0, 8) (t : Int) = some (cnt s t) := by
  unfold wrap_count_view0_16_uint8
  refine (bnd_eqW (pPut64 t ht) _).trans ?_
  obtain ⟨a0, a1, a2, a3, a4, a5, a6, a7, a8, a9, a10, a11, a12, a13, a14, a15, rfl⟩ := l16 s h
  unfold be8 cnt be8
  generalize UInt8.ofNat t = z
  rfl
/-! pieces -/
abbrev WS := List UInt8 × List (List UInt8)
def okW (n : Nat) (s : WS) : Prop := s.1.length = 8 ∧ s.2.length = n ∧ ∀ r ∈ s.2, r.length = 8
def flW (s : WS) : List UInt8 := s.1 ++ s.2.flatten
def stepW (f : List UInt8 → List UInt8) (t m : Nat) (s : WS) : WS := ((cnt (f (s.1 ++ s.2.getD m [])) t).take 8, s.2.set m ((cnt (f (s.1 ++ s.2.getD m [])) t).drop 8))
def unW (g : List UInt8 → List UInt8) (t m : Nat) (s : WS) : WS := ((g (cnt (s.1 ++ s.2.getD m []) t)).take 8, s.2.set m ((g (cnt (s.1 ++ s.2.getD m []) t)).drop 8))
def wN (f : List UInt8 → List UInt8) (n : Nat) : Nat → WS → WS
  | 0, s => s
  | t + 1, s => stepW f (t + 1) (t % n) (wN f n t s)
def uN (g : List UInt8 → List UInt8) (n : Nat) : Nat → WS → WS
  | 0, s => s
  | t + 1, s => uN g n t (unW g (t + 1) (t % n) s)
theorem fl8_len : ∀ (R : List (List UInt8)), (∀ r ∈ R, r.length = 8) → R.flatten.length = 8 * R.length
  | [], _ => rfl
  | r :: R, h => by
    rw [List.flatten_cons, List.length_append, fl8_len R (fun x hx => h x (by simp [hx])), h r (by simp), List.length_cons]; omega
theorem fl8_split : ∀ (R : List (List UInt8)) (m : Nat) (v : List UInt8), (∀ r ∈ R, r.length = 8) → m < R.length → ∃ P Q, P.length = 8 * m ∧ R.flatten = P ++ (R.getD m [] ++ Q) ∧ (R.set m v).flatten = P ++ (v ++ Q)
  | [], m, v, _, hm => by simp at hm
  | r :: R, 0, v, h, hm => ⟨[], R.flatten, rfl, rfl, rfl⟩
  | r :: R, m + 1, v, h, hm => by
    obtain ⟨P, Q, h1, h2, h3⟩ := fl8_split R m v (fun x hx => h x (by simp [hx])) (by simpa using hm)
    refine ⟨r ++ P, Q, ?_, ?_, ?_⟩
    · rw [List.length_append, h r (by simp), h1]; omega
    · rw [List.flatten_cons, h2, List.getD_cons_succ, List.append_assoc]
    · rw [List.set_cons_succ, List.flatten_cons, h3, List.append_assoc]
theorem getD_len {R : List (List UInt8)} {m : Nat} (h : ∀ r ∈ R, r.length = 8) (hm : m < R.length) : (R.getD m []).length = 8 := by
  rw [List.getD, List.getElem?_eq_getElem hm]
  exact h _ (List.getElem_mem hm)
theorem mem_set8 {R : List (List UInt8)} {m : Nat} {v : List UInt8} (h : ∀ r ∈ R, r.length = 8) (hv : v.length = 8) : ∀ r ∈ R.set m v, r.length = 8 := by
  intro r hr
  rcases List.mem_or_eq_of_mem_set hr with h1 | h1
  · exact h r h1
  · rw [h1]; exact hv
section
variable {f g : List UInt8 → List UInt8} {n : Nat}
theorem stepW_ok (hf : ∀ s, s.length = 16 → (f s).length = 16) {s : WS} (h : okW n s) {t m : Nat} (hm : m < n) : okW n (stepW f t m s) := by
  obtain ⟨h1, h2, h3⟩ := h
  have hr := getD_len h3 (show m < s.2.length by omega)
  have hc := cnt_len (hf (s.1 ++ s.2.getD m []) (by rw [List.length_append]; omega)) t
  refine ⟨by simp only [stepW, List.length_take]; omega, by simp only [stepW, List.length_set]; exact h2, mem_set8 h3 (by rw [List.length_drop]; omega)⟩
theorem unW_ok (hg : ∀ s, s.length = 16 → (g s).length = 16) {s : WS} (h : okW n s) {t m : Nat} (hm : m < n) : okW n (unW g t m s) := by
  obtain ⟨h1, h2, h3⟩ := h
  have hr := getD_len h3 (show m < s.2.length by omega)
  have hc := hg _ (cnt_len (s := s.1 ++ s.2.getD m []) (by rw [List.length_append]; omega) t)
  refine ⟨by simp only [unW, List.length_take]; omega, by simp only [unW, List.length_set]; exact h2, mem_set8 h3 (by rw [List.length_drop]; omega)⟩
theorem set_back {R : List (List UInt8)} {m : Nat} (v : List UInt8) (hm : m < R.length) : (R.set m v).set m (R.getD m []) = R := by
  apply List.ext_getElem?
  intro j
  by_cases hj : m = j
  · subst hj
    rw [List.getElem?_set_self (by simpa using hm), List.getD, List.getElem?_eq_getElem hm]; rfl
  · rw [List.getElem?_set_ne hj, List.getElem?_set_ne hj]
theorem un_step (hf : ∀ s, s.length = 16 → (f s).length = 16) (hfg : ∀ s, s.length = 16 → g (f s) = s) {s : WS} (h : okW n s) {t m : Nat} (hm : m < n) : unW g t m (stepW f t m s) = s := by
  obtain ⟨A, R⟩ := s
  obtain ⟨h1, h2, h3⟩ := h
  dsimp only at h1 h2 h3
  have hr := getD_len h3 (show m < R.length by omega)
  have hA : (A ++ R.getD m []).length = 16 := by rw [List.length_append]; omega
  have hc := cnt_len (hf _ hA) t
  unfold unW stepW
  dsimp only
  have e : (R.set m ((cnt (f (A ++ R.getD m [])) t).drop 8)).getD m [] = (cnt (f (A ++ R.getD m [])) t).drop 8 := by
    rw [List.getD, List.getElem?_set_self (by omega)]; rfl
  rw [e, List.take_append_drop, cnt_cnt (hf _ hA), hfg _ hA, List.take_left' h1, List.drop_left' h1, set_back _ (by omega)]
theorem step_un (hg : ∀ s, s.length = 16 → (g s).length = 16) (hgf : ∀ s, s.length = 16 → f (g s) = s) {s : WS} (h : okW n s) {t m : Nat} (hm : m < n) : stepW f t m (unW g t m s) = s := by
  obtain ⟨A, R⟩ := s
  obtain ⟨h1, h2, h3⟩ := h
  dsimp only at h1 h2 h3
  have hr := getD_len h3 (show m < R.length by omega)
  have hA : (A ++ R.getD m []).length = 16 := by rw [List.length_append]; omega
  have hc := cnt_len hA t
  unfold unW stepW
  dsimp only
  have e : (R.set m ((g (cnt (A ++ R.getD m []) t)).drop 8)).getD m [] = (g (cnt (A ++ R.getD m []) t)).drop 8 := by
    rw [List.getD, List.getElem?_set_self (by omega)]; rfl
  rw [e, List.take_append_drop, hgf _ hc, cnt_cnt hA, List.take_left' h1, List.drop_left' h1, set_back _ (by omega)]
theorem wN_ok (hf : ∀ s, s.length = 16 → (f s).length = 16) (hn : 0 < n) {s : WS} (h : okW n s) : ∀ t, okW n (wN f n t s)
  | 0 => h
  | t + 1 => stepW_ok hf (wN_ok hf hn h t) (Nat.mod_lt _ hn)
theorem uN_ok (hg : ∀ s, s.length = 16 → (g s).length = 16) (hn : 0 < n) : ∀ t (s : WS), okW n s → okW n (uN g n t s)
  | 0, _, h => h
  | t + 1, s, h => uN_ok hg hn t _ (unW_ok hg h (Nat.mod_lt _ hn))
theorem uN_wN (hf : ∀ s, s.length = 16 → (f s).length = 16) (hfg : ∀ s, s.length = 16 → g (f s) = s) (hn : 0 < n) {s : WS} (h : okW n s) : ∀ t, uN g n t (wN f n t s) = s
  | 0 => rfl
  | t + 1 => by
    rw [wN, uN, un_step hf hfg (wN_ok hf hn h t) (Nat.mod_lt _ hn), uN_wN hf hfg hn h t]
theorem wN_uN (hg : ∀ s, s.length = 16 → (g s).length = 16) (hgf : ∀ s, s.length = 16 → f (g s) = s) (hn : 0 < n) : ∀ t (s : WS), okW n s → wN f n t (uN g n t s) = s
  | 0, _, _ => rfl
  | t + 1, s, h => by
    rw [uN, wN, wN_uN hg hgf hn t _ (unW_ok hg h (Nat.mod_lt _ hn)), step_un hg hgf h (Nat.mod_lt _ hn)]
end
/-! chunks of a key -/
def chunk : Nat → List UInt8 → List (List UInt8)
  | 0, _ => []
  | n + 1, l => l.take 8 :: chunk n (l.drop 8)
theorem chunk_len : ∀ n l, (chunk n l).length = n
  | 0, _ => rfl
  | n + 1, l => by rw [chunk, List.length_cons, chunk_len n]
theorem chunk_flat : ∀ n (l : List UInt8), l.length = 8 * n → (chunk n l).flatten = l
  | 0, l, h => by
    have : l = [] := List.eq_nil_of_length_eq_zero (by omega)
    subst this; rfl
  | n + 1, l, h => by
    rw [chunk, List.flatten_cons, chunk_flat n (l.drop 8) (by rw [List.length_drop]; omega), List.take_append_drop]
theorem chunk_8 : ∀ n (l : List UInt8), l.length = 8 * n → ∀ r ∈ chunk n l, r.length = 8
  | 0, l, h => by intro r hr; simp [chunk] at hr
  | n + 1, l, h => by
    intro r hr
    rw [chunk, List.mem_cons] at hr
    rcases hr with rfl | hr
    · rw [List.length_take]; omega
    · exact chunk_8 n (l.drop 8) (by rw [List.length_drop]; omega) r hr
theorem chunk_of : ∀ (R : List (List UInt8)), (∀ r ∈ R, r.length = 8) → chunk R.length R.flatten = R
  | [], _ => rfl
  | r :: R, h => by
    have hr := h r (by simp)
    rw [List.length_cons, chunk, List.flatten_cons, List.take_left' hr, List.drop_left' hr, chunk_of R (fun x hx => h x (by simp [hx]))]
/-! copies -/
theorem cpy_mid {X Y Z M : List UInt8} {l g : Nat} (hX : X.length = l) (hM : M.length = Y.length) (hg : l + Y.length ≤ g) : cpy (X ++ (Y ++ Z)) l g M = X ++ (M ++ Z) := by
  unfold cpy
  subst hX
  rw [List.take_left, List.take_of_length_le (by omega), Nat.min_eq_left (by omega), ← List.drop_drop, List.drop_left, hM, List.drop_left]
theorem bnd_nat {N l g : Nat} (h1 : l ≤ g) (h2 : g ≤ N) : bnd N (l : Int) (g : Int) = some (l, g) := by
  unfold bnd; rw [if_pos (by omega)]; rfl
end Go.Proofs.Ythaoiajbgadcjaa
