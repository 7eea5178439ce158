/- The document's letters, told over lists. -/
import Derived.Test.YtcjleeclpmgbjaaDoorE46B
set_option linter.unusedVariables false
set_option linter.unusedSimpArgs false
namespace Go.Proofs.YtcjleeclpmgbjaaDoor
open Go.RowKit
def mI (l : List Nat) : List Int := l.map (fun (x : Nat) => (x : Int))
theorem mI_app (a b : List Nat) : mI (a ++ b) = mI a ++ mI b := List.map_append
theorem mI_len (a : List Nat) : (mI a).length = a.length := List.length_map ..
theorem mI_at (a : List Nat) (i : Nat) : (mI a)[i]? = (a[i]?).map (fun (x : Nat) => (x : Int)) := List.getElem?_map ..
theorem app8 (l r : List Int) (h : l.length + r.length ≤ 1000000) : app 8 l r = some (l ++ r) := by
  unfold app; rw [if_pos (by unfold maxLen; simp; omega)]
def scI : Nat → Int
  | 0 => 0
  | j + 1 => ((2 ^ j : Nat) : Int)
theorem sc_all : ∀ j : Fin 8, 0 < scI (j.val + 1) ∧ w64 (Int.tdiv (scI (j.val + 1)) 2) = scI j.val := by decide +kernel
theorem quo_all : ∀ c : Fin 256, ∀ j : Fin 8, (quoI (c.val : Int) (scI (j.val + 1))).map (fun x => Int.tmod x 2) = some ((c.val / 2 ^ j.val % 2 : Nat) : Int) := by decide +kernel
theorem rL1 (Fu : Nat) (c : UInt8) : ∀ (j k : Nat) (acc : List Nat), j ≤ 8 → j < k → acc.length + j ≤ 100000 → chatelaineref46_Letters_l1 Fu c k (scI j) (mI acc) = some (mI (acc ++ bD c.toNat j)) := by
  intro j
  induction j with
  | zero =>
    intro k acc hj hk ha
    obtain ⟨k, rfl⟩ : ∃ m, k = m + 1 := ⟨k - 1, by omega⟩
    rw [chatelaineref46_Letters_l1, if_neg (by decide), bD, List.append_nil]
  | succ j ih =>
    intro k acc hj hk ha
    obtain ⟨k, rfl⟩ : ∃ m, k = m + 1 := ⟨k - 1, by omega⟩
    have h1 := sc_all ⟨j, by omega⟩
    have h2 := quo_all ⟨c.toNat, c.toNat_lt⟩ ⟨j, by omega⟩
    dsimp only at h1 h2
    obtain ⟨q, hq, hq2⟩ := Option.map_eq_some_iff.1 h2
    rw [chatelaineref46_Letters_l1, if_pos h1.1, hq]
    simp only [Option.bind_some]
    rw [hq2, app8 _ _ (by rw [mI_len]; simp; omega)]
    simp only [Option.bind_some]
    rw [h1.2, show mI acc ++ [((c.toNat / 2 ^ j % 2 : Nat) : Int)] = mI (acc ++ [c.toNat / 2 ^ j % 2]) by rw [mI_app]; rfl, ih k _ (by omega) (by omega) (by simp; omega), bD, List.append_assoc]; rfl
theorem bitsN_cons (c : UInt8) (l : List UInt8) : bitsN (c :: l) = bD c.toNat 8 ++ bitsN l := rfl
theorem bitsN_len (l : List UInt8) : (bitsN l).length = 8 * l.length := by
  induction l with
  | nil => rfl
  | cons c l ih => rw [bitsN_cons, List.length_append, bD_len, ih, List.length_cons]; omega
theorem rL0 (Fu : Nat) (hF : 300 ≤ Fu) (l : List UInt8) (hl : l.length ≤ 1000) : ∀ (d i k : Nat) (acc : List Nat), i + d = l.length → d < k → acc.length = 8 * i →
    chatelaineref46_Letters_l0 Fu l k (mI acc) (i : Int) = some (mI (acc ++ bitsN (l.drop i))) := by
  intro d
  induction d with
  | zero =>
    intro i k acc hi hk ha
    obtain ⟨k, rfl⟩ : ∃ m, k = m + 1 := ⟨k - 1, by omega⟩
    rw [chatelaineref46_Letters_l0, if_neg (by omega), List.drop_of_length_le (by omega)]; simp [bitsN]
  | succ d ih =>
    intro i k acc hi hk ha
    obtain ⟨k, rfl⟩ : ∃ m, k = m + 1 := ⟨k - 1, by omega⟩
    have hlt : i < l.length := by omega
    have h1 := rL1 Fu l[i] 8 Fu acc (by omega) (by omega) (by omega)
    rw [show scI 8 = 128 from rfl] at h1
    rw [chatelaineref46_Letters_l0, if_pos (by omega), idx_nat, List.getElem?_eq_getElem hlt]
    simp only [Option.bind_some]
    rw [h1]
    simp only [Option.bind_some]
    rw [w_id (by omega), show ((i : Int) + 1) = ((i + 1 : Nat) : Int) by omega, ih (i + 1) k _ (by omega) (by omega) (by rw [List.length_append, bD_len]; omega), List.drop_eq_getElem_cons hlt, bitsN_cons, List.append_assoc]
theorem tm5 (n : Nat) : Int.tmod (n : Int) 5 = ((n % 5 : Nat) : Int) := by rw [show (5 : Int) = ((5 : Nat) : Int) from rfl, ← Int.ofNat_tmod]
theorem rL2 (Fu : Nat) : ∀ (t k : Nat) (L : List Nat), (5 - L.length % 5) % 5 = t → t < k → L.length + t ≤ 100000 → chatelaineref46_Letters_l2 Fu k (mI L) = some (mI (L ++ List.replicate t 0)) := by
  intro t
  induction t with
  | zero =>
    intro k L ht hk hl
    obtain ⟨k, rfl⟩ : ∃ m, k = m + 1 := ⟨k - 1, by omega⟩
    rw [chatelaineref46_Letters_l2, mI_len, tm5, if_neg (by omega)]; simp
  | succ t ih =>
    intro k L ht hk hl
    obtain ⟨k, rfl⟩ : ∃ m, k = m + 1 := ⟨k - 1, by omega⟩
    rw [chatelaineref46_Letters_l2, mI_len, tm5, if_pos (by omega), app8 _ _ (by rw [mI_len]; simp; omega)]
    simp only [Option.bind_some]
    rw [show mI L ++ [0] = mI (L ++ [0]) by rw [mI_app]; rfl, ih k (L ++ [0]) (by simp; omega) (by omega) (by simp; omega), List.append_assoc]; rfl
theorem subAL {k : Nat} (h : k < 32) : sub AL (k : Int) ((k + 1 : Nat) : Int) = some [al k] := by
  have : ∀ k : Fin 32, sub AL (k.val : Int) ((k.val + 1 : Nat) : Int) = some [al k.val] := by decide +kernel
  exact this ⟨k, h⟩
theorem rL3 (Fu : Nat) (X : List Nat) (hX : X.length ≤ 100000) (hb : ∀ x ∈ X, x ≤ 1) : ∀ (m i k : Nat) (acc : List UInt8), i + 5 * m = X.length → m < k → acc.length ≤ i →
    chatelaineref46_Letters_l3 Fu (mI X) k acc (i : Int) = some (acc ++ enc (X.drop i)) := by
  intro m
  induction m with
  | zero =>
    intro i k acc hi hk ha
    obtain ⟨k, rfl⟩ : ∃ m, k = m + 1 := ⟨k - 1, by omega⟩
    rw [chatelaineref46_Letters_l3, mI_len, if_neg (by omega), List.drop_of_length_le (by omega), enc]; simp
    all_goals simp
  | succ m ih =>
    intro i k acc hi hk ha
    obtain ⟨k, rfl⟩ : ∃ m, k = m + 1 := ⟨k - 1, by omega⟩
    have e : X.drop i = X[i] :: X[i + 1] :: X[i + 2] :: X[i + 3] :: X[i + 4] :: X.drop (i + 5) := by
      rw [List.drop_eq_getElem_cons (show i < X.length by omega), List.drop_eq_getElem_cons (show i + 1 < X.length by omega), List.drop_eq_getElem_cons (show i + 2 < X.length by omega), List.drop_eq_getElem_cons (show i + 3 < X.length by omega), List.drop_eq_getElem_cons (show i + 4 < X.length by omega)]
    have b0 := hb X[i] (List.getElem_mem _)
    have b1 := hb X[i + 1] (List.getElem_mem _)
    have b2 := hb X[i + 2] (List.getElem_mem _)
    have b3 := hb X[i + 3] (List.getElem_mem _)
    have b4 := hb X[i + 4] (List.getElem_mem _)
    have at_ : ∀ j (hj : j < X.length), (mI X)[j]? = some ((X[j] : Nat) : Int) := fun j hj => by rw [mI_at, List.getElem?_eq_getElem hj]; rfl
    rw [chatelaineref46_Letters_l3, mI_len, if_pos (by omega), ix_nat (by omega)]
    simp only [Option.bind_some]
    rw [at_ i (by omega)]
    simp only [Option.bind_some]
    rw [w_id (x := (i : Int) + 1) (by omega), show ((i : Int) + 1) = ((i + 1 : Nat) : Int) by omega, ix_nat (by omega)]
    simp only [Option.bind_some]
    rw [at_ (i + 1) (by omega)]
    simp only [Option.bind_some]
    rw [w_id (x := (i : Int) + 2) (by omega), show ((i : Int) + 2) = ((i + 2 : Nat) : Int) by omega, ix_nat (by omega)]
    simp only [Option.bind_some]
    rw [at_ (i + 2) (by omega)]
    simp only [Option.bind_some]
    rw [w_id (x := (i : Int) + 3) (by omega), show ((i : Int) + 3) = ((i + 3 : Nat) : Int) by omega, ix_nat (by omega)]
    simp only [Option.bind_some]
    rw [at_ (i + 3) (by omega)]
    simp only [Option.bind_some]
    rw [w_id (x := (i : Int) + 4) (by omega), show ((i : Int) + 4) = ((i + 4 : Nat) : Int) by omega, ix_nat (by omega)]
    simp only [Option.bind_some]
    rw [at_ (i + 4) (by omega)]
    simp only [Option.bind_some]
    have hn : w64 ((w64 ((w64 ((w64 ((w64 (16 * ((X[i] : Nat) : Int))) + (w64 (8 * ((X[i + 1] : Nat) : Int))))) + (w64 (4 * ((X[i + 2] : Nat) : Int))))) + (w64 (2 * ((X[i + 3] : Nat) : Int))))) + ((X[i + 4] : Nat) : Int)) = ((16 * X[i] + 8 * X[i + 1] + 4 * X[i + 2] + 2 * X[i + 3] + X[i + 4] : Nat) : Int) := by
      rw [w_id (x := 16 * _) (by omega), w_id (x := 8 * _) (by omega), w_id (x := 4 * _) (by omega), w_id (x := 2 * _) (by omega)]
      rw [w_id (x := 16 * ((X[i] : Nat) : Int) + 8 * ((X[i + 1] : Nat) : Int)) (by omega), w_id (x := 16 * ((X[i] : Nat) : Int) + 8 * ((X[i + 1] : Nat) : Int) + 4 * ((X[i + 2] : Nat) : Int)) (by omega), w_id (x := 16 * ((X[i] : Nat) : Int) + 8 * ((X[i + 1] : Nat) : Int) + 4 * ((X[i + 2] : Nat) : Int) + 2 * ((X[i + 3] : Nat) : Int)) (by omega), w_id (by omega)]
      omega
    rw [hn, w_id (by omega), show (((16 * X[i] + 8 * X[i + 1] + 4 * X[i + 2] + 2 * X[i + 3] + X[i + 4] : Nat) : Int) + 1) = ((16 * X[i] + 8 * X[i + 1] + 4 * X[i + 2] + 2 * X[i + 3] + X[i + 4] + 1 : Nat) : Int) by omega, subAL (by omega)]
    simp only [Option.bind_some]
    unfold sapp
    rw [if_pos (by unfold maxLen; simp; omega)]
    simp only [Option.bind_some]
    rw [w_id (by omega), show ((i : Int) + 5) = ((i + 5 : Nat) : Int) by omega, ih (i + 5) k _ (by omega) (by omega) (by simp; omega), e, enc, List.append_assoc]; rfl
theorem bD_le (x n : Nat) : ∀ y ∈ bD x n, y ≤ 1 := by
  induction n with
  | zero => intro y hy; cases hy
  | succ n ih =>
    intro y hy
    rw [bD] at hy
    rcases List.mem_cons.1 hy with rfl | hy
    · omega
    · exact ih y hy
theorem bits_le (l : List UInt8) : ∀ y ∈ pad (bitsN l), y ≤ 1 := by
  intro y hy
  unfold pad at hy
  rcases List.mem_append.1 hy with h | h
  · unfold bitsN at h
    obtain ⟨c, _, h⟩ := List.mem_flatMap.1 h
    exact bD_le _ _ y h
  · rw [(List.mem_replicate.1 h).2]; omega
theorem rLetters (Fu : Nat) (hF : 2000 ≤ Fu) (l : List UInt8) (hl : l.length < 300) : chatelaineref46_Letters Fu l = some (sp 0 0 l) := by
  have h0 := rL0 Fu (by omega) l (by omega) l.length 0 Fu [] (by omega) (by omega) (by simp)
  rw [List.drop_zero, List.nil_append, show ((0 : Nat) : Int) = 0 from rfl, show mI [] = [] from rfl] at h0
  have hbl := bitsN_len l
  have h2 := rL2 Fu _ Fu (bitsN l) rfl (by omega) (by omega)
  have hp : (pad (bitsN l)).length = (bitsN l).length + (5 - (bitsN l).length % 5) % 5 := by unfold pad; simp
  have h3 := rL3 Fu (pad (bitsN l)) (by omega) (bits_le l) ((pad (bitsN l)).length / 5) 0 Fu [] (by omega) (by omega) (by simp)
  rw [List.drop_zero, List.nil_append, show ((0 : Nat) : Int) = 0 from rfl] at h3
  unfold chatelaineref46_Letters
  rw [h0]
  simp only [Option.bind_some]
  rw [h2]
  simp only [Option.bind_some]
  rw [show bitsN l ++ List.replicate ((5 - (bitsN l).length % 5) % 5) 0 = pad (bitsN l) from rfl, h3]
  simp only [Option.bind_some]
  have := enc_sp l 0 0 (by omega) (by omega)
  rw [show bD 0 0 = [] from rfl, List.nil_append] at this
  rw [this]
end Go.Proofs.YtcjleeclpmgbjaaDoor
