/- Keys of nodes: derived, wrapped (law 21): told over lists. -/
import Derived.Test.YtohgmggdfmjgnaaKd2
import Derived.Test.YtohgmggdfmjgnaaEsm
set_option linter.unusedVariables false
set_option linter.unusedSimpArgs false
namespace Go.Proofs.Ytohgmggdfmjgnaa
open Go.RowKit
theorem app24 (l m : List (List UInt8)) (h : l.length + m.length ≤ 100000) : app 24 l m = some (l ++ m) := by
  unfold app; rw [if_pos (by unfold maxLen; omega)]
theorem app1w (l m : List UInt8) (h : l.length + m.length ≤ 100000) : app 1 l m = some (l ++ m) := by
  unfold app; rw [if_pos (by unfold maxLen; omega)]
theorem wrapL_len {kek key : List UInt8} (h : kek.length = 16 ∨ kek.length = 32) (hk : key.length % 8 = 0 ∧ 16 ≤ key.length ∧ key.length ≤ 64) : (wrapL kek key).length = key.length + 8 := by
  have hw := sched_len h
  have hf : ∀ s, s.length = 16 → (enc (schedA kek) (kek.length / 4 + 6) s).length = 16 := fun s h => enc_len (by omega) h
  unfold wrapL
  rw [flW_len (wN_ok hf (n := key.length / 8) (by omega) (begW_ok hk.1) _)]
  omega
theorem ofW_flW {n : Nat} {s : WS} (h : okW n s) : ofW (flW s) = s := by
  obtain ⟨A, R⟩ := s
  have hl := flW_len h
  obtain ⟨h1, h2, h3⟩ := h
  dsimp only at h1 h2 h3
  unfold ofW
  rw [hl, show 8 * (n + 1) / 8 - 1 = n by omega]
  unfold flW
  dsimp only
  rw [List.take_left' h1, List.drop_left' h1, ← h2, chunk_of R h3]
theorem back_one {kek key : List UInt8} (h : kek.length = 16 ∨ kek.length = 32) (hk : key.length % 8 = 0 ∧ 16 ≤ key.length ∧ key.length ≤ 64) : unwrapR kek (wrapL kek key) = (key, 0) := by
  have hw := sched_len h
  have hf : ∀ s, s.length = 16 → (enc (schedA kek) (kek.length / 4 + 6) s).length = 16 := fun s h => enc_len (by omega) h
  have hl := wrapL_len h hk
  unfold unwrapR
  rw [if_neg (fun z => z h), hl, if_neg (fun z => z (by omega))]
  unfold undoW
  rw [hl, show (key.length + 8) / 8 - 1 = key.length / 8 by omega]
  have e : ofW (wrapL kek key) = wN (enc (schedA kek) (kek.length / 4 + 6)) (key.length / 8) (6 * (key.length / 8)) (begW key) := ofW_flW (wN_ok hf (by omega) (begW_ok hk.1) _)
  rw [e, uN_wN hf (fun s hs => dec_enc (ws := schedA kek) (n := kek.length / 4 + 6) (by omega) hs) (by omega) (begW_ok hk.1)]
  unfold finW begW
  rw [if_pos rfl, chunk_flat _ _ (by omega)]
/-- what is unwrapped, or why not -/
theorem unwrap_cases (kek b : List UInt8) (h : kek.length = 16 ∨ kek.length = 32) (hb : b.length % 8 = 0 ∧ 24 ≤ b.length ∧ b.length ≤ 72) :
    (unwrapR kek b = ([], 21)) ∨ (∃ key, unwrapR kek b = (key, 0) ∧ (key.length % 8 = 0 ∧ 16 ≤ key.length ∧ key.length ≤ 64) ∧ wrapL kek key = b) := by
  have hw := sched_len h
  have hg : ∀ s, s.length = 16 → (dec (schedA kek) (kek.length / 4 + 6) s).length = 16 := fun s h => dec_len (by omega) h
  have ho := uN_ok hg (n := b.length / 8 - 1) (by omega) (6 * (b.length / 8 - 1)) (ofW b) (ofW_ok hb.1 (by omega))
  unfold unwrapR
  rw [if_neg (fun z => z h), if_neg (fun z => z hb)]
  have hwn := wN_uN (f := enc (schedA kek) (kek.length / 4 + 6)) hg (fun s hs => enc_dec (ws := schedA kek) (n := kek.length / 4 + 6) (by omega) hs) (n := b.length / 8 - 1) (by omega) (6 * (b.length / 8 - 1)) (ofW b) (ofW_ok hb.1 (by omega))
  unfold undoW finW
  generalize uN (dec (schedA kek) (kek.length / 4 + 6)) (b.length / 8 - 1) (6 * (b.length / 8 - 1)) (ofW b) = s at *
  by_cases hm : s.1 = marksL
  · right
    rw [if_pos hm]
    have hl : s.2.flatten.length = 8 * (b.length / 8 - 1) := by rw [fl8_len _ ho.2.2, ho.2.1]
    refine ⟨s.2.flatten, rfl, by omega, ?_⟩
    have e : begW s.2.flatten = s := by
      unfold begW
      rw [hl, Nat.mul_div_cancel_left _ (by decide), ← ho.2.1, chunk_of _ ho.2.2, ← hm]
    unfold wrapL
    rw [e, hl, Nat.mul_div_cancel_left _ (by decide), hwn, ofW_fl hb.1 (by omega)]
  · left; rw [if_neg hm]
theorem w_upC (n : Nat) (h : n < 1000000) : w64 ((n : Int) + 1) = ((n + 1 : Nat) : Int) := by rw [w64_of (by omega)]; omega
theorem numC : ∀ t : Fin 65, kdf_Number 300 (t.val : Int) = some (be 8 t.val) ∧ chatelaineref01_Put64 300 (u64I (t.val : Int)) = some (be 8 t.val) := by decide +kernel
theorem numP (n : Nat) (h : n ≤ 64) : kdf_Number 300 (n : Int) = some (be 8 n) := (numC ⟨n, by omega⟩).1
theorem numR (n : Nat) (h : n ≤ 64) : chatelaineref01_Put64 300 (u64I (n : Int)) = some (be 8 n) := (numC ⟨n, by omega⟩).2
theorem rListC_l0 (r : List UInt8) (hr : r.length = 32) : ∀ (d k i : Nat), i + d = 32 → d < k → chatelaineref06_List_l0 300 r k (r.take i) (i : Int) = some r := by
  intro d
  induction d with
  | zero =>
    intro k i hi hk
    obtain ⟨k, rfl⟩ : ∃ m, k = m + 1 := ⟨k - 1, by omega⟩
    rw [chatelaineref06_List_l0, if_neg (by omega), List.take_of_length_le (by omega)]
  | succ d ih =>
    intro k i hi hk
    obtain ⟨k, rfl⟩ : ∃ m, k = m + 1 := ⟨k - 1, by omega⟩
    have hl : i < r.length := by omega
    rw [chatelaineref06_List_l0, if_pos (by omega)]
    refine (bnd_eqW (ix_nat (show i < 32 by omega)) _).trans ?_
    refine (bnd_eqW (List.getElem?_eq_getElem hl) _).trans ?_
    refine (bnd_eqW (app1w _ _ (by simp; omega)) _).trans ?_
    rw [w_upC i (by omega), ← List.take_succ_eq_append_getElem hl]
    exact ih k (i + 1) (by omega) (by omega)
theorem rListC (r : List UInt8) (hr : r.length = 32) : chatelaineref06_List 300 r = some r := by
  unfold chatelaineref06_List
  exact (bnd_eqW (rListC_l0 r hr 32 300 0 (by omega) (by omega)) _).trans rfl
/-! tags -/
def kkC (key : List UInt8) : List UInt8 := if 64 < key.length then shaS key else key
theorem kkC_le (key : List UInt8) : (kkC key).length ≤ 64 := by
  unfold kkC
  split
  · rw [shaS_length]; omega
  · omega
def pdC (key : List UInt8) : List UInt8 := kkC key ++ List.replicate (64 - (kkC key).length) 0
theorem pdC_len (key : List UInt8) : (pdC key).length = 64 := by
  have := kkC_le key
  unfold pdC; simp; omega
def padX (key : List UInt8) (x : UInt8) : List UInt8 := (pdC key).map (· ^^^ x)
theorem padX_len (key : List UInt8) (x : UInt8) : (padX key x).length = 64 := by unfold padX; rw [List.length_map, pdC_len]
theorem padX_at (key : List UInt8) (x : UInt8) (i : Nat) (hi : i < 64) : (padX key x)[i]? = some (if h : i < (kkC key).length then (kkC key)[i] ^^^ x else x) := by
  have := kkC_le key
  unfold padX pdC
  rw [List.getElem?_map]
  by_cases h : i < (kkC key).length
  · rw [dif_pos h, List.getElem?_append_left h, List.getElem?_eq_getElem h]; rfl
  · rw [dif_neg h, List.getElem?_append_right (by omega), List.getElem?_replicate, if_pos (by omega)]; simp
def tagS (key msg : List UInt8) : List UInt8 := shaS (padX key 92 ++ shaS (padX key 54 ++ msg))
theorem tagS_len (key msg : List UInt8) : (tagS key msg).length = 32 := shaS_length _
theorem cpy_zero (m : List UInt8) (h : m.length ≤ 64) : cpy (List.replicate 64 ((0 : UInt8) : UInt8)) 0 64 m = m ++ List.replicate (64 - m.length) 0 := by
  unfold cpy
  rw [List.take_zero, List.nil_append, Nat.sub_zero, List.take_of_length_le h, Nat.zero_add, Nat.min_eq_left h, List.drop_replicate]
theorem set_rep (X : List UInt8) (n : Nat) (v : UInt8) (h : 0 < n) : (X ++ List.replicate n ((0 : UInt8) : UInt8)).set X.length v = (X ++ [v]) ++ List.replicate (n - 1) 0 := by
  obtain ⟨m, rfl⟩ : ∃ m, n = m + 1 := ⟨n - 1, by omega⟩
  rw [List.set_append_right _ _ (Nat.le_refl _), Nat.sub_self, List.replicate_succ, List.set_cons_zero]
  simp
theorem pads_l0 (p : List UInt8) (hp : p.length = 64) : ∀ (d k i : Nat), i + d = 64 → d < k → hmac_Pads_l0 300 p k (i : Int) ((p.take i).map (· ^^^ 54) ++ List.replicate (64 - i) 0) ((p.take i).map (· ^^^ 92) ++ List.replicate (64 - i) 0) = some (p.map (· ^^^ 54), p.map (· ^^^ 92)) := by
  intro d
  induction d with
  | zero =>
    intro k i hi hk
    obtain ⟨k, rfl⟩ : ∃ m, k = m + 1 := ⟨k - 1, by omega⟩
    rw [hmac_Pads_l0, if_neg (by omega), List.take_of_length_le (by omega), show 64 - i = 0 by omega]
    simp
  | succ d ih =>
    intro k i hi hk
    obtain ⟨k, rfl⟩ : ∃ m, k = m + 1 := ⟨k - 1, by omega⟩
    have hl : i < p.length := by omega
    rw [hmac_Pads_l0, if_pos (by omega), idx_nat]
    refine (bnd_eqW (List.getElem?_eq_getElem hl) _).trans ?_
    refine (bnd_eqW (ix_nat (show i < 64 by omega)) _).trans ?_
    refine (bnd_eqW (ix_nat (show i < 64 by omega)) _).trans ?_
    have e : ∀ x : UInt8, ((p.take i).map (· ^^^ x) ++ List.replicate (64 - i) 0).set i (p[i] ^^^ x) = (p.take (i + 1)).map (· ^^^ x) ++ List.replicate (64 - (i + 1)) 0 := fun x => by
      have hlen : ((p.take i).map (· ^^^ x)).length = i := by rw [List.length_map, List.length_take]; omega
      have := set_rep ((p.take i).map (· ^^^ x)) (64 - i) (p[i] ^^^ x) (by omega)
      rw [hlen] at this
      rw [this, List.take_succ_eq_append_getElem hl, List.map_append]
      congr 2
    rw [e, e, w_upC i (by omega)]
    exact ih k (i + 1) (by omega) (by omega)
theorem shaC (l : List (List UInt8)) (h : l.flatten.length ≤ 100000) : sha_Sum 300 l = some (shaS l.flatten) := by unfold sha_Sum; rw [if_pos (by omega)]
theorem rshaC (l : List UInt8) (h : l.length ≤ 100000) : chatelaineref05_Sum 300 l = some (shaS l) := by unfold chatelaineref05_Sum; rw [if_pos (by omega)]
theorem td (l : List UInt8) (n : Nat) (h : l.length = n) : (l.take n).drop 0 = l := by rw [List.drop_zero, List.take_of_length_le (by omega)]
theorem pPads (key : List UInt8) (hk : key.length ≤ 1000) : hmac_Pads 300 key = some (padX key 54, padX key 92) := by
  unfold hmac_Pads
  refine (bnd_eqW (x := pdC key) ?_ _).trans ?_
  · by_cases h : 64 < key.length
    · rw [if_pos (by omega)]
      refine (bnd_eqW (shaC [key] (by simp; omega)) _).trans ?_
      refine (bnd_eqW (show bnd 64 0 64 = some (0, 64) from rfl) _).trans ?_
      refine (bnd_eqW (show bnd 32 0 32 = some (0, 32) from rfl) _).trans ?_
      have e : ([key] : List (List UInt8)).flatten = key := by simp
      rw [e]
      dsimp only
      rw [td _ 32 (shaS_length _), cpy_zero _ (by rw [shaS_length]; omega)]
      unfold pdC kkC
      rw [if_pos h]
    · rw [if_neg (by omega)]
      refine (bnd_eqW (show bnd 64 0 64 = some (0, 64) from rfl) _).trans ?_
      dsimp only
      rw [cpy_zero _ (by omega)]
      unfold pdC kkC
      rw [if_neg h]
  · have := pads_l0 (pdC key) (pdC_len key) 64 300 0 (by omega) (by omega)
    exact (bnd_eqW this _).trans rfl
theorem pTag (key : List UInt8) (hk : key.length ≤ 1000) (parts : List (List UInt8)) (hp : parts.length ≤ 100) (hl : parts.flatten.length ≤ 10000) : hmac_Tag 300 key parts = some (tagS key parts.flatten) := by
  unfold hmac_Tag
  refine (bnd_eqW (pPads key hk) _).trans ?_
  refine (bnd_eqW (show bnd 64 0 64 = some (0, 64) from rfl) _).trans ?_
  dsimp only
  rw [td _ 64 (padX_len key 54)]
  refine (bnd_eqW (app24 _ _ (by simp; omega)) _).trans ?_
  have e : (([padX key 54] : List (List UInt8)) ++ parts).flatten = padX key 54 ++ parts.flatten := by simp
  refine (bnd_eqW (shaC _ (by rw [e, List.length_append, padX_len]; omega)) _).trans ?_
  rw [e]
  refine (bnd_eqW (show bnd 64 0 64 = some (0, 64) from rfl) _).trans ?_
  refine (bnd_eqW (show bnd 32 0 32 = some (0, 32) from rfl) _).trans ?_
  dsimp only
  rw [td _ 64 (padX_len key 92), td _ 32 (shaS_length _)]
  have e2 : ([padX key 92, shaS (padX key 54 ++ parts.flatten)] : List (List UInt8)).flatten = padX key 92 ++ shaS (padX key 54 ++ parts.flatten) := by simp
  refine (bnd_eqW (shaC _ (by rw [e2, List.length_append, padX_len, shaS_length]; omega)) _).trans ?_
  rw [e2]; rfl
theorem rKey_l0 (r : List UInt8) (hr : r.length = 32) : ∀ (d k i : Nat), i + d = 32 → d < k → chatelaineref06_Key_l0 300 r k (r.take i) (i : Int) = some r := by
  intro d
  induction d with
  | zero =>
    intro k i hi hk
    obtain ⟨k, rfl⟩ : ∃ m, k = m + 1 := ⟨k - 1, by omega⟩
    rw [chatelaineref06_Key_l0, if_neg (by omega), List.take_of_length_le (by omega)]
  | succ d ih =>
    intro k i hi hk
    obtain ⟨k, rfl⟩ : ∃ m, k = m + 1 := ⟨k - 1, by omega⟩
    have hl : i < r.length := by omega
    rw [chatelaineref06_Key_l0, if_pos (by omega)]
    refine (bnd_eqW (ix_nat (show i < 32 by omega)) _).trans ?_
    refine (bnd_eqW (List.getElem?_eq_getElem hl) _).trans ?_
    refine (bnd_eqW (app1w _ _ (by simp; omega)) _).trans ?_
    rw [w_upC i (by omega), ← List.take_succ_eq_append_getElem hl]
    exact ih k (i + 1) (by omega) (by omega)
theorem rKey_l1 (key : List UInt8) (x : UInt8) : ∀ (d k i : Nat), i + d = 64 → d < k → chatelaineref06_Key_l1 300 x (kkC key) k ((padX key x).take i) (i : Int) = some (padX key x) := by
  intro d
  induction d with
  | zero =>
    intro k i hi hk
    obtain ⟨k, rfl⟩ : ∃ m, k = m + 1 := ⟨k - 1, by omega⟩
    rw [chatelaineref06_Key_l1, if_neg (by omega), List.take_of_length_le (by rw [padX_len]; omega)]
  | succ d ih =>
    intro k i hi hk
    obtain ⟨k, rfl⟩ : ∃ m, k = m + 1 := ⟨k - 1, by omega⟩
    have hl : i < (padX key x).length := by rw [padX_len]; omega
    rw [chatelaineref06_Key_l1, if_pos (by omega)]
    have hlt : ((padX key x).take i).length = i := by rw [List.length_take]; omega
    refine (bnd_eqW (x := (padX key x).take (i + 1)) ?_ _).trans ?_
    · rw [List.take_succ_eq_append_getElem hl]
      by_cases h : i < (kkC key).length
      · rw [if_pos (by omega), idx_nat]
        refine (bnd_eqW (List.getElem?_eq_getElem h) _).trans ?_
        refine (bnd_eqW (show chatelaineref06_flip 300 (kkC key)[i] x = some ((kkC key)[i] ^^^ x) from rfl) _).trans ?_
        refine (bnd_eqW (app1w _ _ (by rw [hlt]; simp; omega)) _).trans ?_
        have : (padX key x)[i] = (kkC key)[i] ^^^ x := by
          have hp := padX_at key x i (by omega)
          rw [dif_pos h] at hp
          exact (List.getElem?_eq_some_iff.1 hp).2
        rw [this]
      · rw [if_neg (by omega)]
        refine (bnd_eqW (app1w _ _ (by rw [hlt]; simp; omega)) _).trans ?_
        have : (padX key x)[i] = x := by
          have hp := padX_at key x i (by omega)
          rw [dif_neg h] at hp
          exact (List.getElem?_eq_some_iff.1 hp).2
        rw [this]
    · rw [w_upC i (by omega)]
      exact ih k (i + 1) (by omega) (by omega)
theorem rKey (key : List UInt8) (hk : key.length ≤ 1000) (x : UInt8) : chatelaineref06_Key 300 key x = some (padX key x) := by
  unfold chatelaineref06_Key
  refine (bnd_eqW (x := kkC key) ?_ _).trans ?_
  · by_cases h : 64 < key.length
    · rw [if_pos (by omega)]
      refine (bnd_eqW (rshaC key (by omega)) _).trans ?_
      refine (bnd_eqW (rKey_l0 (shaS key) (shaS_length _) 32 300 0 (by omega) (by omega)) _).trans ?_
      unfold kkC; rw [if_pos h]
    · rw [if_neg (by omega)]
      unfold kkC; rw [if_neg h]
  · exact (bnd_eqW (rKey_l1 key x 64 300 0 (by omega) (by omega)) _).trans rfl
theorem rTag (key : List UInt8) (hk : key.length ≤ 1000) (msg : List UInt8) (hm : msg.length ≤ 10000) : chatelaineref06_Tag 300 key msg = some (tagS key msg) := by
  unfold chatelaineref06_Tag
  refine (bnd_eqW (rKey key hk 54) _).trans ?_
  refine (bnd_eqW (app1w _ _ (by rw [padX_len]; omega)) _).trans ?_
  refine (bnd_eqW (rKey key hk 92) _).trans ?_
  refine (bnd_eqW (rshaC _ (by rw [List.length_append, padX_len]; omega)) _).trans ?_
  refine (bnd_eqW (rListC _ (shaS_length _)) _).trans ?_
  refine (bnd_eqW (app1w _ _ (by rw [padX_len, shaS_length]; omega)) _).trans ?_
  refine (bnd_eqW (rshaC _ (by rw [List.length_append, padX_len, shaS_length]; omega)) _).trans ?_
  rfl
theorem wrapL_40 {kek key : List UInt8} (h : kek.length = 16 ∨ kek.length = 32) (hk : key.length = 32) : (wrapL kek key).length = 40 := by rw [wrapL_len h (by omega)]; omega
theorem wrapR_ok {kek key : List UInt8} (h : kek.length = 16 ∨ kek.length = 32) (hk : key.length % 8 = 0 ∧ 16 ≤ key.length ∧ key.length ≤ 64) : wrapR kek key = (wrapL kek key, 0) := by
  unfold wrapR; rw [if_neg (fun z => z h), if_neg (fun z => z hk)]
/-! nodes' fresh keys -/
abbrev lNode : List UInt8 := [110, 111, 100, 101]
def msgN (a b : Nat) : List UInt8 := [1] ++ lNode ++ [0] ++ be 8 8 ++ be 8 a ++ be 8 8 ++ be 8 b ++ [0, 32]
def frN (seed : List UInt8) (a b : Nat) : List UInt8 := tagS seed (msgN a b)
theorem frN_len (seed : List UInt8) (a b : Nat) : (frN seed a b).length = 32 := tagS_len _ _
theorem msgN_len (a b : Nat) : (msgN a b).length = 40 := by unfold msgN; simp [be_length]
theorem node0 : Lib.indexByte lNode 0 = -1 := by decide
theorem nodeR : chatelaineref08_Derive_l0 300 lNode 300 [] 0 = some (.inr lNode) := by decide +kernel
theorem pDerN (key : List UInt8) (hk : 1 ≤ key.length ∧ key.length ≤ 1000) (a b : Nat) : kdf_Derive 300 key lNode 32 [be 8 a, be 8 b] = some (frN key a b, 0) := by
  unfold kdf_Derive
  rw [if_neg (by omega), if_neg (by decide)]
  refine (bnd_eqW (x := false) ?_ _).trans ?_
  · rw [if_neg (by decide)]
    refine (bnd_eqW (show strings_IndexByte 300 lNode 0 = some (-1) by unfold strings_IndexByte; rw [node0]) _).trans ?_
    rfl
  · rw [if_neg (by simp)]
    refine (bnd_eqW (show kdf_Derive_l0 300 [be 8 a, be 8 b] (297 + 1 + 1 + 1) [] 0 = some [be 8 8, be 8 a, be 8 8, be 8 b] from ?_) _).trans ?_
    · rw [kdf_Derive_l0, if_pos (by simp)]
      refine (bnd_eqW (show idx [be 8 a, be 8 b] 0 = some (be 8 a) from rfl) _).trans ?_
      rw [be_length]
      refine (bnd_eqW (numP 8 (by omega)) _).trans ?_
      refine (bnd_eqW (app24 [] [be 8 8, be 8 a] (by simp)) _).trans ?_
      rw [kdf_Derive_l0, if_pos (show w64 (0 + 1) < (([be 8 a, be 8 b] : List (List UInt8)).length : Int) from (by decide : w64 (0 + 1) < (2 : Int)))]
      refine (bnd_eqW (show idx [be 8 a, be 8 b] (w64 (0 + 1)) = some (be 8 b) from rfl) _).trans ?_
      rw [be_length]
      refine (bnd_eqW (numP 8 (by omega)) _).trans ?_
      refine (bnd_eqW (app24 _ [be 8 8, be 8 b] (by simp)) _).trans ?_
      rw [kdf_Derive_l0, if_neg (show ¬ w64 (w64 (0 + 1) + 1) < (([be 8 a, be 8 b] : List (List UInt8)).length : Int) from (by decide : ¬ w64 (w64 (0 + 1) + 1) < (2 : Int)))]; rfl
    · refine (bnd_eqW (show word_Put 300 32 2 = some ([0, 32], 0) by decide +kernel) _).trans ?_
      refine (bnd_eqW (app24 [be 8 8, be 8 a, be 8 8, be 8 b] [[0, 32]] (by simp)) _).trans ?_
      refine (bnd_eqW (show kdf_Derive_l1 300 key lNode 32 ([be 8 8, be 8 a, be 8 8, be 8 b] ++ [[0, 32]]) (298 + 1 + 1) [] 1 = some (frN key a b) from ?_) _).trans ?_
      · rw [kdf_Derive_l1, if_pos (by simp)]
        refine (bnd_eqW (app1w _ _ (by simp)) _).trans ?_
        refine (bnd_eqW (app1w _ _ (by simp)) _).trans ?_
        refine (bnd_eqW (app24 _ _ (by simp)) _).trans ?_
        have e : (([([1] ++ lNode ++ [0] : List UInt8)] : List (List UInt8)) ++ ([be 8 8, be 8 a, be 8 8, be 8 b] ++ [[0, 32]])).flatten = msgN a b := by
          unfold msgN; simp
        refine (bnd_eqW (pTag key (by omega) _ (by simp) (by rw [e, msgN_len]; omega)) _).trans ?_
        rw [e]
        refine (bnd_eqW (show bnd 32 0 32 = some (0, 32) from rfl) _).trans ?_
        dsimp only
        rw [td _ 32 (tagS_len _ _)]
        refine (bnd_eqW (app1w [] _ (by rw [tagS_len]; simp)) _).trans ?_
        rw [kdf_Derive_l1, if_neg (by rw [List.nil_append, tagS_len]; decide)]; rfl
      · refine (bnd_eqW (show sub (frN key a b) 0 32 = some (frN key a b) from ?_) _).trans rfl
        unfold sub
        rw [frN_len, if_pos (by decide)]
        exact congrArg some (td _ 32 (frN_len _ _ _))
theorem rDerN (key : List UInt8) (hk : 1 ≤ key.length ∧ key.length ≤ 1000) (a b : Nat) : chatelaineref08_Derive 300 key lNode 32 [be 8 a, be 8 b] = some (frN key a b, 0) := by
  unfold chatelaineref08_Derive
  rw [if_neg (by omega), if_neg (by decide), if_neg (by decide)]
  refine (bnd_eqW nodeR _).trans ?_
  dsimp only
  refine (bnd_eqW (show chatelaineref08_Derive_l1 300 key 32 [be 8 a, be 8 b] lNode (298 + 1 + 1) [] 1 = some (frN key a b) from ?_) _).trans ?_
  · rw [chatelaineref08_Derive_l1, if_pos (by simp)]
    refine (bnd_eqW (app1w _ _ (by simp)) _).trans ?_
    refine (bnd_eqW (app1w _ _ (by simp)) _).trans ?_
    refine (bnd_eqW (show chatelaineref08_Derive_l2 300 [be 8 a, be 8 b] (297 + 1 + 1 + 1) 0 ([i8 1] ++ lNode ++ [0]) = some ([i8 1] ++ lNode ++ [0] ++ be 8 8 ++ be 8 a ++ be 8 8 ++ be 8 b) from ?_) _).trans ?_
    · rw [chatelaineref08_Derive_l2, if_pos (by simp)]
      refine (bnd_eqW (show idx [be 8 a, be 8 b] 0 = some (be 8 a) from rfl) _).trans ?_
      rw [be_length]
      refine (bnd_eqW (numR 8 (by omega)) _).trans ?_
      refine (bnd_eqW (app1w _ _ (by simp [be_length])) _).trans ?_
      refine (bnd_eqW (show idx [be 8 a, be 8 b] 0 = some (be 8 a) from rfl) _).trans ?_
      refine (bnd_eqW (app1w _ _ (by simp [be_length])) _).trans ?_
      rw [chatelaineref08_Derive_l2, if_pos (show w64 (0 + 1) < (([be 8 a, be 8 b] : List (List UInt8)).length : Int) from (by decide : w64 (0 + 1) < (2 : Int)))]
      refine (bnd_eqW (show idx [be 8 a, be 8 b] (w64 (0 + 1)) = some (be 8 b) from rfl) _).trans ?_
      rw [be_length]
      refine (bnd_eqW (numR 8 (by omega)) _).trans ?_
      refine (bnd_eqW (app1w _ _ (by simp [be_length])) _).trans ?_
      refine (bnd_eqW (show idx [be 8 a, be 8 b] (w64 (0 + 1)) = some (be 8 b) from rfl) _).trans ?_
      refine (bnd_eqW (app1w _ _ (by simp [be_length])) _).trans ?_
      rw [chatelaineref08_Derive_l2, if_neg (show ¬ w64 (w64 (0 + 1) + 1) < (([be 8 a, be 8 b] : List (List UInt8)).length : Int) from (by decide : ¬ w64 (w64 (0 + 1) + 1) < (2 : Int)))]
    · refine (bnd_eqW (app1w _ _ (by simp [be_length])) _).trans ?_
      have e : ([i8 1] ++ lNode ++ [0] ++ be 8 8 ++ be 8 a ++ be 8 8 ++ be 8 b ++ [i8 (w64 (Int.tdiv 32 256)), i8 (Int.tmod 32 256)] : List UInt8) = msgN a b := rfl
      rw [e]
      refine (bnd_eqW (rTag key (by omega) _ (by rw [msgN_len]; omega)) _).trans ?_
      refine (bnd_eqW (rListC _ (tagS_len _ _)) _).trans ?_
      refine (bnd_eqW (app1w [] _ (by rw [tagS_len]; simp)) _).trans ?_
      rw [chatelaineref08_Derive_l1, if_neg (by rw [List.nil_append, tagS_len]; decide)]; rfl
  · refine (bnd_eqW (show sub (frN key a b) 0 32 = some (frN key a b) from ?_) _).trans rfl
    unfold sub
    rw [frN_len, if_pos (by decide)]
    exact congrArg some (td _ 32 (frN_len _ _ _))
theorem pFresh (seed : List UInt8) (hs : 1 ≤ seed.length ∧ seed.length ≤ 1000) (a b : Nat) (ha : a ≤ 64) (hb : b ≤ 64) : keytree_fresh 300 seed (a : Int) (b : Int) = some (frN seed a b) := by
  unfold keytree_fresh
  refine (bnd_eqW (numP a ha) _).trans ?_
  refine (bnd_eqW (numP b hb) _).trans ?_
  exact (bnd_eqW (pDerN seed hs a b) _).trans rfl
theorem rFresh (seed : List UInt8) (hs : 1 ≤ seed.length ∧ seed.length ≤ 1000) (a b : Nat) (ha : a ≤ 64) (hb : b ≤ 64) : chatelainelaw21_fresh 300 seed (a : Int) (b : Int) = some (frN seed a b) := by
  unfold chatelainelaw21_fresh
  refine (bnd_eqW (numR a ha) _).trans ?_
  refine (bnd_eqW (numR b hb) _).trans ?_
  exact (bnd_eqW (rDerN seed hs a b) _).trans rfl
/-! wrapped keys of 32 bytes -/
theorem wrap32 {k x : List UInt8} (hk : k.length = 32) (hx : x.length = 32) : wrap_Wrap 300 k x = some (wrapL k x, 0) := by
  rw [pWrap _ _ (by omega), wrapR_ok (.inr hk) (by omega)]
theorem unwrap32 {k x : List UInt8} (hk : k.length = 32) (hx : x.length = 32) : wrap_Unwrap 300 k (wrapL k x) = some (x, 0) := by
  rw [pUnwrap _ _ (by rw [wrapL_40 (.inr hk) hx]; omega), back_one (.inr hk) (by omega)]
theorem unwrapAny {k b : List UInt8} (hk : k.length = 32) (hb : b.length = 40) : ∃ x, wrap_Unwrap 300 k b = some x ∧ (x = ([], 21) ∨ x.2 = 0 ∧ x.1.length = 32) := by
  refine ⟨_, pUnwrap _ _ (by omega), ?_⟩
  rcases unwrap_cases k b (.inr hk) (by omega) with h | ⟨key, h, hl, he⟩
  · exact .inl h
  · right
    rw [h]
    refine ⟨rfl, ?_⟩
    have := wrapL_len (kek := k) (key := key) (.inr hk) hl
    rw [he] at this
    show key.length = 32
    omega
end Go.Proofs.Ytohgmggdfmjgnaa
