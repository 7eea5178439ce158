/- Keys that are derived, credentials, wrapped roots: told over lists. -/
import Derived.Test.YthaoiajbgadcjaaCr
import Derived.Test.YthaoiajbgadcjaaCs
import Derived.Test.YthaoiajbgadcjaaEsm
set_option linter.unusedVariables false
set_option linter.unusedSimpArgs false
namespace Go.Proofs.Ythaoiajbgadcjaa
open Go.RowKit
theorem w_upC (n : Nat) (h : n < 1000000) : w64 ((n : Int) + 1) = ((n + 1 : Nat) : Int) := by rw [w64_of (by omega)]; omega
theorem numC : ∀ t : Fin 65, kdf_Number 300 (t.val : Int) = some (be 8 t.val) ∧ chatelaineref01_Put64 300 (u64I (t.val : Int)) = some (be 8 t.val) := by decide +kernel
theorem numP (n : Nat) (h : n ≤ 64) : kdf_Number 300 (n : Int) = some (be 8 n) := (numC ⟨n, by omega⟩).1
theorem numR (n : Nat) (h : n ≤ 64) : chatelaineref01_Put64 300 (u64I (n : Int)) = some (be 8 n) := (numC ⟨n, by omega⟩).2
theorem rListC_l0 (r : List UInt8) (hr : r.length = 32) : ∀ (d k i : Nat), i + d = 32 → d < k → chatelaineref06_List_l0 300 r k (r.take i) (i : Int) = some r := by
  intro d
  induction d with
  | zero =>
    intro k i hi hk
    obtain ⟨k, rfl⟩ : ∃ m, k = m + 1 := ⟨k - 1, by omega⟩
    rw [chatelaineref06_List_l0, if_neg (by omega), List.take_of_length_le (by omega)]
  | succ d ih =>
    intro k i hi hk
    obtain ⟨k, rfl⟩ : ∃ m, k = m + 1 := ⟨k - 1, by omega⟩
    have hl : i < r.length := by omega
    rw [chatelaineref06_List_l0, if_pos (by omega)]
    refine (bnd_eqW (ix_nat (show i < 32 by omega)) _).trans ?_
    refine (bnd_eqW (List.getElem?_eq_getElem hl) _).trans ?_
    refine (bnd_eqW (app1w _ _ (by simp; omega)) _).trans ?_
    rw [w_upC i (by omega), ← List.take_succ_eq_append_getElem hl]
    exact ih k (i + 1) (by omega) (by omega)
theorem rListC (r : List UInt8) (hr : r.length = 32) : chatelaineref06_List 300 r = some r := by
  unfold chatelaineref06_List
  exact (bnd_eqW (rListC_l0 r hr 32 300 0 (by omega) (by omega)) _).trans rfl
/-! tags -/
def kkC (key : List UInt8) : List UInt8 := if 64 < key.length then shaS key else key
theorem kkC_le (key : List UInt8) : (kkC key).length ≤ 64 := by
  unfold kkC
  split
  · rw [shaS_length]; omega
  · omega
def pdC (key : List UInt8) : List UInt8 := kkC key ++ List.replicate (64 - (kkC key).length) 0
theorem pdC_len (key : List UInt8) : (pdC key).length = 64 := by
  have := kkC_le key
  unfold pdC; simp; omega
def padX (key : List UInt8) (x : UInt8) : List UInt8 := (pdC key).map (· ^^^ x)
theorem padX_len (key : List UInt8) (x : UInt8) : (padX key x).length = 64 := by unfold padX; rw [List.length_map, pdC_len]
theorem padX_at (key : List UInt8) (x : UInt8) (i : Nat) (hi : i < 64) : (padX key x)[i]? = some (if h : i < (kkC key).length then (kkC key)[i] ^^^ x else x) := by
  have := kkC_le key
  unfold padX pdC
  rw [List.getElem?_map]
  by_cases h : i < (kkC key).length
  · rw [dif_pos h, List.getElem?_append_left h, List.getElem?_eq_getElem h]; rfl
  · rw [dif_neg h, List.getElem?_append_right (by omega), List.getElem?_replicate, if_pos (by omega)]; simp
def tagS (key msg : List UInt8) : List UInt8 := shaS (padX key 92 ++ shaS (padX key 54 ++ msg))
theorem tagS_len (key msg : List UInt8) : (tagS key msg).length = 32 := shaS_length _
theorem cpy_zero (m : List UInt8) (h : m.length ≤ 64) : cpy (List.replicate 64 ((0 : UInt8) : UInt8)) 0 64 m = m ++ List.replicate (64 - m.length) 0 := by
  unfold cpy
  rw [List.take_zero, List.nil_append, Nat.sub_zero, List.take_of_length_le h, Nat.zero_add, Nat.min_eq_left h, List.drop_replicate]
theorem set_rep (X : List UInt8) (n : Nat) (v : UInt8) (h : 0 < n) : (X ++ List.replicate n ((0 : UInt8) : UInt8)).set X.length v = (X ++ [v]) ++ List.replicate (n - 1) 0 := by
  obtain ⟨m, rfl⟩ : ∃ m, n = m + 1 := ⟨n - 1, by omega⟩
  rw [List.set_append_right _ _ (Nat.le_refl _), Nat.sub_self, List.replicate_succ, List.set_cons_zero]
  simp
theorem pads_l0 (p : List UInt8) (hp : p.length = 64) : ∀ (d k i : Nat), i + d = 64 → d < k → hmac_Pads_l0 300 p k (i : Int) ((p.take i).map (· ^^^ 54) ++ List.replicate (64 - i) 0) ((p.take i).map (· ^^^ 92) ++ List.replicate (64 - i) 0) = some (p.map (· ^^^ 54), p.map (· ^^^ 92)) := by
  intro d
  induction d with
  | zero =>
    intro k i hi hk
    obtain ⟨k, rfl⟩ : ∃ m, k = m + 1 := ⟨k - 1, by omega⟩
    rw [hmac_Pads_l0, if_neg (by omega), List.take_of_length_le (by omega), show 64 - i = 0 by omega]
    simp
  | succ d ih =>
    intro k i hi hk
    obtain ⟨k, rfl⟩ : ∃ m, k = m + 1 := ⟨k - 1, by omega⟩
    have hl : i < p.length := by omega
    rw [hmac_Pads_l0, if_pos (by omega), idx_nat]
    refine (bnd_eqW (List.getElem?_eq_getElem hl) _).trans ?_
    refine (bnd_eqW (ix_nat (show i < 64 by omega)) _).trans ?_
    refine (bnd_eqW (ix_nat (show i < 64 by omega)) _).trans ?_
    have e : ∀ x : UInt8, ((p.take i).map (· ^^^ x) ++ List.replicate (64 - i) 0).set i (p[i] ^^^ x) = (p.take (i + 1)).map (· ^^^ x) ++ List.replicate (64 - (i + 1)) 0 := fun x => by
      have hlen : ((p.take i).map (· ^^^ x)).length = i := by rw [List.length_map, List.length_take]; omega
      have := set_rep ((p.take i).map (· ^^^ x)) (64 - i) (p[i] ^^^ x) (by omega)
      rw [hlen] at this
      rw [this, List.take_succ_eq_append_getElem hl, List.map_append]
      congr 2
    rw [e, e, w_upC i (by omega)]
    exact ih k (i + 1) (by omega) (by omega)
theorem shaC (l : List (List UInt8)) (h : l.flatten.length ≤ 100000) : sha_Sum 300 l = some (shaS l.flatten) := by unfold sha_Sum; rw [if_pos (by omega)]
theorem rshaC (l : List UInt8) (h : l.length ≤ 100000) : chatelaineref05_Sum 300 l = some (shaS l) := by unfold chatelaineref05_Sum; rw [if_pos (by omega)]
theorem td (l : List UInt8) (n : Nat) (h : l.length = n) : (l.take n).drop 0 = l := by rw [List.drop_zero, List.take_of_length_le (by omega)]
theorem pPads (key : List UInt8) (hk : key.length ≤ 1000) : hmac_Pads 300 key = some (padX key 54, padX key 92) := by
  unfold hmac_Pads
  refine (bnd_eqW (x := pdC key) ?_ _).trans ?_
  · by_cases h : 64 < key.length
    · rw [if_pos (by omega)]
      refine (bnd_eqW (shaC [key] (by simp; omega)) _).trans ?_
      refine (bnd_eqW (show bnd 64 0 64 = some (0, 64) from rfl) _).trans ?_
      refine (bnd_eqW (show bnd 32 0 32 = some (0, 32) from rfl) _).trans ?_
      have e : ([key] : List (List UInt8)).flatten = key := by simp
      rw [e]
      dsimp only
      rw [td _ 32 (shaS_length _), cpy_zero _ (by rw [shaS_length]; omega)]
      unfold pdC kkC
      rw [if_pos h]
    · rw [if_neg (by omega)]
      refine (bnd_eqW (show bnd 64 0 64 = some (0, 64) from rfl) _).trans ?_
      dsimp only
      rw [cpy_zero _ (by omega)]
      unfold pdC kkC
      rw [if_neg h]
  · have := pads_l0 (pdC key) (pdC_len key) 64 300 0 (by omega) (by omega)
    exact (bnd_eqW this _).trans rfl
theorem pTag (key : List UInt8) (hk : key.length ≤ 1000) (parts : List (List UInt8)) (hp : parts.length ≤ 100) (hl : parts.flatten.length ≤ 10000) : hmac_Tag 300 key parts = some (tagS key parts.flatten) := by
  unfold hmac_Tag
  refine (bnd_eqW (pPads key hk) _).trans ?_
  refine (bnd_eqW (show bnd 64 0 64 = some (0, 64) from rfl) _).trans ?_
  dsimp only
  rw [td _ 64 (padX_len key 54)]
  refine (bnd_eqW (app24 _ _ (by simp; omega)) _).trans ?_
  have e : (([padX key 54] : List (List UInt8)) ++ parts).flatten = padX key 54 ++ parts.flatten := by simp
  refine (bnd_eqW (shaC _ (by rw [e, List.length_append, padX_len]; omega)) _).trans ?_
  rw [e]
  refine (bnd_eqW (show bnd 64 0 64 = some (0, 64) from rfl) _).trans ?_
  refine (bnd_eqW (show bnd 32 0 32 = some (0, 32) from rfl) _).trans ?_
  dsimp only
  rw [td _ 64 (padX_len key 92), td _ 32 (shaS_length _)]
  have e2 : ([padX key 92, shaS (padX key 54 ++ parts.flatten)] : List (List UInt8)).flatten = padX key 92 ++ shaS (padX key 54 ++ parts.flatten) := by simp
  refine (bnd_eqW (shaC _ (by rw [e2, List.length_append, padX_len, shaS_length]; omega)) _).trans ?_
  rw [e2]; rfl
theorem rKey_l0 (r : List UInt8) (hr : r.length = 32) : ∀ (d k i : Nat), i + d = 32 → d < k → chatelaineref06_Key_l0 300 r k (r.take i) (i : Int) = some r := by
  intro d
  induction d with
  | zero =>
    intro k i hi hk
    obtain ⟨k, rfl⟩ : ∃ m, k = m + 1 := ⟨k - 1, by omega⟩
    rw [chatelaineref06_Key_l0, if_neg (by omega), List.take_of_length_le (by omega)]
  | succ d ih =>
    intro k i hi hk
    obtain ⟨k, rfl⟩ : ∃ m, k = m + 1 := ⟨k - 1, by omega⟩
    have hl : i < r.length := by omega
    rw [chatelaineref06_Key_l0, if_pos (by omega)]
    refine (bnd_eqW (ix_nat (show i < 32 by omega)) _).trans ?_
    refine (bnd_eqW (List.getElem?_eq_getElem hl) _).trans ?_
    refine (bnd_eqW (app1w _ _ (by simp; omega)) _).trans ?_
    rw [w_upC i (by omega), ← List.take_succ_eq_append_getElem hl]
    exact ih k (i + 1) (by omega) (by omega)
theorem rKey_l1 (key : List UInt8) (x : UInt8) : ∀ (d k i : Nat), i + d = 64 → d < k → chatelaineref06_Key_l1 300 x (kkC key) k ((padX key x).take i) (i : Int) = some (padX key x) := by
  intro d
  induction d with
  | zero =>
    intro k i hi hk
    obtain ⟨k, rfl⟩ : ∃ m, k = m + 1 := ⟨k - 1, by omega⟩
    rw [chatelaineref06_Key_l1, if_neg (by omega), List.take_of_length_le (by rw [padX_len]; omega)]
  | succ d ih =>
    intro k i hi hk
    obtain ⟨k, rfl⟩ : ∃ m, k = m + 1 := ⟨k - 1, by omega⟩
    have hl : i < (padX key x).length := by rw [padX_len]; omega
    rw [chatelaineref06_Key_l1, if_pos (by omega)]
    have hlt : ((padX key x).take i).length = i := by rw [List.length_take]; omega
    refine (bnd_eqW (x := (padX key x).take (i + 1)) ?_ _).trans ?_
    · rw [List.take_succ_eq_append_getElem hl]
      by_cases h : i < (kkC key).length
      · rw [if_pos (by omega), idx_nat]
        refine (bnd_eqW (List.getElem?_eq_getElem h) _).trans ?_
        refine (bnd_eqW (show chatelaineref06_flip 300 (kkC key)[i] x = some ((kkC key)[i] ^^^ x) from rfl) _).trans ?_
        refine (bnd_eqW (app1w _ _ (by rw [hlt]; simp; omega)) _).trans ?_
        have : (padX key x)[i] = (kkC key)[i] ^^^ x := by
          have hp := padX_at key x i (by omega)
          rw [dif_pos h] at hp
          exact (List.getElem?_eq_some_iff.1 hp).2
        rw [this]
      · rw [if_neg (by omega)]
        refine (bnd_eqW (app1w _ _ (by rw [hlt]; simp; omega)) _).trans ?_
        have : (padX key x)[i] = x := by
          have hp := padX_at key x i (by omega)
          rw [dif_neg h] at hp
          exact (List.getElem?_eq_some_iff.1 hp).2
        rw [this]
    · rw [w_upC i (by omega)]
      exact ih k (i + 1) (by omega) (by omega)
theorem rKey (key : List UInt8) (hk : key.length ≤ 1000) (x : UInt8) : chatelaineref06_Key 300 key x = some (padX key x) := by
  unfold chatelaineref06_Key
  refine (bnd_eqW (x := kkC key) ?_ _).trans ?_
  · by_cases h : 64 < key.length
    · rw [if_pos (by omega)]
      refine (bnd_eqW (rshaC key (by omega)) _).trans ?_
      refine (bnd_eqW (rKey_l0 (shaS key) (shaS_length _) 32 300 0 (by omega) (by omega)) _).trans ?_
      unfold kkC; rw [if_pos h]
    · rw [if_neg (by omega)]
      unfold kkC; rw [if_neg h]
  · exact (bnd_eqW (rKey_l1 key x 64 300 0 (by omega) (by omega)) _).trans rfl
theorem rTag (key : List UInt8) (hk : key.length ≤ 1000) (msg : List UInt8) (hm : msg.length ≤ 10000) : chatelaineref06_Tag 300 key msg = some (tagS key msg) := by
  unfold chatelaineref06_Tag
  refine (bnd_eqW (rKey key hk 54) _).trans ?_
  refine (bnd_eqW (app1w _ _ (by rw [padX_len]; omega)) _).trans ?_
  refine (bnd_eqW (rKey key hk 92) _).trans ?_
  refine (bnd_eqW (rshaC _ (by rw [List.length_append, padX_len]; omega)) _).trans ?_
  refine (bnd_eqW (rListC _ (shaS_length _)) _).trans ?_
  refine (bnd_eqW (app1w _ _ (by rw [padX_len, shaS_length]; omega)) _).trans ?_
  refine (bnd_eqW (rshaC _ (by rw [List.length_append, padX_len, shaS_length]; omega)) _).trans ?_
  rfl
/-! keys that are derived -/
def msgS (label ctx : List UInt8) : List UInt8 := [1] ++ label ++ [0] ++ be 8 8 ++ ctx ++ [0, 32]
def derS (key label : List UInt8) (n : Nat) : List UInt8 := tagS key (msgS label (be 8 n))
theorem derS_len (key label : List UInt8) (n : Nat) : (derS key label n).length = 32 := tagS_len _ _
theorem msgS_len (label ctx : List UInt8) : (msgS label ctx).length = label.length + ctx.length + 12 := by unfold msgS; simp [be_length]; omega
structure LabelOk (L : List UInt8) : Prop where
  len : L.length ≤ 64
  no0 : Lib.indexByte L 0 = -1
  ref : chatelaineref08_Derive_l0 300 L 300 [] 0 = some (.inr L)
theorem pDerive (key : List UInt8) (hk : 1 ≤ key.length ∧ key.length ≤ 1000) (L : List UInt8) (hL : LabelOk L) (ctx : List UInt8) (hc : ctx.length = 8) : kdf_Derive 300 key L 32 [ctx] = some (tagS key (msgS L ctx), 0) := by
  have hl := hL.len
  unfold kdf_Derive
  rw [if_neg (by omega), if_neg (by decide)]
  refine (bnd_eqW (x := false) ?_ _).trans ?_
  · rw [if_neg (by omega)]
    refine (bnd_eqW (show strings_IndexByte 300 L 0 = some (-1) by unfold strings_IndexByte; rw [hL.no0]) _).trans ?_
    rfl
  · rw [if_neg (by simp)]
    refine (bnd_eqW (show kdf_Derive_l0 300 [ctx] (298 + 1 + 1) [] 0 = some [be 8 8, ctx] from ?_) _).trans ?_
    · rw [kdf_Derive_l0, if_pos (by simp)]
      refine (bnd_eqW (show idx [ctx] 0 = some ctx from rfl) _).trans ?_
      rw [hc]
      refine (bnd_eqW (numP 8 (by omega)) _).trans ?_
      refine (bnd_eqW (app24 [] [be 8 8, ctx] (by simp)) _).trans ?_
      rw [kdf_Derive_l0, if_neg (by rw [show w64 (0 + 1) = 1 from rfl]; simp)]; rfl
    · refine (bnd_eqW (show word_Put 300 32 2 = some ([0, 32], 0) by decide +kernel) _).trans ?_
      refine (bnd_eqW (app24 [be 8 8, ctx] [[0, 32]] (by simp)) _).trans ?_
      refine (bnd_eqW (show kdf_Derive_l1 300 key L 32 ([be 8 8, ctx] ++ [[0, 32]]) (298 + 1 + 1) [] 1 = some (tagS key (msgS L ctx)) from ?_) _).trans ?_
      · rw [kdf_Derive_l1, if_pos (by simp)]
        refine (bnd_eqW (app1w _ _ (by simp; omega)) _).trans ?_
        refine (bnd_eqW (app1w _ _ (by simp; omega)) _).trans ?_
        refine (bnd_eqW (app24 _ _ (by simp)) _).trans ?_
        have e : (([([1] ++ L ++ [0] : List UInt8)] : List (List UInt8)) ++ ([be 8 8, ctx] ++ [[0, 32]])).flatten = msgS L ctx := by
          unfold msgS; simp
        refine (bnd_eqW (pTag key (by omega) _ (by simp) (by rw [e, msgS_len]; omega)) _).trans ?_
        rw [e]
        refine (bnd_eqW (show bnd 32 0 32 = some (0, 32) from rfl) _).trans ?_
        dsimp only
        rw [td _ 32 (tagS_len _ _)]
        refine (bnd_eqW (app1w [] _ (by rw [tagS_len]; simp)) _).trans ?_
        rw [kdf_Derive_l1, if_neg (by rw [List.nil_append, tagS_len]; decide)]; rfl
      · refine (bnd_eqW (show sub (tagS key (msgS L ctx)) 0 32 = some (tagS key (msgS L ctx)) from ?_) _).trans rfl
        unfold sub
        rw [tagS_len, if_pos (by decide)]
        exact congrArg some (td _ 32 (tagS_len _ _))
theorem rDerive (key : List UInt8) (hk : 1 ≤ key.length ∧ key.length ≤ 1000) (L : List UInt8) (hL : LabelOk L) (ctx : List UInt8) (hc : ctx.length = 8) : chatelaineref08_Derive 300 key L 32 [ctx] = some (tagS key (msgS L ctx), 0) := by
  have hl := hL.len
  unfold chatelaineref08_Derive
  rw [if_neg (by omega), if_neg (by decide), if_neg (by omega)]
  refine (bnd_eqW hL.ref _).trans ?_
  dsimp only
  refine (bnd_eqW (show chatelaineref08_Derive_l1 300 key 32 [ctx] L (298 + 1 + 1) [] 1 = some (tagS key (msgS L ctx)) from ?_) _).trans ?_
  · rw [chatelaineref08_Derive_l1, if_pos (by simp)]
    refine (bnd_eqW (app1w _ _ (by simp; omega)) _).trans ?_
    refine (bnd_eqW (app1w _ _ (by simp; omega)) _).trans ?_
    refine (bnd_eqW (show chatelaineref08_Derive_l2 300 [ctx] (298 + 1 + 1) 0 ([i8 1] ++ L ++ [0]) = some ([i8 1] ++ L ++ [0] ++ be 8 8 ++ ctx) from ?_) _).trans ?_
    · rw [chatelaineref08_Derive_l2, if_pos (by simp)]
      refine (bnd_eqW (show idx [ctx] 0 = some ctx from rfl) _).trans ?_
      rw [hc]
      refine (bnd_eqW (numR 8 (by omega)) _).trans ?_
      refine (bnd_eqW (app1w _ _ (by simp [be_length]; omega)) _).trans ?_
      refine (bnd_eqW (show idx [ctx] 0 = some ctx from rfl) _).trans ?_
      refine (bnd_eqW (app1w _ _ (by simp [be_length]; omega)) _).trans ?_
      rw [chatelaineref08_Derive_l2, if_neg (by rw [show w64 (0 + 1) = 1 from rfl]; simp)]
    · refine (bnd_eqW (app1w _ _ (by simp [be_length]; omega)) _).trans ?_
      have e : ([i8 1] ++ L ++ [0] ++ be 8 8 ++ ctx ++ [i8 (w64 (Int.tdiv 32 256)), i8 (Int.tmod 32 256)] : List UInt8) = msgS L ctx := rfl
      rw [e]
      refine (bnd_eqW (rTag key (by omega) _ (by rw [msgS_len]; omega)) _).trans ?_
      refine (bnd_eqW (rListC _ (tagS_len _ _)) _).trans ?_
      refine (bnd_eqW (app1w [] _ (by rw [tagS_len]; simp)) _).trans ?_
      rw [chatelaineref08_Derive_l1, if_neg (by rw [List.nil_append, tagS_len]; decide)]; rfl
  · refine (bnd_eqW (show sub (tagS key (msgS L ctx)) 0 32 = some (tagS key (msgS L ctx)) from ?_) _).trans rfl
    unfold sub
    rw [tagS_len, if_pos (by decide)]
    exact congrArg some (td _ 32 (tagS_len _ _))
abbrev lInner : List UInt8 := [105, 110, 110, 101, 114]
abbrev lOuter : List UInt8 := [111, 117, 116, 101, 114]
theorem okInner : LabelOk lInner := ⟨by decide, by decide, by decide +kernel⟩
theorem okOuter : LabelOk lOuter := ⟨by decide, by decide, by decide +kernel⟩
theorem pDerived (key : List UInt8) (hk : 1 ≤ key.length ∧ key.length ≤ 1000) (L : List UInt8) (hL : LabelOk L) (n : Int) (h0 : 0 ≤ n) (h1 : n ≤ 64) : cred_derived 300 key L n = some (derS key L n.toNat) := by
  obtain ⟨t, rfl⟩ : ∃ t : Nat, n = (t : Int) := ⟨n.toNat, by omega⟩
  unfold cred_derived
  refine (bnd_eqW (numP t (by omega)) _).trans ?_
  exact (bnd_eqW (pDerive key hk L hL _ (be_length _ _)) _).trans rfl
theorem rDerived (key : List UInt8) (hk : 1 ≤ key.length ∧ key.length ≤ 1000) (L : List UInt8) (hL : LabelOk L) (n : Int) (h0 : 0 ≤ n) (h1 : n ≤ 64) : chatelaineref22_Derived 300 key L n = some (derS key L n.toNat) := by
  obtain ⟨t, rfl⟩ : ∃ t : Nat, n = (t : Int) := ⟨n.toNat, by omega⟩
  unfold chatelaineref22_Derived
  refine (bnd_eqW (numR t (by omega)) _).trans ?_
  exact (bnd_eqW (rDerive key hk L hL _ (be_length _ _)) _).trans rfl
/-! roots, sealed and opened -/
def rightC (c : List UInt8) : Bool := decide (8 ≤ (c.length : Int)) && decide ((c.length : Int) ≤ 64)
theorem rightC_iff {c : List UInt8} : rightC c = true ↔ 8 ≤ c.length ∧ c.length ≤ 64 := by unfold rightC; simp; omega
def inKc (c : List UInt8) (n : Int) : List UInt8 := derS c lInner n.toNat
def outKc (root : List UInt8) (n : Int) : List UInt8 := derS root lOuter n.toNat
theorem inK_len (c : List UInt8) (n : Int) : (inKc c n).length = 16 ∨ (inKc c n).length = 32 := .inr (derS_len _ _ _)
theorem outK_len (c : List UInt8) (n : Int) : (outKc c n).length = 16 ∨ (outKc c n).length = 32 := .inr (derS_len _ _ _)
def sealL (c root : List UInt8) (n : Int) (key : List UInt8) : List UInt8 := wrapL (outKc root n) (wrapL (inKc c n) key)
def sealR (c root : List UInt8) (n : Int) (key : List UInt8) : List UInt8 × Int :=
  if rightC c = false then ([], 30) else if ¬ (0 ≤ n ∧ n ≤ 64 ∧ key.length = 32) then ([], 2) else (sealL c root n key, 0)
theorem wrapL_40 {kek key : List UInt8} (h : kek.length = 16 ∨ kek.length = 32) (hk : key.length = 32) : (wrapL kek key).length = 40 := by rw [wrapL_len h (by omega)]; omega
theorem wrapL_48 {kek key : List UInt8} (h : kek.length = 16 ∨ kek.length = 32) (hk : key.length = 40) : (wrapL kek key).length = 48 := by rw [wrapL_len h (by omega)]; omega
theorem sealL_len (c root : List UInt8) (n : Int) (key : List UInt8) (hk : key.length = 32) : (sealL c root n key).length = 48 := wrapL_48 (outK_len _ _) (wrapL_40 (inK_len _ _) hk)
theorem wrapR_ok {kek key : List UInt8} (h : kek.length = 16 ∨ kek.length = 32) (hk : key.length % 8 = 0 ∧ 16 ≤ key.length ∧ key.length ≤ 64) : wrapR kek key = (wrapL kek key, 0) := by
  unfold wrapR; rw [if_neg (fun z => z h), if_neg (fun z => z hk)]
theorem pSeal (c : List UInt8) (root : List UInt8) (hr : root.length = 32) (n : Int) (key : List UInt8) : cred_Seal 300 c root n key = some (sealR c root n key) := by
  unfold cred_Seal sealR
  refine (bnd_eqW (show cred_Right 300 c = some (rightC c) from rfl) _).trans ?_
  by_cases h : rightC c = true
  · have hc := rightC_iff.1 h
    rw [if_neg (by rw [h]; simp), if_neg (by rw [h]; simp)]
    refine (bnd_eqW (show cred_space 300 n = some (decide (0 ≤ n) && decide (n ≤ 64)) from rfl) _).trans ?_
    by_cases hn : 0 ≤ n ∧ n ≤ 64 ∧ key.length = 32
    · obtain ⟨h0, h1, h2⟩ := hn
      rw [if_neg (by simp [h0, h1, h2]), if_neg (fun z => z ⟨h0, h1, h2⟩)]
      refine (bnd_eqW (pDerived c (by omega) lInner okInner n h0 h1) _).trans ?_
      refine (bnd_eqW (show bnd 32 0 32 = some (0, 32) from rfl) _).trans ?_
      dsimp only
      rw [td _ 32 hr]
      refine (bnd_eqW (pDerived root (by omega) lOuter okOuter n h0 h1) _).trans ?_
      refine (bnd_eqW (x := (sealL c root n key, 0)) ?_ _).trans rfl
      unfold cred_both_clo0_24_0_0
      refine (bnd_eqW (pWrap (inKc c n) key (by omega)) _).trans ?_
      rw [wrapR_ok (inK_len _ _) (by omega), if_neg (by simp)]
      dsimp only
      have h40 := wrapL_40 (kek := inKc c n) (inK_len c n) h2
      refine (bnd_eqW (pWrap (outKc root n) _ (by omega)) _).trans ?_
      rw [wrapR_ok (outK_len _ _) (by omega)]; rfl
    · rw [if_pos, if_pos hn]
      simp only [Bool.or_eq_true, Bool.not_eq_true', Bool.and_eq_false_iff, decide_eq_false_iff_not, decide_eq_true_eq]
      omega
  · have h' : rightC c = false := by cases h2 : rightC c <;> simp_all
    rw [if_pos (by rw [h']; rfl), if_pos h']
theorem rSeal (c : List UInt8) (root : List UInt8) (hr : root.length = 32) (n : Int) (key : List UInt8) : chatelaineref22_Seal 300 c root n key = some (sealR c root n key) := by
  unfold chatelaineref22_Seal sealR
  refine (bnd_eqW (show chatelaineref22_Right 300 c = some (rightC c) from rfl) _).trans ?_
  by_cases h : rightC c = true
  · have hc := rightC_iff.1 h
    rw [if_neg (show ¬ (!rightC c) = true by rw [h]; simp), if_neg (show ¬ rightC c = false by rw [h]; simp)]
    by_cases hn : 0 ≤ n ∧ n ≤ 64 ∧ key.length = 32
    · obtain ⟨h0, h1, h2⟩ := hn
      rw [if_neg (by simp only [Bool.or_eq_true, decide_eq_true_eq]; omega), if_neg (fun z => z ⟨h0, h1, h2⟩)]
      refine (bnd_eqW (rDerived c (by omega) lInner okInner n h0 h1) _).trans ?_
      refine (bnd_eqW (rWrap (inKc c n) key (by omega)) _).trans ?_
      rw [wrapR_ok (inK_len _ _) (by omega)]
      refine (bnd_eqW (rListC root hr) _).trans ?_
      refine (bnd_eqW (rDerived root (by omega) lOuter okOuter n h0 h1) _).trans ?_
      dsimp only
      have h40 := wrapL_40 (kek := inKc c n) (inK_len c n) h2
      refine (bnd_eqW (rWrap (outKc root n) _ (by omega)) _).trans ?_
      rw [wrapR_ok (outK_len _ _) (by omega)]; rfl
    · rw [if_pos, if_pos hn]
      simp only [Bool.or_eq_true, decide_eq_true_eq]
      omega
  · have h' : rightC c = false := by cases h2 : rightC c <;> simp_all
    rw [if_pos (by rw [h']; rfl), if_pos h']
/-- what is opened -/
def openR (c root : List UInt8) (n : Int) (b : List UInt8) : List UInt8 × Int :=
  if rightC c = false then ([], 30) else if ¬ (0 ≤ n ∧ n ≤ 64 ∧ b.length = 48) then ([], 2) else
    if (unwrapR (outKc root n) b).2 ≠ 0 then ([], (unwrapR (outKc root n) b).2) else unwrapR (inKc c n) (unwrapR (outKc root n) b).1
theorem unwrap_len (kek b : List UInt8) (h : kek.length = 16 ∨ kek.length = 32) (hb : b.length % 8 = 0 ∧ 24 ≤ b.length ∧ b.length ≤ 72) : (unwrapR kek b).1.length ≤ 64 := by
  rcases unwrap_cases kek b h hb with e | ⟨key, e, h2, _⟩
  · rw [e]; simp
  · rw [e]; exact h2.2.2
theorem pOpen (c : List UInt8) (root : List UInt8) (hr : root.length = 32) (n : Int) (b : List UInt8) : cred_Open 300 c root n b = some (openR c root n b) := by
  unfold cred_Open openR
  refine (bnd_eqW (show cred_Right 300 c = some (rightC c) from rfl) _).trans ?_
  by_cases h : rightC c = true
  · have hc := rightC_iff.1 h
    rw [if_neg (by rw [h]; simp), if_neg (by rw [h]; simp)]
    refine (bnd_eqW (show cred_space 300 n = some (decide (0 ≤ n) && decide (n ≤ 64)) from rfl) _).trans ?_
    by_cases hn : 0 ≤ n ∧ n ≤ 64 ∧ b.length = 48
    · obtain ⟨h0, h1, h2⟩ := hn
      rw [if_neg (by simp [h0, h1, h2]), if_neg (fun z => z ⟨h0, h1, h2⟩)]
      refine (bnd_eqW (show bnd 32 0 32 = some (0, 32) from rfl) _).trans ?_
      dsimp only
      rw [td _ 32 hr]
      refine (bnd_eqW (pDerived root (by omega) lOuter okOuter n h0 h1) _).trans ?_
      refine (bnd_eqW (pDerived c (by omega) lInner okInner n h0 h1) _).trans ?_
      refine (bnd_eqW (x := if (unwrapR (outKc root n) b).2 ≠ 0 then ([], (unwrapR (outKc root n) b).2) else unwrapR (inKc c n) (unwrapR (outKc root n) b).1) ?_ _).trans rfl
      unfold cred_both_clo0_27_0_0
      refine (bnd_eqW (pUnwrap (outKc root n) b (by omega)) _).trans ?_
      by_cases hu : (unwrapR (outKc root n) b).2 ≠ 0
      · rw [if_pos hu, if_pos hu]
      · rw [if_neg hu, if_neg hu]
        have hl := unwrap_len (outKc root n) b (outK_len _ _) (by omega)
        exact (bnd_eqW (pUnwrap (inKc c n) _ (by omega)) _).trans rfl
    · rw [if_pos, if_pos hn]
      simp only [Bool.or_eq_true, Bool.not_eq_true', Bool.and_eq_false_iff, decide_eq_false_iff_not, decide_eq_true_eq]
      omega
  · have h' : rightC c = false := by cases h2 : rightC c <;> simp_all
    rw [if_pos (by rw [h']; rfl), if_pos h']
/-- what was opened is sealed so -/
theorem open_cases (c root : List UInt8) (n : Int) (b : List UInt8) (hc : rightC c = true) (h : 0 ≤ n ∧ n ≤ 64 ∧ b.length = 48) : openR c root n b = ([], 21) ∨ ∃ key, openR c root n b = (key, 0) ∧ key.length = 32 ∧ sealL c root n key = b := by
  unfold openR
  rw [if_neg (by rw [hc]; simp), if_neg (fun z => z h)]
  rcases unwrap_cases (outKc root n) b (outK_len _ _) (by omega) with e | ⟨k1, e, h2, h3⟩
  · rw [e, if_pos (by simp)]; exact .inl rfl
  · rw [e, if_neg (by simp)]
    have hl : k1.length = 40 := by
      have := wrapL_len (outK_len root n) h2
      rw [h3] at this; omega
    dsimp only
    rcases unwrap_cases (inKc c n) k1 (inK_len _ _) (by omega) with e2 | ⟨k2, e2, h4, h5⟩
    · exact .inl e2
    · refine .inr ⟨k2, e2, ?_, ?_⟩
      · have := wrapL_len (inK_len c n) h4
        rw [h5] at this; omega
      · unfold sealL; rw [h5, h3]
end Go.Proofs.Ythaoiajbgadcjaa
