/- Sectors, enciphered and deciphered block by block, told over lists. -/
import Derived.Test.YtoimllmmlbehgaaXt
import Derived.Test.YtoimllmmlbehgaaE04C
set_option linter.unusedVariables false
set_option linter.unusedSimpArgs false
namespace Go.Proofs.Ytoimllmmlbehgaa
open Go.RowKit
theorem fill_part {α : Type} (n m : Nat) (hnm : n ≤ m) (L : Nat → Int → List α → Option (List α)) (f : Nat → α)
    (hs : ∀ k (i : Nat) xs, i < n → xs.length = m → L (k + 1) (i : Int) xs = L k ((i + 1 : Nat) : Int) (xs.set i (f i)))
    (he : ∀ k xs, xs.length = m → L (k + 1) (n : Int) xs = some xs) (k : Nat) (xs : List α) (hx : xs.length = m) (hk : n < k) : L k 0 xs = some ((List.range n).map f ++ xs.drop n) := by
  have key : ∀ d k i xs, i + d = n → d < k → xs.length = m → L k (i : Int) xs = some (xs.take i ++ (((List.range n).drop i).map f ++ xs.drop n)) := by
    intro d
    induction d with
    | zero =>
      intro k i xs hi hk hx
      obtain ⟨k, rfl⟩ : ∃ m, k = m + 1 := ⟨k - 1, by omega⟩
      obtain rfl : i = n := by omega
      rw [he k xs hx, List.drop_of_length_le (show (List.range i).length ≤ i by simp)]; simp
    | succ d ih =>
      intro k i xs hi hk hx
      obtain ⟨k, rfl⟩ : ∃ m, k = m + 1 := ⟨k - 1, by omega⟩
      rw [hs k i xs (by omega) hx, ih k (i + 1) _ (by omega) (by omega) (by simpa using hx), set_take _ _ _ (by omega)]
      rw [List.drop_eq_getElem_cons (show i < (List.range n).length by simp; omega), List.drop_set_of_lt (by omega)]
      simp
  have := key n k 0 xs (by omega) hk hx
  simpa using this
/-! a block, doubled -/
def db (s : List UInt8) : List UInt8 :=
  (List.range 16).map fun i => if i = 0 then (u8_shl (s.getD 0 0) 1 ||| 0) ^^^ ((135 : UInt8) &&& (-(u8_shr (s.getD 15 0) 7))) else u8_shl (s.getD i 0) 1 ||| u8_shr (s.getD (i - 1) 0) 7
theorem db_len (s : List UInt8) : (db s).length = 16 := by simp [db]
theorem pDouble (s : List UInt8) (h : s.length = 16) : gf_Double 300 s = some (db s) := by
  obtain ⟨a0, a1, a2, a3, a4, a5, a6, a7, a8, a9, a10, a11, a12, a13, a14, a15, rfl⟩ := l16 s h
  rfl
def dbN : Nat → List UInt8 → List UInt8
  | 0, s => s
  | n + 1, s => dbN n (db s)
theorem dbN_len : ∀ n (s : List UInt8), s.length = 16 → (dbN n s).length = 16
  | 0, _, h => h
  | n + 1, s, h => dbN_len n _ (db_len s)
theorem pDoubled_l0 (n : Nat) (hn : n ≤ 255) : ∀ d i K (s : List UInt8), i + d = n → d < K → s.length = 16 → gf_Doubled_l0 300 (n : Int) K (i : Int) s = some (dbN d s) := by
  intro d
  induction d with
  | zero =>
    intro i K s hi hK hs
    obtain ⟨K, rfl⟩ : ∃ m, K = m + 1 := ⟨K - 1, by omega⟩
    rw [gf_Doubled_l0, if_neg (by omega)]; rfl
  | succ d ih =>
    intro i K s hi hK hs
    obtain ⟨K, rfl⟩ : ∃ m, K = m + 1 := ⟨K - 1, by omega⟩
    rw [gf_Doubled_l0, if_pos (by omega)]
    refine (congrArg (fun o => Option.bind o _) (pDouble s hs)).trans ?_
    rw [k_id (by omega)]
    exact ih (i + 1) K (db s) (by omega) (by omega) (db_len s)
theorem pDoubled (n : Nat) (hn : n ≤ 255) (s : List UInt8) (h : s.length = 16) : gf_Doubled 300 s (n : Int) = some (dbN n s) := by
  unfold gf_Doubled
  have := pDoubled_l0 n hn n 0 300 s (by omega) (by omega) h
  rw [show ((0 : Nat) : Int) = 0 from rfl] at this
  rw [if_neg (by simp; omega), this]
  rfl
/-! the first tweak -/
def num8 (n : Nat) : List UInt8 := (List.range 8).map (fun i => UInt8.ofNat (n / 256 ^ i)) ++ List.replicate 8 0
theorem num8_len (n : Nat) : (num8 n).length = 16 := by simp [num8]
theorem x_i8 (x : Nat) : i8 (x : Int) = UInt8.ofNat x := by
  unfold i8
  rw [show ((x : Int) % 256).toNat = x % 256 by omega]
  apply UInt8.toNat_inj.1; simp
theorem x_shr (n i : Nat) (h : i ≤ 8) : i64_shr (n : Int) (8 * i) = ((n / 256 ^ i : Nat) : Int) := by
  unfold i64_shr
  rw [Nat.min_eq_left (by omega), show ((2 : Int) ^ (8 * i)) = ((2 ^ (8 * i) : Nat) : Int) by simp, ← Int.natCast_ediv, Nat.pow_mul]
theorem x_u64 {x : Nat} (h : x < 18446744073709551616) : (u64I (x : Int)).toNat = x := by
  unfold u64I
  rw [UInt64.toNat_ofNat', show ((x : Int) % 18446744073709551616).toNat = x by omega]
  exact Nat.mod_eq_of_lt h
abbrev Sec := Ci × Ci
theorem pFirst (c : Ci) {wt : List UInt32} {m : Nat} (hw : wt.length = 4 * (m + 1)) (hm : m ≤ 20) (n : Nat) : xts_Sector_first 300 (c, (wt, bxL, bkL)) (n : Int) = some (enc wt m (num8 n)) := by
  unfold xts_Sector_first
  rw [fill_part 8 16 (by omega) (xts_Sector_first_l0 300 (n : Int)) (fun i => UInt8.ofNat (n / 256 ^ i)) (fun k i xs hi hx => ?_) (fun k xs hx => ?_) 300 _ (by simp) (by omega)]
  · refine (congrArg (fun o => Option.bind o _) (pEnc hw hm (num8_len n))).trans ?_
    rfl
  · rw [xts_Sector_first_l0, if_pos (by omega), ix_nat (by omega), k_id (x := 8 * (i : Int)) (by omega), show 8 * (i : Int) = ((8 * i : Nat) : Int) by omega, x_u64 (by omega), x_shr n i (by omega), x_i8, k_id (by omega)]
    rfl
  · rw [xts_Sector_first_l0, if_neg (by omega)]
/-! block by block -/
def secB (f : List UInt8 → List UInt8) : Nat → List UInt8 → List UInt8 → List UInt8
  | 0, _, _ => []
  | n + 1, t, b => ad (f (ad (b.take 16) t)) t ++ secB f n (db t) (b.drop 16)
theorem cpy16 (b : List UInt8) (h : 16 ≤ b.length) (z : List UInt8) (hz : z.length = 16) : cpy z 0 16 b = b.take 16 := by
  unfold cpy
  rw [List.take_zero, List.nil_append, Nat.sub_zero, Nat.zero_add, Nat.min_eq_right h, List.drop_of_length_le (by omega), List.append_nil]
theorem ad_get {s t : List UInt8} {i : Nat} (hs : i < s.length) (ht : i < t.length) : (ad s t)[i]? = some (s.getD i 0 ^^^ t.getD i 0) := by
  unfold ad
  rw [List.getElem?_zipWith, getD_some 0 hs, getD_some 0 ht]
theorem map_get (s : List UInt8) (f : Nat → UInt8) (h : ∀ i, i < s.length → s[i]? = some (f i)) : (List.range s.length).map f = s := by
  apply List.ext_getElem?
  intro i
  rw [List.getElem?_map]
  by_cases hi : i < s.length
  · rw [List.getElem?_range hi, h i hi]; rfl
  · rw [List.getElem?_eq_none (by simp; omega), List.getElem?_eq_none (by omega)]; rfl
theorem range_ad {s t : List UInt8} (hs : s.length = 16) (ht : t.length = 16) : (List.range 16).map (fun i => s.getD i 0 ^^^ t.getD i 0) = ad s t := by
  have hl := ad_len s t hs ht
  have := map_get (ad s t) (fun i => s.getD i 0 ^^^ t.getD i 0) (fun i hi => ad_get (by omega) (by omega))
  rwa [hl] at this
theorem eachE_l1 (t s : List UInt8) (ht : t.length = 16) (hs : s.length = 16) : xts_Sector_each_clo3_15_1_0_l1 300 t 300 0 s = some (ad s t) := by
  have key : ∀ d i K (xs : List UInt8), i + d = 16 → d < K → xs.length = 16 → (∀ j, i ≤ j → j < 16 → xs.getD j 0 = s.getD j 0) → xts_Sector_each_clo3_15_1_0_l1 300 t K (i : Int) xs = some (xs.take i ++ ((List.range 16).drop i).map (fun i => s.getD i 0 ^^^ t.getD i 0)) := by
    intro d
    induction d with
    | zero =>
      intro i K xs hi hK hx _
      obtain ⟨K, rfl⟩ : ∃ m, K = m + 1 := ⟨K - 1, by omega⟩
      obtain rfl : i = 16 := by omega
      rw [xts_Sector_each_clo3_15_1_0_l1, if_neg (by omega), List.take_of_length_le (by omega)]; simp
    | succ d ih =>
      intro i K xs hi hK hx hj
      obtain ⟨K, rfl⟩ : ∃ m, K = m + 1 := ⟨K - 1, by omega⟩
      rw [xts_Sector_each_clo3_15_1_0_l1, if_pos (by omega), ix_nat (by omega)]
      simp only [Option.bind_some]
      rw [getD_some 0 (show i < xs.length by omega), getD_some 0 (show i < t.length by omega)]
      simp only [Option.bind_some]
      rw [k_id (by omega), hj i (by omega) (by omega)]
      have := ih (i + 1) K (xs.set i (s.getD i 0 ^^^ t.getD i 0)) (by omega) (by omega) (by simpa using hx) (fun j h1 h2 => by
        rw [List.getD, List.getElem?_set_ne (by omega)]; exact hj j (by omega) h2)
      rw [set_take _ _ _ (by omega)] at this
      rw [List.drop_eq_getElem_cons (show i < (List.range 16).length by simp; omega)]
      simpa using this
  have := key 16 0 300 s (by omega) (by omega) hs (fun _ _ _ => rfl)
  rw [List.take_zero, List.nil_append, List.drop_zero, range_ad hs ht] at this
  exact this
theorem eachE_l2 (at' : Nat) (t c out pre post : List UInt8) (ht : t.length = 16) (hc : c.length = 16) (hp : pre.length = at') (hat : at' ≤ 1000) (mid : List UInt8) (hm : mid.length = 16) :
    xts_Sector_each_clo3_15_1_0_l2 300 (at' : Int) t c 300 0 (pre ++ (mid ++ post)) = some (pre ++ (ad c t ++ post)) := by
  have key : ∀ (d i K : Nat) (M : List UInt8), i + d = 16 → d < K → M.length = 16 → xts_Sector_each_clo3_15_1_0_l2 300 (at' : Int) t c K (i : Int) (pre ++ (M ++ post)) = some (pre ++ ((M.take i ++ ((List.range 16).drop i).map (fun i => c.getD i 0 ^^^ t.getD i 0)) ++ post)) := by
    intro d
    induction d with
    | zero =>
      intro i K M hi hK hx
      obtain ⟨K, rfl⟩ : ∃ m, K = m + 1 := ⟨K - 1, by omega⟩
      obtain rfl : i = 16 := by omega
      rw [xts_Sector_each_clo3_15_1_0_l2, if_neg (by omega), List.take_of_length_le (by omega)]; simp
    | succ d ih =>
      intro i K M hi hK hx
      obtain ⟨K, rfl⟩ : ∃ m, K = m + 1 := ⟨K - 1, by omega⟩
      rw [xts_Sector_each_clo3_15_1_0_l2, if_pos (by omega), idx_nat, getD_some 0 (show i < c.length by omega), ix_nat (by omega)]
      simp only [Option.bind_some]
      rw [getD_some 0 (show i < t.length by omega)]
      simp only [Option.bind_some]
      rw [k_id (x := (at' : Int) + i) (by omega), show (at' : Int) + i = ((at' + i : Nat) : Int) by omega, ix_nat (by simp; omega)]
      simp only [Option.bind_some]
      rw [k_id (by omega), show (pre ++ (M ++ post)).set (at' + i) (c.getD i 0 ^^^ t.getD i 0) = pre ++ (M.set i (c.getD i 0 ^^^ t.getD i 0) ++ post) by
        rw [List.set_append_right _ _ (by omega), show at' + i - pre.length = i by omega, List.set_append_left _ _ (by omega)]]
      have := ih (i + 1) K (M.set i (c.getD i 0 ^^^ t.getD i 0)) (by omega) (by omega) (by simpa using hx)
      rw [set_take _ _ _ (by omega)] at this
      rw [List.drop_eq_getElem_cons (show i < (List.range 16).length by simp; omega)]
      simpa using this
  have := key 16 0 300 mid (by omega) (by omega) hm
  rw [List.take_zero, List.nil_append, List.drop_zero, range_ad hc ht] at this
  exact this
theorem eachD_l1 (t s : List UInt8) (ht : t.length = 16) (hs : s.length = 16) : xts_Sector_each_clo3_18_1_0_l1 300 t 300 0 s = some (ad s t) := by
  have key : ∀ d i K (xs : List UInt8), i + d = 16 → d < K → xs.length = 16 → (∀ j, i ≤ j → j < 16 → xs.getD j 0 = s.getD j 0) → xts_Sector_each_clo3_18_1_0_l1 300 t K (i : Int) xs = some (xs.take i ++ ((List.range 16).drop i).map (fun i => s.getD i 0 ^^^ t.getD i 0)) := by
    intro d
    induction d with
    | zero =>
      intro i K xs hi hK hx _
      obtain ⟨K, rfl⟩ : ∃ m, K = m + 1 := ⟨K - 1, by omega⟩
      obtain rfl : i = 16 := by omega
      rw [xts_Sector_each_clo3_18_1_0_l1, if_neg (by omega), List.take_of_length_le (by omega)]; simp
    | succ d ih =>
      intro i K xs hi hK hx hj
      obtain ⟨K, rfl⟩ : ∃ m, K = m + 1 := ⟨K - 1, by omega⟩
      rw [xts_Sector_each_clo3_18_1_0_l1, if_pos (by omega), ix_nat (by omega)]
      simp only [Option.bind_some]
      rw [getD_some 0 (show i < xs.length by omega), getD_some 0 (show i < t.length by omega)]
      simp only [Option.bind_some]
      rw [k_id (by omega), hj i (by omega) (by omega)]
      have := ih (i + 1) K (xs.set i (s.getD i 0 ^^^ t.getD i 0)) (by omega) (by omega) (by simpa using hx) (fun j h1 h2 => by
        rw [List.getD, List.getElem?_set_ne (by omega)]; exact hj j (by omega) h2)
      rw [set_take _ _ _ (by omega)] at this
      rw [List.drop_eq_getElem_cons (show i < (List.range 16).length by simp; omega)]
      simpa using this
  have := key 16 0 300 s (by omega) (by omega) hs (fun _ _ _ => rfl)
  rw [List.take_zero, List.nil_append, List.drop_zero, range_ad hs ht] at this
  exact this
theorem eachD_l2 (at' : Nat) (t c out pre post : List UInt8) (ht : t.length = 16) (hc : c.length = 16) (hp : pre.length = at') (hat : at' ≤ 1000) (mid : List UInt8) (hm : mid.length = 16) :
    xts_Sector_each_clo3_18_1_0_l2 300 (at' : Int) t c 300 0 (pre ++ (mid ++ post)) = some (pre ++ (ad c t ++ post)) := by
  have key : ∀ (d i K : Nat) (M : List UInt8), i + d = 16 → d < K → M.length = 16 → xts_Sector_each_clo3_18_1_0_l2 300 (at' : Int) t c K (i : Int) (pre ++ (M ++ post)) = some (pre ++ ((M.take i ++ ((List.range 16).drop i).map (fun i => c.getD i 0 ^^^ t.getD i 0)) ++ post)) := by
    intro d
    induction d with
    | zero =>
      intro i K M hi hK hx
      obtain ⟨K, rfl⟩ : ∃ m, K = m + 1 := ⟨K - 1, by omega⟩
      obtain rfl : i = 16 := by omega
      rw [xts_Sector_each_clo3_18_1_0_l2, if_neg (by omega), List.take_of_length_le (by omega)]; simp
    | succ d ih =>
      intro i K M hi hK hx
      obtain ⟨K, rfl⟩ : ∃ m, K = m + 1 := ⟨K - 1, by omega⟩
      rw [xts_Sector_each_clo3_18_1_0_l2, if_pos (by omega), idx_nat, getD_some 0 (show i < c.length by omega), ix_nat (by omega)]
      simp only [Option.bind_some]
      rw [getD_some 0 (show i < t.length by omega)]
      simp only [Option.bind_some]
      rw [k_id (x := (at' : Int) + i) (by omega), show (at' : Int) + i = ((at' + i : Nat) : Int) by omega, ix_nat (by simp; omega)]
      simp only [Option.bind_some]
      rw [k_id (by omega), show (pre ++ (M ++ post)).set (at' + i) (c.getD i 0 ^^^ t.getD i 0) = pre ++ (M.set i (c.getD i 0 ^^^ t.getD i 0) ++ post) by
        rw [List.set_append_right _ _ (by omega), show at' + i - pre.length = i by omega, List.set_append_left _ _ (by omega)]]
      have := ih (i + 1) K (M.set i (c.getD i 0 ^^^ t.getD i 0)) (by omega) (by omega) (by simpa using hx)
      rw [set_take _ _ _ (by omega)] at this
      rw [List.drop_eq_getElem_cons (show i < (List.range 16).length by simp; omega)]
      simpa using this
  have := key 16 0 300 mid (by omega) (by omega) hm
  rw [List.take_zero, List.nil_append, List.drop_zero, range_ad hc ht] at this
  exact this
theorem secB_len (f : List UInt8 → List UInt8) (hf : ∀ s, s.length = 16 → (f s).length = 16) : ∀ n t b, t.length = 16 → b.length = 16 * n → (secB f n t b).length = 16 * n
  | 0, _, _, _, _ => rfl
  | n + 1, t, b, ht, hb => by
    rw [secB, List.length_append, secB_len f hf n (db t) (b.drop 16) (db_len t) (by rw [List.length_drop]; omega), ad_len _ _ (hf _ (ad_len _ _ (by rw [List.length_take]; omega) ht)) ht]; omega
theorem secB_inv (f g : List UInt8 → List UInt8) (hf : ∀ s, s.length = 16 → (f s).length = 16) (hfg : ∀ s, s.length = 16 → g (f s) = s) : ∀ n t b, t.length = 16 → b.length = 16 * n → secB g n t (secB f n t b) = b
  | 0, _, b, _, hb => by
    have : b = [] := List.eq_nil_of_length_eq_zero (by omega)
    subst this; rfl
  | n + 1, t, b, ht, hb => by
    have h1 := ad_len (b.take 16) t (by rw [List.length_take]; omega) ht
    have h2 := ad_len _ _ (hf _ h1) ht
    have e1 : (ad (f (ad (b.take 16) t)) t ++ secB f n (db t) (b.drop 16)).take 16 = ad (f (ad (b.take 16) t)) t := List.take_left' h2
    have e2 : (ad (f (ad (b.take 16) t)) t ++ secB f n (db t) (b.drop 16)).drop 16 = secB f n (db t) (b.drop 16) := List.drop_left' h2
    rw [secB, secB, e1, e2, ad_ad _ _ (by rw [hf _ h1]; omega), hfg _ h1, ad_ad _ _ (by rw [List.length_take]; omega),
      secB_inv f g hf hfg n (db t) (b.drop 16) (db_len t) (by rw [List.length_drop]; omega), List.take_append_drop]
section
variable {ws : List UInt32} {m : Nat}
theorem eachE_l0 (hw : ws.length = 4 * (m + 1)) (hm : m ≤ 20) (b : List UInt8) (hb : b.length ≤ 1000) : ∀ d j K (t pre : List UInt8), t.length = 16 → pre.length = 16 * j → 16 * (j + d) = b.length → d < K →
    xts_Sector_each_clo3_15_1_0_l0 300 b (ws, bxL, bkL) K ((16 * j : Nat) : Int) (pre ++ List.replicate (16 * d) 0) t = some (pre ++ secB (enc ws m) d t (b.drop (16 * j))) := by
  intro d
  induction d with
  | zero =>
    intro j K t pre ht hp hj hK
    obtain ⟨K, rfl⟩ : ∃ m, K = m + 1 := ⟨K - 1, by omega⟩
    rw [xts_Sector_each_clo3_15_1_0_l0, if_neg (by omega)]; simp [secB]
  | succ d ih =>
    intro j K t pre ht hp hj hK
    obtain ⟨K, rfl⟩ : ∃ m, K = m + 1 := ⟨K - 1, by omega⟩
    have hl : 16 ≤ (b.drop (16 * j)).length := by rw [List.length_drop]; omega
    have h16 : ((b.drop (16 * j)).take 16).length = 16 := by rw [List.length_take]; omega
    have ha := ad_len _ _ h16 ht
    have he := enc_len (ws := ws) (n := m) (by omega) ha
    rw [xts_Sector_each_clo3_15_1_0_l0, if_pos (by omega), show bnd 16 0 16 = some (0, 16) from rfl]
    simp only [Option.bind_some]
    rw [show sub b ((16 * j : Nat) : Int) (b.length : Int) = some (b.drop (16 * j)) by
      unfold sub
      rw [if_pos (by omega), show ((b.length : Int)).toNat = b.length by omega, show (((16 * j : Nat) : Int)).toNat = 16 * j by omega, List.take_length]]
    simp only [Option.bind_some]
    rw [cpy16 _ hl _ (by simp), eachE_l1 t _ ht h16]
    simp only [Option.bind_some]
    rw [pEnc hw hm ha]
    simp only [Option.bind_some]
    have h2 := eachE_l2 (16 * j) t (enc ws m (ad ((b.drop (16 * j)).take 16) t)) [] pre (List.replicate (16 * d) 0) ht he hp (by omega) (List.replicate 16 0) (by simp)
    rw [show List.replicate (16 * (d + 1)) (0 : UInt8) = List.replicate 16 0 ++ List.replicate (16 * d) 0 by rw [List.replicate_append_replicate]; congr 1; omega, h2]
    simp only [Option.bind_some]
    rw [pDouble t ht]
    simp only [Option.bind_some]
    rw [k_id (by omega), show ((16 * j : Nat) : Int) + 16 = ((16 * (j + 1) : Nat) : Int) by omega]
    have := ih (j + 1) K (db t) (pre ++ ad (enc ws m (ad ((b.drop (16 * j)).take 16) t)) t) (db_len t) (by rw [List.length_append, ad_len _ _ he ht]; omega) (by omega) (by omega)
    rw [List.append_assoc] at this
    rw [this, secB, List.drop_drop, show 16 * j + 16 = 16 * (j + 1) by omega, List.append_assoc]
theorem eachD_l0 (hw : ws.length = 4 * (m + 1)) (hm : m ≤ 20) (b : List UInt8) (hb : b.length ≤ 1000) : ∀ d j K (t pre : List UInt8), t.length = 16 → pre.length = 16 * j → 16 * (j + d) = b.length → d < K →
    xts_Sector_each_clo3_18_1_0_l0 300 b (ws, bxL, bkL) K ((16 * j : Nat) : Int) (pre ++ List.replicate (16 * d) 0) t = some (pre ++ secB (dec ws m) d t (b.drop (16 * j))) := by
  intro d
  induction d with
  | zero =>
    intro j K t pre ht hp hj hK
    obtain ⟨K, rfl⟩ : ∃ m, K = m + 1 := ⟨K - 1, by omega⟩
    rw [xts_Sector_each_clo3_18_1_0_l0, if_neg (by omega)]; simp [secB]
  | succ d ih =>
    intro j K t pre ht hp hj hK
    obtain ⟨K, rfl⟩ : ∃ m, K = m + 1 := ⟨K - 1, by omega⟩
    have hl : 16 ≤ (b.drop (16 * j)).length := by rw [List.length_drop]; omega
    have h16 : ((b.drop (16 * j)).take 16).length = 16 := by rw [List.length_take]; omega
    have ha := ad_len _ _ h16 ht
    have he := dec_len (ws := ws) (n := m) (by omega) ha
    rw [xts_Sector_each_clo3_18_1_0_l0, if_pos (by omega), show bnd 16 0 16 = some (0, 16) from rfl]
    simp only [Option.bind_some]
    rw [show sub b ((16 * j : Nat) : Int) (b.length : Int) = some (b.drop (16 * j)) by
      unfold sub
      rw [if_pos (by omega), show ((b.length : Int)).toNat = b.length by omega, show (((16 * j : Nat) : Int)).toNat = 16 * j by omega, List.take_length]]
    simp only [Option.bind_some]
    rw [cpy16 _ hl _ (by simp), eachD_l1 t _ ht h16]
    simp only [Option.bind_some]
    rw [pDec hw hm ha]
    simp only [Option.bind_some]
    have h2 := eachD_l2 (16 * j) t (dec ws m (ad ((b.drop (16 * j)).take 16) t)) [] pre (List.replicate (16 * d) 0) ht he hp (by omega) (List.replicate 16 0) (by simp)
    rw [show List.replicate (16 * (d + 1)) (0 : UInt8) = List.replicate 16 0 ++ List.replicate (16 * d) 0 by rw [List.replicate_append_replicate]; congr 1; omega, h2]
    simp only [Option.bind_some]
    rw [pDouble t ht]
    simp only [Option.bind_some]
    rw [k_id (by omega), show ((16 * j : Nat) : Int) + 16 = ((16 * (j + 1) : Nat) : Int) by omega]
    have := ih (j + 1) K (db t) (pre ++ ad (dec ws m (ad ((b.drop (16 * j)).take 16) t)) t) (db_len t) (by rw [List.length_append, ad_len _ _ he ht]; omega) (by omega) (by omega)
    rw [List.append_assoc] at this
    rw [this, secB, List.drop_drop, show 16 * j + 16 = 16 * (j + 1) by omega, List.append_assoc]
/-! sectors -/
theorem mkN1 (n : Nat) (h : n ≤ 5000) : mkN 1 (n : Int) = some n := by
  unfold mkN; rw [if_pos (by unfold maxLen; omega)]; simp
def mayX (number : Int) (b : List UInt8) : Bool := decide (0 ≤ number) && decide (number ≤ 4611686018427387904) && decide (b.length ≠ 0) && decide (b.length % 16 = 0)
theorem guardX (number : Int) (b : List UInt8) (hb : b.length ≤ 1000) : ((((!((decide (0 ≤ number)) && (decide (number ≤ 4611686018427387904)))) || (decide ((b.length : Int) = 0))) || (decide (Int.tmod (b.length : Int) 16 ≠ 0))) || (decide (4096 < (b.length : Int)))) = !mayX number b := by
  unfold mayX
  have e : Int.tmod (b.length : Int) 16 = ((b.length % 16 : Nat) : Int) := by rw [show (16 : Int) = ((16 : Nat) : Int) from rfl, ← Int.ofNat_tmod]
  rw [e, Bool.eq_iff_iff]
  generalize b.length = l at *
  simp
  omega
theorem sEnc {ws wt : List UInt32} {m mt : Nat} (hw : ws.length = 4 * (m + 1)) (hm : m ≤ 20) (hwt : wt.length = 4 * (mt + 1)) (hmt : mt ≤ 20) (number : Int) (b : List UInt8) (hb : b.length ≤ 1000) :
    xts_Sector_Encrypt 300 ((ws, bxL, bkL), (wt, bxL, bkL)) number b = some (if mayX number b = true then (secB (enc ws m) (b.length / 16) (enc wt mt (num8 number.toNat)) b, 0) else ([], 2)) := by
  unfold xts_Sector_Encrypt xts_Sector_is xts_Sector_each_clo3_15_1_0 xts_may
  simp only [Option.bind_some]
  rw [guardX number b hb]
  by_cases h : mayX number b = true
  · rw [h, if_neg (by decide), if_pos rfl, mkN1 _ (by omega)]
    simp only [Option.bind_some]
    have h' := h
    unfold mayX at h'
    simp at h'
    have hn : number = (number.toNat : Int) := by omega
    have hf := pFirst (ws, bxL, bkL) hwt hmt number.toNat
    rw [← hn] at hf
    rw [hf]
    simp only [Option.bind_some]
    have h0 := eachE_l0 hw hm b hb (b.length / 16) 0 300 (enc wt mt (num8 number.toNat)) [] (enc_len (by omega) (num8_len _)) rfl (by omega) (by omega)
    rw [List.nil_append, List.nil_append, Nat.mul_zero, List.drop_zero, show 16 * (b.length / 16) = b.length by omega, show ((0 : Nat) : Int) = 0 from rfl] at h0
    rw [h0]
    rfl
  · rw [Bool.eq_false_iff.2 h, if_pos (by decide), if_neg (by decide)]
    rfl
theorem sDec {ws wt : List UInt32} {m mt : Nat} (hw : ws.length = 4 * (m + 1)) (hm : m ≤ 20) (hwt : wt.length = 4 * (mt + 1)) (hmt : mt ≤ 20) (number : Int) (b : List UInt8) (hb : b.length ≤ 1000) :
    xts_Sector_Decrypt 300 ((ws, bxL, bkL), (wt, bxL, bkL)) number b = some (if mayX number b = true then (secB (dec ws m) (b.length / 16) (enc wt mt (num8 number.toNat)) b, 0) else ([], 2)) := by
  unfold xts_Sector_Decrypt xts_Sector_is xts_Sector_each_clo3_18_1_0 xts_may
  simp only [Option.bind_some]
  rw [guardX number b hb]
  by_cases h : mayX number b = true
  · rw [h, if_neg (by decide), if_pos rfl, mkN1 _ (by omega)]
    simp only [Option.bind_some]
    have h' := h
    unfold mayX at h'
    simp at h'
    have hn : number = (number.toNat : Int) := by omega
    have hf := pFirst (ws, bxL, bkL) hwt hmt number.toNat
    rw [← hn] at hf
    rw [hf]
    simp only [Option.bind_some]
    have h0 := eachD_l0 hw hm b hb (b.length / 16) 0 300 (enc wt mt (num8 number.toNat)) [] (enc_len (by omega) (num8_len _)) rfl (by omega) (by omega)
    rw [List.nil_append, List.nil_append, Nat.mul_zero, List.drop_zero, show 16 * (b.length / 16) = b.length by omega, show ((0 : Nat) : Int) = 0 from rfl] at h0
    rw [h0]
    rfl
  · rw [Bool.eq_false_iff.2 h, if_pos (by decide), if_neg (by decide)]
    rfl
theorem pXNew {key : List UInt8} (h : key.length = 32 ∨ key.length = 64) : xts_New 300 key = some (.inr (((sched (key.take (key.length / 2)), bxL, bkL), (sched (key.drop (key.length / 2)), bxL, bkL)), 0)) := by
  have e : w64 (Int.tdiv (key.length : Int) 2) = ((key.length / 2 : Nat) : Int) := by
    rw [show (2 : Int) = ((2 : Nat) : Int) from rfl, ← Int.ofNat_tdiv]; exact k_id (by omega)
  have s1 : sub key 0 ((key.length / 2 : Nat) : Int) = some (key.take (key.length / 2)) := by
    unfold sub; rw [if_pos (by omega), show (((key.length / 2 : Nat) : Int)).toNat = key.length / 2 by omega]; rfl
  have s2 : sub key ((key.length / 2 : Nat) : Int) (key.length : Int) = some (key.drop (key.length / 2)) := by
    unfold sub; rw [if_pos (by omega), show ((key.length : Int)).toNat = key.length by omega, List.take_length]; rfl
  unfold xts_New
  rw [if_neg (by simp; omega), e, s1]
  simp only [Option.bind_some]
  rw [pNew (by rw [List.length_take]; omega)]
  simp only [Option.bind_some]
  rw [if_neg (by simp), s2]
  simp only [Option.bind_some]
  rw [pNew (by rw [List.length_drop]; omega)]
  simp only [Option.bind_some]
  rw [if_neg (by simp)]
theorem pXNewBad {key : List UInt8} (h : ¬(key.length = 32 ∨ key.length = 64)) : xts_New 300 key = some (.inl 20) := by
  unfold xts_New
  rw [if_pos (by simp; omega)]
theorem sched_len' {key : List UInt8} (h : key.length = 16 ∨ key.length = 32) : ∃ n, key.length / 4 + 6 = n ∧ (sched key).length = 4 * (n + 1) ∧ n ≤ 20 := ⟨_, rfl, sched_len h, by omega⟩
theorem pTweak {ws wt : List UInt32} {mt : Nat} (hwt : wt.length = 4 * (mt + 1)) (hmt : mt ≤ 20) (number block : Int) :
    xts_Sector_Tweak 300 ((ws, bxL, bkL), (wt, bxL, bkL)) number block = some (if 0 ≤ number ∧ number ≤ 4611686018427387904 ∧ 0 ≤ block ∧ block < 256 then (dbN block.toNat (enc wt mt (num8 number.toNat)), 0) else (List.replicate 16 0, 2)) := by
  unfold xts_Sector_Tweak xts_Sector_is xts_may
  simp only [Option.bind_some]
  by_cases h : 0 ≤ number ∧ number ≤ 4611686018427387904 ∧ 0 ≤ block ∧ block < 256
  · rw [if_neg (by simp; omega), if_pos h]
    have hn : number = (number.toNat : Int) := by omega
    have hk : block = (block.toNat : Int) := by omega
    have hf := pFirst (ws, bxL, bkL) hwt hmt number.toNat
    rw [← hn] at hf
    rw [hf]
    simp only [Option.bind_some]
    have hd := pDoubled block.toNat (by omega) _ (enc_len (ws := wt) (n := mt) (by omega) (num8_len number.toNat))
    rw [← hk] at hd
    rw [hd]
    rfl
  · rw [if_pos (by simp; omega), if_neg h]
end
end Go.Proofs.Ytoimllmmlbehgaa
