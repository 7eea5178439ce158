/- The document's sectors: they are the program's. -/
import Derived.Test.YtoimllmmlbehgaaE10A
import Derived.Test.YtoimllmmlbehgaaE04E
import Derived.Test.YtoimllmmlbehgaaXr
set_option linter.unusedVariables false
set_option linter.unusedSimpArgs false
namespace Go.Proofs.Ytoimllmmlbehgaa
open Go.RowKit
/-- a bit of a byte -/
def bt (b : UInt8) (k : Nat) : Int := ((b.toNat / 2 ^ k % 2 : Nat) : Int)
def bts (s : List UInt8) : List Int := s.flatMap fun b => (List.range 8).map (bt b)
theorem bt_01 (b : UInt8) (k : Nat) : bt b k = 0 ∨ bt b k = 1 := by unfold bt; omega
theorem bts_app (a b : List UInt8) : bts (a ++ b) = bts a ++ bts b := by simp [bts]
theorem bts_len : ∀ s : List UInt8, (bts s).length = 8 * s.length
  | [] => rfl
  | b :: s => by
    have := bts_len s
    unfold bts at this ⊢
    rw [List.flatMap_cons, List.length_append, this]; simp; omega
theorem bts_get : ∀ (s : List UInt8) (i k : Nat), i < s.length → k < 8 → (bts s)[8 * i + k]? = some (bt (s.getD i 0) k)
  | [], i, k, h, _ => by simp at h
  | b :: s, 0, k, _, hk => by
    unfold bts
    rw [List.flatMap_cons, List.getElem?_append_left (by simp; omega), List.getElem?_map, List.getElem?_range (by omega)]
    simp
  | b :: s, i + 1, k, h, hk => by
    have := bts_get s i k (by simpa using h) hk
    unfold bts at this ⊢
    rw [List.flatMap_cons, List.getElem?_append_right (by simp; omega)]
    simp only [List.length_map, List.length_range, List.getD_cons_succ]
    rw [show 8 * (i + 1) + k - 8 = 8 * i + k by omega]
    exact this
theorem dl1 (b : UInt8) : ∀ (d i K : Nat) (acc : List Int), i + d = 8 → d < K → acc.length + d ≤ 1000 → chatelaineref02_Double_l1 300 K ((b.toNat / 2 ^ i : Nat) : Int) (i : Int) acc = some (acc ++ ((List.range 8).drop i).map (bt b)) := by
  intro d
  induction d with
  | zero =>
    intro i K acc hi hK ha
    obtain ⟨K, rfl⟩ : ∃ m, K = m + 1 := ⟨K - 1, by omega⟩
    obtain rfl : i = 8 := by omega
    rw [chatelaineref02_Double_l1, if_neg (by omega)]; simp
  | succ d ih =>
    intro i K acc hi hK ha
    obtain ⟨K, rfl⟩ : ∃ m, K = m + 1 := ⟨K - 1, by omega⟩
    have hb := b.toNat_lt
    have hle : b.toNat / 2 ^ i ≤ b.toNat := Nat.div_le_self _ _
    rw [chatelaineref02_Double_l1, if_pos (by omega), app8 _ _ (by simp; omega)]
    simp only [Option.bind_some]
    rw [show Int.tmod ((b.toNat / 2 ^ i : Nat) : Int) 2 = bt b i by rw [show (2 : Int) = ((2 : Nat) : Int) from rfl, ← Int.ofNat_tmod]; rfl,
      show Int.tdiv ((b.toNat / 2 ^ i : Nat) : Int) 2 = ((b.toNat / 2 ^ (i + 1) : Nat) : Int) by rw [show (2 : Int) = ((2 : Nat) : Int) from rfl, ← Int.ofNat_tdiv, Nat.div_div_eq_div_mul, Nat.pow_succ],
      k_id (x := ((b.toNat / 2 ^ (i + 1) : Nat) : Int)) (by have h9 : b.toNat / 2 ^ (i + 1) ≤ b.toNat := Nat.div_le_self _ _; clear hle; generalize b.toNat / 2 ^ (i + 1) = q at *; omega), k_id (by omega)]
    have hr : (List.range 8).length = 8 := by simp
    have := ih (i + 1) K (acc ++ [bt b i]) (by omega) (by omega) (by simp; omega)
    rw [List.drop_eq_getElem_cons (show i < (List.range 8).length by omega)]
    simpa using this
theorem dl0 (s : List UInt8) (hs : s.length = 16) : ∀ (d i K : Nat), i + d = 16 → d < K → chatelaineref02_Double_l0 300 s K (bts (s.take i)) (i : Int) = some (bts s) := by
  intro d
  induction d with
  | zero =>
    intro i K hi hK
    obtain ⟨K, rfl⟩ : ∃ m, K = m + 1 := ⟨K - 1, by omega⟩
    rw [chatelaineref02_Double_l0, if_neg (by omega), List.take_of_length_le (by omega)]
  | succ d ih =>
    intro i K hi hK
    obtain ⟨K, rfl⟩ : ∃ m, K = m + 1 := ⟨K - 1, by omega⟩
    rw [chatelaineref02_Double_l0, if_pos (by omega), ix_nat (by omega)]
    simp only [Option.bind_some]
    rw [getD_some 0 (show i < s.length by omega)]
    simp only [Option.bind_some]
    have h1 := dl1 (s.getD i 0) 8 0 300 (bts (s.take i)) (by omega) (by omega) (by rw [bts_len, List.length_take]; omega)
    rw [Nat.pow_zero, Nat.div_one, List.drop_zero, show ((0 : Nat) : Int) = 0 from rfl] at h1
    rw [h1]
    simp only [Option.bind_some]
    rw [k_id (by omega)]
    have := ih (i + 1) K (by omega) (by omega)
    rw [List.take_succ_eq_append_getElem (show i < s.length by omega), bts_app] at this
    rw [show s.getD i 0 = s[i] by simp [List.getD, List.getElem?_eq_getElem (show i < s.length by omega)]]
    rw [← this]
    congr 2
theorem dl2 (x : List Int) (hx : x.length = 128) : ∀ (d i K : Nat), i + d = 127 → d < K → chatelaineref02_Double_l2 300 x K (i : Int) ([0] ++ x.take i) = some ([0] ++ x.take 127) := by
  intro d
  induction d with
  | zero =>
    intro i K hi hK
    obtain ⟨K, rfl⟩ : ∃ m, K = m + 1 := ⟨K - 1, by omega⟩
    obtain rfl : i = 127 := by omega
    rw [chatelaineref02_Double_l2, if_neg (by omega)]
  | succ d ih =>
    intro i K hi hK
    obtain ⟨K, rfl⟩ : ∃ m, K = m + 1 := ⟨K - 1, by omega⟩
    rw [chatelaineref02_Double_l2, if_pos (by omega), ix_nat (by omega)]
    simp only [Option.bind_some]
    rw [List.getElem?_eq_getElem (show i < x.length by omega)]
    simp only [Option.bind_some]
    rw [app8 _ _ (by simp; omega)]
    simp only [Option.bind_some]
    rw [k_id (by omega), List.append_assoc, ← List.take_succ_eq_append_getElem (show i < x.length by omega)]
    exact ih (i + 1) K (by omega) (by omega)
/-- eight bits as a number -/
def nval (c : Nat → Int) : Int := c 0 + 2 * (c 1 + 2 * (c 2 + 2 * (c 3 + 2 * (c 4 + 2 * (c 5 + 2 * (c 6 + 2 * c 7))))))
theorem dl4 (x : List Int) (hx : x.length = 128) (i : Nat) (hi : i < 16) (c : Nat → Int) (hc : ∀ k, k < 8 → x[8 * i + k]? = some (c k)) (h01 : ∀ k, c k = 0 ∨ c k = 1) : chatelaineref02_Double_l4 300 x (i : Int) 300 0 7 = some (nval c) := by
  have st : ∀ (k K : Nat) (v : Int), k < 8 → 0 ≤ v → v ≤ 1000 → chatelaineref02_Double_l4 300 x (i : Int) (K + 1) v (k : Int) = chatelaineref02_Double_l4 300 x (i : Int) K (c k + 2 * v) ((k : Int) - 1) := by
    intro k K v hk h0 hv
    have := h01 k
    rw [chatelaineref02_Double_l4, if_pos (by omega), k_id (x := 8 * (i : Int)) (by omega), k_id (x := 8 * (i : Int) + k) (by omega), show 8 * (i : Int) + k = ((8 * i + k : Nat) : Int) by omega, hx, ix_nat (by omega)]
    simp only [Option.bind_some]
    rw [hc k hk]
    simp only [Option.bind_some]
    rw [k_id (x := 2 * v) (by omega), k_id (x := 2 * v + c k) (by omega), k_id (by omega), Int.add_comm]
  have a0 := h01 0; have a1 := h01 1; have a2 := h01 2; have a3 := h01 3; have a4 := h01 4; have a5 := h01 5; have a6 := h01 6; have a7 := h01 7
  have s7 := st 7 299 0 (by omega) (by omega) (by omega)
  have s6 := st 6 298 (c 7) (by omega) (by omega) (by omega)
  have s5 := st 5 297 (c 6 + 2 * c 7) (by omega) (by omega) (by omega)
  have s4 := st 4 296 (c 5 + 2 * (c 6 + 2 * c 7)) (by omega) (by omega) (by omega)
  have s3 := st 3 295 (c 4 + 2 * (c 5 + 2 * (c 6 + 2 * c 7))) (by omega) (by omega) (by omega)
  have s2 := st 2 294 (c 3 + 2 * (c 4 + 2 * (c 5 + 2 * (c 6 + 2 * c 7)))) (by omega) (by omega) (by omega)
  have s1 := st 1 293 (c 2 + 2 * (c 3 + 2 * (c 4 + 2 * (c 5 + 2 * (c 6 + 2 * c 7))))) (by omega) (by omega) (by omega)
  have s0 := st 0 292 (c 1 + 2 * (c 2 + 2 * (c 3 + 2 * (c 4 + 2 * (c 5 + 2 * (c 6 + 2 * c 7)))))) (by omega) (by omega) (by omega)
  rw [Int.mul_zero, Int.add_zero] at s7
  have e7 : ((7 : Nat) : Int) = 7 := rfl
  have e6 : ((7 : Nat) : Int) - 1 = ((6 : Nat) : Int) := rfl
  have e5 : ((6 : Nat) : Int) - 1 = ((5 : Nat) : Int) := rfl
  have e4 : ((5 : Nat) : Int) - 1 = ((4 : Nat) : Int) := rfl
  have e3 : ((4 : Nat) : Int) - 1 = ((3 : Nat) : Int) := rfl
  have e2 : ((3 : Nat) : Int) - 1 = ((2 : Nat) : Int) := rfl
  have e1 : ((2 : Nat) : Int) - 1 = ((1 : Nat) : Int) := rfl
  have e0 : ((1 : Nat) : Int) - 1 = ((0 : Nat) : Int) := rfl
  rw [← e7, s7, e6, s6, e5, s5, e4, s4, e3, s3, e2, s2, e1, s1, e0, s0, chatelaineref02_Double_l4, if_neg (by decide)]
  rfl
theorem dl3 (x : List Int) (hx : x.length = 128) (c : Nat → Nat → Int) (hc : ∀ i k, i < 16 → k < 8 → x[8 * i + k]? = some (c i k)) (h01 : ∀ i k, c i k = 0 ∨ c i k = 1) : chatelaineref02_Double_l3 300 x 300 0 (List.replicate 16 0) = some ((List.range 16).map fun i => i8 (nval (c i))) := by
  refine fill_loop 16 (chatelaineref02_Double_l3 300 x) (fun i => i8 (nval (c i))) (fun k i xs hi hl => ?_) (fun k xs => ?_) 300 _ (by simp) (by omega)
  · rw [chatelaineref02_Double_l3, if_pos (by omega), dl4 x hx i hi (c i) (fun k hk => hc i k hi hk) (h01 i)]
    simp only [Option.bind_some]
    rw [ix_nat hi, k_id (by omega)]
    rfl
  · rw [chatelaineref02_Double_l3, if_neg (by omega)]
/-- the bits of a block that is doubled -/
def nbit (s : List UInt8) (i k : Nat) : Int :=
  if k = 0 then (if i = 0 then bt (s.getD 15 0) 7 else bt (s.getD (i - 1) 0) 7)
  else if i = 0 ∧ (k = 1 ∨ k = 2 ∨ k = 7) ∧ bt (s.getD 15 0) 7 = 1 then 1 - bt (s.getD 0 0) (k - 1) else bt (s.getD i 0) (k - 1)
theorem nbit_01 (s : List UInt8) (i k : Nat) : nbit s i k = 0 ∨ nbit s i k = 1 := by
  unfold nbit
  have h1 := bt_01 (s.getD 15 0) 7; have h2 := bt_01 (s.getD (i - 1) 0) 7; have h3 := bt_01 (s.getD 0 0) (k - 1); have h4 := bt_01 (s.getD i 0) (k - 1)
  split
  · split
    · exact h1
    · exact h2
  · split
    · omega
    · exact h4
theorem numI (c : Nat → Int) (h : ∀ k, c k = 0 ∨ c k = 1) : 0 ≤ nval c ∧ nval c ≤ 255 := by
  have a0 := h 0; have a1 := h 1; have a2 := h 2; have a3 := h 3; have a4 := h 4; have a5 := h 5; have a6 := h 6; have a7 := h 7
  unfold nval; omega
theorem byteI (a b : UInt8) : i8 (nval fun k => if k = 0 then bt a 7 else bt b (k - 1)) = u8_shl b 1 ||| u8_shr a 7 := by
  have ha := a.toNat_lt
  have key : ∀ t : UInt8, (t = 0 ∨ t = 1) → i8 (nval fun k => if k = 0 then (t.toNat : Int) else bt b (k - 1)) = u8_shl b 1 ||| t := by
    intro t ht
    rcases ht with rfl | rfl
    · exact all8 (p := fun b => i8 (nval fun k => if k = 0 then (((0 : UInt8).toNat : Nat) : Int) else bt b (k - 1)) = u8_shl b 1 ||| 0) (by decide +kernel) b
    · exact all8 (p := fun b => i8 (nval fun k => if k = 0 then (((1 : UInt8).toNat : Nat) : Int) else bt b (k - 1)) = u8_shl b 1 ||| 1) (by decide +kernel) b
  have ht : (u8_shr a 7).toNat = a.toNat / 128 := by
    unfold u8_shr
    rw [UInt8.toNat_ofNat']
    show a.toNat / 128 % 256 = _
    omega
  have e : bt a 7 = ((u8_shr a 7).toNat : Int) := by rw [ht]; unfold bt; show ((a.toNat / 128 % 2 : Nat) : Int) = _; omega
  rw [e]
  refine key _ ?_
  have : a.toNat / 128 = 0 ∨ a.toNat / 128 = 1 := by omega
  rcases this with h | h
  · left; apply UInt8.toNat_inj.1; rw [ht, h]; rfl
  · right; apply UInt8.toNat_inj.1; rw [ht, h]; rfl
theorem byte0 (a b : UInt8) : i8 (nval fun k => if k = 0 then bt a 7 else if (k = 1 ∨ k = 2 ∨ k = 7) ∧ bt a 7 = 1 then 1 - bt b (k - 1) else bt b (k - 1)) = (u8_shl b 1 ||| 0) ^^^ ((135 : UInt8) &&& (-(u8_shr a 7))) := by
  have ha := a.toNat_lt
  have key : ∀ t : UInt8, (t = 0 ∨ t = 1) → i8 (nval fun k => if k = 0 then (t.toNat : Int) else if (k = 1 ∨ k = 2 ∨ k = 7) ∧ (t.toNat : Int) = 1 then 1 - bt b (k - 1) else bt b (k - 1)) = (u8_shl b 1 ||| 0) ^^^ ((135 : UInt8) &&& (-t)) := by
    intro t ht
    rcases ht with rfl | rfl
    · exact all8 (p := fun b => i8 (nval fun k => if k = 0 then (((0 : UInt8).toNat : Nat) : Int) else if (k = 1 ∨ k = 2 ∨ k = 7) ∧ (((0 : UInt8).toNat : Nat) : Int) = 1 then 1 - bt b (k - 1) else bt b (k - 1)) = (u8_shl b 1 ||| 0) ^^^ ((135 : UInt8) &&& (-0))) (by decide +kernel) b
    · exact all8 (p := fun b => i8 (nval fun k => if k = 0 then (((1 : UInt8).toNat : Nat) : Int) else if (k = 1 ∨ k = 2 ∨ k = 7) ∧ (((1 : UInt8).toNat : Nat) : Int) = 1 then 1 - bt b (k - 1) else bt b (k - 1)) = (u8_shl b 1 ||| 0) ^^^ ((135 : UInt8) &&& (-1))) (by decide +kernel) b
  have ht : (u8_shr a 7).toNat = a.toNat / 128 := by
    unfold u8_shr
    rw [UInt8.toNat_ofNat']
    show a.toNat / 128 % 256 = _
    omega
  have e : bt a 7 = ((u8_shr a 7).toNat : Int) := by rw [ht]; unfold bt; show ((a.toNat / 128 % 2 : Nat) : Int) = _; omega
  rw [e]
  refine key _ ?_
  have : a.toNat / 128 = 0 ∨ a.toNat / 128 = 1 := by omega
  rcases this with h | h
  · left; apply UInt8.toNat_inj.1; rw [ht, h]; rfl
  · right; apply UInt8.toNat_inj.1; rw [ht, h]; rfl
theorem db_bits (s : List UInt8) : ((List.range 16).map fun i => i8 (nval (nbit s i))) = db s := by
  unfold db
  refine List.map_congr_left (fun i hi => ?_)
  by_cases h : i = 0
  · subst h
    rw [if_pos rfl, ← byte0]
    congr 2
    funext k
    unfold nbit
    simp
  · rw [if_neg h, ← byteI]
    congr 2
    funext k
    unfold nbit
    simp [h]
theorem rDouble (s : List UInt8) (hs : s.length = 16) : chatelaineref02_Double 300 s = some (db s) := by
  have hb := bts_len s
  rw [hs] at hb
  have hn : ([0] ++ (bts s).take 127 : List Int).length = 128 := by simp; omega
  have g : ∀ (i k : Nat), i < 16 → k < 8 → ([0] ++ (bts s).take 127 : List Int)[8 * i + k]? = some (if k = 0 then (if i = 0 then 0 else bt (s.getD (i - 1) 0) 7) else bt (s.getD i 0) (k - 1)) := by
    intro i k hi hk
    by_cases h0 : k = 0
    · subst h0
      rw [if_pos rfl, Nat.add_zero]
      by_cases hi0 : i = 0
      · subst hi0; rfl
      · rw [if_neg hi0, List.getElem?_append_right (by simp; omega), List.length_singleton, List.getElem?_take, if_pos (by omega), show 8 * i - 1 = 8 * (i - 1) + 7 by omega]
        exact bts_get s (i - 1) 7 (by omega) (by omega)
    · rw [if_neg h0, List.getElem?_append_right (by simp; omega), List.length_singleton, List.getElem?_take, if_pos (by omega), show 8 * i + k - 1 = 8 * i + (k - 1) by omega]
      exact bts_get s i (k - 1) (by omega) (by omega)
  have h0 := dl0 s hs 16 0 300 (by omega) (by omega)
  rw [show bts (s.take 0) = [] from rfl, show ((0 : Nat) : Int) = 0 from rfl] at h0
  have h2 := dl2 (bts s) (by omega) 127 0 300 (by omega) (by omega)
  rw [List.take_zero, List.append_nil, show ((0 : Nat) : Int) = 0 from rfl] at h2
  unfold chatelaineref02_Double
  rw [h0]
  simp only [Option.bind_some]
  rw [h2]
  simp only [Option.bind_some]
  generalize hx : ([0] ++ (bts s).take 127 : List Int) = x at *
  rw [show (8 * 16 : Nat) = 128 from rfl] at hb
  rw [hb, show (127 : Int) = ((127 : Nat) : Int) from rfl, ix_nat (by omega)]
  simp only [Option.bind_some]
  rw [show (127 : Nat) = 8 * 15 + 7 from rfl, bts_get s 15 7 (by omega) (by omega)]
  simp only [Option.bind_some]
  have fin : ∀ y : List Int, y.length = 128 → (∀ i k, i < 16 → k < 8 → y[8 * i + k]? = some (nbit s i k)) → (chatelaineref02_Double_l3 300 y 300 0 (List.replicate 16 0)).bind (fun x214 => some x214) = some (db s) := by
    intro y hy hc
    rw [dl3 y hy (nbit s) hc (nbit_01 s), db_bits]; rfl
  have z0 : x[0]? = some 0 := g 0 0 (by omega) (by omega)
  have z1 : x[1]? = some (bt (s.getD 0 0) 0) := g 0 1 (by omega) (by omega)
  have z2 : x[2]? = some (bt (s.getD 0 0) 1) := g 0 2 (by omega) (by omega)
  have z7 : x[7]? = some (bt (s.getD 0 0) 6) := g 0 7 (by omega) (by omega)
  by_cases hc : bt (s.getD 15 0) 7 = 1
  · rw [if_pos hc]
    simp only [List.length_set, hn]
    refine (bnd_eq (x := (((x.set 0 (w64 (1 - 0))).set 1 (w64 (1 - bt (s.getD 0 0) 0))).set 2 (w64 (1 - bt (s.getD 0 0) 1))).set 7 (w64 (1 - bt (s.getD 0 0) 6))) ?_ _).trans (fin _ (by simp only [List.length_set]; exact hn) (fun i k hi hk => ?_))
    · have i0 : ix 128 0 = some 0 := rfl
      have i1 : ix 128 1 = some 1 := rfl
      have i2 : ix 128 2 = some 2 := rfl
      have i7 : ix 128 7 = some 7 := rfl
      refine (bnd_eq i0 _).trans ?_
      refine (bnd_eq z0 _).trans ?_
      refine (bnd_eq i0 _).trans ?_
      refine (bnd_eq i1 _).trans ?_
      refine (bnd_eq (x := bt (s.getD 0 0) 0) (by rw [List.getElem?_set_ne (by decide)]; exact z1) _).trans ?_
      refine (bnd_eq i1 _).trans ?_
      refine (bnd_eq i2 _).trans ?_
      refine (bnd_eq (x := bt (s.getD 0 0) 1) (by rw [List.getElem?_set_ne (by decide), List.getElem?_set_ne (by decide)]; exact z2) _).trans ?_
      refine (bnd_eq i2 _).trans ?_
      refine (bnd_eq i7 _).trans ?_
      refine (bnd_eq (x := bt (s.getD 0 0) 6) (by rw [List.getElem?_set_ne (by decide), List.getElem?_set_ne (by decide), List.getElem?_set_ne (by decide)]; exact z7) _).trans ?_
      refine (bnd_eq i7 _).trans ?_
      rfl
    · have b0 := bt_01 (s.getD 0 0) 0; have b1 := bt_01 (s.getD 0 0) 1; have b6 := bt_01 (s.getD 0 0) 6
      rw [k_id (x := 1 - 0) (by omega), k_id (x := 1 - bt (s.getD 0 0) 0) (by omega), k_id (x := 1 - bt (s.getD 0 0) 1) (by omega), k_id (x := 1 - bt (s.getD 0 0) 6) (by omega)]
      by_cases hi0 : i = 0
      · subst hi0
        have gk := g 0 k (by omega) hk
        rw [Nat.mul_zero, Nat.zero_add] at gk ⊢
        have : k = 0 ∨ k = 1 ∨ k = 2 ∨ k = 7 ∨ (k ≠ 0 ∧ k ≠ 1 ∧ k ≠ 2 ∧ k ≠ 7) := by omega
        rcases this with rfl | rfl | rfl | rfl | ⟨n0, n1, n2, n7⟩
        · rw [List.getElem?_set_ne (by decide), List.getElem?_set_ne (by decide), List.getElem?_set_ne (by decide), List.getElem?_set_self (by omega)]
          unfold nbit; rw [if_pos rfl, if_pos rfl, hc]; rfl
        · rw [List.getElem?_set_ne (by decide), List.getElem?_set_ne (by decide), List.getElem?_set_self (by simp; omega)]
          unfold nbit; rw [if_neg (by decide), if_pos ⟨rfl, by simp, hc⟩]
        · rw [List.getElem?_set_ne (by decide), List.getElem?_set_self (by simp; omega)]
          unfold nbit; rw [if_neg (by decide), if_pos ⟨rfl, by simp, hc⟩]
        · rw [List.getElem?_set_self (by simp; omega)]
          unfold nbit; rw [if_neg (by decide), if_pos ⟨rfl, by simp, hc⟩]
        · rw [List.getElem?_set_ne (by omega), List.getElem?_set_ne (by omega), List.getElem?_set_ne (by omega), List.getElem?_set_ne (by omega), gk, if_neg n0]
          unfold nbit; rw [if_neg n0, if_neg (by omega)]
      · rw [List.getElem?_set_ne (by omega), List.getElem?_set_ne (by omega), List.getElem?_set_ne (by omega), List.getElem?_set_ne (by omega), g i k hi hk]
        unfold nbit
        by_cases h0 : k = 0
        · rw [if_pos h0, if_pos h0, if_neg hi0, if_neg hi0]
        · rw [if_neg h0, if_neg h0, if_neg (fun h => hi0 h.1)]
  · rw [if_neg hc]
    simp only [Option.bind_some]
    refine fin x hn (fun i k hi hk => ?_)
    rw [g i k hi hk]
    have h15 := bt_01 (s.getD 15 0) 7
    unfold nbit
    by_cases h0 : k = 0
    · rw [if_pos h0, if_pos h0]
      by_cases hi0 : i = 0
      · rw [if_pos hi0, if_pos hi0]; congr 1; omega
      · rw [if_neg hi0, if_neg hi0]
    · rw [if_neg h0, if_neg h0, if_neg (fun h => hc h.2.2)]
/-! the document's tweak -/
theorem dbN_succ (n : Nat) (s : List UInt8) : dbN (n + 1) s = dbN n (db s) := rfl
theorem rTweak_l1 (n : Nat) (hn : n ≤ 255) : ∀ (d i K : Nat) (s : List UInt8), i + d = n → d < K → s.length = 16 → chatelaineref10_Tweak_l1 300 (n : Int) K (i : Int) s = some (dbN d s) := by
  intro d
  induction d with
  | zero =>
    intro i K s hi hK hs
    obtain ⟨K, rfl⟩ : ∃ m, K = m + 1 := ⟨K - 1, by omega⟩
    rw [chatelaineref10_Tweak_l1, if_neg (by omega)]; rfl
  | succ d ih =>
    intro i K s hi hK hs
    obtain ⟨K, rfl⟩ : ∃ m, K = m + 1 := ⟨K - 1, by omega⟩
    rw [chatelaineref10_Tweak_l1, if_pos (by omega)]
    refine (bnd_eq (rDouble s hs) _).trans ?_
    rw [k_id (by omega)]
    exact ih (i + 1) K (db s) (by omega) (by omega) (db_len s)
theorem rTweak_l0 (n : Nat) (hn : n ≤ 4611686018427387904) : chatelaineref10_Tweak_l0 300 300 (n : Int) 0 (List.replicate 16 0) = some (num8 n) := by
  have key : ∀ (d i K : Nat) (xs : List UInt8), i + d = 8 → d < K → xs.length = 16 → chatelaineref10_Tweak_l0 300 K ((n / 256 ^ i : Nat) : Int) (i : Int) xs = some (xs.take i ++ (((List.range 8).drop i).map (fun i => UInt8.ofNat (n / 256 ^ i)) ++ xs.drop 8)) := by
    intro d
    induction d with
    | zero =>
      intro i K xs hi hK hx
      obtain ⟨K, rfl⟩ : ∃ m, K = m + 1 := ⟨K - 1, by omega⟩
      obtain rfl : i = 8 := by omega
      rw [chatelaineref10_Tweak_l0, if_neg (by omega), show ((List.range 8).drop 8) = [] from rfl]; simp
    | succ d ih =>
      intro i K xs hi hK hx
      obtain ⟨K, rfl⟩ : ∃ m, K = m + 1 := ⟨K - 1, by omega⟩
      rw [chatelaineref10_Tweak_l0, if_pos (by omega)]
      refine (bnd_eq (ix_nat (show i < 16 by omega)) _).trans ?_
      have hle : n / 256 ^ (i + 1) ≤ n := Nat.div_le_self _ _
      rw [show Int.tmod ((n / 256 ^ i : Nat) : Int) 256 = ((n / 256 ^ i % 256 : Nat) : Int) by rw [show (256 : Int) = ((256 : Nat) : Int) from rfl, ← Int.ofNat_tmod], x_i8,
        show Int.tdiv ((n / 256 ^ i : Nat) : Int) 256 = ((n / 256 ^ (i + 1) : Nat) : Int) by rw [show (256 : Int) = ((256 : Nat) : Int) from rfl, ← Int.ofNat_tdiv, Nat.div_div_eq_div_mul, Nat.pow_succ],
        w64_of (x := ((n / 256 ^ (i + 1) : Nat) : Int)) (by generalize n / 256 ^ (i + 1) = q at *; omega), k_id (by omega)]
      have := ih (i + 1) K (xs.set i (UInt8.ofNat (n / 256 ^ i))) (by omega) (by omega) (by simpa using hx)
      rw [set_take _ _ _ (by omega), List.drop_set_of_lt (by omega)] at this
      rw [List.drop_eq_getElem_cons (show i < (List.range 8).length by simp; omega), show UInt8.ofNat (n / 256 ^ i % 256) = UInt8.ofNat (n / 256 ^ i) by apply UInt8.toNat_inj.1; simp]
      simpa using this
  have := key 8 0 300 (List.replicate 16 0) (by omega) (by omega) (by simp)
  rw [Nat.pow_zero, Nat.div_one, show ((0 : Nat) : Int) = 0 from rfl] at this
  rw [this]; rfl
theorem half_e {key : List UInt8} (h : key.length ≤ 100) : w64 (Int.tdiv (key.length : Int) 2) = ((key.length / 2 : Nat) : Int) := by
  rw [show (2 : Int) = ((2 : Nat) : Int) from rfl, ← Int.ofNat_tdiv]; exact k_id (by omega)
theorem half_1 {key : List UInt8} : sub key 0 ((key.length / 2 : Nat) : Int) = some (key.take (key.length / 2)) := by
  unfold sub; rw [if_pos (by omega), show (((key.length / 2 : Nat) : Int)).toNat = key.length / 2 by omega]; rfl
theorem half_2 {key : List UInt8} : sub key ((key.length / 2 : Nat) : Int) (key.length : Int) = some (key.drop (key.length / 2)) := by
  unfold sub; rw [if_pos (by omega), show ((key.length : Int)).toNat = key.length by omega, List.take_length]; rfl
theorem rTweak {key : List UInt8} (h : key.length = 32 ∨ key.length = 64) (number block : Int) (h1 : 0 ≤ number ∧ number ≤ 4611686018427387904) (h2 : 0 ≤ block ∧ block < 256) {mt : Nat} (hm : (key.drop (key.length / 2)).length / 4 + 6 = mt) :
    chatelaineref10_Tweak 300 key number block = some (dbN block.toNat (enc (sched (key.drop (key.length / 2))) mt (num8 number.toNat))) := by
  have hk : (key.drop (key.length / 2)).length = 16 ∨ (key.drop (key.length / 2)).length = 32 := by rw [List.length_drop]; omega
  have hw := sched_len hk
  rw [hm] at hw
  have hn : number = (number.toNat : Int) := by omega
  have hb : block = (block.toNat : Int) := by omega
  have t0 := rTweak_l0 number.toNat (by omega)
  rw [← hn] at t0
  unfold chatelaineref10_Tweak
  refine (bnd_eq t0 _).trans ?_
  rw [half_e (by omega)]
  refine (bnd_eq half_2 _).trans ?_
  refine (bnd_eq (rMake hk) _).trans ?_
  rw [hm]
  refine (bnd_eq (rEnc hw (by omega) (num8_len _)) _).trans ?_
  have t1 := rTweak_l1 block.toNat (by omega) block.toNat 0 300 _ (by omega) (by omega) (enc_len (ws := sched (key.drop (key.length / 2))) (n := mt) (by omega) (num8_len number.toNat))
  rw [← hb, show ((0 : Nat) : Int) = 0 from rfl] at t1
  rw [t1]
  rfl
/-! the document's sectors -/
theorem rX_l1 (b t : List UInt8) (j : Nat) (hb : b.length ≤ 1000) (hj : 16 * j + 16 ≤ b.length) (ht : t.length = 16) : chatelaineref10_Encrypt_l1 300 b ((16 * j : Nat) : Int) t 300 0 (List.replicate 16 0) = some (ad ((b.drop (16 * j)).take 16) t) := by
  have hl : ((b.drop (16 * j)).take 16).length = 16 := by rw [List.length_take, List.length_drop]; omega
  rw [fill_loop 16 (chatelaineref10_Encrypt_l1 300 b ((16 * j : Nat) : Int) t) (fun i => ((b.drop (16 * j)).take 16).getD i 0 ^^^ t.getD i 0) (fun k i xs hi hx => ?_) (fun k xs => ?_) 300 _ (by simp) (by omega), range_ad hl ht]
  · rw [chatelaineref10_Encrypt_l1, if_pos (by omega), k_id (x := ((16 * j : Nat) : Int) + i) (by omega), show ((16 * j : Nat) : Int) + i = ((16 * j + i : Nat) : Int) by omega, idx_nat]
    have e : b[16 * j + i]? = some (((b.drop (16 * j)).take 16).getD i 0) := by
      rw [← getD_some (s := (b.drop (16 * j)).take 16) 0 (by omega), List.getElem?_take, if_pos (by omega), List.getElem?_drop]
    refine (bnd_eq e _).trans ?_
    refine (bnd_eq (ix_nat hi) _).trans ?_
    refine (bnd_eq (getD_some 0 (show i < t.length by omega)) _).trans ?_
    refine (bnd_eq (ix_nat hi) _).trans ?_
    rw [k_id (by omega)]
    rfl
  · rw [chatelaineref10_Encrypt_l1, if_neg (by omega)]
theorem app1' (l m : List UInt8) (h : l.length + m.length ≤ 100000) : app 1 l m = some (l ++ m) := by
  unfold app; rw [if_pos (by unfold maxLen; omega)]
theorem rX_l2 (t c : List UInt8) (ht : t.length = 16) (hc : c.length = 16) (acc : List UInt8) (ha : acc.length ≤ 1000) : chatelaineref10_Encrypt_l2 300 t c 300 0 acc = some (acc ++ ad c t) := by
  have key : ∀ (d i K : Nat) (xs : List UInt8), i + d = 16 → d < K → xs.length + d ≤ 2000 → chatelaineref10_Encrypt_l2 300 t c K (i : Int) xs = some (xs ++ ((List.range 16).drop i).map (fun i => c.getD i 0 ^^^ t.getD i 0)) := by
    intro d
    induction d with
    | zero =>
      intro i K xs hi hK hx
      obtain ⟨K, rfl⟩ : ∃ m, K = m + 1 := ⟨K - 1, by omega⟩
      obtain rfl : i = 16 := by omega
      rw [chatelaineref10_Encrypt_l2, if_neg (by omega)]; simp
    | succ d ih =>
      intro i K xs hi hK hx
      obtain ⟨K, rfl⟩ : ∃ m, K = m + 1 := ⟨K - 1, by omega⟩
      rw [chatelaineref10_Encrypt_l2, if_pos (by omega)]
      refine (bnd_eq (ix_nat (show i < 16 by omega)) _).trans ?_
      refine (bnd_eq (getD_some 0 (show i < c.length by omega)) _).trans ?_
      refine (bnd_eq (ix_nat (show i < 16 by omega)) _).trans ?_
      refine (bnd_eq (getD_some 0 (show i < t.length by omega)) _).trans ?_
      refine (bnd_eq (app1' _ _ (by simp; omega)) _).trans ?_
      rw [k_id (by omega)]
      have := ih (i + 1) K (xs ++ [c.getD i 0 ^^^ t.getD i 0]) (by omega) (by omega) (by simp; omega)
      rw [List.drop_eq_getElem_cons (show i < (List.range 16).length by simp; omega)]
      simpa using this
  have := key 16 0 300 acc (by omega) (by omega) (by omega)
  rw [List.drop_zero, range_ad hc ht] at this
  exact this
theorem rX_l0 {ws : List UInt32} {m : Nat} (hw : ws.length = 4 * (m + 1)) (hm : m ≤ 20) (b : List UInt8) (hb : b.length ≤ 500) : ∀ (d j K : Nat) (t acc : List UInt8), t.length = 16 → 16 * (j + d) = b.length → acc.length + 16 * d ≤ 1000 → d < K →
    chatelaineref10_Encrypt_l0 300 b ((m : Int), cb ws, ci bxL) K acc ((16 * j : Nat) : Int) t = some (acc ++ secB (enc ws m) d t (b.drop (16 * j))) := by
  intro d
  induction d with
  | zero =>
    intro j K t acc ht hj ha hK
    obtain ⟨K, rfl⟩ : ∃ m, K = m + 1 := ⟨K - 1, by omega⟩
    rw [chatelaineref10_Encrypt_l0, if_neg (by omega)]; simp [secB]
  | succ d ih =>
    intro j K t acc ht hj ha hK
    obtain ⟨K, rfl⟩ : ∃ m, K = m + 1 := ⟨K - 1, by omega⟩
    have h16 : ((b.drop (16 * j)).take 16).length = 16 := by rw [List.length_take, List.length_drop]; omega
    have hx := ad_len _ _ h16 ht
    have he := enc_len (ws := ws) (n := m) (by omega) hx
    rw [chatelaineref10_Encrypt_l0, if_pos (by omega)]
    refine (bnd_eq (rX_l1 b t j (by omega) (by omega) ht) _).trans ?_
    refine (bnd_eq (rEnc hw hm hx) _).trans ?_
    refine (bnd_eq (rX_l2 t _ ht he acc (by omega)) _).trans ?_
    refine (bnd_eq (rDouble t ht) _).trans ?_
    rw [k_id (by omega), show ((16 * j : Nat) : Int) + 16 = ((16 * (j + 1) : Nat) : Int) by omega]
    have := ih (j + 1) K (db t) (acc ++ ad (enc ws m (ad ((b.drop (16 * j)).take 16) t)) t) (db_len t) (by omega) (by rw [List.length_append, ad_len _ _ he ht]; omega) (by omega)
    rw [this, secB, List.drop_drop, show 16 * j + 16 = 16 * (j + 1) by omega, List.append_assoc]
theorem rXts {key : List UInt8} (h : key.length = 32 ∨ key.length = 64) (number : Int) (h1 : 0 ≤ number ∧ number ≤ 4611686018427387904) (b : List UInt8) (hb : b.length ≤ 500) (hb16 : b.length % 16 = 0) {m mt : Nat} (hm : (key.take (key.length / 2)).length / 4 + 6 = m) (hmt : (key.drop (key.length / 2)).length / 4 + 6 = mt) :
    chatelaineref10_Encrypt 300 key number b = some (secB (enc (sched (key.take (key.length / 2))) m) (b.length / 16) (enc (sched (key.drop (key.length / 2))) mt (num8 number.toNat)) b) := by
  have hk : (key.take (key.length / 2)).length = 16 ∨ (key.take (key.length / 2)).length = 32 := by rw [List.length_take]; omega
  have hk2 : (key.drop (key.length / 2)).length = 16 ∨ (key.drop (key.length / 2)).length = 32 := by rw [List.length_drop]; omega
  have hw := sched_len hk
  rw [hm] at hw
  have hw2 := sched_len hk2
  rw [hmt] at hw2
  unfold chatelaineref10_Encrypt
  rw [half_e (by omega)]
  refine (bnd_eq half_1 _).trans ?_
  refine (bnd_eq (rMake hk) _).trans ?_
  rw [hm]
  refine (bnd_eq (rTweak h number 0 h1 (by omega) hmt) _).trans ?_
  have t0 := rX_l0 hw (by omega) b hb (b.length / 16) 0 300 (enc (sched (key.drop (key.length / 2))) mt (num8 number.toNat)) [] (enc_len (by omega) (num8_len _)) (by omega) (by simp; omega) (by omega)
  rw [Nat.mul_zero, List.nil_append, List.drop_zero, show ((0 : Nat) : Int) = 0 from rfl] at t0
  show (chatelaineref10_Encrypt_l0 300 b _ 300 [] 0 _).bind _ = _
  rw [show dbN (0 : Int).toNat (enc (sched (key.drop (key.length / 2))) mt (num8 number.toNat)) = enc (sched (key.drop (key.length / 2))) mt (num8 number.toNat) from rfl, t0]
  rfl
end Go.Proofs.Ytoimllmmlbehgaa
