/- Texts put together. -/
import Derived.Test.YthaoiajbgadcjaaE04D
import Derived.Test.YthaoiajbgadcjaaE09B
import Derived.Test.YthaoiajbgadcjaaWr
set_option linter.unusedVariables false
set_option linter.unusedSimpArgs false
namespace Go.Proofs.Ythaoiajbgadcjaa
open Go.RowKit
section
theorem map_getD16 {s : List UInt8} (h : s.length = 16) : (List.range 16).map (fun j => ((s.getD j 0).toNat : Int)) = ci s := by
  obtain ⟨a0, a1, a2, a3, a4, a5, a6, a7, a8, a9, a10, a11, a12, a13, a14, a15, rfl⟩ := l16 s h
  rfl
section
variable {ws : List UInt32} {n : Nat}
theorem rEnc_l0 {s : List UInt8} (h : s.length = 16) : chatelaineref04_Key_Encrypt_l0 300 s 300 [] 0 = some (ci s) := by
  rw [push_loop 16 (chatelaineref04_Key_Encrypt_l0 300 s) (fun j => ((s.getD j 0).toNat : Int)) (fun k i xs hi hx => ?_) (fun k xs => ?_) 300 (by omega), map_getD16 h]
  · rw [chatelaineref04_Key_Encrypt_l0, if_pos (by omega), ix_nat hi]
    simp only [Option.bind_some]
    rw [getD_some 0 (show i < s.length by omega)]
    simp only [Option.bind_some]
    rw [app8 _ _ (by rw [hx]; simp; omega), k_id (by omega)]
    rfl
  · rw [chatelaineref04_Key_Encrypt_l0, if_neg (by omega)]
theorem rk_get {r j : Nat} (hj : j < 16) : (ws.flatMap p4)[16 * r + j]? = (rk ws r)[j]? := by
  unfold rk
  rw [← fm_take, ← fm_drop, List.getElem?_take, if_pos (by omega), List.getElem?_drop, show 4 * (4 * r) + j = 16 * r + j by omega]
theorem rAdd {b : List Int} {m : Int} {s : List UInt8} (h : s.length = 16) {r : Nat} (hr : 4 * r + 4 ≤ ws.length) (hw : ws.length ≤ 100) : chatelaineref04_Key_add 300 (m, cb ws, b) (ci s) (r : Int) = some (ci (ad s (rk ws r))) := by
  have hk := rk_len ws r hr
  unfold chatelaineref04_Key_add
  rw [push_loop 16 (chatelaineref04_Key_add_l0 300 (m, cb ws, b) (ci s) (r : Int)) (fun j => ((s.getD j 0 ^^^ (rk ws r).getD j 0).toNat : Int)) (fun k i xs hi hx => ?_) (fun k xs => ?_) 300 (by omega)]
  · generalize rk ws r = t at *
    obtain ⟨a0, a1, a2, a3, a4, a5, a6, a7, a8, a9, a10, a11, a12, a13, a14, a15, rfl⟩ := l16 s h
    obtain ⟨b0, b1, b2, b3, b4, b5, b6, b7, b8, b9, b10, b11, b12, b13, b14, b15, rfl⟩ := l16 t hk
    rfl
  · rw [chatelaineref04_Key_add_l0, if_pos (by omega), idx_nat, ci_get (by omega)]
    simp only [Option.bind_some]
    rw [k_id (x := 16 * (r : Int)) (by omega), k_id (x := 16 * (r : Int) + i) (by omega), show 16 * (r : Int) + i = ((16 * r + i : Nat) : Int) by omega, idx_nat]
    unfold cb
    rw [show (ci (ws.flatMap p4))[16 * r + i]? = some (((rk ws r).getD i 0).toNat : Int) by unfold ci; rw [List.getElem?_map, rk_get hi, getD_some 0 (by omega)]; rfl]
    simp only [Option.bind_some]
    rw [rXor]
    simp only [Option.bind_some]
    rw [app8 _ _ (by rw [hx]; simp; omega)]
    simp only [Option.bind_some]
    rw [k_id (by omega)]
    rfl
  · rw [chatelaineref04_Key_add_l0, if_neg (by omega)]
theorem place1r : ∀ i : Fin 16, ix 16 (w64 ((Int.tmod (i.val : Int) 4) + (w64 (4 * (Int.tmod (w64 ((w64 (Int.tdiv (i.val : Int) 4)) + (Int.tmod (i.val : Int) 4))) 4))))) = some (place 1 i.val) := by decide +kernel
theorem rEnc_l2' {m : Int} {b B : List Int} (f : UInt8 → UInt8) (hB : ∀ x : UInt8, idx B (x.toNat : Int) = some ((f x).toNat : Int)) {s : List UInt8} (h : s.length = 16) : chatelaineref04_Key_Encrypt_l2 300 (m, b, B) (ci s) 300 [] 0 = some (ci (sw f 1 s)) := by
  rw [push_loop 16 (chatelaineref04_Key_Encrypt_l2 300 (m, b, B) (ci s)) (fun i => ((f (s.getD (place 1 i) 0)).toNat : Int)) (fun k i xs hi hx => ?_) (fun k xs => ?_) 300 (by omega)]
  · simp only [sw, ci, List.map_map, Function.comp_def]
  · rw [chatelaineref04_Key_Encrypt_l2, if_pos (by omega), ci_len, h, place1r ⟨i, hi⟩]
    simp only [Option.bind_some]
    rw [ci_get (by rw [h]; exact place_lt _ _)]
    simp only [Option.bind_some]
    rw [hB]
    simp only [Option.bind_some]
    rw [app8 _ _ (by rw [hx]; simp; omega)]
    simp only [Option.bind_some]
    rw [k_id (by omega)]
    rfl
  · rw [chatelaineref04_Key_Encrypt_l2, if_neg (by omega)]
theorem rEnc_l2 {m : Int} {b : List Int} {s : List UInt8} (h : s.length = 16) : chatelaineref04_Key_Encrypt_l2 300 (m, b, ci bxL) (ci s) 300 [] 0 = some (ci (sw bx 1 s)) := rEnc_l2' bx idx_box h
theorem bnd_eq {α β : Type} {o : Option α} {x : α} (h : o = some x) (f : α → Option β) : o.bind f = f x := by rw [h]; rfl
theorem l3_st {s : List UInt8} (h : s.length = 16) : ∀ (q K : Nat) (acc : List Int) (a b c d : UInt8), q < 4 → acc.length ≤ 16 → s[4 * q]? = some a → s[4 * q + 1]? = some b → s[4 * q + 2]? = some c → s[4 * q + 3]? = some d →
      chatelaineref04_Key_Encrypt_l3 300 (ci s) (K + 1) acc ((4 * q : Nat) : Int) = chatelaineref04_Key_Encrypt_l3 300 (ci s) K (acc ++ ci (mixS [a, b, c, d])) ((4 * (q + 1) : Nat) : Int) := by
    intro q K acc a b c d hq hacc ha hb hc hd
    have g : ∀ (m : Nat) (x : UInt8), s[m]? = some x → (ci s)[m]? = some (x.toNat : Int) := fun m x hx => by unfold ci; rw [List.getElem?_map, hx]; rfl
    have t2 := rTimes2; have t3 := rTimes3; have ts := rSum
    rw [chatelaineref04_Key_Encrypt_l3]
    generalize chatelaineref04_Key_Encrypt_l3 300 (ci s) K = L at *
    generalize chatelaineref02_Times 300 = T at *
    generalize chatelaineref04_sum 300 = U at *
    rw [if_pos (by omega), k_id (x := ((4 * q : Nat) : Int) + 1) (by omega), k_id (x := ((4 * q : Nat) : Int) + 2) (by omega), k_id (x := ((4 * q : Nat) : Int) + 3) (by omega), k_id (x := ((4 * q : Nat) : Int) + 4) (by omega),
      show ((4 * q : Nat) : Int) + 1 = ((4 * q + 1 : Nat) : Int) by omega, show ((4 * q : Nat) : Int) + 2 = ((4 * q + 2 : Nat) : Int) by omega, show ((4 * q : Nat) : Int) + 3 = ((4 * q + 3 : Nat) : Int) by omega, show ((4 * q : Nat) : Int) + 4 = ((4 * (q + 1) : Nat) : Int) by omega,
      ci_len, h]
    refine (bnd_eq (ix_nat (by omega)) _).trans ?_
    refine (bnd_eq (g _ _ ha) _).trans ?_
    refine (bnd_eq (ix_nat (by omega)) _).trans ?_
    refine (bnd_eq (g _ _ hb) _).trans ?_
    refine (bnd_eq (ix_nat (by omega)) _).trans ?_
    refine (bnd_eq (g _ _ hc) _).trans ?_
    refine (bnd_eq (ix_nat (by omega)) _).trans ?_
    refine (bnd_eq (g _ _ hd) _).trans ?_
    refine (bnd_eq (t2 a) _).trans ?_
    refine (bnd_eq (t3 b) _).trans ?_
    refine (bnd_eq (ts _ _ _ _) _).trans ?_
    refine (bnd_eq (app8 _ _ (by simp; omega)) _).trans ?_
    refine (bnd_eq (t2 b) _).trans ?_
    refine (bnd_eq (t3 c) _).trans ?_
    refine (bnd_eq (ts _ _ _ _) _).trans ?_
    refine (bnd_eq (app8 _ _ (by simp; omega)) _).trans ?_
    refine (bnd_eq (t2 c) _).trans ?_
    refine (bnd_eq (t3 d) _).trans ?_
    refine (bnd_eq (ts _ _ _ _) _).trans ?_
    refine (bnd_eq (app8 _ _ (by simp; omega)) _).trans ?_
    refine (bnd_eq (t3 a) _).trans ?_
    refine (bnd_eq (t2 d) _).trans ?_
    refine (bnd_eq (ts _ _ _ _) _).trans ?_
    refine (bnd_eq (app8 _ _ (by simp; omega)) _).trans ?_
    congr 1
    simp only [List.append_assoc]
    congr 1
    rw [mixS]
    show [_, _, _, _] = [_, _, _, _]
    have e0 : (tw a ^^^ (tw b ^^^ b)) ^^^ (c ^^^ d) = (a ^^^ (((a ^^^ b) ^^^ c) ^^^ d)) ^^^ tw (a ^^^ b) := by rw [tw_xor]; simp [UInt8.xor_assoc, UInt8.xor_comm, xl, xc]
    have e1 : (a ^^^ tw b) ^^^ ((tw c ^^^ c) ^^^ d) = (b ^^^ (((a ^^^ b) ^^^ c) ^^^ d)) ^^^ tw (b ^^^ c) := by rw [tw_xor]; simp [UInt8.xor_assoc, UInt8.xor_comm, xl, xc]
    have e2 : (a ^^^ b) ^^^ (tw c ^^^ (tw d ^^^ d)) = (c ^^^ (((a ^^^ b) ^^^ c) ^^^ d)) ^^^ tw (c ^^^ d) := by rw [tw_xor]; simp [UInt8.xor_assoc, UInt8.xor_comm, xl, xc]
    have e3 : ((tw a ^^^ a) ^^^ b) ^^^ (c ^^^ tw d) = (d ^^^ (((a ^^^ b) ^^^ c) ^^^ d)) ^^^ tw (d ^^^ a) := by rw [tw_xor]; simp [UInt8.xor_assoc, UInt8.xor_comm, xl, xc]
    rw [e0, e1, e2, e3]
theorem rEnc_l3 {s : List UInt8} (h : s.length = 16) : chatelaineref04_Key_Encrypt_l3 300 (ci s) 300 [] 0 = some (ci (mixS s)) := by
  obtain ⟨a0, a1, a2, a3, a4, a5, a6, a7, a8, a9, a10, a11, a12, a13, a14, a15, rfl⟩ := l16 s h
  have h0 := l3_st h 0 299 [] a0 a1 a2 a3 (by omega) (by simp) rfl rfl rfl rfl
  have h1 := l3_st h 1 298 (ci (mixS [a0, a1, a2, a3])) a4 a5 a6 a7 (by omega) (by simp [ci, mixS]) rfl rfl rfl rfl
  have h2 := l3_st h 2 297 (ci (mixS [a0, a1, a2, a3]) ++ ci (mixS [a4, a5, a6, a7])) a8 a9 a10 a11 (by omega) (by simp [ci, mixS]) rfl rfl rfl rfl
  have h3 := l3_st h 3 296 (ci (mixS [a0, a1, a2, a3]) ++ ci (mixS [a4, a5, a6, a7]) ++ ci (mixS [a8, a9, a10, a11])) a12 a13 a14 a15 (by omega) (by simp [ci, mixS]) rfl rfl rfl rfl
  rw [show (0 : Int) = ((4 * 0 : Nat) : Int) from rfl, h0]
  rw [List.nil_append, h1, h2, h3, chatelaineref04_Key_Encrypt_l3, if_neg (by decide)]
  rfl
theorem rEnc_l1 (hw : ws.length = 4 * (n + 1)) (hn : n ≤ 20) (s : List UInt8) (hs : s.length = 16) : ∀ d K j, j + d = n → d < K → chatelaineref04_Key_Encrypt_l1 300 ((n : Int), cb ws, ci bxL) K (ci (encN ws n j s)) ((j : Int) + 1) = some (ci (encN ws n n s)) := by
  intro d
  induction d with
  | zero =>
    intro K j hj hK
    obtain ⟨K, rfl⟩ : ∃ m, K = m + 1 := ⟨K - 1, by omega⟩
    obtain rfl : j = n := by omega
    rw [chatelaineref04_Key_Encrypt_l1, if_neg (by dsimp only; omega)]
  | succ d ih =>
    intro K j hj hK
    obtain ⟨K, rfl⟩ : ∃ m, K = m + 1 := ⟨K - 1, by omega⟩
    have hl := encN_len (ws := ws) (n := n) (by omega) hs j (by omega)
    rw [chatelaineref04_Key_Encrypt_l1, if_pos (by dsimp only; omega), rEnc_l2 hl]
    simp only [Option.bind_some]
    have hm : (if (j : Int) + 1 < (n : Int) then (chatelaineref04_Key_Encrypt_l3 300 (ci (sw bx 1 (encN ws n j s))) 300 [] 0).bind fun x170 => some x170 else some (ci (sw bx 1 (encN ws n j s)))) = some (ci (if j + 1 < n then mixS (sw bx 1 (encN ws n j s)) else sw bx 1 (encN ws n j s))) := by
      by_cases h1 : j + 1 < n
      · rw [if_pos (by omega), if_pos h1, rEnc_l3 (sw_len _ _ _)]; rfl
      · rw [if_neg (by omega), if_neg h1]
    rw [hm]
    simp only [Option.bind_some]
    rw [show (j : Int) + 1 = ((j + 1 : Nat) : Int) by omega, rAdd (by
      split
      · exact mixS_len _ (sw_len _ _ _)
      · exact sw_len _ _ _) (by omega) (by omega)]
    simp only [Option.bind_some]
    rw [k_id (by omega)]
    exact ih K (j + 1) (by omega) (by omega)
theorem i8_back (x : UInt8) : i8 (x.toNat : Int) = x := by
  have := x.toNat_lt
  unfold i8
  rw [show ((x.toNat : Int) % 256).toNat = x.toNat by omega]
  simp
theorem rEnc_l4 {s : List UInt8} (h : s.length = 16) : chatelaineref04_Key_Encrypt_l4 300 (ci s) 300 0 (List.replicate 16 0) = some s := by
  rw [fill_loop 16 (chatelaineref04_Key_Encrypt_l4 300 (ci s)) (fun i => s.getD i 0) (fun k i xs hi hx => ?_) (fun k xs => ?_) 300 _ (by simp) (by omega)]
  · obtain ⟨a0, a1, a2, a3, a4, a5, a6, a7, a8, a9, a10, a11, a12, a13, a14, a15, rfl⟩ := l16 s h
    rfl
  · rw [chatelaineref04_Key_Encrypt_l4, if_pos (by omega), ci_len, h, ix_nat hi]
    simp only [Option.bind_some]
    rw [ci_get (by omega)]
    simp only [Option.bind_some]
    rw [i8_back, k_id (by omega)]
    rfl
  · rw [chatelaineref04_Key_Encrypt_l4, if_neg (by omega)]
theorem rEnc (hw : ws.length = 4 * (n + 1)) (hn : n ≤ 20) {s : List UInt8} (hs : s.length = 16) : chatelaineref04_Key_Encrypt 300 ((n : Int), cb ws, ci bxL) s = some (enc ws n s) := by
  unfold chatelaineref04_Key_Encrypt
  rw [rEnc_l0 hs]
  simp only [Option.bind_some]
  rw [show (0 : Int) = ((0 : Nat) : Int) from rfl, rAdd hs (by omega) (by omega)]
  simp only [Option.bind_some]
  have h1 := rEnc_l1 hw hn (ad s (rk ws 0)) (ad_len _ _ hs (rk_len ws 0 (by omega))) n 300 0 (by omega) (by omega)
  rw [show ((0 : Nat) : Int) + 1 = 1 from rfl, show encN ws n 0 (ad s (rk ws 0)) = ad s (rk ws 0) from rfl] at h1
  rw [h1]
  simp only [Option.bind_some]
  have h2 := rEnc_l4 (s := enc ws n s) (enc_len (by omega) hs)
  show (chatelaineref04_Key_Encrypt_l4 300 (ci (enc ws n s)) 300 0 _).bind _ = _
  rw [h2]
  rfl
end
end
section
theorem rbe8_all : ∀ t : Fin 49, chatelaineref01_Put64 300 (u64I (t.val : Int)) = some (be8 t.val) := by decide +kernel
theorem rPut64 (t : Nat) (h : t ≤ 48) : chatelaineref01_Put64 300 (u64I (t : Int)) = some (be8 t) := rbe8_all ⟨t, by omega⟩
theorem app24 (l m : List (List UInt8)) (h : l.length + m.length ≤ 100000) : app 24 l m = some (l ++ m) := by
  unfold app; rw [if_pos (by unfold maxLen; omega)]
theorem app1w (l m : List UInt8) (h : l.length + m.length ≤ 100000) : app 1 l m = some (l ++ m) := by
  unfold app; rw [if_pos (by unfold maxLen; omega)]
theorem rW_l0 (key : List UInt8) (hk : key.length ≤ 1000) : ∀ (d i K : Nat) (acc : List (List UInt8)), 8 * (i + d) = key.length → d < K → acc.length + d ≤ 1000 → chatelaineref09_Wrap_l0 300 key K acc ((8 * i : Nat) : Int) = some (acc ++ chunk d (key.drop (8 * i))) := by
  intro d
  induction d with
  | zero =>
    intro i K acc hi hK ha
    obtain ⟨K, rfl⟩ : ∃ m, K = m + 1 := ⟨K - 1, by omega⟩
    rw [chatelaineref09_Wrap_l0, if_neg (by omega)]; simp [chunk]
  | succ d ih =>
    intro i K acc hi hK ha
    obtain ⟨K, rfl⟩ : ∃ m, K = m + 1 := ⟨K - 1, by omega⟩
    rw [chatelaineref09_Wrap_l0, if_pos (by omega), k_id (by omega), show ((8 * i : Nat) : Int) + 8 = ((8 * (i + 1) : Nat) : Int) by omega]
    refine (bnd_eqW (show sub key ((8 * i : Nat) : Int) ((8 * (i + 1) : Nat) : Int) = some ((key.drop (8 * i)).take 8) from ?_) _).trans ?_
    · unfold sub
      rw [if_pos (by omega), show (((8 * (i + 1) : Nat) : Int)).toNat = 8 * i + 8 by omega, show (((8 * i : Nat) : Int)).toNat = 8 * i by omega, ← List.take_drop]
    refine (bnd_eqW (app24 _ _ (by simp; omega)) _).trans ?_
    rw [ih (i + 1) K _ (by omega) (by omega) (by simp; omega), chunk, List.drop_drop, show 8 * i + 8 = 8 * (i + 1) by omega, List.append_assoc]
    rfl
theorem rW_l3 (A : List UInt8) (hA : A.length = 8) (R : List (List UInt8)) (i : Nat) (hi : i < R.length) (hr : (R.getD i []).length = 8) : chatelaineref09_Wrap_l3 300 A (i : Int) R 300 0 (List.replicate 16 0) = some (A ++ R.getD i []) := by
  have st : ∀ (k K : Nat) (xs : List UInt8), k < 8 → chatelaineref09_Wrap_l3 300 A (i : Int) R (K + 1) (k : Int) xs = chatelaineref09_Wrap_l3 300 A (i : Int) R K ((k + 1 : Nat) : Int) ((xs.set k (A.getD k 0)).set (8 + k) ((R.getD i []).getD k 0)) := by
    intro k K xs hk
    rw [chatelaineref09_Wrap_l3, if_pos (by omega)]
    refine (bnd_eqW (ix_nat (show k < A.length by omega)) _).trans ?_
    refine (bnd_eqW (getD_some 0 (show k < A.length by omega)) _).trans ?_
    refine (bnd_eqW (ix_nat (show k < 16 by omega)) _).trans ?_
    refine (bnd_eqW (ix_nat hi) _).trans ?_
    refine (bnd_eqW (getD_some [] hi) _).trans ?_
    refine (bnd_eqW (show idx (R.getD i []) (k : Int) = some ((R.getD i []).getD k 0) by rw [idx_nat]; exact getD_some 0 (by omega)) _).trans ?_
    rw [k_id (x := 8 + (k : Int)) (by omega), show 8 + (k : Int) = ((8 + k : Nat) : Int) by omega]
    refine (bnd_eqW (ix_nat (show 8 + k < 16 by omega)) _).trans ?_
    rw [k_id (by omega)]
    rfl
  generalize R.getD i [] = r at *
  obtain ⟨a0, a1, a2, a3, a4, a5, a6, a7, rfl⟩ := l8 A hA
  obtain ⟨b0, b1, b2, b3, b4, b5, b6, b7, rfl⟩ := l8 r hr
  rw [show (0 : Int) = ((0 : Nat) : Int) from rfl, st 0 299 _ (by omega), st 1 298 _ (by omega), st 2 297 _ (by omega), st 3 296 _ (by omega), st 4 295 _ (by omega), st 5 294 _ (by omega), st 6 293 _ (by omega), st 7 292 _ (by omega), chatelaineref09_Wrap_l3, if_neg (by decide)]
  rfl
theorem rW_l4 (c : List UInt8) (hc : c.length = 16) (t : Nat) : chatelaineref09_Wrap_l4 300 c (be8 t) 300 [] [] 0 = some ((cnt c t).take 8, (cnt c t).drop 8) := by
  obtain ⟨a0, a1, a2, a3, a4, a5, a6, a7, a8, a9, a10, a11, a12, a13, a14, a15, rfl⟩ := l16 c hc
  unfold be8 cnt be8
  generalize UInt8.ofNat t = z
  rfl
section
variable {ws : List UInt32} {q n : Nat}
theorem rW_l2 (hw : ws.length = 4 * (q + 1)) (hq : q ≤ 20) (hn : 0 < n) (hn8 : n ≤ 8) {s : WS} (hs : okW n s) (j : Nat) (hj : j < 6) : ∀ (d i K : Nat), i + d = n → d < K →
    chatelaineref09_Wrap_l2 300 ((q : Int), cb ws, ci bxL) K (wN (enc ws q) n (n * j + i) s).1 ((n * j + i : Nat) : Int) (i : Int) (wN (enc ws q) n (n * j + i) s).2 = some (((n * (j + 1) : Nat) : Int), (wN (enc ws q) n (n * (j + 1)) s).1, (wN (enc ws q) n (n * (j + 1)) s).2) := by
  have hf : ∀ s, s.length = 16 → (enc ws q s).length = 16 := fun s h => enc_len (by omega) h
  have hnj : n * j ≤ 40 := by
    have h1 : n * j ≤ 8 * 5 := Nat.mul_le_mul hn8 (by omega)
    omega
  have hjn : n * (j + 1) = n * j + n := Nat.mul_succ n j
  intro d
  induction d with
  | zero =>
    intro i K hi hK
    obtain ⟨K, rfl⟩ : ∃ m, K = m + 1 := ⟨K - 1, by omega⟩
    obtain rfl : i = n := by omega
    have ho := wN_ok hf hn hs (i * j + i)
    rw [chatelaineref09_Wrap_l2, ho.2.1, if_neg (by omega), hjn]
  | succ d ih =>
    intro i K hi hK
    obtain ⟨K, rfl⟩ : ∃ m, K = m + 1 := ⟨K - 1, by omega⟩
    have ho := wN_ok hf hn hs (n * j + i)
    have hr := getD_len ho.2.2 (show i < (wN (enc ws q) n (n * j + i) s).2.length by rw [ho.2.1]; omega)
    have hA : ((wN (enc ws q) n (n * j + i) s).1 ++ (wN (enc ws q) n (n * j + i) s).2.getD i []).length = 16 := by rw [List.length_append, ho.1, hr]
    have hmod : (n * j + i) % n = i := by rw [Nat.mul_add_mod]; exact Nat.mod_eq_of_lt (by omega)
    have hstep : wN (enc ws q) n (n * j + (i + 1)) s = stepW (enc ws q) (n * j + i + 1) i (wN (enc ws q) n (n * j + i) s) := by
      rw [← Nat.add_assoc, wN, hmod]
    have := ih (i + 1) K (by omega) (by omega)
    rw [hstep] at this
    generalize wN (enc ws q) n (n * j + i) s = u at *
    rw [chatelaineref09_Wrap_l2, ho.2.1, if_pos (by omega)]
    refine (bnd_eqW (rW_l3 u.1 ho.1 u.2 i (by rw [ho.2.1]; omega) hr) _).trans ?_
    refine (bnd_eqW (rEnc hw hq hA) _).trans ?_
    rw [k_id (x := ((n * j + i : Nat) : Int) + 1) (by omega), show ((n * j + i : Nat) : Int) + 1 = ((n * j + i + 1 : Nat) : Int) by omega]
    refine (bnd_eqW (rPut64 (n * j + i + 1) (by omega)) _).trans ?_
    refine (bnd_eqW (rW_l4 _ (hf _ hA) (n * j + i + 1)) _).trans ?_
    dsimp only
    refine (bnd_eqW (ix_nat (show i < n by omega)) _).trans ?_
    rw [k_id (by omega)]
    exact this
theorem rW_l1 (hw : ws.length = 4 * (q + 1)) (hq : q ≤ 20) (hn : 0 < n) (hn8 : n ≤ 8) {s : WS} (hs : okW n s) : ∀ (d j K : Nat), j + d = 6 → d < K →
    chatelaineref09_Wrap_l1 300 ((q : Int), cb ws, ci bxL) K (wN (enc ws q) n (n * j) s).1 ((n * j : Nat) : Int) (j : Int) (wN (enc ws q) n (n * j) s).2 = some ((wN (enc ws q) n (n * 6) s).1, (wN (enc ws q) n (n * 6) s).2) := by
  intro d
  induction d with
  | zero =>
    intro j K hj hK
    obtain ⟨K, rfl⟩ : ∃ m, K = m + 1 := ⟨K - 1, by omega⟩
    obtain rfl : j = 6 := by omega
    rw [chatelaineref09_Wrap_l1, if_neg (by omega)]
  | succ d ih =>
    intro j K hj hK
    obtain ⟨K, rfl⟩ : ∃ m, K = m + 1 := ⟨K - 1, by omega⟩
    have h2 := rW_l2 hw hq hn hn8 hs j (by omega) n 0 300 (by omega) (by omega)
    rw [Nat.add_zero, show ((0 : Nat) : Int) = 0 from rfl] at h2
    rw [chatelaineref09_Wrap_l1, if_pos (by omega)]
    refine (bnd_eqW h2 _).trans ?_
    dsimp only
    rw [k_id (by omega)]
    exact ih (j + 1) K (by omega) (by omega)
theorem rW_l5 (R : List (List UInt8)) (hR : R.length ≤ 8) (h8 : ∀ r ∈ R, r.length = 8) : ∀ (d i K : Nat) (acc : List UInt8), i + d = R.length → d < K → acc.length + 8 * d ≤ 1000 → chatelaineref09_Wrap_l5 300 R K (i : Int) acc = some (acc ++ (R.drop i).flatten) := by
  intro d
  induction d with
  | zero =>
    intro i K acc hi hK ha
    obtain ⟨K, rfl⟩ : ∃ m, K = m + 1 := ⟨K - 1, by omega⟩
    rw [chatelaineref09_Wrap_l5, if_neg (by omega), List.drop_of_length_le (by omega)]; simp
  | succ d ih =>
    intro i K acc hi hK ha
    obtain ⟨K, rfl⟩ : ∃ m, K = m + 1 := ⟨K - 1, by omega⟩
    have hir : i < R.length := by omega
    have hl := h8 _ (List.getElem_mem hir)
    rw [chatelaineref09_Wrap_l5, if_pos (by omega)]
    refine (bnd_eqW (ix_nat hir) _).trans ?_
    refine (bnd_eqW (List.getElem?_eq_getElem hir) _).trans ?_
    refine (bnd_eqW (app1w _ _ (by omega)) _).trans ?_
    rw [k_id (by omega)]
    have := ih (i + 1) K (acc ++ R[i]) (by omega) (by omega) (by rw [List.length_append]; omega)
    rw [List.drop_eq_getElem_cons hir, List.flatten_cons, ← List.append_assoc]
    exact this
end
theorem rWrap (kek key : List UInt8) (hl : key.length ≤ 1000) : chatelaineref09_Wrap 300 kek key = some (wrapR kek key) := by
  unfold chatelaineref09_Wrap wrapR
  by_cases h : kek.length = 16 ∨ kek.length = 32
  · have hw := sched_len h
    rw [if_neg (show ¬((decide ((kek.length : Int) ≠ 16)) && (decide ((kek.length : Int) ≠ 32))) = true by simp; omega), if_neg (show ¬¬(kek.length = 16 ∨ kek.length = 32) from fun z => z h)]
    by_cases hk : key.length % 8 = 0 ∧ 16 ≤ key.length ∧ key.length ≤ 64
    · rw [if_neg (show ¬(((decide (Int.tmod (key.length : Int) 8 ≠ 0)) || (decide ((key.length : Int) < 16))) || (decide (64 < (key.length : Int)))) = true by rw [tmod8]; simp; omega), if_neg (show ¬¬(key.length % 8 = 0 ∧ 16 ≤ key.length ∧ key.length ≤ 64) from fun z => z hk)]
      refine (bnd_eqW (rMake h) _).trans ?_
      have h0 := rW_l0 key hl (key.length / 8) 0 300 [] (by omega) (by omega) (by simp; omega)
      rw [Nat.mul_zero, List.nil_append, List.drop_zero, show ((0 : Nat) : Int) = 0 from rfl] at h0
      refine (bnd_eqW h0 _).trans ?_
      have hs := begW_ok hk.1
      have hf : ∀ s, s.length = 16 → (enc (schedA kek) (kek.length / 4 + 6) s).length = 16 := fun s h => enc_len (by omega) h
      have h1 := rW_l1 hw (by omega) (n := key.length / 8) (by omega) (by omega) hs 6 0 300 (by omega) (by omega)
      rw [Nat.mul_zero, show ((0 : Nat) : Int) = 0 from rfl] at h1
      refine (bnd_eqW h1 _).trans ?_
      have ho := wN_ok hf (by omega) hs (key.length / 8 * 6)
      dsimp only
      have h5 := rW_l5 (wN (enc (schedA kek) (kek.length / 4 + 6)) (key.length / 8) (key.length / 8 * 6) (begW key)).2 (by rw [ho.2.1]; omega) ho.2.2 (key.length / 8) 0 300 (wN (enc (schedA kek) (kek.length / 4 + 6)) (key.length / 8) (key.length / 8 * 6) (begW key)).1 (by rw [ho.2.1]; omega) (by omega) (by rw [ho.1]; omega)
      rw [List.drop_zero, show ((0 : Nat) : Int) = 0 from rfl] at h5
      refine (bnd_eqW h5 _).trans ?_
      unfold wrapL flW
      rw [Nat.mul_comm 6]
    · rw [if_pos (show (((decide (Int.tmod (key.length : Int) 8 ≠ 0)) || (decide ((key.length : Int) < 16))) || (decide (64 < (key.length : Int)))) = true by rw [tmod8]; simp; omega), if_pos hk]
  · rw [if_pos (by simp; omega), if_pos h]
end
end Go.Proofs.Ythaoiajbgadcjaa
