/- A block under the document's cipher. -/
import Derived.Test.YtoimllmmlbehgaaE04D
set_option linter.unusedVariables false
set_option linter.unusedSimpArgs false
namespace Go.Proofs.Ytoimllmmlbehgaa
open Go.RowKit
theorem map_getD16 {s : List UInt8} (h : s.length = 16) : (List.range 16).map (fun j => ((s.getD j 0).toNat : Int)) = ci s := by
  obtain ⟨a0, a1, a2, a3, a4, a5, a6, a7, a8, a9, a10, a11, a12, a13, a14, a15, rfl⟩ := l16 s h
  rfl
section
variable {ws : List UInt32} {n : Nat}
theorem rEnc_l0 {s : List UInt8} (h : s.length = 16) : chatelaineref04_Key_Encrypt_l0 300 s 300 [] 0 = some (ci s) := by
  rw [push_loop 16 (chatelaineref04_Key_Encrypt_l0 300 s) (fun j => ((s.getD j 0).toNat : Int)) (fun k i xs hi hx => ?_) (fun k xs => ?_) 300 (by omega), map_getD16 h]
  · rw [chatelaineref04_Key_Encrypt_l0, if_pos (by omega), ix_nat hi]
    simp only [Option.bind_some]
    rw [getD_some 0 (show i < s.length by omega)]
    simp only [Option.bind_some]
    rw [app8 _ _ (by rw [hx]; simp; omega), k_id (by omega)]
    rfl
  · rw [chatelaineref04_Key_Encrypt_l0, if_neg (by omega)]
theorem rk_get {r j : Nat} (hj : j < 16) : (ws.flatMap p4)[16 * r + j]? = (rk ws r)[j]? := by
  unfold rk
  rw [← fm_take, ← fm_drop, List.getElem?_take, if_pos (by omega), List.getElem?_drop, show 4 * (4 * r) + j = 16 * r + j by omega]
theorem rAdd {b : List Int} {m : Int} {s : List UInt8} (h : s.length = 16) {r : Nat} (hr : 4 * r + 4 ≤ ws.length) (hw : ws.length ≤ 100) : chatelaineref04_Key_add 300 (m, cb ws, b) (ci s) (r : Int) = some (ci (ad s (rk ws r))) := by
  have hk := rk_len ws r hr
  unfold chatelaineref04_Key_add
  rw [push_loop 16 (chatelaineref04_Key_add_l0 300 (m, cb ws, b) (ci s) (r : Int)) (fun j => ((s.getD j 0 ^^^ (rk ws r).getD j 0).toNat : Int)) (fun k i xs hi hx => ?_) (fun k xs => ?_) 300 (by omega)]
  · generalize rk ws r = t at *
    obtain ⟨a0, a1, a2, a3, a4, a5, a6, a7, a8, a9, a10, a11, a12, a13, a14, a15, rfl⟩ := l16 s h
    obtain ⟨b0, b1, b2, b3, b4, b5, b6, b7, b8, b9, b10, b11, b12, b13, b14, b15, rfl⟩ := l16 t hk
    rfl
  · rw [chatelaineref04_Key_add_l0, if_pos (by omega), idx_nat, ci_get (by omega)]
    simp only [Option.bind_some]
    rw [k_id (x := 16 * (r : Int)) (by omega), k_id (x := 16 * (r : Int) + i) (by omega), show 16 * (r : Int) + i = ((16 * r + i : Nat) : Int) by omega, idx_nat]
    unfold cb
    rw [show (ci (ws.flatMap p4))[16 * r + i]? = some (((rk ws r).getD i 0).toNat : Int) by unfold ci; rw [List.getElem?_map, rk_get hi, getD_some 0 (by omega)]; rfl]
    simp only [Option.bind_some]
    rw [rXor]
    simp only [Option.bind_some]
    rw [app8 _ _ (by rw [hx]; simp; omega)]
    simp only [Option.bind_some]
    rw [k_id (by omega)]
    rfl
  · rw [chatelaineref04_Key_add_l0, if_neg (by omega)]
theorem place1r : ∀ i : Fin 16, ix 16 (w64 ((Int.tmod (i.val : Int) 4) + (w64 (4 * (Int.tmod (w64 ((w64 (Int.tdiv (i.val : Int) 4)) + (Int.tmod (i.val : Int) 4))) 4))))) = some (place 1 i.val) := by decide +kernel
theorem rEnc_l2' {m : Int} {b B : List Int} (f : UInt8 → UInt8) (hB : ∀ x : UInt8, idx B (x.toNat : Int) = some ((f x).toNat : Int)) {s : List UInt8} (h : s.length = 16) : chatelaineref04_Key_Encrypt_l2 300 (m, b, B) (ci s) 300 [] 0 = some (ci (sw f 1 s)) := by
  rw [push_loop 16 (chatelaineref04_Key_Encrypt_l2 300 (m, b, B) (ci s)) (fun i => ((f (s.getD (place 1 i) 0)).toNat : Int)) (fun k i xs hi hx => ?_) (fun k xs => ?_) 300 (by omega)]
  · simp only [sw, ci, List.map_map, Function.comp_def]
  · rw [chatelaineref04_Key_Encrypt_l2, if_pos (by omega), ci_len, h, place1r ⟨i, hi⟩]
    simp only [Option.bind_some]
    rw [ci_get (by rw [h]; exact place_lt _ _)]
    simp only [Option.bind_some]
    rw [hB]
    simp only [Option.bind_some]
    rw [app8 _ _ (by rw [hx]; simp; omega)]
    simp only [Option.bind_some]
    rw [k_id (by omega)]
    rfl
  · rw [chatelaineref04_Key_Encrypt_l2, if_neg (by omega)]
theorem rEnc_l2 {m : Int} {b : List Int} {s : List UInt8} (h : s.length = 16) : chatelaineref04_Key_Encrypt_l2 300 (m, b, ci bxL) (ci s) 300 [] 0 = some (ci (sw bx 1 s)) := rEnc_l2' bx idx_box h
theorem bnd_eq {α β : Type} {o : Option α} {x : α} (h : o = some x) (f : α → Option β) : o.bind f = f x := by rw [h]; rfl
theorem l3_st {s : List UInt8} (h : s.length = 16) : ∀ (q K : Nat) (acc : List Int) (a b c d : UInt8), q < 4 → acc.length ≤ 16 → s[4 * q]? = some a → s[4 * q + 1]? = some b → s[4 * q + 2]? = some c → s[4 * q + 3]? = some d →
      chatelaineref04_Key_Encrypt_l3 300 (ci s) (K + 1) acc ((4 * q : Nat) : Int) = chatelaineref04_Key_Encrypt_l3 300 (ci s) K (acc ++ ci (mixS [a, b, c, d])) ((4 * (q + 1) : Nat) : Int) := by
    intro q K acc a b c d hq hacc ha hb hc hd
    have g : ∀ (m : Nat) (x : UInt8), s[m]? = some x → (ci s)[m]? = some (x.toNat : Int) := fun m x hx => by unfold ci; rw [List.getElem?_map, hx]; rfl
    have t2 := rTimes2; have t3 := rTimes3; have ts := rSum
    rw [chatelaineref04_Key_Encrypt_l3]
    generalize chatelaineref04_Key_Encrypt_l3 300 (ci s) K = L at *
    generalize chatelaineref02_Times 300 = T at *
    generalize chatelaineref04_sum 300 = U at *
    rw [if_pos (by omega), k_id (x := ((4 * q : Nat) : Int) + 1) (by omega), k_id (x := ((4 * q : Nat) : Int) + 2) (by omega), k_id (x := ((4 * q : Nat) : Int) + 3) (by omega), k_id (x := ((4 * q : Nat) : Int) + 4) (by omega),
      show ((4 * q : Nat) : Int) + 1 = ((4 * q + 1 : Nat) : Int) by omega, show ((4 * q : Nat) : Int) + 2 = ((4 * q + 2 : Nat) : Int) by omega, show ((4 * q : Nat) : Int) + 3 = ((4 * q + 3 : Nat) : Int) by omega, show ((4 * q : Nat) : Int) + 4 = ((4 * (q + 1) : Nat) : Int) by omega,
      ci_len, h]
    refine (bnd_eq (ix_nat (by omega)) _).trans ?_
    refine (bnd_eq (g _ _ ha) _).trans ?_
    refine (bnd_eq (ix_nat (by omega)) _).trans ?_
    refine (bnd_eq (g _ _ hb) _).trans ?_
    refine (bnd_eq (ix_nat (by omega)) _).trans ?_
    refine (bnd_eq (g _ _ hc) _).trans ?_
    refine (bnd_eq (ix_nat (by omega)) _).trans ?_
    refine (bnd_eq (g _ _ hd) _).trans ?_
    refine (bnd_eq (t2 a) _).trans ?_
    refine (bnd_eq (t3 b) _).trans ?_
    refine (bnd_eq (ts _ _ _ _) _).trans ?_
    refine (bnd_eq (app8 _ _ (by simp; omega)) _).trans ?_
    refine (bnd_eq (t2 b) _).trans ?_
    refine (bnd_eq (t3 c) _).trans ?_
    refine (bnd_eq (ts _ _ _ _) _).trans ?_
    refine (bnd_eq (app8 _ _ (by simp; omega)) _).trans ?_
    refine (bnd_eq (t2 c) _).trans ?_
    refine (bnd_eq (t3 d) _).trans ?_
    refine (bnd_eq (ts _ _ _ _) _).trans ?_
    refine (bnd_eq (app8 _ _ (by simp; omega)) _).trans ?_
    refine (bnd_eq (t3 a) _).trans ?_
    refine (bnd_eq (t2 d) _).trans ?_
    refine (bnd_eq (ts _ _ _ _) _).trans ?_
    refine (bnd_eq (app8 _ _ (by simp; omega)) _).trans ?_
    congr 1
    simp only [List.append_assoc]
    congr 1
    rw [mixS]
    show [_, _, _, _] = [_, _, _, _]
    have e0 : (tw a ^^^ (tw b ^^^ b)) ^^^ (c ^^^ d) = (a ^^^ (((a ^^^ b) ^^^ c) ^^^ d)) ^^^ tw (a ^^^ b) := by rw [tw_xor]; simp [UInt8.xor_assoc, UInt8.xor_comm, xl, xc]
    have e1 : (a ^^^ tw b) ^^^ ((tw c ^^^ c) ^^^ d) = (b ^^^ (((a ^^^ b) ^^^ c) ^^^ d)) ^^^ tw (b ^^^ c) := by rw [tw_xor]; simp [UInt8.xor_assoc, UInt8.xor_comm, xl, xc]
    have e2 : (a ^^^ b) ^^^ (tw c ^^^ (tw d ^^^ d)) = (c ^^^ (((a ^^^ b) ^^^ c) ^^^ d)) ^^^ tw (c ^^^ d) := by rw [tw_xor]; simp [UInt8.xor_assoc, UInt8.xor_comm, xl, xc]
    have e3 : ((tw a ^^^ a) ^^^ b) ^^^ (c ^^^ tw d) = (d ^^^ (((a ^^^ b) ^^^ c) ^^^ d)) ^^^ tw (d ^^^ a) := by rw [tw_xor]; simp [UInt8.xor_assoc, UInt8.xor_comm, xl, xc]
    rw [e0, e1, e2, e3]
theorem rEnc_l3 {s : List UInt8} (h : s.length = 16) : chatelaineref04_Key_Encrypt_l3 300 (ci s) 300 [] 0 = some (ci (mixS s)) := by
  obtain ⟨a0, a1, a2, a3, a4, a5, a6, a7, a8, a9, a10, a11, a12, a13, a14, a15, rfl⟩ := l16 s h
  have h0 := l3_st h 0 299 [] a0 a1 a2 a3 (by omega) (by simp) rfl rfl rfl rfl
  have h1 := l3_st h 1 298 (ci (mixS [a0, a1, a2, a3])) a4 a5 a6 a7 (by omega) (by simp [ci, mixS]) rfl rfl rfl rfl
  have h2 := l3_st h 2 297 (ci (mixS [a0, a1, a2, a3]) ++ ci (mixS [a4, a5, a6, a7])) a8 a9 a10 a11 (by omega) (by simp [ci, mixS]) rfl rfl rfl rfl
  have h3 := l3_st h 3 296 (ci (mixS [a0, a1, a2, a3]) ++ ci (mixS [a4, a5, a6, a7]) ++ ci (mixS [a8, a9, a10, a11])) a12 a13 a14 a15 (by omega) (by simp [ci, mixS]) rfl rfl rfl rfl
  rw [show (0 : Int) = ((4 * 0 : Nat) : Int) from rfl, h0]
  rw [List.nil_append, h1, h2, h3, chatelaineref04_Key_Encrypt_l3, if_neg (by decide)]
  rfl
theorem rEnc_l1 (hw : ws.length = 4 * (n + 1)) (hn : n ≤ 20) (s : List UInt8) (hs : s.length = 16) : ∀ d K j, j + d = n → d < K → chatelaineref04_Key_Encrypt_l1 300 ((n : Int), cb ws, ci bxL) K (ci (encN ws n j s)) ((j : Int) + 1) = some (ci (encN ws n n s)) := by
  intro d
  induction d with
  | zero =>
    intro K j hj hK
    obtain ⟨K, rfl⟩ : ∃ m, K = m + 1 := ⟨K - 1, by omega⟩
    obtain rfl : j = n := by omega
    rw [chatelaineref04_Key_Encrypt_l1, if_neg (by dsimp only; omega)]
  | succ d ih =>
    intro K j hj hK
    obtain ⟨K, rfl⟩ : ∃ m, K = m + 1 := ⟨K - 1, by omega⟩
    have hl := encN_len (ws := ws) (n := n) (by omega) hs j (by omega)
    rw [chatelaineref04_Key_Encrypt_l1, if_pos (by dsimp only; omega), rEnc_l2 hl]
    simp only [Option.bind_some]
    have hm : (if (j : Int) + 1 < (n : Int) then (chatelaineref04_Key_Encrypt_l3 300 (ci (sw bx 1 (encN ws n j s))) 300 [] 0).bind fun x170 => some x170 else some (ci (sw bx 1 (encN ws n j s)))) = some (ci (if j + 1 < n then mixS (sw bx 1 (encN ws n j s)) else sw bx 1 (encN ws n j s))) := by
      by_cases h1 : j + 1 < n
      · rw [if_pos (by omega), if_pos h1, rEnc_l3 (sw_len _ _ _)]; rfl
      · rw [if_neg (by omega), if_neg h1]
    rw [hm]
    simp only [Option.bind_some]
    rw [show (j : Int) + 1 = ((j + 1 : Nat) : Int) by omega, rAdd (by
      split
      · exact mixS_len _ (sw_len _ _ _)
      · exact sw_len _ _ _) (by omega) (by omega)]
    simp only [Option.bind_some]
    rw [k_id (by omega)]
    exact ih K (j + 1) (by omega) (by omega)
theorem i8_back (x : UInt8) : i8 (x.toNat : Int) = x := by
  have := x.toNat_lt
  unfold i8
  rw [show ((x.toNat : Int) % 256).toNat = x.toNat by omega]
  simp
theorem rEnc_l4 {s : List UInt8} (h : s.length = 16) : chatelaineref04_Key_Encrypt_l4 300 (ci s) 300 0 (List.replicate 16 0) = some s := by
  rw [fill_loop 16 (chatelaineref04_Key_Encrypt_l4 300 (ci s)) (fun i => s.getD i 0) (fun k i xs hi hx => ?_) (fun k xs => ?_) 300 _ (by simp) (by omega)]
  · obtain ⟨a0, a1, a2, a3, a4, a5, a6, a7, a8, a9, a10, a11, a12, a13, a14, a15, rfl⟩ := l16 s h
    rfl
  · rw [chatelaineref04_Key_Encrypt_l4, if_pos (by omega), ci_len, h, ix_nat hi]
    simp only [Option.bind_some]
    rw [ci_get (by omega)]
    simp only [Option.bind_some]
    rw [i8_back, k_id (by omega)]
    rfl
  · rw [chatelaineref04_Key_Encrypt_l4, if_neg (by omega)]
theorem rEnc (hw : ws.length = 4 * (n + 1)) (hn : n ≤ 20) {s : List UInt8} (hs : s.length = 16) : chatelaineref04_Key_Encrypt 300 ((n : Int), cb ws, ci bxL) s = some (enc ws n s) := by
  unfold chatelaineref04_Key_Encrypt
  rw [rEnc_l0 hs]
  simp only [Option.bind_some]
  rw [show (0 : Int) = ((0 : Nat) : Int) from rfl, rAdd hs (by omega) (by omega)]
  simp only [Option.bind_some]
  have h1 := rEnc_l1 hw hn (ad s (rk ws 0)) (ad_len _ _ hs (rk_len ws 0 (by omega))) n 300 0 (by omega) (by omega)
  rw [show ((0 : Nat) : Int) + 1 = 1 from rfl, show encN ws n 0 (ad s (rk ws 0)) = ad s (rk ws 0) from rfl] at h1
  rw [h1]
  simp only [Option.bind_some]
  have h2 := rEnc_l4 (s := enc ws n s) (enc_len (by omega) hs)
  show (chatelaineref04_Key_Encrypt_l4 300 (ci (enc ws n s)) 300 0 _).bind _ = _
  rw [h2]
  rfl
end
end Go.Proofs.Ytoimllmmlbehgaa
