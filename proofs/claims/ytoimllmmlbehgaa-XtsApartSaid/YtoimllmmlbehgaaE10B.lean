/- Each block of a sector hangs on its own alone. -/
import Derived.Test.YtoimllmmlbehgaaE10A
import Derived.Test.YtoimllmmlbehgaaXm
import Derived.Test.YtoimllmmlbehgaaEsm
import Derived.Test.YtoimllmmlbehgaaPo
set_option linter.unusedVariables false
set_option linter.unusedSimpArgs false
namespace Go.Proofs.Ytoimllmmlbehgaa
open Go.RowKit
theorem bnd_eqB {α β : Type} {o : Option α} {x : α} (h : o = some x) (f : α → Option β) : o.bind f = f x := by rw [h]; rfl
set_option maxRecDepth 100000 in
theorem xts_awakeB : chatelainelaw10_awake 300 = some true := by decide +kernel
def keyB : List UInt8 := 1 :: List.replicate 31 0
theorem keyB_is : chatelainelaw10_key 300 = some keyB := by decide +kernel
theorem secB_take (f : List UInt8 → List UInt8) (hf : ∀ s, s.length = 16 → (f s).length = 16) : ∀ (q n : Nat) (t b : List UInt8), t.length = 16 → b.length = 16 * n → q ≤ n → (secB f n t b).take (16 * q) = secB f q t (b.take (16 * q))
  | 0, _, _, _, _, _, _ => by simp [secB]
  | q + 1, 0, _, _, _, _, h => by omega
  | q + 1, n + 1, t, b, ht, hb, h => by
    have hl : (ad (f (ad (b.take 16) t)) t).length = 16 := ad_len _ _ (hf _ (ad_len _ _ (by rw [List.length_take]; omega) ht)) ht
    rw [secB, secB, List.take_append, hl, List.take_of_length_le (by omega), show 16 * (q + 1) - 16 = 16 * q by omega, secB_take f hf q n (db t) (b.drop 16) (db_len t) (by rw [List.length_drop]; omega) (by omega),
      List.take_take, Nat.min_eq_left (by omega), List.drop_take, show 16 * (q + 1) - 16 = 16 * q by omega]
theorem secB_drop (f : List UInt8 → List UInt8) (hf : ∀ s, s.length = 16 → (f s).length = 16) : ∀ (q n : Nat) (t b : List UInt8), t.length = 16 → b.length = 16 * n → q ≤ n → (secB f n t b).drop (16 * q) = secB f (n - q) (dbN q t) (b.drop (16 * q))
  | 0, _, _, _, _, _, _ => rfl
  | q + 1, 0, _, _, _, _, h => by omega
  | q + 1, n + 1, t, b, ht, hb, h => by
    have hl : (ad (f (ad (b.take 16) t)) t).length = 16 := ad_len _ _ (hf _ (ad_len _ _ (by rw [List.length_take]; omega) ht)) ht
    rw [secB, List.drop_append, hl, List.drop_of_length_le (by omega), List.nil_append, show 16 * (q + 1) - 16 = 16 * q by omega, secB_drop f hf q n (db t) (b.drop 16) (db_len t) (by rw [List.length_drop]; omega) (by omega),
      List.drop_drop, show n + 1 - (q + 1) = n - q by omega, show 16 + 16 * q = 16 * (q + 1) by omega]
    rfl
theorem sub_nat {α : Type} {l : List α} {m n : Nat} (h1 : m ≤ n) (h2 : n ≤ l.length) : sub l (m : Int) (n : Int) = some ((l.take n).drop m) := by
  unfold sub; rw [if_pos (by omega)]; rfl
theorem has_two {a : List UInt8} (h : (tyA 2 ty8).has a) : ∃ p q, a = [p, q] := by
  obtain ⟨_, _, _, h⟩ := h
  match a, h with
  | [p, q], _ => exact ⟨p, q, rfl⟩
theorem chatelainelaw10_XtsApart_true (number : Int) (_ : r64 number) (b : List UInt8) (_ : ∀ x ∈ b, ty8.has x) (at' : List UInt8) (hat : (tyA 2 ty8).has at') : ∃ Fu, chatelainelaw10_XtsApart Fu number b at' = some true := by
  refine ⟨300, ?_⟩
  obtain ⟨p, d, rfl⟩ := has_two hat
  have etm : Int.tmod (b.length : Int) 16 = ((b.length % 16 : Nat) : Int) := by rw [show (16 : Int) = ((16 : Nat) : Int) from rfl, ← Int.ofNat_tmod]
  have key32 : keyB.length = 32 ∨ keyB.length = 64 := by decide
  have hk : (keyB.take (keyB.length / 2)).length = 16 ∨ (keyB.take (keyB.length / 2)).length = 32 := by decide
  have hk2 : (keyB.drop (keyB.length / 2)).length = 16 ∨ (keyB.drop (keyB.length / 2)).length = 32 := by decide
  obtain ⟨m, hm, hw, hm20⟩ := sched_len' hk
  obtain ⟨mt, hmt, hwt, hmt20⟩ := sched_len' hk2
  have hnew := pXNew key32
  generalize keyB.take (keyB.length / 2) = ka at *
  generalize keyB.drop (keyB.length / 2) = kb at *
  generalize sched ka = ws at *
  generalize sched kb = wt at *
  unfold chatelainelaw10_XtsApart
  refine (bnd_eqB xts_awakeB _).trans ?_
  rw [if_neg (by decide)]
  by_cases hg : (((((decide ((b.length : Int) = 0)) || (decide (Int.tmod (b.length : Int) 16 ≠ 0))) || (decide (200 < (b.length : Int)))) || (decide (number < 0))) || (decide (4611686018427387904 < number))) = true
  · rw [if_pos hg]
  · rw [if_neg hg]
    rw [etm] at hg
    simp only [Bool.or_eq_true, decide_eq_true_eq] at hg
    have hb0 : b.length ≠ 0 := by omega
    have hb16 : b.length % 16 = 0 := by omega
    have hbl : b.length ≤ 200 := by omega
    have hn0 : 0 ≤ number := by omega
    have hn1 : number ≤ 4611686018427387904 := by omega
    refine (bnd_eqB keyB_is _).trans ?_
    refine (bnd_eqB hnew _).trans ?_
    dsimp only
    generalize htw : enc wt mt (num8 number.toNat) = tw
    have htl : tw.length = 16 := by rw [← htw]; exact enc_len (by omega) (num8_len _)
    have hfe : ∀ s : List UInt8, s.length = 16 → (enc ws m s).length = 16 := fun s hs => enc_len (by omega) hs
    have hinv : ∀ n (t c : List UInt8), t.length = 16 → c.length = 16 * n → secB (dec ws m) n t (secB (enc ws m) n t c) = c := secB_inv _ _ hfe (fun s hs => dec_enc (ws := ws) (n := m) (by omega) hs)
    have hE : ∀ c : List UInt8, c.length ≠ 0 → c.length % 16 = 0 → c.length ≤ 200 → xts_Sector_Encrypt 300 ((ws, bxL, bkL), (wt, bxL, bkL)) number c = some (secB (enc ws m) (c.length / 16) tw c, 0) := by
      intro c h0 h16 h200
      have hmay : mayX number c = true := by unfold mayX; simp only [Bool.and_eq_true, decide_eq_true_eq]; omega
      have := sEnc hw hm20 hwt hmt20 number c (by omega)
      rw [hmay, if_pos rfl, htw] at this
      exact this
    generalize hfdef : enc ws m = f at *
    obtain ⟨nb, hnb⟩ : ∃ nb, b.length = 16 * nb := ⟨b.length / 16, by omega⟩
    have hdiv : b.length / 16 = nb := by omega
    have hx := hE b hb0 hb16 hbl
    rw [hdiv] at hx
    have hxl := secB_len f hfe nb tw b htl hnb
    generalize hxd : secB f nb tw b = x at *
    refine (bnd_eqB hx _).trans ?_
    rw [if_neg (by dsimp only; rw [hxl, hnb]; simp)]
    refine (bnd_eqB (show ix 2 0 = some 0 from rfl) _).trans ?_
    refine (bnd_eqB (show ([p, d] : List UInt8)[0]? = some p from rfl) _).trans ?_
    refine (bnd_eqB (remI_nat (i := p.toNat) (k := b.length) hb0) _).trans ?_
    obtain ⟨i, hi⟩ : ∃ i, p.toNat % b.length = i := ⟨_, rfl⟩
    rw [hi]
    have hil : i < b.length := by rw [← hi]; exact Nat.mod_lt _ (by omega)
    refine (bnd_eqB (show app 1 [] b = some b by unfold app; rw [if_pos (by unfold maxLen; simp; omega)]; rfl) _).trans ?_
    refine (bnd_eqB (ix_nat hil) _).trans ?_
    refine (bnd_eqB (getD_some 0 hil) _).trans ?_
    refine (bnd_eqB (show ix 2 1 = some 1 from rfl) _).trans ?_
    refine (bnd_eqB (show ([p, d] : List UInt8)[1]? = some d from rfl) _).trans ?_
    refine (bnd_eqB (ix_nat hil) _).trans ?_
    obtain ⟨c, hc⟩ : ∃ c, b.set i (b.getD i 0 ^^^ d) = c := ⟨_, rfl⟩
    have hcl : c.length = b.length := by rw [← hc, List.length_set]
    rw [hc]
    have hy := hE c (by omega) (by omega) (by omega)
    rw [hcl, hdiv] at hy
    have hyl := secB_len f hfe nb tw c htl (by omega)
    have hinj : (x = secB f nb tw c) ↔ d = 0 := by
      constructor
      · intro e
        have e2 : b = c := by rw [← hinv nb tw b htl hnb, ← hinv nb tw c htl (by omega), hxd, e]
        have e3 : b[i]? = c[i]? := by rw [← e2]
        rw [← hc, List.getElem?_set_self hil, getD_some 0 hil] at e3
        have e4 := Option.some.inj e3
        have : b.getD i 0 ^^^ (b.getD i 0 ^^^ d) = b.getD i 0 ^^^ b.getD i 0 := by rw [← e4]
        rw [xc, UInt8.xor_self] at this
        exact this
      · intro e
        subst e
        have : c = b := by
          rw [← hc, UInt8.xor_zero]
          apply List.ext_getElem?
          intro j
          by_cases hj : i = j
          · subst hj; rw [List.getElem?_set_self hil, getD_some 0 hil]
          · rw [List.getElem?_set_ne hj]
        rw [this, hxd]
    generalize hyd : secB f nb tw c = y at *
    refine (bnd_eqB hy _).trans ?_
    refine (bnd_eqB (show sub b 0 16 = some (b.take 16) from sub_nat (m := 0) (n := 16) (by omega) (by omega)) _).trans ?_
    have h16 : (b.take 16).length = 16 := by rw [List.length_take]; omega
    have hz := hE (b.take 16) (by omega) (by omega) (by omega)
    rw [h16, show 16 / 16 = 1 from rfl] at hz
    refine (bnd_eqB hz _).trans ?_
    have hx16 : x.take 16 = secB f 1 tw (b.take 16) := by rw [← hxd]; exact secB_take f hfe 1 nb tw b htl hnb (by omega)
    refine (bnd_eqB (x := false) ?_ _).trans ?_
    · rw [if_neg (by dsimp only; rw [hyl, hnb]; simp)]
      refine (bnd_eqB (show sub x 0 16 = some (x.take 16) from sub_nat (m := 0) (n := 16) (by omega) (by omega)) _).trans ?_
      refine (bnd_eqB (same8 300 _ (x.take 16) (by rw [← hx16, List.length_take]; omega) (by rw [← hx16, List.length_take]; omega)) _).trans ?_
      rw [hx16]; simp
    refine (bnd_eqB (x := false) ?_ _).trans ?_
    · rw [if_neg (by decide)]
      refine (bnd_eqB (same8 300 x y (by omega) (by omega)) _).trans ?_
      refine (bnd_eqB (show ix 2 1 = some 1 from rfl) _).trans ?_
      refine (bnd_eqB (show ([p, d] : List UInt8)[1]? = some d from rfl) _).trans ?_
      have e : decide (x = y) = decide ((d.toNat : Int) = 0) := by
        rw [Bool.eq_iff_iff, decide_eq_true_eq, decide_eq_true_eq, hinj]
        constructor
        · intro h; subst h; rfl
        · intro h; apply UInt8.toNat_inj.1; show d.toNat = 0; omega
      rw [e]; simp
    rw [if_neg (by decide)]
    have hq : w64 ((w64 (Int.tdiv (i : Int) 16)) * 16) = ((16 * (i / 16) : Nat) : Int) := by
      rw [show (16 : Int) = ((16 : Nat) : Int) from rfl, ← Int.ofNat_tdiv, k_id (x := ((i / 16 : Nat) : Int)) (by omega), k_id (by omega)]; omega
    have hq2 : w64 ((w64 ((w64 (Int.tdiv (i : Int) 16)) * 16)) + 16) = ((16 * (i / 16 + 1) : Nat) : Int) := by rw [hq, k_id (by omega)]; omega
    have t1 : x.take (16 * (i / 16)) = y.take (16 * (i / 16)) := by
      rw [← hxd, ← hyd, secB_take f hfe _ nb tw b htl hnb (by omega), secB_take f hfe _ nb tw c htl (by omega) (by omega), ← hc, List.take_set_of_le (by omega)]
    have t2 : x.drop (16 * (i / 16 + 1)) = y.drop (16 * (i / 16 + 1)) := by
      rw [← hxd, ← hyd, secB_drop f hfe _ nb tw b htl hnb (by omega), secB_drop f hfe _ nb tw c htl (by omega) (by omega), ← hc, List.drop_set_of_lt (by omega)]
    have s1 : sub x 0 (w64 ((w64 (Int.tdiv (i : Int) 16)) * 16)) = some (x.take (16 * (i / 16))) := by rw [hq]; exact sub_nat (m := 0) (by omega) (by omega)
    have s2 : sub y 0 (w64 ((w64 (Int.tdiv (i : Int) 16)) * 16)) = some (x.take (16 * (i / 16))) := by rw [hq, t1]; exact sub_nat (m := 0) (by omega) (by omega)
    have s3 : sub x (w64 ((w64 ((w64 (Int.tdiv (i : Int) 16)) * 16)) + 16)) (x.length : Int) = some (x.drop (16 * (i / 16 + 1))) := by
      rw [hq2]; have := sub_nat (l := x) (m := 16 * (i / 16 + 1)) (n := x.length) (by omega) (by omega); rwa [List.take_length] at this
    have s4 : sub y (w64 ((w64 ((w64 (Int.tdiv (i : Int) 16)) * 16)) + 16)) (y.length : Int) = some (x.drop (16 * (i / 16 + 1))) := by
      rw [hq2, t2]; have := sub_nat (l := y) (m := 16 * (i / 16 + 1)) (n := y.length) (by omega) (by omega); rwa [List.take_length] at this
    refine (bnd_eqB s1 _).trans ?_
    refine (bnd_eqB s2 _).trans ?_
    refine (bnd_eqB (same8 300 _ _ (by rw [List.length_take]; omega) (by rw [List.length_take]; omega)) _).trans ?_
    refine (bnd_eqB (x := true) ?_ _).trans rfl
    rw [if_pos (by simp)]
    refine (bnd_eqB s3 _).trans ?_
    refine (bnd_eqB s4 _).trans ?_
    refine (bnd_eqB (same8 300 _ _ (by rw [List.length_drop]; omega) (by rw [List.length_drop]; omega)) _).trans ?_
    simp
end Go.Proofs.Ytoimllmmlbehgaa
