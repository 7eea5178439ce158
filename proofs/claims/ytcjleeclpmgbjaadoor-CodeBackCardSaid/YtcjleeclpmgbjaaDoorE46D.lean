/- Bytes of letters: what is left over, and when letters are those of their bytes. -/
import Derived.Test.YtcjleeclpmgbjaaDoorE46C
set_option linter.unusedVariables false
set_option linter.unusedSimpArgs false
namespace Go.Proofs.YtcjleeclpmgbjaaDoor
open Go.RowKit
/-- a letter more: bytes, how many bits are left, and these -/
def nb (n v k : Nat) : List UInt8 × Nat × Nat := if n < 3 then ([], n + 5, v * 32 + k) else ([UInt8.ofNat ((v * 32 + k) / 2 ^ (n - 3))], n - 3, (v * 32 + k) % 2 ^ (n - 3))
def ub : Nat → Nat → List Nat → List UInt8 × Nat × Nat
  | n, v, [] => ([], n, v)
  | n, v, k :: ks => ((nb n v k).1 ++ (ub (nb n v k).2.1 (nb n v k).2.2 ks).1, (ub (nb n v k).2.1 (nb n v k).2.2 ks).2)
theorem two_pow_add (a b : Nat) : 2 ^ (a + b) = 2 ^ a * 2 ^ b := Nat.pow_add 2 a b
theorem vk_lt {n v k : Nat} (hv : v < 2 ^ n) (hk : k < 32) : v * 32 + k < 2 ^ (n + 5) := by
  rw [two_pow_add, show (2 : Nat) ^ 5 = 32 from rfl]
  omega
theorem nb_n {n v k : Nat} (hn : n < 8) (hv : v < 2 ^ n) (hk : k < 32) : (nb n v k).2.1 < 8 ∧ (nb n v k).2.2 < 2 ^ (nb n v k).2.1 := by
  unfold nb
  split
  · exact ⟨by dsimp only; omega, vk_lt hv hk⟩
  · exact ⟨by dsimp only; omega, Nat.mod_lt _ (pow_pos2 _)⟩
def kB (K : List Nat) : List Nat := K.flatMap fun k => bD k 5
theorem kB_cons (k : Nat) (K : List Nat) : kB (k :: K) = bD k 5 ++ kB K := rfl
theorem bitsN_app (a b : List UInt8) : bitsN (a ++ b) = bitsN a ++ bitsN b := by unfold bitsN; rw [List.flatMap_append]
theorem bD_join (v n k : Nat) (hk : k < 32) : bD v n ++ bD k 5 = bD (v * 32 + k) (n + 5) := by
  rw [bD_app]
  congr 1
  · rw [show (2 : Nat) ^ 5 = 32 from rfl]; congr 1; omega
  · rw [← bD_mod (v * 32 + k) 5 5 (Nat.le_refl _)]
    congr 1
    rw [show (2 : Nat) ^ 5 = 32 from rfl]; omega
theorem nb_bits {n v k : Nat} (hn : n < 8) (hv : v < 2 ^ n) (hk : k < 32) : bD v n ++ bD k 5 = bitsN (nb n v k).1 ++ bD (nb n v k).2.2 (nb n v k).2.1 := by
  have hlt := vk_lt hv hk
  rw [bD_join v n k hk]
  unfold nb
  split
  · rfl
  · dsimp only
    rw [show n + 5 = 8 + (n - 3) by omega, two_pow_add] at hlt
    have hq : (v * 32 + k) / 2 ^ (n - 3) < 256 := Nat.div_lt_of_lt_mul (by rw [show (2 : Nat) ^ 8 = 256 from rfl] at hlt; rw [Nat.mul_comm (2 ^ (n - 3)) 256]; exact hlt)
    rw [bD_mod _ _ _ (Nat.le_refl _), show n + 5 = 8 + (n - 3) by omega, bD_app]
    congr 1
    unfold bitsN
    simp only [List.flatMap_cons, List.flatMap_nil, List.append_nil]
    rw [UInt8.toNat_ofNat', Nat.mod_eq_of_lt hq]
theorem ub_bits : ∀ (K : List Nat) (n v : Nat), n < 8 → v < 2 ^ n → (∀ k ∈ K, k < 32) → bD v n ++ kB K = bitsN (ub n v K).1 ++ bD (ub n v K).2.2 (ub n v K).2.1 ∧ (ub n v K).2.1 < 8 ∧ (ub n v K).2.2 < 2 ^ (ub n v K).2.1
  | [], n, v, hn, hv, _ => ⟨by simp [ub, kB, bitsN], hn, hv⟩
  | k :: K, n, v, hn, hv, hK => by
    have hk := hK k (List.mem_cons_self ..)
    have h1 := nb_n hn hv hk
    have ih := ub_bits K (nb n v k).2.1 (nb n v k).2.2 h1.1 h1.2 (fun x hx => hK x (List.mem_cons_of_mem _ hx))
    rw [ub]
    refine ⟨?_, ih.2⟩
    dsimp only
    rw [kB_cons, ← List.append_assoc, nb_bits hn hv hk, List.append_assoc, ih.1, bitsN_app, List.append_assoc]
theorem kB_len (K : List Nat) : (kB K).length = 5 * K.length := by
  induction K with
  | nil => rfl
  | cons k K ih => rw [kB_cons, List.length_append, bD_len, ih, List.length_cons]; omega
theorem enc_kB : ∀ K : List Nat, (∀ k ∈ K, k < 32) → enc (kB K) = K.map al
  | [], _ => rfl
  | k :: K, h => by
    have hk := h k (List.mem_cons_self ..)
    rw [kB_cons, enc_bD, enc_kB K (fun x hx => h x (List.mem_cons_of_mem _ hx)), Nat.mod_eq_of_lt hk]; rfl
theorem al_inj {a b : Nat} (ha : a < 32) (hb : b < 32) (h : al a = al b) : a = b := by
  have : ∀ a b : Fin 32, al a.val = al b.val → a.val = b.val := by decide +kernel
  exact this ⟨a, ha⟩ ⟨b, hb⟩ h
theorem enc_inj : ∀ (m : Nat) (X Y : List Nat), X.length = 5 * m → Y.length = 5 * m → (∀ x ∈ X, x ≤ 1) → (∀ y ∈ Y, y ≤ 1) → enc X = enc Y → X = Y
  | 0, X, Y, hx, hy, _, _, _ => by rw [List.length_eq_zero_iff.1 (by omega : X.length = 0), List.length_eq_zero_iff.1 (by omega : Y.length = 0)]
  | m + 1, a :: b :: c :: d :: e :: X, a' :: b' :: c' :: d' :: e' :: Y, hx, hy, h1, h2, h => by
    rw [enc, enc] at h
    obtain ⟨e1, e2⟩ := List.cons.inj h
    simp only [List.mem_cons, forall_eq_or_imp] at h1 h2
    obtain ⟨p1, p2, p3, p4, p5, h1⟩ := h1
    obtain ⟨q1, q2, q3, q4, q5, h2⟩ := h2
    have e3 := al_inj (by omega) (by omega) e1
    have e4 := enc_inj m X Y (by simp at hx; omega) (by simp at hy; omega) h1 h2 e2
    obtain rfl : a = a' := by omega
    obtain rfl : b = b' := by omega
    obtain rfl : c = c' := by omega
    obtain rfl : d = d' := by omega
    obtain rfl : e = e' := by omega
    rw [e4]
  | m + 1, [], _, hx, _, _, _, _ => by simp at hx
  | m + 1, [_], _, hx, _, _, _, _ => by simp at hx; omega
  | m + 1, [_, _], _, hx, _, _, _, _ => by simp at hx; omega
  | m + 1, [_, _, _], _, hx, _, _, _, _ => by simp at hx; omega
  | m + 1, [_, _, _, _], _, hx, _, _, _, _ => by simp at hx; omega
  | m + 1, _, [], _, hy, _, _, _ => by simp at hy
  | m + 1, _, [_], _, hy, _, _, _ => by simp at hy; omega
  | m + 1, _, [_, _], _, hy, _, _, _ => by simp at hy; omega
  | m + 1, _, [_, _, _], _, hy, _, _, _ => by simp at hy; omega
  | m + 1, _, [_, _, _, _], _, hy, _, _, _ => by simp at hy; omega
theorem bD_zero (n : Nat) : bD 0 n = List.replicate n 0 := by
  induction n with
  | zero => rfl
  | succ n ih => rw [bD, ih]; simp [List.replicate_succ]
theorem bD_nil {v n : Nat} (hv : v < 2 ^ n) (h : bD v n = List.replicate n 0) : v = 0 := by
  have : ∀ n v, bD v n = List.replicate n 0 → v % 2 ^ n = 0 := by
    intro n
    induction n with
    | zero => intro v _; exact Nat.mod_one v
    | succ n ih =>
      intro v h
      rw [bD, List.replicate_succ] at h
      obtain ⟨h1, h2⟩ := List.cons.inj h
      have := ih v h2
      rw [Nat.pow_succ, Nat.mod_mul, this, h1]; simp
  have := this n v h
  rwa [Nat.mod_eq_of_lt hv] at this
theorem kB_le (K : List Nat) : ∀ y ∈ kB K, y ≤ 1 := by
  intro y hy
  unfold kB at hy
  obtain ⟨k, _, h⟩ := List.mem_flatMap.1 hy
  exact bD_le _ _ y h
/-- letters are those of their bytes just if what is left over is less than a letter, and nothing -/
theorem ub_iff (K : List Nat) (hK : ∀ k ∈ K, k < 32) : sp 0 0 (ub 0 0 K).1 = K.map al ↔ ((ub 0 0 K).2.1 < 5 ∧ (ub 0 0 K).2.2 = 0) := by
  obtain ⟨h1, h2, h3⟩ := ub_bits K 0 0 (by omega) (by omega) hK
  rw [show bD 0 0 = [] from rfl, List.nil_append] at h1
  have hsp := enc_sp (ub 0 0 K).1 0 0 (by omega) (by omega)
  rw [show bD 0 0 = [] from rfl, List.nil_append] at hsp
  have hl := congrArg List.length h1
  rw [kB_len, List.length_append, bitsN_len, bD_len] at hl
  generalize (ub 0 0 K).1 = out at *
  generalize (ub 0 0 K).2.1 = n at *
  generalize (ub 0 0 K).2.2 = v at *
  rw [← hsp, ← enc_kB K hK]
  have hpl : (pad (bitsN out)).length = 8 * out.length + (5 - 8 * out.length % 5) % 5 := by unfold pad; simp [bitsN_len]
  constructor
  · intro h
    have hle : ∀ X : List Nat, ∀ m, X.length = 5 * m → (enc X).length = m := by
      intro X m
      induction m generalizing X with
      | zero => intro hx; rw [List.length_eq_zero_iff.1 (by omega : X.length = 0)]; rfl
      | succ m ih =>
        intro hx
        match X, hx with
        | a :: b :: c :: d :: e :: r, hx => rw [enc, List.length_cons, ih r (by simp at hx; omega)]
        | [], hx => simp at hx
        | [_], hx => simp at hx; omega
        | [_, _], hx => simp at hx; omega
        | [_, _, _], hx => simp at hx; omega
        | [_, _, _, _], hx => simp at hx; omega
    have g1 := hle (kB K) K.length (kB_len K)
    have g2 := hle (pad (bitsN out)) ((pad (bitsN out)).length / 5) (by omega)
    have g3 := congrArg List.length h
    rw [g1, g2] at g3
    have hX := enc_inj K.length (pad (bitsN out)) (kB K) (by omega) (kB_len K) (bits_le out) (kB_le K) h
    rw [h1] at hX
    unfold pad at hX
    have hz := List.append_cancel_left hX
    have hn : (5 - (bitsN out).length % 5) % 5 = n := by rw [bitsN_len]; omega
    rw [hn] at hz
    exact ⟨by omega, bD_nil h3 hz.symm⟩
  · rintro ⟨hn, rfl⟩
    rw [h1]
    congr 1
    unfold pad
    rw [bD_zero, show (5 - (bitsN out).length % 5) % 5 = n by rw [bitsN_len]; omega]
end Go.Proofs.YtcjleeclpmgbjaaDoor
