/- Codes told over lists: letters and bytes there and back; Put and Take. -/
import Derived.Test.YtcjleeclpmgbjaaDoorGl
import Derived.Test.YtcjleeclpmgbjaaDoorCt
import Derived.Test.YtcjleeclpmgbjaaDoorE46R
set_option linter.unusedVariables false
set_option linter.unusedSimpArgs false
namespace Go.Proofs.YtcjleeclpmgbjaaDoor
open Go.RowKit
def ks : List Nat → List Nat
  | a :: b :: c :: d :: e :: r => (16 * a + 8 * b + 4 * c + 2 * d + e) :: ks r
  | _ => []
theorem ks5 {a b c d e : Nat} (ha : a ≤ 1) (hb : b ≤ 1) (hc : c ≤ 1) (hd : d ≤ 1) (he : e ≤ 1) : bD (16 * a + 8 * b + 4 * c + 2 * d + e) 5 = [a, b, c, d, e] := by
  have : ∀ a b c d e : Fin 2, bD (16 * a.val + 8 * b.val + 4 * c.val + 2 * d.val + e.val) 5 = [a.val, b.val, c.val, d.val, e.val] := by decide +kernel
  exact this ⟨a, by omega⟩ ⟨b, by omega⟩ ⟨c, by omega⟩ ⟨d, by omega⟩ ⟨e, by omega⟩
theorem ks_ok : ∀ (m : Nat) (X : List Nat), X.length = 5 * m → (∀ x ∈ X, x ≤ 1) → enc X = (ks X).map al ∧ kB (ks X) = X ∧ (∀ k ∈ ks X, k < 32)
  | 0, X, h, _ => by rw [List.length_eq_zero_iff.1 (by omega : X.length = 0)]; exact ⟨rfl, rfl, fun k hk => by cases hk⟩
  | m + 1, a :: b :: c :: d :: e :: r, h, h1 => by
    simp only [List.mem_cons, forall_eq_or_imp] at h1
    obtain ⟨p1, p2, p3, p4, p5, h1⟩ := h1
    obtain ⟨i1, i2, i3⟩ := ks_ok m r (by simp at h; omega) h1
    refine ⟨by rw [enc, ks, i1, List.map_cons], by rw [ks, kB_cons, ks5 p1 p2 p3 p4 p5, i2]; rfl, fun k hk => ?_⟩
    rw [ks] at hk
    rcases List.mem_cons.1 hk with rfl | hk
    · omega
    · exact i3 k hk
  | m + 1, [], hx, _ => by simp at hx
  | m + 1, [_], hx, _ => by simp at hx; omega
  | m + 1, [_, _], hx, _ => by simp at hx; omega
  | m + 1, [_, _, _], hx, _ => by simp at hx; omega
  | m + 1, [_, _, _, _], hx, _ => by simp at hx; omega
theorem lt5_al {k : Nat} (h : k < 32) : lt5 (al k) = some k := by
  have : ∀ k : Fin 32, lt5 (al k.val) = some k.val := by decide +kernel
  exact this ⟨k, h⟩
theorem numL_map : ∀ K : List Nat, (∀ k ∈ K, k < 32) → numL (K.map al) = some K
  | [], _ => rfl
  | k :: K, h => by
    rw [List.map_cons, numL, lt5_al (h k (by simp)), numL_map K (fun x hx => h x (by simp [hx]))]
theorem b8_inj {x y : UInt8} (h : bD x.toNat 8 = bD y.toNat 8) : x = y := by
  have : ∀ c : Fin 256, (bD c.val 8).foldl (fun a b => 2 * a + b) 0 = c.val := by decide +kernel
  have hx := this ⟨x.toNat, x.toNat_lt⟩
  have hy := this ⟨y.toNat, y.toNat_lt⟩
  dsimp only at hx hy
  rw [h] at hx
  exact UInt8.toNat_inj.1 (hx.symm.trans hy)
theorem bitsN_inj : ∀ (a b : List UInt8), bitsN a = bitsN b → a = b
  | [], [], _ => rfl
  | x :: a, [], h => by have := congrArg List.length h; simp [bitsN_len] at this
  | [], y :: b, h => by have := congrArg List.length h; simp [bitsN_len] at this
  | x :: a, y :: b, h => by
    rw [bitsN_cons, bitsN_cons] at h
    obtain ⟨h1, h2⟩ := List.append_inj h (by rw [bD_len, bD_len])
    rw [b8_inj h1, bitsN_inj a b h2]
/-- the bytes of letters, if there are any -/
def byO (P : List UInt8) : Option (List UInt8) :=
  match numL P with
  | some K => if (ub 0 0 K).2.1 < 5 ∧ (ub 0 0 K).2.2 = 0 then some (ub 0 0 K).1 else none
  | none => none
theorem byO_some {P y : List UInt8} (h : byO P = some y) : sp 0 0 y = P := by
  unfold byO at h
  split at h
  · rename_i K hK
    obtain ⟨h1, h2⟩ := numL_al P K hK
    split at h
    · rename_i hc
      obtain rfl := Option.some.inj h
      rw [(ub_iff K h2).2 hc, ← h1]
    · cases h
  · cases h
theorem sp_ks (y : List UInt8) : ∃ K, (∀ k ∈ K, k < 32) ∧ sp 0 0 y = K.map al ∧ kB K = pad (bitsN y) := by
  have hl : (pad (bitsN y)).length = 5 * ((8 * y.length + 4) / 5) := by unfold pad; simp [bitsN_len]; omega
  obtain ⟨h1, h2, h3⟩ := ks_ok _ _ hl (bits_le y)
  have hsp := enc_sp y 0 0 (by omega) (by omega)
  rw [show bD 0 0 = [] from rfl, List.nil_append] at hsp
  exact ⟨_, h3, by rw [← hsp, h1], h2⟩
theorem byO_sp (y : List UInt8) : byO (sp 0 0 y) = some y := by
  obtain ⟨K, hK, hs, hb⟩ := sp_ks y
  unfold byO
  rw [hs, numL_map K hK]
  dsimp only
  obtain ⟨h1, h2, h3⟩ := ub_bits K 0 0 (by omega) (by omega) hK
  rw [show bD 0 0 = [] from rfl, List.nil_append, hb] at h1
  generalize (ub 0 0 K).1 = out at *
  generalize (ub 0 0 K).2.1 = n at *
  generalize (ub 0 0 K).2.2 = v at *
  unfold pad at h1
  have hl := congrArg List.length h1
  simp only [List.length_append, bitsN_len, bD_len, List.length_replicate] at hl
  have e1 : out.length = y.length := by omega
  obtain ⟨e2, e3⟩ := List.append_inj h1 (by rw [bitsN_len, bitsN_len, e1])
  have e4 : n = (5 - (bitsN y).length % 5) % 5 := by have := congrArg List.length e3; simpa [bD_len] using this.symm
  rw [← e4] at e3
  have hv := bD_nil h3 e3.symm
  rw [if_pos ⟨by omega, hv⟩, bitsN_inj _ _ e2]
theorem sp_no45 (y : List UInt8) : ∀ c ∈ sp 0 0 y, ∃ k, k < 32 ∧ c = al k := by
  obtain ⟨K, hK, hs, _⟩ := sp_ks y
  intro c hc
  rw [hs] at hc
  obtain ⟨k, hk, rfl⟩ := List.mem_map.1 hc
  exact ⟨k, hK k hk, rfl⟩
theorem al_no45 {k : Nat} (h : k < 32) : al k ≠ 45 := by
  have : ∀ k : Fin 32, al k.val ≠ 45 := by decide +kernel
  exact this ⟨k, h⟩
theorem sp_len2 (y : List UInt8) : 5 * (sp 0 0 y).length ≤ 8 * y.length + 4 := by
  obtain ⟨K, hK, hs, hb⟩ := sp_ks y
  have := congrArg List.length hb
  rw [kB_len] at this
  unfold pad at this
  simp [bitsN_len] at this
  rw [hs, List.length_map]
  omega
/-- a sum's first byte -/
def chk (b : List UInt8) : UInt8 := (shaS b).getD 0 0
theorem chk_at (b : List UInt8) : (shaS b)[0]? = some (chk b) := by
  have h : 0 < (shaS b).length := by rw [shaS_length]; omega
  unfold chk
  rw [List.getD, List.getElem?_eq_getElem h]; rfl
theorem cChk (Fu : Nat) (b : List UInt8) (h : b.length ≤ 1000) : code_check Fu b = some (chk b) := by
  unfold code_check sha_Sum
  rw [if_pos (by simp; omega)]
  simp only [Option.bind_some, List.flatten_cons, List.flatten_nil, List.append_nil]
  rw [show (0 : Int) = ((0 : Nat) : Int) from rfl, ix_nat (by omega)]
  simp only [Option.bind_some]
  rw [chk_at]; rfl
/-- a code -/
def cd (b : List UInt8) : List UInt8 := gd 0 (sp 0 0 (b ++ [chk b]))
theorem app1 (a b : List UInt8) (h : a.length + b.length ≤ 1000000) : app 1 a b = some (a ++ b) := by unfold app; rw [if_pos (by unfold maxLen; omega)]
theorem groups5 (Fu : Nat) (hF : 2000 ≤ Fu) (s : List UInt8) (hs : s.length ≤ 300) : code_Groups Fu s 5 = some (chs 5 s.length s) := by
  unfold code_Groups
  rw [gL0 Fu 5 (by omega) 5 (.inl ⟨by omega, rfl⟩) s.length Fu s [] (Nat.le_refl _) (by omega) (by omega) (by simp; omega), List.nil_append]; rfl
theorem joined (Fu : Nat) (s : List UInt8) (hs : s.length ≤ 300) : strings_Join Fu (chs 5 s.length s) [45] = some (gd 0 s) := by
  unfold strings_Join
  have h1 := chs_len 5 s.length s
  have h2 := gd_len s 0
  rw [join_gd _ _ (Nat.le_refl _), if_pos (by omega)]
theorem cPut (Fu : Nat) (hF : 2000 ≤ Fu) (b : List UInt8) (h1 : 1 ≤ b.length) (h2 : b.length ≤ 64) : code_Put Fu b = some (cd b, 0) := by
  unfold code_Put
  rw [if_neg (by simp; omega), app1 [] b (by simp; omega)]
  simp only [Option.bind_some, List.nil_append]
  rw [cChk Fu b (by omega)]
  simp only [Option.bind_some]
  rw [app1 _ _ (by simp; omega)]
  simp only [Option.bind_some]
  have hl := sp_len2 (b ++ [chk b])
  simp at hl
  rw [cLetters Fu (by omega) _ (by simp; omega)]
  simp only [Option.bind_some]
  rw [groups5 Fu hF _ (by omega)]
  simp only [Option.bind_some]
  rw [joined Fu _ (by omega)]; rfl
theorem cPutNo (Fu : Nat) (b : List UInt8) (h : b.length < 1 ∨ 64 < b.length) : code_Put Fu b = some ([], 2) := by
  unfold code_Put
  rw [if_pos (by simp; omega)]
theorem rSum (Fu : Nat) (b : List UInt8) (h : b.length ≤ 1000) : chatelaineref05_Sum Fu b = some (shaS b) := by unfold chatelaineref05_Sum; rw [if_pos (by omega)]
theorem rPut (Fu : Nat) (hF : 2000 ≤ Fu) (b : List UInt8) (h2 : b.length ≤ 64) : chatelaineref46_Put Fu b = some (cd b) := by
  unfold chatelaineref46_Put
  rw [rSum Fu b (by omega)]
  simp only [Option.bind_some]
  rw [app1 [] b (by simp; omega)]
  simp only [Option.bind_some, List.nil_append]
  rw [show (0 : Int) = ((0 : Nat) : Int) from rfl, ix_nat (by omega)]
  simp only [Option.bind_some]
  rw [chk_at]
  simp only [Option.bind_some]
  rw [app1 _ _ (by simp; omega)]
  simp only [Option.bind_some]
  have hl := sp_len2 (b ++ [chk b])
  simp at hl
  rw [rLetters Fu hF _ (by simp; omega)]
  simp only [Option.bind_some]
  rw [rGrp Fu hF _ (by omega)]; rfl
/-- what a text is the code of; else why not -/
def tk (s : List UInt8) : List UInt8 × Int :=
  if 200 < s.length then ([], 3) else
  match byO (noD s) with
  | none => ([], 11)
  | some y => if y.length < 2 ∨ 65 < y.length ∨ gd 0 (noD s) ≠ s then ([], 11) else
    if chk (y.take (y.length - 1)) ≠ y.getD (y.length - 1) 0 then ([], 21) else (y.take (y.length - 1), 0)
theorem cBy (Fu : Nat) (hF : 2000 ≤ Fu) (P : List UInt8) (h : P.length ≤ 300) : code_Bytes Fu P = some (match byO P with | some y => (y, 0) | none => ([], 11)) := by
  rw [cBytes Fu hF P (by omega)]
  unfold byO
  cases hn : numL P with
  | none => rfl
  | some K =>
    dsimp only
    by_cases hc : (ub 0 0 K).2.1 < 5 ∧ (ub 0 0 K).2.2 = 0
    · rw [if_pos hc, if_pos hc]
    · rw [if_neg hc, if_neg hc]
theorem rBy (Fu : Nat) (hF : 2000 ≤ Fu) (P : List UInt8) (h : P.length ≤ 300) : chatelaineref46_Bytes Fu P = some (match byO P with | some y => (y, true) | none => ([], false)) := by
  rw [rBytes Fu hF P h]
  unfold byO
  cases hn : numL P with
  | none => rfl
  | some K =>
    dsimp only
    by_cases hc : (ub 0 0 K).2.1 < 5 ∧ (ub 0 0 K).2.2 = 0
    · rw [if_pos hc, if_pos hc]
    · rw [if_neg hc, if_neg hc]
theorem byO_len {P y : List UInt8} (h : byO P = some y) (hP : P.length ≤ 300) : y.length ≤ 1000 := by
  unfold byO at h
  split at h
  · rename_i K hn
    split at h
    · obtain rfl := Option.some.inj h
      obtain ⟨hK1, hK2⟩ := numL_al P K hn
      obtain ⟨h1, h2, h3⟩ := ub_bits K 0 0 (by omega) (by omega) hK2
      rw [show bD 0 0 = [] from rfl, List.nil_append] at h1
      have hKl : K.length = P.length := by rw [hK1, List.length_map]
      have hl := congrArg List.length h1
      rw [kB_len, List.length_append, bitsN_len, bD_len] at hl
      omega
    · cases h
  · cases h
theorem sub0 (y : List UInt8) (n : Nat) (h : n ≤ y.length) : sub y 0 (n : Int) = some (y.take n) := by
  unfold sub; rw [if_pos (by omega)]; simp
theorem replOK (Fu : Nat) (s : List UInt8) (h : s.length ≤ 300) : strings_ReplaceAll Fu s [45] [] = some (noD s) := by
  unfold strings_ReplaceAll
  have := noD_len s
  rw [replA, if_pos (by unfold maxLen; simp; omega)]
theorem cTake (Fu : Nat) (hF : 2000 ≤ Fu) (s : List UInt8) (h : s.length ≤ 300) : code_Take Fu s = some (tk s) := by
  unfold code_Take tk
  by_cases hs : 200 < s.length
  · rw [if_pos (by omega), if_pos hs]
  rw [if_neg (by omega), if_neg hs, replOK Fu s h]
  have hn := noD_len s
  simp only [Option.bind_some]
  rw [cBy Fu hF _ (by omega)]
  cases hb : byO (noD s) with
  | none => simp
  | some y =>
    have hy := byO_len hb (by omega)
    dsimp only [Option.bind_some]
    rw [w_id (by omega)]
    by_cases hl : y.length < 2 ∨ 65 < y.length
    · rw [if_pos (by simp; omega)]
      simp only [Option.bind_some, if_true]
      rw [if_pos (by omega)]
    · rw [if_neg (by simp; omega), groups5 Fu hF _ (by omega)]
      simp only [Option.bind_some]
      rw [joined Fu _ (by omega)]
      simp only [Option.bind_some]
      by_cases hg : gd 0 (noD s) = s
      · rw [hg]
        simp only [decide_true, Bool.not_true, Bool.false_eq_true, if_false]
        rw [if_neg (by simp; omega), show (y.length : Int) - 1 = ((y.length - 1 : Nat) : Int) by omega, sub0 y _ (by omega)]
        simp only [Option.bind_some]
        rw [cChk Fu _ (by simp; omega)]
        simp only [Option.bind_some]
        rw [idx_nat]
        have hat : y[y.length - 1]? = some (y.getD (y.length - 1) 0) := by rw [List.getD, List.getElem?_eq_getElem (by omega)]; rfl
        rw [hat]
        simp only [Option.bind_some]
        by_cases hc : chk (y.take (y.length - 1)) = y.getD (y.length - 1) 0
        · rw [hc, if_neg (by simp), if_neg (by simp)]
        · rw [if_pos (by intro e; exact hc (UInt8.toNat_inj.1 (by omega))), if_pos hc]
      · rw [if_pos (by simp [hg]), if_pos (by simp [hg])]
theorem rDash (Fu : Nat) (hF : 2000 ≤ Fu) (s : List UInt8) (h : s.length ≤ 300) : chatelaineref46_Take_l0 Fu s Fu [] 0 = some (noD s) := by
  have := rDash0 Fu s (by omega) s.length 0 Fu [] (by omega) (by omega) (by simp)
  rw [show ((0 : Nat) : Int) = 0 from rfl] at this
  rw [this]; simp
theorem rTake (Fu : Nat) (hF : 2000 ≤ Fu) (s : List UInt8) (h : s.length ≤ 300) : chatelaineref46_Take Fu s = some (tk s) := by
  unfold chatelaineref46_Take tk
  by_cases hs : 200 < s.length
  · rw [if_pos (by omega), if_pos hs]
  rw [if_neg (by omega), if_neg hs, rDash Fu hF s h]
  have hn := noD_len s
  simp only [Option.bind_some]
  rw [rBy Fu hF _ (by omega)]
  cases hb : byO (noD s) with
  | none => simp
  | some y =>
    have hy := byO_len hb (by omega)
    dsimp only [Option.bind_some]
    rw [w_id (by omega)]
    by_cases hl : y.length < 2 ∨ 65 < y.length
    · rw [if_pos (by simp; omega)]
      simp only [Option.bind_some, if_true]
      rw [if_pos (by omega)]
    · rw [if_neg (by simp; omega), rGrp Fu hF _ (by omega)]
      simp only [Option.bind_some]
      by_cases hg : gd 0 (noD s) = s
      · rw [hg]
        simp only [decide_true, Bool.not_true, Bool.false_eq_true, if_false]
        rw [if_neg (by simp; omega), show (y.length : Int) - 1 = ((y.length - 1 : Nat) : Int) by omega, sub0 y _ (by omega)]
        simp only [Option.bind_some]
        rw [rSum Fu _ (by simp; omega)]
        simp only [Option.bind_some]
        rw [show (0 : Int) = ((0 : Nat) : Int) from rfl, idx_nat, chk_at]
        simp only [Option.bind_some]
        rw [idx_nat]
        have hat : y[y.length - 1]? = some (y.getD (y.length - 1) 0) := by rw [List.getD, List.getElem?_eq_getElem (by omega)]; rfl
        rw [hat]
        simp only [Option.bind_some]
        by_cases hc : chk (y.take (y.length - 1)) = y.getD (y.length - 1) 0
        · rw [hc, if_neg (by simp), if_neg (by simp)]
        · rw [if_pos (by intro e; exact hc (UInt8.toNat_inj.1 (by omega))), if_pos hc]
      · rw [if_pos (by simp [hg]), if_pos (by simp [hg])]
theorem tk_len (s : List UInt8) (h : s.length ≤ 300) : (tk s).1.length ≤ 1000 := by
  unfold tk
  split
  · simp
  · split
    · simp
    · rename_i y hb
      have := byO_len hb (by have := noD_len s; omega)
      split
      · simp
      · split
        · simp
        · simp; omega
end Go.Proofs.YtcjleeclpmgbjaaDoor
