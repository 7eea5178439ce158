/- The statement ReplyBack, told over lists. -/
import Derived.Test.YtcjleeclpmgbjaaDoorE29P
import Derived.Test.YtcjleeclpmgbjaaDoorRz
import Derived.Test.YtcjleeclpmgbjaaDoorPo
set_option linter.unusedVariables false
set_option linter.unusedSimpArgs false
namespace Go.Proofs.YtcjleeclpmgbjaaDoor
open Go.RowKit
theorem eqB (Fu : Nat) (a b : List UInt8) : bytes_Equal Fu a b = some (decide (a = b)) := by unfold bytes_Equal; rfl
theorem rSame32 (Fu : Nat) (a b : Int × List UInt8) : reply_Same Fu a b = some (decide (a = b)) := by
  unfold reply_Same
  by_cases h : a.1 = b.1
  · rw [if_pos h, eqB]; simp [Prod.ext_iff, h]
  · rw [if_neg h]; simp [Prod.ext_iff, h]
theorem may1 {n : Int} (h : 0 ≤ n ∧ n ≤ 255) : mayPut n 1 = true := (mayPut_iff n 1).2 ⟨by decide, by decide, h.1, by omega, .inr (by show n < 256; omega)⟩
def enc32 (r : Int × List UInt8) : List UInt8 := be 1 r.1.toNat ++ (be 2 r.2.length ++ r.2)
theorem put32 (r : Int × List UInt8) (hd : r.2.length ≤ 65535) : reply_Put 2000 r = some (if 0 ≤ r.1 ∧ r.1 ≤ 255 then (enc32 r, 0) else ([], 2)) := by
  unfold reply_Put
  by_cases h : 0 ≤ r.1 ∧ r.1 ≤ 255
  · rw [if_neg (by simp; omega), if_pos h, pwNum 2000 (by omega) _ _ _ (by simp)]
    simp only [Option.bind_some]
    rw [wNum_good (may1 h), pwByt 2000 (by omega) _ _ (by simp [be_length]) hd]
    simp only [Option.bind_some]
    rw [wByt_good hd, pwOut _ _ (by simp [be_length]; omega)]
    simp [enc32]
  · rw [if_pos (by simp; omega), if_neg h]
/-- what a reader tells at its end -/
def dn (s : FSt) : Int := if s.1 = 0 then (if 0 < s.2.length then 13 else 0) else s.1
/-- what bytes are the reply of -/
def tk32 (b : List UInt8) : (Int × List UInt8) × Int :=
  if dn (byR 65535 (nmR 1 255 (0, b))) ≠ 0 then ((0, []), dn (byR 65535 (nmR 1 255 (0, b)))) else ((nmV 1 255 (0, b), byV 65535 (nmR 1 255 (0, b))), 0)
theorem take32 (b : List UInt8) (hb : b.length ≤ 1000000) : reply_Take 2000 b = some (tk32 b) := by
  have e0 : field_Read 2000 b = some (pr (0, b)) := rfl
  unfold reply_Take tk32
  rw [e0]
  simp only [Option.bind_some]
  rw [prNum 2000 (by omega) _ _ _ (by omega)]
  simp only [Option.bind_some]
  have h1 := nmR_len 1 255 (0, b)
  rw [prByt 2000 (by omega) _ _ (by simp at h1; omega)]
  simp only [Option.bind_some]
  rw [prDone]
  simp only [Option.bind_some]
  rw [show (if (byR 65535 (nmR 1 255 (0, b))).1 = 0 then (if 0 < (byR 65535 (nmR 1 255 (0, b))).2.length then (13 : Int) else 0) else (byR 65535 (nmR 1 255 (0, b))).1) = dn (byR 65535 (nmR 1 255 (0, b))) from rfl]
  split <;> rfl
theorem tk_enc {r : Int × List UInt8} (h : 0 ≤ r.1 ∧ r.1 ≤ 255) (hd : r.2.length ≤ 65535) : tk32 (enc32 r) = (r, 0) := by
  unfold tk32 enc32
  have e1 := nm_good (may1 h) (be 2 r.2.length ++ r.2) 255 h.2
  rw [show Int.toNat 1 = 1 from rfl] at e1
  have e2 := by_good r.2 [] 65535 hd (by omega)
  rw [List.append_nil] at e2
  rw [e1.1, e1.2, e2.1, e2.2]
  rfl
theorem tk_back {b : List UInt8} {r : Int × List UInt8} (h : tk32 b = (r, 0)) : (0 ≤ r.1 ∧ r.1 ≤ 255) ∧ r.2.length ≤ 65535 ∧ enc32 r = b := by
  unfold tk32 at h
  split at h
  · rename_i hne
    obtain ⟨_, he⟩ := Prod.mk.inj h
    exact absurd he hne
  · rename_i he
    simp only [ne_eq, Decidable.not_not] at he
    obtain ⟨rfl, _⟩ := Prod.mk.inj h
    unfold dn at he
    have h1 : (byR 65535 (nmR 1 255 (0, b))).1 = 0 := Decidable.byContradiction fun hh => by rw [if_neg hh] at he; exact hh he
    rw [if_pos h1] at he
    have h2 : (byR 65535 (nmR 1 255 (0, b))).2 = [] := by
      split at he
      · cases he
      · exact List.length_eq_zero_iff.1 (by omega)
    have h3 : (nmR 1 255 (0, b)).1 = 0 := Decidable.byContradiction fun hh => byR_err 65535 _ hh h1
    obtain ⟨e1, e2, e3, e4, e5, e6⟩ := nm_back (z := 1) (by omega) h3
    rw [show ((1 : Nat) : Int) = 1 from rfl] at e1 e3
    rw [e1] at h1 h2 ⊢
    obtain ⟨n, f1, f2, f3, f4, f5⟩ := by_back h1
    rw [h2, List.append_nil] at f4
    dsimp only
    refine ⟨by rw [e3]; omega, by omega, ?_⟩
    unfold enc32
    dsimp only
    rw [e3, Int.toNat_natCast, e6, f3, ← f4, List.take_append_drop]
theorem tk_bad {b : List UInt8} (h : (tk32 b).2 ≠ 0) : (tk32 b).1 = (0, []) := by
  unfold tk32 at h ⊢
  split
  · rfl
  · rename_i hh; rw [if_neg hh] at h; exact absurd rfl h
/-- a number that has no word: its numeral is none -/
theorem dec_head (n : Nat) : ∃ c t, Lib.decDigits n = c :: t ∧ c.toNat ≤ 57 := by
  induction n using Nat.strongRecOn with
  | ind n ih =>
    rw [Lib.decDigits]
    by_cases h : n < 10
    · rw [dif_pos h]; exact ⟨_, _, rfl, by simp; omega⟩
    · rw [dif_neg h]
      obtain ⟨c, t, e, hc⟩ := ih (n / 10) (by omega)
      exact ⟨c, _, by rw [e]; rfl, hc⟩
theorem itoa_head (n : Int) : ∃ c t, Lib.itoa n = c :: t ∧ c.toNat ≤ 57 := by
  unfold Lib.itoa
  split
  · exact ⟨45, _, rfl, by decide⟩
  · exact dec_head _
def ws32 : List (List UInt8) := ((reply_words 0).getD [])
def ks32 : List Int := ((reply_known 0).getD [])
theorem ws_head : ∀ w ∈ ws32, ∃ c t, w = c :: t ∧ 97 ≤ c.toNat := by
  have : ∀ w ∈ ws32, (match w with | c :: _ => decide (97 ≤ c.toNat) | [] => false) = true := by decide +kernel
  intro w hw
  have := this w hw
  cases w with
  | nil => cases this
  | cons c t => exact ⟨c, t, rfl, by simpa using this⟩
theorem of0 (t : List UInt8) (h : ∀ w ∈ ws32, w ≠ t) : ∀ (d i k : Nat), i + d = 20 → d < k → reply_Of_l0 2000 t ks32 ws32 k (i : Int) = some (.inr ()) := by
  intro d
  induction d with
  | zero =>
    intro i k hi hk
    obtain ⟨k, rfl⟩ : ∃ m, k = m + 1 := ⟨k - 1, by omega⟩
    rw [reply_Of_l0, if_neg (by omega)]
  | succ d ih =>
    intro i k hi hk
    obtain ⟨k, rfl⟩ : ∃ m, k = m + 1 := ⟨k - 1, by omega⟩
    have hl : ws32.length = 20 := rfl
    rw [reply_Of_l0, if_pos (by omega), idx_nat, List.getElem?_eq_getElem (by omega)]
    simp only [Option.bind_some]
    rw [if_neg (h _ (List.getElem_mem _)), w64_of (by omega), show ((i : Int) + 1) = ((i + 1 : Nat) : Int) by omega]
    exact ih (i + 1) k (by omega) (by omega)
theorem of_none (t : List UInt8) (h : ∀ w ∈ ws32, w ≠ t) : reply_Of 2000 t = some (0, false) := by
  have := of0 t h 20 0 2000 (by omega) (by omega)
  unfold reply_Of
  rw [show reply_known 2000 = some ks32 from rfl, show reply_words 2000 = some ws32 from rfl]
  simp only [Option.bind_some]
  rw [show ((0 : Nat) : Int) = 0 from rfl] at this
  rw [this]; rfl
theorem word0 (e : Int) (h : ∀ k ∈ ks32, k ≠ e) : ∀ (d i k : Nat), i + d = 20 → d < k → reply_Word_l0 2000 e ws32 ks32 k (i : Int) = some (.inr ()) := by
  intro d
  induction d with
  | zero =>
    intro i k hi hk
    obtain ⟨k, rfl⟩ : ∃ m, k = m + 1 := ⟨k - 1, by omega⟩
    rw [reply_Word_l0, if_neg (by omega)]
  | succ d ih =>
    intro i k hi hk
    obtain ⟨k, rfl⟩ : ∃ m, k = m + 1 := ⟨k - 1, by omega⟩
    have hl : ks32.length = 20 := rfl
    rw [reply_Word_l0, if_pos (by omega), idx_nat, List.getElem?_eq_getElem (by omega)]
    simp only [Option.bind_some]
    rw [if_neg (h _ (List.getElem_mem _)), w64_of (by omega), show ((i : Int) + 1) = ((i + 1 : Nat) : Int) by omega]
    exact ih (i + 1) k (by omega) (by omega)
theorem word_of (e : Int) : ∃ x k ok, reply_Word 2000 e = some x ∧ reply_Of 2000 x = some (k, ok) ∧ ((!ok) || decide (k = e)) = true := by
  by_cases h : e ∈ ks32
  · have : ∀ e ∈ ks32, ((reply_Word 2000 e).bind fun x => (reply_Of 2000 x).bind fun y => some ((!y.2) || decide (y.1 = e))) = some true := by decide +kernel
    have := this e h
    cases hx : reply_Word 2000 e with
    | none => rw [hx] at this; cases this
    | some x =>
      rw [hx] at this
      simp only [Option.bind_some] at this
      cases hy : reply_Of 2000 x with
      | none => rw [hy] at this; cases this
      | some y =>
        rw [hy] at this
        simp only [Option.bind_some] at this
        exact ⟨x, y.1, y.2, rfl, hy, Option.some.inj this⟩
  · have h0 := word0 e (fun k hk he => h (he ▸ hk)) 20 0 2000 (by omega) (by omega)
    rw [show ((0 : Nat) : Int) = 0 from rfl] at h0
    refine ⟨Lib.itoa e, 0, false, ?_, of_none _ (fun w hw he => ?_), rfl⟩
    · unfold reply_Word
      rw [show reply_known 2000 = some ks32 from rfl, show reply_words 2000 = some ws32 from rfl]
      simp only [Option.bind_some]
      rw [h0]; rfl
    · obtain ⟨c, t, e1, h1⟩ := ws_head w hw
      obtain ⟨c', t', e2, h2⟩ := itoa_head e
      rw [he, e2] at e1
      obtain ⟨rfl, _⟩ := List.cons.inj e1
      omega
theorem awake32 : chatelainelaw32_awake 2000 = some true := by decide +kernel
theorem back32 (r : Int × List UInt8) (b : List UInt8) : chatelainelaw32_ReplyBack 2000 r b = some true := by
  unfold chatelainelaw32_ReplyBack
  rw [awake32]
  simp only [Option.bind_some, Bool.not_true, Bool.false_eq_true, if_false]
  by_cases hs : ((decide (500 < (r.2.length : Int))) || (decide (500 < (b.length : Int)))) = true
  · rw [if_pos hs]
  rw [if_neg hs]
  simp at hs
  obtain ⟨x, k, ok, w1, w2, w3⟩ := word_of r.1
  have tail : ((reply_Take 2000 b).bind fun x64 => (if x64.2 = 0 then ((reply_Put 2000 x64.1).bind fun x82 => (if x82.2 ≠ 0 then some true else (chatelaineref01_Same 2000 x82.1 b).bind fun x94 => some (!x94)).bind fun z92 => if z92 = true then (some (.inl false)) else (some (.inr ()))) else ((reply_Same 2000 x64.1 (0, [])).bind fun x97 => if (!x97) = true then (some (.inl false)) else (some (.inr ()))) : Option (Sum Bool Unit)).bind fun o => match o with | .inl r110 => some r110 | .inr _ => (reply_Word 2000 r.1).bind fun x100 => (reply_Of 2000 x100).bind fun x104 => some ((!x104.2) || (decide (x104.1 = r.1)))) = some true := by
    rw [take32 b (by omega)]
    simp only [Option.bind_some]
    by_cases h0 : (tk32 b).2 = 0
    · obtain ⟨t1, t2, t3⟩ := tk_back (b := b) (r := (tk32 b).1) (Prod.ext rfl h0)
      rw [if_pos h0, put32 _ t2, if_pos t1, t3]
      simp only [Option.bind_some, ne_eq, not_true_eq_false, if_false]
      rw [same8 2000 b b (by omega) (by omega)]
      simp only [Option.bind_some, decide_true, Bool.not_true, Bool.false_eq_true, if_false]
      rw [w1]
      simp only [Option.bind_some]
      rw [w2]
      simp only [Option.bind_some]
      rw [w3]
    · rw [if_neg h0, rSame32, tk_bad h0]
      simp only [Option.bind_some, decide_true, Bool.not_true, Bool.false_eq_true, if_false]
      rw [w1]
      simp only [Option.bind_some]
      rw [w2]
      simp only [Option.bind_some]
      rw [w3]
  rw [put32 r (by omega)]
  simp only [Option.bind_some]
  by_cases hm : 0 ≤ r.1 ∧ r.1 ≤ 255
  · rw [if_pos hm]
    rw [if_neg (by simp; omega), if_pos rfl, take32 _ (by simp [enc32, be_length]; omega), tk_enc hm (by omega)]
    simp only [Option.bind_some, ne_eq, not_true_eq_false, if_false]
    rw [rSame32]
    simp only [Option.bind_some, decide_true, Bool.not_true, Bool.false_or]
    rw [if_neg (by rw [w64_of (by omega)]; simp [enc32, be_length]; omega)]
    exact tail
  · rw [if_neg hm]
    rw [if_neg (by simp; omega), if_neg (by decide)]
    exact tail
theorem chatelainelaw32_ReplyBack_true (a0 : Int × List UInt8) (h0 : (tyP tyI (tyL ty8)).has a0) (a1 : List UInt8) (h1 : ∀ x ∈ a1, ty8.has x) : ∃ Fu, chatelainelaw32_ReplyBack Fu a0 a1 = some true := ⟨2000, back32 a0 a1⟩
end Go.Proofs.YtcjleeclpmgbjaaDoor
