/- The statement ShowTexts, told over lists. -/
import Derived.Test.YtnmeelkfpmodgaaDoorE42P
import Derived.Test.YtnmeelkfpmodgaaDoorSi
set_option linter.unusedVariables false
set_option linter.unusedSimpArgs false
namespace Go.Proofs.YtnmeelkfpmodgaaDoor
open Go.RowKit
abbrev SpT := Int × Int × Int × (List UInt8) × (List (Int × Int)) × (List (List UInt8)) × (List (List UInt8))
abbrev TnT := Int × Int × Int × (List UInt8)
abbrev StT := Int × (List UInt8) × (List TnT) × (List SpT)
theorem wStr (Fu : Nat) (b : Bool) (acc t : List UInt8) (h : acc.length + t.length ≤ 1000000) : strings_Builder_WriteString Fu (b, acc) t = some ((t.length : Int), (true, acc ++ t)) := by
  unfold strings_Builder_WriteString strings_Builder_copyCheck
  simp only [Option.bind_some]
  rw [appk 1 _ _ (by omega) h]; rfl
theorem wByt42 (Fu : Nat) (b : Bool) (acc : List UInt8) (x : UInt8) (h : acc.length ≤ 900000) : strings_Builder_WriteByte Fu (b, acc) x = some (true, acc ++ [x]) := by
  unfold strings_Builder_WriteByte strings_Builder_copyCheck
  simp only [Option.bind_some]
  rw [appk 1 _ _ (by omega) (by simp; omega)]; rfl
theorem lineC (Fu : Nat) (b : Bool) (acc : List UInt8) (ws : List (List UInt8)) (h1 : ws.length ≤ 1000) (h : acc.length + (Lib.join ws [32]).length ≤ 800000) : show_line Fu (b, acc) ws = some (true, acc ++ (Lib.join ws [32] ++ [10])) := by
  unfold show_line
  rw [joinC Fu ws 32 (by omega) (by omega)]
  simp only [Option.bind_some]
  rw [wStr Fu b acc _ (by omega)]
  simp only [Option.bind_some]
  rw [wByt42 Fu true _ _ (by simp; omega)]
  simp
/-! sectors that have something -/
def liveF (n : Int) (x : List UInt8) : Int := if (!(decide (x = List.replicate 32 (0 : UInt8)))) = true then n + 1 else n
def liveN (l : List (List UInt8)) : Int := l.foldl liveF 0
theorem liveF_le : ∀ (l : List (List UInt8)) (n : Int), n ≤ l.foldl liveF n ∧ l.foldl liveF n ≤ n + l.length
  | [], n => by simp
  | x :: l, n => by
    have := liveF_le l (liveF n x)
    rw [List.foldl_cons]
    have h : n ≤ liveF n x ∧ liveF n x ≤ n + 1 := by unfold liveF; split <;> omega
    simp only [List.length_cons]
    omega
theorem cLive (Fu : Nat) (x : SpT) (hl : x.2.2.2.2.2.2.length ≤ 1000) (hF : 2000 ≤ Fu) : show_Live Fu x = some (liveN x.2.2.2.2.2.2) := by
  unfold show_Live
  have h := loopM0 x.2.2.2.2.2.2 liveF (fun k s i => show_Live_l0 Fu x k s i) id (fun i s => 0 ≤ s ∧ s ≤ i)
    (fun k s i hi hs => by
      have hs : 0 ≤ s ∧ s ≤ i := hs
      refine ⟨?_, by show 0 ≤ liveF s _ ∧ liveF s _ ≤ ((i + 1 : Nat) : Int); unfold liveF; split <;> omega⟩
      show show_Live_l0 Fu x (k + 1) s (i : Int) = show_Live_l0 Fu x k (liveF s _) ((i + 1 : Nat) : Int)
      rw [show_Live_l0, if_pos (by omega), idx_at hi]
      simp only [Option.bind_some]
      unfold liveF
      by_cases hz : (!(decide (x.2.2.2.2.2.2[i] = List.replicate 32 (0 : UInt8)))) = true
      · rw [if_pos hz, if_pos hz, w_sm (by omega)]
        simp only [Option.bind_some]
        rw [w_sm (by omega), show ((i : Int) + 1) = ((i + 1 : Nat) : Int) by omega]
      · rw [if_neg hz, if_neg hz]
        simp only [Option.bind_some]
        rw [w_sm (by omega), show ((i : Int) + 1) = ((i + 1 : Nat) : Int) by omega])
    (fun k s hs => by
      show show_Live_l0 Fu x (k + 1) s _ = _
      rw [show_Live_l0, if_neg (by omega)]; rfl) Fu 0 (by omega) (by simp)
  try dsimp only at h
  rw [h]; rfl
theorem rLive (Fu : Nat) (x : SpT) (hl : x.2.2.2.2.2.2.length ≤ 1000) (hF : 2000 ≤ Fu) : chatelaineref42_Live Fu x = some (liveN x.2.2.2.2.2.2) := by
  unfold chatelaineref42_Live
  have h := loopM0 x.2.2.2.2.2.2 liveF (fun k s i => chatelaineref42_Live_l0 Fu x k s i) id (fun i s => 0 ≤ s ∧ s ≤ i)
    (fun k s i hi hs => by
      have hs : 0 ≤ s ∧ s ≤ i := hs
      refine ⟨?_, by show 0 ≤ liveF s _ ∧ liveF s _ ≤ ((i + 1 : Nat) : Int); unfold liveF; split <;> omega⟩
      show chatelaineref42_Live_l0 Fu x (k + 1) s (i : Int) = chatelaineref42_Live_l0 Fu x k (liveF s _) ((i + 1 : Nat) : Int)
      rw [chatelaineref42_Live_l0, if_pos (by omega), idx_at hi]
      simp only [Option.bind_some]
      unfold liveF
      by_cases hz : (!(decide (x.2.2.2.2.2.2[i] = List.replicate 32 (0 : UInt8)))) = true
      · rw [if_pos hz, if_pos hz, w_sm (by omega)]
        simp only [Option.bind_some]
        rw [w_sm (by omega), show ((i : Int) + 1) = ((i + 1 : Nat) : Int) by omega]
      · rw [if_neg hz, if_neg hz]
        simp only [Option.bind_some]
        rw [w_sm (by omega), show ((i : Int) + 1) = ((i + 1 : Nat) : Int) by omega])
    (fun k s hs => by
      show chatelaineref42_Live_l0 Fu x (k + 1) s _ = _
      rw [chatelaineref42_Live_l0, if_neg (by omega)]; rfl) Fu 0 (by omega) (by simp)
  try dsimp only at h
  rw [h]; rfl
/-! bytes as two letters each -/
def hxs : List UInt8 := [48, 49, 50, 51, 52, 53, 54, 55, 56, 57, 97, 98, 99, 100, 101, 102]
def hxA (b : UInt8) : UInt8 := hxs.getD (b.toNat / 16) 0
def hxB (b : UInt8) : UInt8 := hxs.getD (b.toNat % 16) 0
def hexL (l : List UInt8) : List UInt8 := l.flatMap fun b => [hxA b, hxB b]
theorem hexL_len : ∀ l : List UInt8, (hexL l).length = 2 * l.length
  | [] => rfl
  | b :: l => by unfold hexL at *; rw [List.flatMap_cons, List.length_append]; have := hexL_len l; unfold hexL at this; rw [this]; simp; omega
theorem hexL_snoc (l : List UInt8) (b : UInt8) : hexL (l ++ [b]) = hexL l ++ [hxA b, hxB b] := by unfold hexL; rw [List.flatMap_append]; rfl
theorem hx_all : ∀ b : Fin 256, idx hxs ((u8_shr (UInt8.ofNat b.val) 4).toNat : Int) = some (hxA (UInt8.ofNat b.val)) ∧ idx hxs ((UInt8.ofNat b.val &&& (15 : UInt8)).toNat : Int) = some (hxB (UInt8.ofNat b.val)) ∧
    sub hxs (w64 (Int.tdiv (b.val : Int) 16)) (w64 ((w64 (Int.tdiv (b.val : Int) 16)) + 1)) = some [hxA (UInt8.ofNat b.val)] ∧ sub hxs (Int.tmod (b.val : Int) 16) (w64 ((Int.tmod (b.val : Int) 16) + 1)) = some [hxB (UInt8.ofNat b.val)] := by decide +kernel
theorem hx_at (b : UInt8) : idx hxs ((u8_shr b 4).toNat : Int) = some (hxA b) ∧ idx hxs ((b &&& (15 : UInt8)).toNat : Int) = some (hxB b) ∧ sub hxs (w64 (Int.tdiv (b.toNat : Int) 16)) (w64 ((w64 (Int.tdiv (b.toNat : Int) 16)) + 1)) = some [hxA b] ∧ sub hxs (Int.tmod (b.toNat : Int) 16) (w64 ((Int.tmod (b.toNat : Int) 16) + 1)) = some [hxB b] := by
  have := hx_all ⟨b.toNat, b.toNat_lt⟩
  simpa [UInt8.ofNat_toNat] using this
theorem set2 (p : List UInt8) (a b x y : UInt8) (r : List UInt8) : ((p ++ a :: b :: r).set p.length x).set (p.length + 1) y = p ++ x :: y :: r := by
  induction p with
  | nil => rfl
  | cons c p ih => simp only [List.cons_append, List.length_cons, List.set_cons_succ, ih]
theorem hex0 (Fu : Nat) (a : List UInt8) (ha : a.length = 32) : ∀ (d i k : Nat), i + d = 32 → d < k →
    sha_Hex_l0 Fu a k (i : Int) (hexL (a.take i) ++ List.replicate (64 - 2 * i) 0) = some (hexL a) := by
  intro d
  induction d with
  | zero =>
    intro i k hi hk
    obtain ⟨k, rfl⟩ : ∃ m, k = m + 1 := ⟨k - 1, by omega⟩
    obtain rfl : i = 32 := by omega
    rw [sha_Hex_l0, if_neg (by omega), List.take_of_length_le (by omega)]; simp
  | succ d ih =>
    intro i k hi hk
    obtain ⟨k, rfl⟩ : ∃ m, k = m + 1 := ⟨k - 1, by omega⟩
    have hlt : i < a.length := by omega
    have hx := hx_at a[i]
    rw [sha_Hex_l0, if_pos (by omega), idx_at hlt]
    simp only [Option.bind_some]
    rw [show ([48, 49, 50, 51, 52, 53, 54, 55, 56, 57, 97, 98, 99, 100, 101, 102] : List UInt8) = hxs from rfl, hx.1]
    simp only [Option.bind_some]
    rw [hx.2.1]
    simp only [Option.bind_some]
    rw [w_sm (x := 2 * _) (by omega), w_sm (x := 2 * (i : Int) + 1) (by omega), show (2 * (i : Int)) = ((2 * i : Nat) : Int) by omega, ix_nat (by omega)]
    simp only [Option.bind_some]
    rw [show (((2 * i : Nat) : Int) + 1) = ((2 * i + 1 : Nat) : Int) by omega, ix_nat (by omega)]
    simp only [Option.bind_some]
    rw [w_sm (by omega), show ((i : Int) + 1) = ((i + 1 : Nat) : Int) by omega]
    have hl := hexL_len (a.take i)
    rw [List.length_take, Nat.min_eq_left (by omega)] at hl
    have e : ((hexL (a.take i) ++ List.replicate (64 - 2 * i) (0 : UInt8)).set (2 * i) (hxA a[i])).set (2 * i + 1) (hxB a[i]) = hexL (a.take (i + 1)) ++ List.replicate (64 - 2 * (i + 1)) 0 := by
      rw [← List.take_append_getElem hlt, hexL_snoc, show 64 - 2 * i = (64 - 2 * (i + 1)) + 1 + 1 by omega, List.replicate_succ, List.replicate_succ]
      have := set2 (hexL (a.take i)) 0 0 (hxA a[i]) (hxB a[i]) (List.replicate (64 - 2 * (i + 1)) 0)
      rw [hl] at this
      rw [this]; simp
    rw [e]
    exact ih (i + 1) k (by omega) (by omega)
theorem hexC (Fu : Nat) (hF : 100 ≤ Fu) (a : List UInt8) (ha : a.length = 32) : sha_Hex Fu a = some (hexL a) := by
  unfold sha_Hex
  have := hex0 Fu a ha 32 0 Fu (by omega) (by omega)
  rw [List.take_zero, show hexL [] = [] from rfl, List.nil_append, show ((0 : Nat) : Int) = 0 from rfl] at this
  rw [this]
  simp only [Option.bind_some]
  rw [show bnd 64 0 (64 : Int) = some (0, 64) by decide]
  simp only [Option.bind_some, List.drop_zero]
  rw [List.take_of_length_le (by rw [hexL_len]; omega)]
theorem rHex (Fu : Nat) (s : StT) (hs : s.2.1.length = 32) : ∀ (d i k : Nat) (acc : List UInt8), i + d = 32 → d < k → acc.length ≤ 1000 + 2 * i →
    chatelaineref42_Text_l0 Fu s k acc (i : Int) = some (acc ++ hexL (s.2.1.drop i)) := by
  intro d
  induction d with
  | zero =>
    intro i k acc hi hk ha
    obtain ⟨k, rfl⟩ : ∃ m, k = m + 1 := ⟨k - 1, by omega⟩
    rw [chatelaineref42_Text_l0, if_neg (by omega), List.drop_of_length_le (by omega)]; simp [hexL]
  | succ d ih =>
    intro i k acc hi hk ha
    obtain ⟨k, rfl⟩ : ∃ m, k = m + 1 := ⟨k - 1, by omega⟩
    have hlt : i < s.2.1.length := by omega
    have hx := hx_at s.2.1[i]
    rw [chatelaineref42_Text_l0, if_pos (by omega), ix_nat (by omega)]
    simp only [Option.bind_some]
    rw [List.getElem?_eq_getElem hlt]
    simp only [Option.bind_some]
    rw [show ([48, 49, 50, 51, 52, 53, 54, 55, 56, 57, 97, 98, 99, 100, 101, 102] : List UInt8) = hxs from rfl, hx.2.2.1]
    simp only [Option.bind_some]
    rw [sapp_k _ _ (by simp; omega)]
    simp only [Option.bind_some]
    rw [hx.2.2.2]
    simp only [Option.bind_some]
    rw [sapp_k _ _ (by simp; omega)]
    simp only [Option.bind_some]
    rw [w_sm (by omega), show ((i : Int) + 1) = ((i + 1 : Nat) : Int) by omega, ih (i + 1) k _ (by omega) (by omega) (by simp; omega), List.drop_eq_getElem_cons hlt]
    unfold hexL
    rw [List.flatMap_cons]
    simp
/-! tenants and spaces as lines -/
def tnL (t : TnT) : List UInt8 := ([116, 101, 110, 97, 110, 116, 32] : List UInt8) ++ Lib.itoa t.1 ++ ([32, 113, 117, 111, 116, 97, 32] : List UInt8) ++ Lib.itoa t.2.1 ++ ([32, 117, 115, 101, 100, 32] : List UInt8) ++ Lib.itoa t.2.2.1 ++ ([10] : List UInt8)
def spL (x : SpT) : List UInt8 := ([115, 112, 97, 99, 101, 32] : List UInt8) ++ Lib.itoa x.1 ++ ([32, 111, 102, 32] : List UInt8) ++ Lib.itoa x.2.1 ++ ([32, 115, 101, 99, 116, 111, 114, 115, 32] : List UInt8) ++ Lib.itoa x.2.2.1 ++ ([32, 108, 105, 118, 101, 32] : List UInt8) ++ Lib.itoa (liveN x.2.2.2.2.2.2) ++ ([10, 32, 32, 97, 116] : List UInt8) ++ (if 0 < (exT x.2.2.2.2.1).length then ([32] : List UInt8) ++ exT x.2.2.2.2.1 else []) ++ ([10] : List UInt8)
theorem itoa20 {n : Int} (h : r64 n) : (Lib.itoa n).length ≤ 20 := by
  unfold r64 at h
  unfold Lib.itoa
  split
  · have := decDigits_le 18 n.natAbs (by omega); simp; omega
  · have := decDigits_le 18 n.toNat (by omega); omega
def r64T (t : TnT) : Prop := r64 t.1 ∧ r64 t.2.1 ∧ r64 t.2.2.1
def okS (x : SpT) : Prop := r64 x.1 ∧ r64 x.2.1 ∧ r64 x.2.2.1 ∧ x.2.2.2.2.1.length ≤ 40 ∧ x.2.2.2.2.2.2.length ≤ 200
theorem tnL_len {t : TnT} (h : r64T t) : (tnL t).length ≤ 100 := by
  have h1 := itoa20 h.1; have h2 := itoa20 h.2.1; have h3 := itoa20 h.2.2
  unfold tnL
  simp only [List.length_append, List.length_cons, List.length_nil]
  omega
theorem live_r {x : SpT} (h : okS x) : r64 (liveN x.2.2.2.2.2.2) := by
  have := liveF_le x.2.2.2.2.2.2 0
  have := h.2.2.2.2
  unfold liveN r64; omega
theorem spL_len {x : SpT} (h : okS x) : (spL x).length ≤ 1000 := by
  have h1 := itoa20 h.1; have h2 := itoa20 h.2.1; have h3 := itoa20 h.2.2.1; have h4 := itoa20 (live_r h); have h5 := exJ_len x.2.2.2.2.1; have h6 := h.2.2.2.1
  unfold spL
  simp only [List.length_append, List.length_cons, List.length_nil]
  split <;> simp <;> omega
theorem tnLine (Fu : Nat) (b : Bool) (acc : List UInt8) (t : TnT) (h : r64T t) (ha : acc.length ≤ 500000) :
    ((strconv_Itoa Fu t.1).bind fun x105 => (strconv_Itoa Fu t.2.1).bind fun x109 => (strconv_Itoa Fu t.2.2.1).bind fun x113 => (show_line Fu (b, acc) ([([116, 101, 110, 97, 110, 116] : List UInt8), x105, ([113, 117, 111, 116, 97] : List UInt8), x109, ([117, 115, 101, 100] : List UInt8), x113]))) = some (true, acc ++ tnL t) := by
  have h1 := itoa20 h.1; have h2 := itoa20 h.2.1; have h3 := itoa20 h.2.2
  rw [itoaC]
  simp only [Option.bind_some]
  rw [itoaC]
  simp only [Option.bind_some]
  rw [itoaC]
  simp only [Option.bind_some]
  have e : Lib.join [([116, 101, 110, 97, 110, 116] : List UInt8), Lib.itoa t.1, ([113, 117, 111, 116, 97] : List UInt8), Lib.itoa t.2.1, ([117, 115, 101, 100] : List UInt8), Lib.itoa t.2.2.1] [32] ++ [10] = tnL t := by
    rw [Lib.join_cons]; unfold Lib.joinTail tnL; simp
  have hl : (Lib.join [([116, 101, 110, 97, 110, 116] : List UInt8), Lib.itoa t.1, ([113, 117, 111, 116, 97] : List UInt8), Lib.itoa t.2.1, ([117, 115, 101, 100] : List UInt8), Lib.itoa t.2.2.1] [32]).length ≤ 200 := by
    have := congrArg List.length e
    have h4 := tnL_len h
    rw [List.length_append] at this
    omega
  rw [lineC Fu b acc _ (by simp) (by omega), e]
theorem cTn (Fu : Nat) (hF : 2000 ≤ Fu) (s : StT) (hl : s.2.2.1.length ≤ 20) (hr : ∀ t ∈ s.2.2.1, r64T t) (b : Bool) (acc : List UInt8) (ha : acc.length ≤ 1000) :
    ∃ b', show_Text_l0 Fu s Fu 0 (b, acc) = some (b', acc ++ s.2.2.1.flatMap tnL) := by
  have h := loopM0 s.2.2.1 (fun (q : Bool × List UInt8) t => (true, q.2 ++ tnL t)) (fun k q i => show_Text_l0 Fu s k i q) id (fun i q => q.2.length ≤ 1000 + 100 * i)
    (fun k q i hi hq => by
      have hq : q.2.length ≤ 1000 + 100 * i := hq
      have hti := hr _ (List.getElem_mem hi)
      refine ⟨?_, by show (q.2 ++ tnL _).length ≤ _; have := tnL_len hti; rw [List.length_append]; omega⟩
      show show_Text_l0 Fu s (k + 1) (i : Int) q = show_Text_l0 Fu s k ((i + 1 : Nat) : Int) (true, q.2 ++ tnL _)
      rw [show_Text_l0, if_pos (by omega), idx_at hi]
      simp only [Option.bind_some]
      have hz := tnLine Fu q.1 q.2 s.2.2.1[i] hti (by omega)
      simp only [itoaC, Option.bind_some] at hz ⊢
      rw [hz]
      simp only [Option.bind_some]
      rw [w_sm (by omega), show ((i : Int) + 1) = ((i + 1 : Nat) : Int) by omega])
    (fun k q hq => by
      show show_Text_l0 Fu s (k + 1) _ q = _
      rw [show_Text_l0, if_neg (by omega)]; rfl) Fu (b, acc) (by omega) (by show acc.length ≤ _; omega)
  try dsimp only at h
  have hf : ∀ (l : List TnT) (q : Bool × List UInt8), (l.foldl (fun (q : Bool × List UInt8) t => (true, q.2 ++ tnL t)) q).2 = q.2 ++ l.flatMap tnL := by
    intro l
    induction l with
    | nil => intro q; simp
    | cons x l ih => intro q; rw [List.foldl_cons, ih, List.flatMap_cons]; simp
  exact ⟨(s.2.2.1.foldl (fun (q : Bool × List UInt8) t => (true, q.2 ++ tnL t)) (b, acc)).1, h.trans (congrArg some (Prod.ext rfl (hf _ _)))⟩
theorem rTn (Fu : Nat) (hF : 2000 ≤ Fu) (s : StT) (hl : s.2.2.1.length ≤ 20) (hr : ∀ t ∈ s.2.2.1, r64T t) (acc : List UInt8) (ha : acc.length ≤ 1000) :
    chatelaineref42_Text_l1 Fu s Fu acc 0 = some (acc ++ s.2.2.1.flatMap tnL) := by
  have h := loopM0 s.2.2.1 (fun q t => q ++ tnL t) (fun k q i => chatelaineref42_Text_l1 Fu s k q i) id (fun i q => q.length ≤ 1000 + 100 * i)
    (fun k q i hi hq => by
      have hq : q.length ≤ 1000 + 100 * i := hq
      have hti := hr _ (List.getElem_mem hi)
      refine ⟨?_, by show (q ++ tnL _).length ≤ _; have := tnL_len hti; rw [List.length_append]; omega⟩
      show chatelaineref42_Text_l1 Fu s (k + 1) q (i : Int) = chatelaineref42_Text_l1 Fu s k (q ++ tnL _) ((i + 1 : Nat) : Int)
      have h1 := itoa20 hti.1; have h2 := itoa20 hti.2.1; have h3 := itoa20 hti.2.2
      rw [chatelaineref42_Text_l1, if_pos (by omega), idx_at hi]
      simp only [Option.bind_some]
      rw [sapp_k _ _ (by simp; omega)]
      simp only [Option.bind_some]
      rw [dig_ok Fu (by omega) _ hti.1]
      simp only [Option.bind_some]
      rw [sapp_k _ _ (by simp; omega)]
      simp only [Option.bind_some]
      rw [sapp_k _ _ (by simp; omega)]
      simp only [Option.bind_some]
      rw [dig_ok Fu (by omega) _ hti.2.1]
      simp only [Option.bind_some]
      rw [sapp_k _ _ (by simp; omega)]
      simp only [Option.bind_some]
      rw [sapp_k _ _ (by simp; omega)]
      simp only [Option.bind_some]
      rw [dig_ok Fu (by omega) _ hti.2.2]
      simp only [Option.bind_some]
      rw [sapp_k _ _ (by simp; omega)]
      simp only [Option.bind_some]
      rw [sapp_k _ _ (by simp; omega)]
      simp only [Option.bind_some]
      rw [w_sm (by omega), show ((i : Int) + 1) = ((i + 1 : Nat) : Int) by omega]
      congr 1
      unfold tnL
      simp only [List.append_assoc])
    (fun k q hq => by
      show chatelaineref42_Text_l1 Fu s (k + 1) q _ = _
      rw [chatelaineref42_Text_l1, if_neg (by omega)]; rfl) Fu acc (by omega) (by show acc.length ≤ _; omega)
  try dsimp only at h
  have hf : ∀ (l : List TnT) (q : List UInt8), l.foldl (fun q t => q ++ tnL t) q = q ++ l.flatMap tnL := by
    intro l
    induction l with
    | nil => intro q; simp
    | cons x l ih => intro q; rw [List.foldl_cons, ih, List.flatMap_cons]; simp
  rw [h]
  exact congrArg some (hf _ _)
theorem cSp (Fu : Nat) (hF : 2000 ≤ Fu) (s : StT) (hl : s.2.2.2.length ≤ 20) (hr : ∀ t ∈ s.2.2.2, okS t) (b : Bool) (acc : List UInt8) (ha : acc.length ≤ 10000) :
    ∃ b', show_Text_l1 Fu s Fu 0 (b, acc) = some (b', acc ++ s.2.2.2.flatMap spL) := by
  have h := loopM0 s.2.2.2 (fun (q : Bool × List UInt8) t => (true, q.2 ++ spL t)) (fun k q i => show_Text_l1 Fu s k i q) id (fun i q => q.2.length ≤ 10000 + 1000 * i)
    (fun k q i hi hq => by
      have hq : q.2.length ≤ 10000 + 1000 * i := hq
      have hti := hr _ (List.getElem_mem hi)
      have hsl := spL_len hti
      refine ⟨?_, by show (q.2 ++ spL _).length ≤ _; rw [List.length_append]; omega⟩
      show show_Text_l1 Fu s (k + 1) (i : Int) q = show_Text_l1 Fu s k ((i + 1 : Nat) : Int) (true, q.2 ++ spL _)
      rw [show_Text_l1, if_pos (by omega), idx_at hi]
      generalize s.2.2.2[i] = x at *
      have h1 := itoa20 hti.1; have h2 := itoa20 hti.2.1; have h3 := itoa20 hti.2.2.1; have h4 := itoa20 (live_r hti); have h5 := exJ_len x.2.2.2.2.1; have h6 := hti.2.2.2.1; have h7 := hti.2.2.2.2
      simp only [Option.bind_some, itoaC]
      rw [cLive Fu x (by omega) hF]
      simp only [Option.bind_some]
      have e : Lib.join [([115, 112, 97, 99, 101] : List UInt8), Lib.itoa x.1, ([111, 102] : List UInt8), Lib.itoa x.2.1, ([115, 101, 99, 116, 111, 114, 115] : List UInt8), Lib.itoa x.2.2.1, ([108, 105, 118, 101] : List UInt8), Lib.itoa (liveN x.2.2.2.2.2.2)] [32] ++ [10] = ([115, 112, 97, 99, 101, 32] : List UInt8) ++ Lib.itoa x.1 ++ ([32, 111, 102, 32] : List UInt8) ++ Lib.itoa x.2.1 ++ ([32, 115, 101, 99, 116, 111, 114, 115, 32] : List UInt8) ++ Lib.itoa x.2.2.1 ++ ([32, 108, 105, 118, 101, 32] : List UInt8) ++ Lib.itoa (liveN x.2.2.2.2.2.2) ++ [10] := by
        rw [Lib.join_cons]; unfold Lib.joinTail; simp
      have hjl : (Lib.join [([115, 112, 97, 99, 101] : List UInt8), Lib.itoa x.1, ([111, 102] : List UInt8), Lib.itoa x.2.1, ([115, 101, 99, 116, 111, 114, 115] : List UInt8), Lib.itoa x.2.2.1, ([108, 105, 118, 101] : List UInt8), Lib.itoa (liveN x.2.2.2.2.2.2)] [32]).length ≤ 200 := by
        have := congrArg List.length e
        simp only [List.length_append, List.length_cons, List.length_nil] at this
        omega
      rw [lineC Fu q.1 q.2 _ (by simp) (by omega), e]
      simp only [Option.bind_some]
      rw [wStr Fu true _ _ (by simp; omega)]
      simp only [Option.bind_some]
      rw [cExt Fu _ (by omega) hF]
      simp only [Option.bind_some]
      have ex : (if (!(decide (exT x.2.2.2.2.1 = ([] : List UInt8)))) = true then ((sapp ([32] : List UInt8) (exT x.2.2.2.2.1)).bind fun x278 => (strings_Builder_WriteString Fu (true, q.2 ++ (([115, 112, 97, 99, 101, 32] : List UInt8) ++ Lib.itoa x.1 ++ ([32, 111, 102, 32] : List UInt8) ++ Lib.itoa x.2.1 ++ ([32, 115, 101, 99, 116, 111, 114, 115, 32] : List UInt8) ++ Lib.itoa x.2.2.1 ++ ([32, 108, 105, 118, 101, 32] : List UInt8) ++ Lib.itoa (liveN x.2.2.2.2.2.2) ++ [10]) ++ ([32, 32, 97, 116] : List UInt8)) x278).bind fun x280 => some x280.2) else (some (true, q.2 ++ (([115, 112, 97, 99, 101, 32] : List UInt8) ++ Lib.itoa x.1 ++ ([32, 111, 102, 32] : List UInt8) ++ Lib.itoa x.2.1 ++ ([32, 115, 101, 99, 116, 111, 114, 115, 32] : List UInt8) ++ Lib.itoa x.2.2.1 ++ ([32, 108, 105, 118, 101, 32] : List UInt8) ++ Lib.itoa (liveN x.2.2.2.2.2.2) ++ [10]) ++ ([32, 32, 97, 116] : List UInt8)))) = some (true, q.2 ++ (([115, 112, 97, 99, 101, 32] : List UInt8) ++ Lib.itoa x.1 ++ ([32, 111, 102, 32] : List UInt8) ++ Lib.itoa x.2.1 ++ ([32, 115, 101, 99, 116, 111, 114, 115, 32] : List UInt8) ++ Lib.itoa x.2.2.1 ++ ([32, 108, 105, 118, 101, 32] : List UInt8) ++ Lib.itoa (liveN x.2.2.2.2.2.2) ++ [10]) ++ ([32, 32, 97, 116] : List UInt8) ++ (if 0 < (exT x.2.2.2.2.1).length then ([32] : List UInt8) ++ exT x.2.2.2.2.1 else [])) := by
        by_cases hz : exT x.2.2.2.2.1 = []
        · rw [if_neg (by simp [hz]), hz]; simp
        · have hp := List.length_pos_iff.2 hz
          rw [if_pos (by simp [hz]), if_pos hp, sapp_k _ _ (by simp; omega)]
          simp only [Option.bind_some]
          rw [wStr Fu true _ _ (by simp; omega)]; rfl
      rw [ex]
      simp only [Option.bind_some]
      rw [wByt42 Fu true _ _ (by simp only [List.length_append, List.length_cons, List.length_nil]; split <;> simp <;> omega)]
      simp only [Option.bind_some]
      rw [w_sm (by omega), show ((i : Int) + 1) = ((i + 1 : Nat) : Int) by omega]
      congr 2
      unfold spL
      simp only [List.append_assoc, List.cons_append, List.nil_append])
    (fun k q hq => by
      show show_Text_l1 Fu s (k + 1) _ q = _
      rw [show_Text_l1, if_neg (by omega)]; rfl) Fu (b, acc) (by omega) (by show acc.length ≤ _; omega)
  try dsimp only at h
  have hf : ∀ (l : List SpT) (q : Bool × List UInt8), (l.foldl (fun (q : Bool × List UInt8) t => (true, q.2 ++ spL t)) q).2 = q.2 ++ l.flatMap spL := by
    intro l
    induction l with
    | nil => intro q; simp
    | cons x l ih => intro q; rw [List.foldl_cons, ih, List.flatMap_cons]; simp
  exact ⟨(s.2.2.2.foldl (fun (q : Bool × List UInt8) t => (true, q.2 ++ spL t)) (b, acc)).1, h.trans (congrArg some (Prod.ext rfl (hf _ _)))⟩
theorem rSp (Fu : Nat) (hF : 2000 ≤ Fu) (s : StT) (hl : s.2.2.2.length ≤ 20) (hr : ∀ t ∈ s.2.2.2, okS t) (acc : List UInt8) (ha : acc.length ≤ 10000) :
    chatelaineref42_Text_l2 Fu s Fu acc 0 = some (acc ++ s.2.2.2.flatMap spL) := by
  have h := loopM0 s.2.2.2 (fun q t => q ++ spL t) (fun k q i => chatelaineref42_Text_l2 Fu s k q i) id (fun i q => q.length ≤ 10000 + 1000 * i)
    (fun k q i hi hq => by
      have hq : q.length ≤ 10000 + 1000 * i := hq
      have hti := hr _ (List.getElem_mem hi)
      have hsl := spL_len hti
      refine ⟨?_, by show (q ++ spL _).length ≤ _; rw [List.length_append]; omega⟩
      show chatelaineref42_Text_l2 Fu s (k + 1) q (i : Int) = chatelaineref42_Text_l2 Fu s k (q ++ spL _) ((i + 1 : Nat) : Int)
      rw [chatelaineref42_Text_l2, if_pos (by omega), idx_at hi]
      generalize s.2.2.2[i] = x at *
      have h1 := itoa20 hti.1; have h2 := itoa20 hti.2.1; have h3 := itoa20 hti.2.2.1; have h4 := itoa20 (live_r hti); have h5 := exJ_len x.2.2.2.2.1; have h6 := hti.2.2.2.1; have h7 := hti.2.2.2.2
      simp only [Option.bind_some]
      rw [sapp_k _ _ (by simp; omega)]
      simp only [Option.bind_some]
      rw [dig_ok Fu (by omega) _ hti.1]
      simp only [Option.bind_some]
      rw [sapp_k _ _ (by simp; omega)]
      simp only [Option.bind_some]
      rw [sapp_k _ _ (by simp; omega)]
      simp only [Option.bind_some]
      rw [dig_ok Fu (by omega) _ hti.2.1]
      simp only [Option.bind_some]
      rw [sapp_k _ _ (by simp; omega)]
      simp only [Option.bind_some]
      rw [sapp_k _ _ (by simp; omega)]
      simp only [Option.bind_some]
      rw [dig_ok Fu (by omega) _ hti.2.2.1]
      simp only [Option.bind_some]
      rw [sapp_k _ _ (by simp; omega)]
      simp only [Option.bind_some]
      rw [sapp_k _ _ (by simp; omega)]
      simp only [Option.bind_some]
      rw [rLive Fu x (by omega) hF]
      simp only [Option.bind_some]
      rw [dig_ok Fu (by omega) _ (live_r hti)]
      simp only [Option.bind_some]
      rw [sapp_k _ _ (by simp; omega)]
      simp only [Option.bind_some]
      rw [sapp_k _ _ (by simp; omega)]
      simp only [Option.bind_some]
      rw [rExt Fu _ (by omega) hF]
      simp only [Option.bind_some]
      by_cases hz : 0 < (exT x.2.2.2.2.1).length
      · rw [if_pos (by omega), sapp_k _ _ (by simp; omega)]
        simp only [Option.bind_some]
        rw [sapp_k _ _ (by simp; omega)]
        simp only [Option.bind_some]
        rw [sapp_k _ _ (by simp; omega)]
        simp only [Option.bind_some]
        rw [w_sm (by omega), show ((i : Int) + 1) = ((i + 1 : Nat) : Int) by omega]
        congr 1
        unfold spL
        rw [if_pos hz]
        simp only [List.append_assoc, List.cons_append, List.nil_append]
      · rw [if_neg (by omega)]
        simp only [Option.bind_some]
        rw [sapp_k _ _ (by simp; omega)]
        simp only [Option.bind_some]
        rw [w_sm (by omega), show ((i : Int) + 1) = ((i + 1 : Nat) : Int) by omega]
        congr 1
        unfold spL
        rw [if_neg hz]
        simp only [List.append_assoc, List.cons_append, List.nil_append])
    (fun k q hq => by
      show chatelaineref42_Text_l2 Fu s (k + 1) q _ = _
      rw [chatelaineref42_Text_l2, if_neg (by omega)]; rfl) Fu acc (by omega) (by show acc.length ≤ _; omega)
  try dsimp only at h
  have hf : ∀ (l : List SpT) (q : List UInt8), l.foldl (fun q t => q ++ spL t) q = q ++ l.flatMap spL := by
    intro l
    induction l with
    | nil => intro q; simp
    | cons x l ih => intro q; rw [List.foldl_cons, ih, List.flatMap_cons]; simp
  rw [h]
  exact congrArg some (hf _ _)
def txt (s : StT) : List UInt8 := ([115, 101, 113, 32] : List UInt8) ++ Lib.itoa s.1 ++ ([10, 104, 101, 97, 100, 32] : List UInt8) ++ hexL s.2.1 ++ ([10] : List UInt8) ++ s.2.2.1.flatMap tnL ++ s.2.2.2.flatMap spL
theorem flatM_len {α : Type} (f : α → List UInt8) (n : Nat) : ∀ l : List α, (∀ x ∈ l, (f x).length ≤ n) → (l.flatMap f).length ≤ n * l.length
  | [], _ => by simp
  | x :: l, h => by
    have h1 := h x (by simp)
    have h2 := flatM_len f n l (fun y hy => h y (by simp [hy]))
    rw [List.flatMap_cons, List.length_append, List.length_cons, Nat.mul_succ]; omega
theorem cText (Fu : Nat) (hF : 2000 ≤ Fu) (s : StT) (h0 : r64 s.1) (hh : s.2.1.length = 32) (ht : s.2.2.1.length ≤ 20) (hs : s.2.2.2.length ≤ 20) (hrt : ∀ t ∈ s.2.2.1, r64T t) (hrs : ∀ t ∈ s.2.2.2, okS t) : show_Text Fu s = some (txt s) := by
  have h1 := itoa20 h0
  have hx := hexL_len s.2.1
  unfold show_Text
  rw [itoaC]
  simp only [Option.bind_some]
  have e1 : Lib.join [([115, 101, 113] : List UInt8), Lib.itoa s.1] [32] = ([115, 101, 113, 32] : List UInt8) ++ Lib.itoa s.1 := by rw [Lib.join_cons]; unfold Lib.joinTail; simp
  have e2 : Lib.join [([104, 101, 97, 100] : List UInt8), hexL s.2.1] [32] = ([104, 101, 97, 100, 32] : List UInt8) ++ hexL s.2.1 := by rw [Lib.join_cons]; unfold Lib.joinTail; simp
  rw [lineC Fu false [] _ (by simp) (by rw [e1]; simp; omega), e1]
  simp only [Option.bind_some]
  rw [hexC Fu (by omega) _ hh]
  simp only [Option.bind_some]
  rw [lineC Fu true _ _ (by simp) (by rw [e2]; simp; omega), e2]
  simp only [Option.bind_some]
  obtain ⟨b1, g1⟩ := cTn Fu hF s ht hrt true (([] : List UInt8) ++ (([115, 101, 113, 32] : List UInt8) ++ Lib.itoa s.1 ++ [10]) ++ (([104, 101, 97, 100, 32] : List UInt8) ++ hexL s.2.1 ++ [10])) (by simp; omega)
  rw [g1]
  simp only [Option.bind_some]
  have hfl := flatM_len tnL 100 s.2.2.1 (fun t h => tnL_len (hrt t h))
  obtain ⟨b2, g2⟩ := cSp Fu hF s hs hrs b1 (([] : List UInt8) ++ (([115, 101, 113, 32] : List UInt8) ++ Lib.itoa s.1 ++ [10]) ++ (([104, 101, 97, 100, 32] : List UInt8) ++ hexL s.2.1 ++ [10]) ++ s.2.2.1.flatMap tnL) (by simp only [List.length_append, List.length_cons, List.length_nil]; omega)
  rw [g2]
  simp only [Option.bind_some]
  show some _ = some _
  congr 1
  unfold txt
  simp only [List.append_assoc, List.cons_append, List.nil_append]
theorem rText (Fu : Nat) (hF : 2000 ≤ Fu) (s : StT) (h0 : r64 s.1) (hh : s.2.1.length = 32) (ht : s.2.2.1.length ≤ 20) (hs : s.2.2.2.length ≤ 20) (hrt : ∀ t ∈ s.2.2.1, r64T t) (hrs : ∀ t ∈ s.2.2.2, okS t) : chatelaineref42_Text Fu s = some (txt s) := by
  have h1 := itoa20 h0
  have hx := hexL_len s.2.1
  unfold chatelaineref42_Text
  rw [dig_ok Fu (by omega) _ h0]
  simp only [Option.bind_some]
  rw [sapp_k _ _ (by simp; omega)]
  simp only [Option.bind_some]
  rw [sapp_k _ _ (by simp; omega)]
  simp only [Option.bind_some]
  have hr := rHex Fu s hh 32 0 Fu (([115, 101, 113, 32] : List UInt8) ++ Lib.itoa s.1 ++ [10, 104, 101, 97, 100, 32]) (by omega) (by omega) (by simp; omega)
  rw [List.drop_zero, show ((0 : Nat) : Int) = 0 from rfl] at hr
  rw [hr]
  simp only [Option.bind_some]
  rw [sapp_k _ _ (by simp; omega)]
  simp only [Option.bind_some]
  rw [rTn Fu hF s ht hrt _ (by simp; omega)]
  simp only [Option.bind_some]
  have hfl := flatM_len tnL 100 s.2.2.1 (fun t h => tnL_len (hrt t h))
  rw [rSp Fu hF s hs hrs _ (by simp only [List.length_append, List.length_cons, List.length_nil]; omega)]
  rfl
def bigS (x : SpT) : Bool := (decide (40 < (x.2.2.2.2.1.length : Int))) || (decide (200 < (x.2.2.2.2.2.2.length : Int)))
theorem texts_ok (s : StT) (h : (tyP tyI (tyP (tyA 32 ty8) (tyP (tyL (tyP tyI (tyP tyI (tyP tyI (tyA 32 ty8))))) (tyL (tyP tyI (tyP tyI (tyP tyI (tyP (tyL ty8) (tyP (tyL (tyP tyI tyI)) (tyP (tyL (tyL ty8)) (tyL (tyA 32 ty8)))))))))))).has s) : chatelainelaw42_ShowTexts 2000 s = some true := by
  obtain ⟨h1, h⟩ := has_P h
  obtain ⟨h2, h⟩ := has_P h
  obtain ⟨h3, h4⟩ := has_P h
  have h0 := has_I h1
  have hh := (has_A h2).1
  have hrt : ∀ t ∈ s.2.2.1, r64T t := fun t ht => by
    have := (has_L h3).2 t ht
    obtain ⟨g1, g⟩ := has_P this
    obtain ⟨g2, g⟩ := has_P g
    exact ⟨has_I g1, has_I g2, has_I (has_P g).1⟩
  have hr3 : ∀ t ∈ s.2.2.2, r64 t.1 ∧ r64 t.2.1 ∧ r64 t.2.2.1 := fun t ht => by
    have := (has_L h4).2 t ht
    obtain ⟨g1, g⟩ := has_P this
    obtain ⟨g2, g⟩ := has_P g
    exact ⟨has_I g1, has_I g2, has_I (has_P g).1⟩
  unfold chatelainelaw42_ShowTexts
  rw [awake42]
  simp only [Option.bind_some, Bool.not_true, Bool.false_eq_true, if_false]
  by_cases hc : ((decide (20 < (s.2.2.1.length : Int))) || (decide (20 < (s.2.2.2.length : Int)))) = true
  · rw [if_pos hc]
  rw [if_neg hc]
  simp only [Bool.or_eq_true, decide_eq_true_eq, not_or] at hc
  have hl := loopE0 s.2.2.2 (fun k i => chatelainelaw42_ShowTexts_l0 2000 s k i) (fun x => if bigS x = true then some (.inl true) else none) (.inr ())
    (fun k i hi => by
      show chatelainelaw42_ShowTexts_l0 2000 s (k + 1) (i : Int) = _
      rw [chatelainelaw42_ShowTexts_l0, if_pos (by omega), idx_at hi]
      generalize s.2.2.2[i] = x
      simp only [Option.bind_some]
      by_cases hb : bigS x = true
      · have hb2 := hb
        unfold bigS at hb2
        rw [if_pos hb2]
        simp only [Option.bind_some, if_true]
        rw [hb2, if_pos hb]
      · have hb2 := hb
        unfold bigS at hb2
        rw [if_neg hb2, if_neg hb]
        simp only [Bool.or_eq_true, decide_eq_true_eq, not_or] at hb2
        rw [cLive 2000 x (by omega) (by omega)]
        simp only [Option.bind_some]
        rw [rLive 2000 x (by omega) (by omega)]
        simp only [Option.bind_some, ne_eq, not_true_eq_false, decide_false, Bool.false_eq_true, if_false]
        rw [cExt 2000 _ (by omega) (by omega)]
        simp only [Option.bind_some]
        rw [rExt 2000 _ (by omega) (by omega)]
        simp only [Option.bind_some, decide_true, Bool.not_true, Bool.false_eq_true, if_false]
        rw [w_sm (by omega), show ((i : Int) + 1) = ((i + 1 : Nat) : Int) by omega])
    (fun k => by
      show chatelainelaw42_ShowTexts_l0 2000 s (k + 1) _ = _
      rw [chatelainelaw42_ShowTexts_l0, if_neg (by omega)]) 2000 (by omega)
  try dsimp only at hl
  rw [hl]
  simp only [Option.bind_some]
  cases hfs : s.2.2.2.findSome? (fun x => if bigS x = true then some (Sum.inl true : Sum Bool Unit) else none) with
  | some v =>
    obtain ⟨x, _, hx⟩ := List.exists_of_findSome?_eq_some hfs
    split at hx
    · obtain rfl := Option.some.inj hx; rfl
    · cases hx
  | none =>
    rw [List.findSome?_eq_none_iff] at hfs
    have hrs : ∀ t ∈ s.2.2.2, okS t := fun t ht => by
      have h5 := hfs t ht
      have h6 := hr3 t ht
      have hb : ¬ bigS t = true := fun hb => by rw [if_pos hb] at h5; cases h5
      unfold bigS at hb
      simp only [Bool.or_eq_true, decide_eq_true_eq, not_or] at hb
      exact ⟨h6.1, h6.2.1, h6.2.2, by omega, by omega⟩
    dsimp only [Option.getD_none]
    rw [cText 2000 (by omega) s h0 hh (by omega) (by omega) hrt hrs]
    simp only [Option.bind_some]
    rw [rText 2000 (by omega) s h0 hh (by omega) (by omega) hrt hrs]
    simp
theorem chatelainelaw42_ShowTexts_true (a0 : StT) (h0 : (tyP tyI (tyP (tyA 32 ty8) (tyP (tyL (tyP tyI (tyP tyI (tyP tyI (tyA 32 ty8))))) (tyL (tyP tyI (tyP tyI (tyP tyI (tyP (tyL ty8) (tyP (tyL (tyP tyI tyI)) (tyP (tyL (tyL ty8)) (tyL (tyA 32 ty8)))))))))))).has a0) : ∃ Fu, chatelainelaw42_ShowTexts Fu a0 = some true := ⟨2000, texts_ok a0 h0⟩
end Go.Proofs.YtnmeelkfpmodgaaDoor
