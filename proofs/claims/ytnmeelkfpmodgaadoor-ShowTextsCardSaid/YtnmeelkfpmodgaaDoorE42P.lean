/- The statement ShowParses, told over lists. -/
import Derived.Test.YtnmeelkfpmodgaaDoorE42E
import Derived.Test.YtnmeelkfpmodgaaDoorE42N
import Derived.Test.YtnmeelkfpmodgaaDoorSf
set_option linter.unusedVariables false
set_option linter.unusedSimpArgs false
namespace Go.Proofs.YtnmeelkfpmodgaaDoor
open Go.RowKit
def nm7 (s : List UInt8) : Int × Bool := if num7 s = true then ((val s : Int), decide (val s < 1048576)) else (0, false)
def oneV (w : List UInt8) : (Int × Int) × Bool :=
  let c := Lib.cut w [45]
  if ((!(nm7 c.1).2) || (!c.2.2)) = true then (((nm7 c.1).1, 1), (nm7 c.1).2) else (((nm7 c.1).1, (nm7 c.2.1).1 - (nm7 c.1).1 + 1), (nm7 c.2.1).2 && decide ((nm7 c.1).1 < (nm7 c.2.1).1))
theorem nm7_le (s : List UInt8) : 0 ≤ (nm7 s).1 ∧ (nm7 s).1 < 10000000 := by
  unfold nm7
  split
  · rename_i h
    unfold num7 at h
    simp only [Bool.and_eq_true, decide_eq_true_eq] at h
    have h1 := val_lt s.length s rfl h.2
    have h2 : 10 ^ s.length ≤ 10000000 := Nat.pow_le_pow_right (by omega) (show s.length ≤ 7 from h.1.1.2)
    dsimp only
    omega
  · simp
theorem one_ok (Fu : Nat) (hF : 10 ≤ Fu) (w : List UInt8) (hw : w.length ≤ 1000) : show_one Fu w = some (oneV w) := by
  unfold show_one oneV
  rw [cutC Fu w 45 (by omega)]
  simp only [Option.bind_some]
  rw [number_ok Fu hF]
  simp only [Option.bind_some]
  show (if ((!(nm7 (Lib.cut w [45]).1).2) || (!(Lib.cut w [45]).2.2)) = true then _ else _) = _
  by_cases h : ((!(nm7 (Lib.cut w [45]).1).2) || (!(Lib.cut w [45]).2.2)) = true
  · rw [if_pos h, if_pos h]; rfl
  · rw [if_neg h, if_neg h, number_ok Fu hF]
    simp only [Option.bind_some]
    have h1 := nm7_le (Lib.cut w [45]).1
    have h2 := nm7_le (Lib.cut w [45]).2.1
    show some (((nm7 (Lib.cut w [45]).1).1, w64 ((w64 ((nm7 (Lib.cut w [45]).2.1).1 - (nm7 (Lib.cut w [45]).1).1)) + 1)), _) = _
    rw [w64_of (x := (nm7 (Lib.cut w [45]).2.1).1 - (nm7 (Lib.cut w [45]).1).1) (by omega), w64_of (by omega)]; rfl
theorem nm7_true {s : List UInt8} (h : (nm7 s).2 = true) : num7 s = true ∧ (nm7 s).1 = val s ∧ val s < 1048576 := by
  unfold nm7 at h ⊢
  split at h
  · rename_i hn; rw [if_pos hn]; exact ⟨hn, rfl, by simpa using h⟩
  · cases h
/-- what is taken as an extent is one that may be, and its text -/
theorem one_text {w : List UInt8} (h : (oneV w).2 = true) : mayB (oneV w).1 = true ∧ exW (oneV w).1 = w := by
  unfold oneV at h ⊢
  dsimp only at h ⊢
  rcases cut_cases 45 w with hn | ⟨a, b, rfl, ha⟩
  · rw [cut_miss hn] at h ⊢
    dsimp only at h ⊢
    rw [if_pos (by simp)] at h ⊢
    obtain ⟨h1, h2, h3⟩ := nm7_true h
    refine ⟨mayB_iff.2 (by dsimp only; omega), ?_⟩
    unfold exW
    dsimp only
    rw [if_neg (by omega), h2, itoa_nat, dec_of _ w rfl h1, List.append_nil]
  · rw [cut_hit b ha] at h ⊢
    dsimp only at h ⊢
    by_cases hc : ((!(nm7 a).2) || (!true)) = true
    · rw [if_pos hc] at h
      simp at hc
      rw [hc] at h; cases h
    · rw [if_neg hc] at h ⊢
      simp at hc
      simp only [Bool.and_eq_true, decide_eq_true_eq] at h
      obtain ⟨h1, h2, h3⟩ := nm7_true hc
      obtain ⟨h4, h5, h6⟩ := nm7_true h.1
      refine ⟨mayB_iff.2 (by dsimp only; omega), ?_⟩
      unfold exW
      dsimp only
      rw [if_pos (by omega), show (nm7 a).1 + ((nm7 b).1 - (nm7 a).1 + 1) - 1 = (nm7 b).1 by omega, h2, h5, itoa_nat, itoa_nat, dec_of _ a rfl h1, dec_of _ b rfl h4]
theorem nm7_dec {n : Nat} (h : n < 1048576) : nm7 (Lib.decDigits n) = ((n : Int), true) := by
  have := num7_dec (n := n) (by omega)
  unfold nm7
  rw [if_pos this.1, this.2]; simp [h]
theorem no45 {n : Nat} (h : n < 10000000) : (45 : UInt8) ∉ Lib.decDigits n := fun hm => by
  have := dec_chars h _ hm
  have e : (45 : UInt8).toNat = 45 := rfl
  omega
theorem no32 {n : Nat} (h : n < 10000000) : (32 : UInt8) ∉ Lib.decDigits n := fun hm => by
  have := dec_chars h _ hm
  have e : (32 : UInt8).toNat = 32 := rfl
  omega
theorem exW_eq {x : Int × Int} (h : mayB x = true) : exW x = Lib.decDigits x.1.toNat ++ (if 1 < x.2 then 45 :: Lib.decDigits (x.1 + x.2 - 1).toNat else []) := by
  have h := mayB_iff.1 h
  unfold exW
  rw [show x.1 = ((x.1.toNat : Nat) : Int) by omega, itoa_nat, Int.toNat_natCast]
  split
  · rw [show ((x.1.toNat : Nat) : Int) + x.2 - 1 = (((((x.1.toNat : Nat) : Int) + x.2 - 1).toNat : Nat) : Int) by omega, itoa_nat, Int.toNat_natCast]
  · rfl
theorem one_exW {x : Int × Int} (h : mayB x = true) : oneV (exW x) = (x, true) := by
  have h2 := mayB_iff.1 h
  rw [exW_eq h]
  unfold oneV
  dsimp only
  by_cases h1 : 1 < x.2
  · rw [if_pos h1, cut_hit _ (no45 (by omega))]
    dsimp only
    rw [nm7_dec (by omega), nm7_dec (by omega), if_neg (by simp)]
    dsimp only
    refine Prod.ext (Prod.ext ?_ ?_) ?_
    · dsimp only; omega
    · dsimp only; omega
    · dsimp only; simp; omega
  · rw [if_neg h1, List.append_nil, cut_miss (no45 (by omega))]
    dsimp only
    rw [nm7_dec (by omega), if_pos (by simp)]
    refine Prod.ext (Prod.ext ?_ ?_) rfl
    · dsimp only; omega
    · dsimp only; omega
theorem exW_no32 {x : Int × Int} (h : mayB x = true) : (32 : UInt8) ∉ exW x := by
  have h2 := mayB_iff.1 h
  rw [exW_eq h]
  intro hm
  rcases List.mem_append.1 hm with hm | hm
  · exact no32 (by omega) hm
  · split at hm
    · rcases List.mem_cons.1 hm with hm | hm
      · revert hm; decide
      · exact no32 (by omega) hm
    · cases hm
theorem ps0 (Fu : Nat) (hF : 10 ≤ Fu) (ws : List (List UInt8)) (hl : ws.length ≤ 2000) (hw : ∀ w ∈ ws, w.length ≤ 1000) : ∀ (d i k : Nat) (acc : List (Int × Int)), i + d = ws.length → d < k → acc.length ≤ i →
    show_Parse_l0 Fu ws k acc (i : Int) = some (if (ws.drop i).all (fun w => (oneV w).2) = true then .inr (acc ++ (ws.drop i).map fun w => (oneV w).1) else .inl ([], false)) := by
  intro d
  induction d with
  | zero =>
    intro i k acc hi hk ha
    obtain ⟨k, rfl⟩ : ∃ m, k = m + 1 := ⟨k - 1, by omega⟩
    rw [show_Parse_l0, if_neg (by omega), List.drop_of_length_le (by omega)]; simp
  | succ d ih =>
    intro i k acc hi hk ha
    obtain ⟨k, rfl⟩ : ∃ m, k = m + 1 := ⟨k - 1, by omega⟩
    have hlt : i < ws.length := by omega
    rw [show_Parse_l0, if_pos (by omega), ix_nat hlt]
    simp only [Option.bind_some]
    rw [List.getElem?_eq_getElem hlt]
    simp only [Option.bind_some]
    rw [one_ok Fu hF _ (hw _ (List.getElem_mem _)), List.drop_eq_getElem_cons hlt, List.all_cons, List.map_cons]
    simp only [Option.bind_some]
    cases ho : (oneV ws[i]).2 with
    | false => simp
    | true =>
      rw [if_neg (by decide), appk 16 _ _ (by omega) (by simp; omega)]
      simp only [Option.bind_some, Bool.true_and]
      rw [w_sm (by omega), show ((i : Int) + 1) = ((i + 1 : Nat) : Int) by omega, ih (i + 1) k _ (by omega) (by omega) (by simp; omega), List.append_assoc]; rfl
def prs (s : List UInt8) : List (Int × Int) × Bool :=
  if s = [] then ([], true) else if (spl 32 s).all (fun w => (oneV w).2) = true then ((spl 32 s).map fun w => (oneV w).1, true) else ([], false)
theorem prs_ok (Fu : Nat) (hF : 2000 ≤ Fu) (s : List UInt8) (hs : s.length ≤ 1000) : show_Parse Fu s = some (prs s) := by
  unfold show_Parse prs
  by_cases h0 : s = []
  · rw [if_pos h0, if_pos h0]
  · have h1 := spl_len 32 s
    rw [if_neg h0, if_neg h0, splitC Fu s 32 (by omega)]
    simp only [Option.bind_some]
    rw [if_neg (by omega)]
    have := ps0 Fu (by omega) (spl 32 s) (by omega) (fun w hw => Nat.le_trans (spl_mem_len 32 s w hw) hs) (spl 32 s).length 0 Fu [] (by omega) (by omega) (by simp)
    rw [show ((0 : Nat) : Int) = 0 from rfl, List.drop_zero, List.nil_append] at this
    rw [this]
    simp only [Option.bind_some]
    by_cases ha : (spl 32 s).all (fun w => (oneV w).2) = true
    · rw [if_pos ha, if_pos ha]
    · rw [if_neg ha, if_neg ha]
theorem prs_may {s : List UInt8} : ∀ x ∈ (prs s).1, mayB x = true := by
  unfold prs
  intro x hx
  split at hx
  · cases hx
  · split at hx
    · rename_i ha
      obtain ⟨w, hw, rfl⟩ := List.mem_map.1 hx
      exact (one_text (List.all_eq_true.1 ha w hw)).1
    · cases hx
theorem prs_text {s : List UInt8} (h : (prs s).2 = true) : exT (prs s).1 = s := by
  unfold exT
  rw [List.filter_eq_self.2 prs_may]
  unfold prs at h ⊢
  by_cases h0 : s = []
  · subst h0; rw [if_pos rfl]; rfl
  · rw [if_neg h0] at h ⊢
    by_cases ha : (spl 32 s).all (fun w => (oneV w).2) = true
    · rw [if_pos ha, List.map_map]
      have : (spl 32 s).map (exW ∘ fun w => (oneV w).1) = spl 32 s := by
        conv => rhs; rw [← List.map_id (spl 32 s)]
        refine List.map_congr_left fun w hw => ?_
        exact (one_text (List.all_eq_true.1 ha w hw)).2
      rw [this, join_spl]
    · rw [if_neg ha] at h; cases h
theorem prs_exT (l : List (Int × Int)) : prs (exT l) = (l.filter mayB, true) := by
  have hm : ∀ x ∈ l.filter mayB, mayB x = true := fun x hx => (List.mem_filter.1 hx).2
  unfold exT
  generalize l.filter mayB = g at *
  unfold prs
  obtain _ | ⟨x, r⟩ := g
  · rfl
  · have hne : Lib.join ((x :: r).map exW) [32] ≠ [] := by
      rw [List.map_cons, Lib.join_cons]
      have := (exW_len (hm x (by simp))).2
      intro e
      have h0 := congrArg List.length e
      rw [List.length_append, List.length_nil] at h0
      omega
    rw [if_neg hne, spl_join 32 _ (by simp) (fun w hw => by
      obtain ⟨y, hy, rfl⟩ := List.mem_map.1 hw
      exact exW_no32 (hm y hy))]
    have ha : ((x :: r).map exW).all (fun w => (oneV w).2) = true := List.all_eq_true.2 fun w hw => by
      obtain ⟨y, hy, rfl⟩ := List.mem_map.1 hw
      rw [one_exW (hm y hy)]
    rw [if_pos ha, List.map_map]
    congr 1
    conv => rhs; rw [← List.map_id (x :: r)]
    refine List.map_congr_left fun y hy => ?_
    simp only [Function.comp_apply, one_exW (hm y hy), id]
theorem prs_len (s : List UInt8) : (prs s).1.length ≤ s.length + 1 := by
  unfold prs
  split
  · simp
  · split
    · have := spl_len 32 s; simpa using this
    · simp
theorem same14 (Fu : Nat) (a : List (Int × Int)) (h : a.length < Fu) (hl : a.length ≤ 1000000) : chatelaineref14_Same Fu a a = some true := by
  unfold chatelaineref14_Same
  rw [if_neg (by simp)]
  have := loopE0 a (fun k i => chatelaineref14_Same_l0 Fu a a k i) (fun _ => none) (.inr ())
    (fun k i hi => by
      show chatelaineref14_Same_l0 Fu a a (k + 1) (i : Int) = _
      rw [chatelaineref14_Same_l0, if_pos (by omega), idx_at hi]
      simp only [Option.bind_some]
      rw [if_neg (by simp), w_sm (by omega), show ((i : Int) + 1) = ((i + 1 : Nat) : Int) by omega])
    (fun k => by
      show chatelaineref14_Same_l0 Fu a a (k + 1) _ = _
      rw [chatelaineref14_Same_l0, if_neg (by omega)]) Fu h
  try dsimp only at this
  rw [this]
  have hn : a.findSome? (fun _ => (none : Option (Sum Bool Unit))) = none := by simp
  rw [hn]; rfl
theorem awake42 : chatelainelaw42_awake 2000 = some true := by
  unfold chatelainelaw42_awake
  rw [cExt 2000 _ (by simp) (by omega)]
  simp only [Option.bind_some]
  congr 1
  have e : exT [(3, 3), (9, 1)] = ([51, 45, 53, 32, 57] : List UInt8) := by
    have e3 : Lib.itoa 3 = [51] := by rw [show (3 : Int) = ((3 : Nat) : Int) from rfl, itoa_nat, Lib.decDigits_one (by omega)]; rfl
    have e5 : Lib.itoa 5 = [53] := by rw [show (5 : Int) = ((5 : Nat) : Int) from rfl, itoa_nat, Lib.decDigits_one (by omega)]; rfl
    have e9 : Lib.itoa 9 = [57] := by rw [show (9 : Int) = ((9 : Nat) : Int) from rfl, itoa_nat, Lib.decDigits_one (by omega)]; rfl
    unfold exT
    rw [show ([(3, 3), (9, 1)] : List (Int × Int)).filter mayB = [(3, 3), (9, 1)] by decide]
    simp only [List.map_cons, List.map_nil, exW]
    rw [show (3 : Int) + 3 - 1 = 5 by decide, e3, e5, e9]
    rfl
  rw [e]; rfl
theorem parses_ok (s : List UInt8) (l : List (Int × Int)) : chatelainelaw42_ShowParses 2000 s l = some true := by
  unfold chatelainelaw42_ShowParses
  rw [awake42]
  simp only [Option.bind_some, Bool.not_true, Bool.false_eq_true, if_false]
  by_cases hs : ((decide (300 < (s.length : Int))) || (decide (40 < (l.length : Int)))) = true
  · rw [if_pos hs]
  rw [if_neg hs]
  simp at hs
  have hpl := prs_len s
  rw [prs_ok 2000 (by omega) s (by omega)]
  simp only [Option.bind_some]
  have h1 : ((!(prs s).2) && (decide (0 < ((prs s).1.length : Int)))) = false := by
    cases hp : (prs s).2 with
    | true => rfl
    | false =>
      have : (prs s).1 = [] := by
        unfold prs at hp ⊢
        split at hp
        · cases hp
        · rename_i h0
          split at hp
          · cases hp
          · rename_i ha; rw [if_neg h0, if_neg ha]
      rw [this]; rfl
  rw [h1, if_neg (by decide)]
  have h2 := loopE0 (prs s).1 (fun k i => chatelainelaw42_ShowParses_l0 2000 (prs s) k i) (fun x => if mayB x = true then none else some (.inl false)) (.inr ())
    (fun k i hi => by
      show chatelainelaw42_ShowParses_l0 2000 (prs s) (k + 1) (i : Int) = _
      rw [chatelainelaw42_ShowParses_l0, if_pos (by omega), ix_nat hi]
      simp only [Option.bind_some]
      rw [List.getElem?_eq_getElem hi]
      simp only [Option.bind_some]
      rw [rMay]
      simp only [Option.bind_some]
      cases mayB (prs s).1[i] with
      | true => rw [if_neg (by decide), if_pos rfl]; dsimp only; rw [w_sm (by omega), show ((i : Int) + 1) = ((i + 1 : Nat) : Int) by omega]
      | false => rw [if_pos (by decide), if_neg (by decide)])
    (fun k => by
      show chatelainelaw42_ShowParses_l0 2000 (prs s) (k + 1) _ = _
      rw [chatelainelaw42_ShowParses_l0, if_neg (by omega)]) 2000 (by omega)
  try dsimp only at h2
  have hnone : (prs s).1.findSome? (fun x => if mayB x = true then (none : Option (Sum Bool Unit)) else some (.inl false)) = none := by
    rw [List.findSome?_eq_none_iff]
    intro x hx
    rw [if_pos (prs_may x hx)]
  rw [h2, hnone]
  simp only [Option.getD_none, Option.bind_some]
  have h3 : (if (prs s).2 = true then (chatelaineref42_Extents 2000 (prs s).1).bind fun x46 => some (!(decide (x46 = s))) else some false) = some false := by
    by_cases hp : (prs s).2 = true
    · rw [if_pos hp, rExt 2000 _ (by omega) (by omega), prs_text hp]; simp
    · rw [if_neg hp]
  rw [h3]
  simp only [Option.bind_some, Bool.false_eq_true, if_false]
  have h4 := loopM0 l (fun acc x => if mayB x = true then acc ++ [x] else acc) (fun k a i => chatelainelaw42_ShowParses_l1 2000 l k a i) id (fun i a => a.length ≤ i)
    (fun k a i hi ha => by
      have ha : a.length ≤ i := ha
      refine ⟨?_, by show (if mayB l[i] = true then a ++ [l[i]] else a).length ≤ i + 1; split <;> (try simp only [List.length_append, List.length_cons, List.length_nil]) <;> omega⟩
      show chatelainelaw42_ShowParses_l1 2000 l (k + 1) a (i : Int) = _
      rw [chatelainelaw42_ShowParses_l1, if_pos (by omega), idx_at hi]
      simp only [Option.bind_some]
      rw [rMay]
      simp only [Option.bind_some]
      by_cases hm : mayB l[i] = true
      · rw [if_pos hm, if_pos hm, appk 16 _ _ (by omega) (by simp; omega)]
        simp only [Option.bind_some]
        rw [w_sm (by omega), show ((i : Int) + 1) = ((i + 1 : Nat) : Int) by omega]
      · rw [if_neg hm, if_neg hm]
        simp only [Option.bind_some]
        rw [w_sm (by omega), show ((i : Int) + 1) = ((i + 1 : Nat) : Int) by omega])
    (fun k a ha => by
      show chatelainelaw42_ShowParses_l1 2000 l (k + 1) a _ = _
      rw [chatelainelaw42_ShowParses_l1, if_neg (by omega)]; rfl) 2000 [] (by omega) (by simp)
  try dsimp only at h4
  have hfold : ∀ (l acc : List (Int × Int)), l.foldl (fun acc x => if mayB x = true then acc ++ [x] else acc) acc = acc ++ l.filter mayB := by
    intro l
    induction l with
    | nil => intro acc; simp
    | cons x l ih =>
      intro acc
      rw [List.foldl_cons, ih, List.filter_cons]
      by_cases h : mayB x = true
      · rw [if_pos h, if_pos h, List.append_assoc]; rfl
      · rw [if_neg h, if_neg h]
  rw [h4, hfold, List.nil_append]
  simp only [Option.bind_some, id]
  have hg := List.length_filter_le mayB l
  have hel := exJ_len l
  rw [cExt 2000 l (by omega) (by omega)]
  simp only [Option.bind_some]
  rw [prs_ok 2000 (by omega) _ (by omega), prs_exT]
  simp only [Option.bind_some]
  rw [rExt 2000 _ (by omega) (by omega)]
  simp only [Option.bind_some]
  have he : exT (l.filter mayB) = exT l := by unfold exT; rw [List.filter_filter]; simp
  rw [he, if_pos (by simp), same14 2000 _ (by omega) (by omega)]
  rfl
theorem chatelainelaw42_ShowParses_true (a0 : List UInt8) (h0 : a0.length ≤ maxLen) (a1 : List (Int × Int)) (h1 : ∀ x ∈ a1, (tyP tyI tyI).has x) : ∃ Fu, chatelainelaw42_ShowParses Fu a0 a1 = some true := ⟨2000, parses_ok a0 a1⟩
end Go.Proofs.YtnmeelkfpmodgaaDoor
