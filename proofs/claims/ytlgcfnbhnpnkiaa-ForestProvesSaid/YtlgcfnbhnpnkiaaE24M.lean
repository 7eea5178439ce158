/- Pt, Pl, Big2, Mk6, Hw, Fk, Mk7, E24C, Fl, E24D together. -/
import Derived.Test.YtlgcfnbhnpnkiaaPc
import Derived.Test.YtlgcfnbhnpnkiaaBig
import Derived.Test.YtlgcfnbhnpnkiaaMk3
import Derived.Test.YtlgcfnbhnpnkiaaHb
import Derived.Test.YtlgcfnbhnpnkiaaFs
import Derived.Test.YtlgcfnbhnpnkiaaE24A
import Derived.Test.YtlgcfnbhnpnkiaaFh
set_option linter.unusedVariables false
set_option linter.unusedSimpArgs false
namespace Go.Proofs.Ytlgcfnbhnpnkiaa
open Go.RowKit
section
def Snap.less (S : Snap) (b : Nat) : Snap := fun k => if k = b then none else S k
theorem Snap.less_le (S : Snap) (b : Nat) : (S.less b).le S := fun k o h => by
  unfold Snap.less at h
  split at h
  · cases h
  · exact h
theorem Snap.less_none (S : Snap) (b : Nat) : S.less b b = none := by unfold Snap.less; rw [if_pos rfl]
theorem Snap.le_less {S S' : Snap} {b : Nat} (h : S.le S') (hb : S b = none) : S.le (S'.less b) := fun k o hk => by
  unfold Snap.less
  split
  · rename_i e; rw [e, hb] at hk; cases hk
  · exact h k o hk
theorem Mem.thaw {w0 w : World} {B : Nat → Prop} {L : List Ch} {S : Snap} (h : Mem w0 B L w) {i b : Nat} {o : Obj} (hi : L[i]? = some (.sn S)) (ho : S b = some o) (hb : B b ∨ w0.heap.size ≤ b) (hn : ∀ (j : Nat) (y : Ch), j ≠ i → L[j]? = some y → ∀ k, y.use k → y.own k) : Mem w0 B (.obj b o :: L.set i (.sn (S.less b))) w := by
  have hw : SnapOK S w := h.snOK hi
  refine (h.snLe i hi (S.less_le b)).add (x := .obj b o) (hw b o ho) (fun k hk => by rw [show k = b from hk]; exact hb) (fun j y hy => ?_)
  by_cases e : j = i
  · subst e
    rw [List.getElem?_set_self (List.getElem?_eq_some_iff.1 hi).1] at hy
    obtain rfl := Option.some.inj hy
    intro k
    refine ⟨fun ⟨h1, o', h2⟩ => ?_, fun ⟨h1, _⟩ => h1⟩
    rw [show k = b from h1, S.less_none] at h2
    cases h2
  · rw [List.getElem?_set_ne (fun z => e z.symm)] at hy
    have := h.apart i j _ _ (fun z => e z.symm) hi hy
    intro k
    refine ⟨fun ⟨h1, h2⟩ => ?_, fun ⟨h1, h2⟩ => ?_⟩
    · have h3 : k = b := h1
      subst h3
      exact (this k).2 ⟨hn j y e hy k h2, o, ho⟩
    · have h3 : k = b := h2
      subst h3
      exact (this k).2 ⟨h1, o, ho⟩
end
section
abbrev SpL := Int × Int × Int × (List UInt8) × (List (Int × Int)) × (List (List UInt8)) × (List (List UInt8))
abbrev tSpL : Ty SpL := tyP tyI (tyP tyI (tyP tyI (tyP (tyL ty8) (tyP (tyL (tyP tyI tyI)) (tyP (tyL (tyL ty8)) (tyL (tyA 32 ty8)))))))
def sumsL (x : SpL) : List (List UInt8) := x.2.2.2.2.2.2
def setSums (x : SpL) (l : List (List UInt8)) : SpL := (x.1, x.2.1, x.2.2.1, x.2.2.2.1, x.2.2.2.2.1, x.2.2.2.2.2.1, l)
def ne0 {α : Type} (l : List α) : Option Unit := if l.length = 0 then none else some ()
theorem ne0_some {α : Type} {l : List α} {u : Unit} (h : ne0 l = some u) : 0 < l.length := by
  unfold ne0 at h
  split at h
  · cases h
  · omega
/-- an element whose sums lie in a block of their own -/
def looseE (E : TypeId) (S0 S : Snap) (g : Nat) (k : List Value) (x : SpL) : Prop :=
  ∃ (kk : List Value) (c : Nat) (cur : Array Value), k = kk ++ [.slice (some ⟨g, 0, none⟩) (sumsL x).length c] ∧ kk.length = 6 ∧
    (∀ (S' : Snap) (A : Option Addr) (c' : Nat) (l : List (List UInt8)), S0.le S' → slS (tyA 32 ty8) S' A c' l → tSpL.rep S' (kk ++ [.slice A l.length c']) (setSums x l)) ∧
    S0 g = none ∧ S g = some (.cells cur E (0, 0)) ∧ (sumsL x).length ≤ c ∧ c ≤ maxLen ∧ cur.size = c * 32 ∧ reps (tyA 32 ty8) S (cur.toList.take ((sumsL x).length * 32)) (sumsL x)
def loosesG (E : TypeId) (S0 S : Snap) : List Nat → List Value → List SpL → Prop
  | [], vs, [] => vs = []
  | g :: gs, vs, x :: xs => ∃ c1 c2, vs = c1 ++ c2 ∧ looseE E S0 S g c1 x ∧ loosesG E S0 S gs c2 xs
  | [], _, _ :: _ => False
  | _ :: _, _, [] => False
def looses (E : TypeId) (S0 S : Snap) (vs : List Value) (xs : List SpL) : Prop := ∃ gs : List Nat, gs.Nodup ∧ loosesG E S0 S gs vs xs
theorem looses.nil (E : TypeId) (S0 S : Snap) : looses E S0 S [] [] := ⟨[], List.nodup_nil, rfl⟩
section
variable {E : TypeId} {S0 S S' S1 : Snap}
theorem rdS_cells {g n : Nat} {cur : Array Value} (h : S g = some (.cells cur E (0, 0))) : RdS S (some ⟨g, 0, none⟩) (cur.toList.take n) := fun w hw i v hv => by
  refine ⟨_, rfl, ?_⟩
  have hadd : (⟨g, 0, none⟩ : Addr).add i = ⟨g, i, none⟩ := by rw [Addr.add_mid]; simp
  rw [hadd]
  have hbk := hw g _ h
  rw [List.getElem?_take] at hv
  split at hv
  · simp [World.cell?, hbk] at hv ⊢
    exact hv
  · cases hv
/-- the same of a snapshot that has that block too -/
theorem looseE.agree {g : Nat} {k : List Value} {x : SpL} (h : looseE E S0 S g k x) (hg : ∀ o, S g = some o → S' g = some o) : looseE E S0 S' g k x := by
  obtain ⟨kk, c, cur, h1, h2, h3, h4, h5, h6, h7, h8, h9⟩ := h
  exact ⟨kk, c, cur, h1, h2, h3, h4, hg _ h5, h6, h7, h8, h9.fl (fl_A fl_8)⟩
theorem looseE.sl {g : Nat} {k : List Value} {x : SpL} {kk : List Value} {c : Nat} {cur : Array Value} (h5 : S g = some (.cells cur E (0, 0))) (h6 : (sumsL x).length ≤ c) (h7 : c ≤ maxLen) (h9 : reps (tyA 32 ty8) S (cur.toList.take ((sumsL x).length * 32)) (sumsL x)) : slS (tyA 32 ty8) S (some ⟨g, 0, none⟩) c (sumsL x) :=
  ⟨h6, h7, _, rdS_cells h5, h9⟩
theorem looseE.rep {g : Nat} {k : List Value} {x : SpL} (h : looseE E S0 S g k x) (hS : S0.le S) : tSpL.rep S k x := by
  obtain ⟨kk, c, cur, h1, h2, h3, h4, h5, h6, h7, h8, h9⟩ := h
  have := h3 S (some ⟨g, 0, none⟩) c (sumsL x) hS ⟨h6, h7, _, rdS_cells h5, h9⟩
  rw [h1]
  exact this
theorem loosesG.mono (h : S.le S') : ∀ {gs : List Nat} {vs : List Value} {xs : List SpL}, loosesG E S0 S gs vs xs → loosesG E S0 S' gs vs xs
  | [], _, [], k => k
  | g :: gs, _, x :: xs, ⟨c1, c2, e, k1, k2⟩ => ⟨c1, c2, e, k1.agree (fun o ho => h g o ho), loosesG.mono h k2⟩
  | [], _, _ :: _, k => k.elim
  | _ :: _, _, [], k => k.elim
theorem looses.mono {vs : List Value} {xs : List SpL} (h : S.le S') (k : looses E S0 S vs xs) : looses E S0 S' vs xs := by
  obtain ⟨gs, h1, h2⟩ := k
  exact ⟨gs, h1, h2.mono h⟩
theorem loosesG.dom : ∀ {gs : List Nat} {vs : List Value} {xs : List SpL}, loosesG E S0 S gs vs xs → ∀ g ∈ gs, ∃ o, S g = some o
  | [], _, [], _ => fun g hg => by cases hg
  | g :: gs, _, x :: xs, ⟨c1, c2, e, k1, k2⟩ => fun j hj => by
    obtain ⟨kk, c, cur, h1, h2, h3, h4, h5, h6⟩ := k1
    rcases List.mem_cons.1 hj with rfl | hj
    · exact ⟨_, h5⟩
    · exact loosesG.dom k2 j hj
  | [], _, _ :: _, k => k.elim
  | _ :: _, _, [], k => k.elim
theorem loosesG.snoc {g : Nat} {k : List Value} {x : SpL} (he : looseE E S0 S g k x) : ∀ {gs : List Nat} {vs : List Value} {xs : List SpL}, loosesG E S0 S gs vs xs → loosesG E S0 S (gs ++ [g]) (vs ++ k) (xs ++ [x])
  | [], _, [], h => ⟨k, [], by rw [show _ = [] from h]; simp, he, rfl⟩
  | g' :: gs, _, x' :: xs, ⟨c1, c2, e, k1, k2⟩ => ⟨c1, c2 ++ k, by rw [e, List.append_assoc], k1, loosesG.snoc he k2⟩
  | [], _, _ :: _, h => h.elim
  | _ :: _, _, [], h => h.elim
theorem looses.snoc {g : Nat} {cs k : List Value} {l : List SpL} {x : SpL} (h : looses E S0 S1 cs l) (hle : S1.le S) (hg : S1 g = none) (he : looseE E S0 S g k x) : looses E S0 S (cs ++ k) (l ++ [x]) := by
  obtain ⟨gs, h1, h2⟩ := h
  refine ⟨gs ++ [g], ?_, (h2.mono hle).snoc he⟩
  rw [List.nodup_append]
  refine ⟨h1, by simp, fun a ha b hb e => ?_⟩
  rw [List.mem_singleton.1 hb] at e
  subst e
  obtain ⟨o, ho⟩ := h2.dom a ha
  rw [hg] at ho; cases ho
theorem loosesG.same {g : Nat} (hS : S0.le S') (ha : ∀ j, j ≠ g → ∀ o, S j = some o → S' j = some o) : ∀ {gs : List Nat} {vs : List Value} {xs : List SpL}, g ∉ gs → loosesG E S0 S gs vs xs → reps tSpL S' vs xs
  | [], _, [], _, h => h
  | g' :: gs, _, x' :: xs, hn, ⟨c1, c2, e, k1, k2⟩ => ⟨c1, c2, e, (k1.agree (ha g' (fun e => hn (by simp [e])))).rep hS, loosesG.same hS ha (fun h => hn (List.mem_cons_of_mem _ h)) k2⟩
  | [], _, _ :: _, _, h => h.elim
  | _ :: _, _, [], _, h => h.elim
theorem loosesG.at : ∀ {gs : List Nat} {vs : List Value} {xs : List SpL} {m : Nat} {x : SpL}, gs.Nodup → loosesG E S0 S gs vs xs → xs[m]? = some x →
    ∃ (g : Nat) (k : List Value), k = (vs.drop (m * 7)).take 7 ∧ looseE E S0 S g k x ∧ ∀ (S' : Snap) (y : SpL), S0.le S' → (∀ j, j ≠ g → ∀ o, S j = some o → S' j = some o) → tSpL.rep S' k y → reps tSpL S' vs (xs.set m y)
  | [], _, [], _, _, _, _, h => by simp at h
  | g :: gs, vs, y :: ys, 0, x, hn, ⟨c1, c2, e, k1, k2⟩, h => by
    simp at h; subst h
    have hl : c1.length = 7 := by
      obtain ⟨kk, c, cur, h1, h2, _⟩ := k1
      rw [h1, List.length_append, h2]; rfl
    refine ⟨g, c1, by rw [e, Nat.zero_mul, List.drop_zero, List.take_left' hl], k1, fun S' z hS ha hz => ⟨c1, c2, e, hz, loosesG.same hS ha (List.nodup_cons.1 hn).1 k2⟩⟩
  | g' :: gs, vs, y :: ys, m + 1, x, hn, ⟨c1, c2, e, k1, k2⟩, h => by
    have hl : c1.length = 7 := by
      obtain ⟨kk, c, cur, h1, h2, _⟩ := k1
      rw [h1, List.length_append, h2]; rfl
    obtain ⟨g, k, h1, h2, h3⟩ := loosesG.at (List.nodup_cons.1 hn).2 k2 (by simpa using h : ys[m]? = some x)
    have hmem : g ∈ gs ∨ True := .inr trivial
    refine ⟨g, k, by rw [h1, e, Nat.add_mul, Nat.one_mul, Nat.add_comm (m * 7) 7, ← List.drop_drop, List.drop_left' hl], h2, fun S' z hS ha hz => ⟨c1, c2, e, ?_, h3 S' z hS ha hz⟩⟩
    by_cases e : g' = g
    · subst e
      exfalso
      exact (List.nodup_cons.1 hn).1 (loosesG.mem k2 (by simpa using h : ys[m]? = some x) h1 h2)
    · exact (k1.agree (ha g' e)).rep hS
  | [], _, _ :: _, _, _, _, h, _ => h.elim
  | _ :: _, _, [], _, _, _, h, _ => h.elim
where
  loosesG.mem : ∀ {gs : List Nat} {vs : List Value} {xs : List SpL} {m g : Nat} {x : SpL} {k : List Value}, loosesG E S0 S gs vs xs → xs[m]? = some x → k = (vs.drop (m * 7)).take 7 → looseE E S0 S g k x → g ∈ gs := by
    intro gs
    induction gs with
    | nil => intro vs xs m g x k h hx _ _; cases xs with
      | nil => simp at hx
      | cons => exact h.elim
    | cons g' gs ih =>
      intro vs xs m g x k h hx hk he
      cases xs with
      | nil => exact h.elim
      | cons y ys =>
        obtain ⟨c1, c2, e, k1, k2⟩ := h
        have hl : c1.length = 7 := by
          obtain ⟨kk, c, cur, h1, h2, _⟩ := k1
          rw [h1, List.length_append, h2]; rfl
        cases m with
        | zero =>
          rw [e, Nat.zero_mul, List.drop_zero, List.take_left' hl] at hk
          subst hk
          obtain ⟨kk, c, cur, h1, h2, _⟩ := k1
          obtain ⟨kk', c', cur', h1', h2', _⟩ := he
          rw [h1] at h1'
          have := (List.append_inj h1' (by rw [h2, h2'])).2
          simp at this
          simp [this.1]
        | succ m =>
          refine List.mem_cons_of_mem _ (ih k2 (by simpa using hx : ys[m]? = some x) ?_ he)
          rw [hk, e, Nat.add_mul, Nat.one_mul, Nat.add_comm (m * 7) 7, ← List.drop_drop, List.drop_left' hl]
theorem looses.at {vs : List Value} {xs : List SpL} {m : Nat} {x : SpL} (h : looses E S0 S vs xs) (hx : xs[m]? = some x) :
    ∃ (g : Nat) (k : List Value), k = (vs.drop (m * 7)).take 7 ∧ looseE E S0 S g k x ∧ ∀ (S' : Snap) (y : SpL), S0.le S' → (∀ j, j ≠ g → ∀ o, S j = some o → S' j = some o) → tSpL.rep S' k y → reps tSpL S' vs (xs.set m y) := by
  obtain ⟨gs, h1, h2⟩ := h
  exact loosesG.at h1 h2 hx
/-- the first six fields stay: other sums in the last -/
theorem rebuild {kk : List Value} {u : Value} {x : SpL} (h : tSpL.rep S0 (kk ++ [u]) x) (S' : Snap) (A : Option Addr) (c' : Nat) (l : List (List UInt8)) (hS : S0.le S') (hl : slS (tyA 32 ty8) S' A c' l) : tSpL.rep S' (kk ++ [.slice A l.length c']) (setSums x l) := by
  obtain ⟨k1, r1, e1, h1, k2, r2, e2, h2, k3, r3, e3, h3, k4, r4, e4, h4, k5, r5, e5, h5, k6, r6, e6, h6, h7⟩ := h
  obtain ⟨A7, c7, rfl, _⟩ := h7
  subst e6 e5 e4 e3 e2
  have hk : kk = k1 ++ (k2 ++ (k3 ++ (k4 ++ (k5 ++ k6)))) := by
    have : kk ++ [u] = (k1 ++ (k2 ++ (k3 ++ (k4 ++ (k5 ++ k6))))) ++ [.slice A7 x.2.2.2.2.2.2.length c7] := by rw [e1]; simp only [List.append_assoc]
    exact (List.append_inj' this rfl).1
  subst hk
  refine ⟨k1, _, ?_, tyI.mono hS h1, k2, _, rfl, tyI.mono hS h2, k3, _, rfl, tyI.mono hS h3, k4, _, rfl, (tyL ty8).mono hS h4, k5, _, rfl, (tyL (tyP tyI tyI)).mono hS h5, k6, [.slice A l.length c'], rfl, (tyL (tyL ty8)).mono hS h6, ⟨A, c', rfl, hl⟩⟩
  simp only [List.append_assoc]
theorem looseE.mk {g c : Nat} {A : Option Addr} {kk : List Value} {u : Value} {x : SpL} {l : List (List UInt8)} {cur : Array Value} (h : tSpL.rep S0 (kk ++ [u]) x) (hk : kk.length = 6) (hA : A = some ⟨g, 0, none⟩) (h0 : S0 g = none) (hg : S g = some (.cells cur E (0, 0))) (h1 : l.length ≤ c) (h2 : c ≤ maxLen) (h3 : cur.size = c * 32) (h4 : reps (tyA 32 ty8) S (cur.toList.take (l.length * 32)) l) : looseE E S0 S g (kk ++ [.slice A l.length c]) (setSums x l) :=
  ⟨kk, c, cur, by rw [hA]; rfl, hk, fun S' A' c' l' hS hl => rebuild h S' A' c' l' hS hl, h0, hg, h1, h2, h3, h4⟩
theorem take_splice {α : Type} (cur es : List α) (m n : Nat) (h : m * 32 + 32 ≤ n * 32) (hn : n * 32 ≤ cur.length) (he : es.length = 32) : (cur.take (m * 32) ++ es ++ cur.drop (m * 32 + 32)).take (n * 32) = (cur.take (n * 32)).take (m * 32) ++ es ++ (cur.take (n * 32)).drop (m * 32 + 32) := by
  rw [List.take_take, Nat.min_eq_left (by omega), List.take_append, List.take_of_length_le (by simp; omega)]
  congr 1
  rw [List.drop_take]
  congr 1
  simp; omega
/-- one of the sums is written -/
theorem looseE.write {g m : Nat} {k es : List Value} {x : SpL} {y : List UInt8} {kk : List Value} {c : Nat} {cur : Array Value} (h1 : k = kk ++ [.slice (some ⟨g, 0, none⟩) (sumsL x).length c]) (h3 : ∀ (S' : Snap) (A : Option Addr) (c' : Nat) (l : List (List UInt8)), S0.le S' → slS (tyA 32 ty8) S' A c' l → tSpL.rep S' (kk ++ [.slice A l.length c']) (setSums x l)) (h6 : (sumsL x).length ≤ c) (h7 : c ≤ maxLen) (h8 : cur.size = c * 32) (h9 : reps (tyA 32 ty8) S (cur.toList.take ((sumsL x).length * 32)) (sumsL x))
    (hS : S0.le S') (hm : m < (sumsL x).length) (hg : S' g = some (.cells (cur.toList.take (m * 32) ++ es ++ cur.toList.drop (m * 32 + 32)).toArray E (0, 0))) (hy : (tyA 32 ty8).rep S es y) : tSpL.rep S' k (setSums x ((sumsL x).set m y)) := by
  have hes := (tyA 32 ty8).len hy
  have hes' : es.length = 32 := hes
  have hr := (h9.set hm hy).fl (S' := S') (fl_A fl_8)
  have hsz : (tyA 32 ty8).sz = 32 := rfl
  rw [hsz] at hr
  rw [← take_splice cur.toList es m (sumsL x).length (by omega) (by have e : cur.toList.length = cur.size := rfl; omega) hes'] at hr
  have hsl : slS (tyA 32 ty8) S' (some ⟨g, 0, none⟩) c ((sumsL x).set m y) := by
    refine ⟨by rw [List.length_set]; exact h6, h7, _, rdS_cells (n := (sumsL x).length * 32) hg, ?_⟩
    simpa using hr
  have := h3 S' _ _ _ hS hsl
  rw [List.length_set] at this
  rw [h1]
  exact this
end
section
variable {α : Type} {T : Ty α} {P : Program} {ops : Array Oper} {rest : List Oper} {o : Oper} {Q : Exit → Act → World → Prop} {N : Nat} {w0 w w' : World} {B : Nat → Prop} {ρ ρ' : Slots} {L L' Ls R : List Ch} {a a' : Act} {d : Nat} {u v : Value} {S S0 S' : Snap}
/-- a row that is written no more, and where it lies -/
theorem q_freezeL {A : Option Addr} {xs : List α} {c : Nat} {E : TypeId} {cs : List Value} (h : St N w0 B ρ (.row (.slice A xs.length c) E T.sz xs.length cs :: .sn S :: R) a w) (hu : Up B w0 S0 S) (hcs : reps T S cs xs) (h0 : 0 < xs.length) : ∃ (S' : Snap) (g : Nat) (cur : Array Value), A = some ⟨g, 0, none⟩ ∧ S.le S' ∧ Up B w0 S0 S' ∧ S g = none ∧ S0 g = none ∧ S' g = some (.cells cur E (0, 0)) ∧ cur.size = c * T.sz ∧ xs.length ≤ c ∧ c ≤ maxLen ∧ reps T S' (cur.toList.take (xs.length * T.sz)) xs ∧ slS T S' A c xs ∧ St N w0 B ρ (.sn S' :: R) a w := by
  have hown : w.ownsRow 0 E T.sz (.slice A xs.length c) xs.length cs := h.m.ok 0 _ rfl
  have hap := h.m.apart 0 1 _ _ (by omega) rfl rfl
  have hsl := q_freeze (T := T) h hu hcs
  obtain ⟨S', h1, h2, h3, h4, h5⟩ := h.m.freeze (fun _ hk => hk)
  rcases hown.2 with ⟨e, e2⟩ | ⟨g, cap, cur, e, hb, hg, hn, hc, hs, ht⟩
  · omega
  · cases e
    have hSg : S g = none := by
      cases hq : S g with
      | none => rfl
      | some o => exact ((hap g).1 ⟨rfl, o, hq⟩).elim
    have hs' : S' g = some (.cells cur E (0, 0)) := (h4 g rfl).trans hg
    refine ⟨S', g, cur, rfl, h1, hu.trans ⟨h1, h2⟩, hSg, ?_, hs', hs, hn, hc, by rw [ht]; exact hcs.mono h1, ⟨hn, hc, cur.toList.take (xs.length * T.sz), rdS_cells hs', by rw [ht]; exact hcs.mono h1⟩, h.k, h5⟩
    cases hq : S0 g with
    | none => rfl
    | some o => have := hu.1 g o hq; rw [hSg] at this; cases this
/-- append to a row of one's own; the cells told -/
theorem q_appendC {β : Type} (h : St N w0 B ρ L a w) (hg : o.guard = none) {s x : Operand} {t : TypeId} (ho : o.op = .call { callee := .builtin .append, args := #[s, x], argTypes := #[t, t] }) (hd : o.dst = some d) (hN : d < N) {e : TypeId} (ht : P.underlying t = some (.slice e)) {z : Value} {sz bytes : Nat} (hinfo : (P.info? e).map (fun i => (i.zero, i.size, i.bytes)) = some (some z, sz, bytes)) (hz1 : z.cells.size = sz) (hsz : 0 < sz)
    {A A2 : Option Addr} {c c2 : Nat} {l m r : List β} {cs news : List Value} (hs : ev ρ s = some (.slice A l.length c)) (i : Nat) (hi : L[i]? = some (.row (.slice A l.length c) e sz l.length cs)) (hx : ev ρ x = some (.slice A2 m.length c2)) (hl : news.length = m.length * sz) (h1 : ∀ u ∈ news, u.oneCell' = true) (hr : Rd w A2 news) (hap : app bytes l m = some r)
    (k : ∀ a' w' A' c', r = l ++ m → St N w0 B ((d, .slice A' r.length c') :: ρ) (L.set i (.row (.slice A' r.length c') e sz r.length (cs ++ news))) a' w' → wpList P ops Q rest a' w') : wpList P ops Q (o :: rest) a w := by
  obtain ⟨rfl, hb, hml⟩ := app_some hap
  refine s_append h hg ho hd hN ht hinfo hz1 hsz hs i hi hx news hl hr h1 hb hml (fun a' w' v' h => ?_)
  obtain ⟨A', c', e', _, _, _⟩ := h.m.rdRow (i := i) (by rw [List.getElem?_set_self (List.getElem?_eq_some_iff.1 hi).1])
  subst e'
  rw [← List.length_append] at h
  exact k a' w' A' c' rfl h
theorem noRo_own {L : List Ch} (h : noRo L = true) (j : Nat) (y : Ch) (hy : L[j]? = some y) (k : Nat) (hk : y.use k) : y.own k := noRo_use h y (List.mem_of_getElem? hy) k hk
/-- a store into a row that was written no more: it is taken out of the snapshot, written, and put back -/
theorem q_storeFz (h : St N w0 B ρ (.sn S :: R) a w) (hu : Up B w0 S0 S) (hg : o.guard = none) {x y : Operand} {t : TypeId} (ho : o.op = .store t x y) (hd : o.dst = none) (ht : Agg P t 32) {g m : Nat} (hx : ev ρ x = some (.pointer (some ⟨g, 0 + m * 32, none⟩))) {es : List Value} (hy : ev ρ y = some (.agg es.toArray)) (hn : es.length = 32) (h1 : ∀ v ∈ es, v.oneCell' = true) (hro : noRo R = true) {cur : Array Value} {E : TypeId} (h0 : S0 g = none) (hS : S g = some (.cells cur E (0, 0))) (hm : m * 32 + 32 ≤ cur.size)
    (k : ∀ a' w' S', S0.le S' → Up B w0 S0 S' → (∀ j, j ≠ g → ∀ o, S j = some o → S' j = some o) → S' g = some (.cells (cur.toList.take (m * 32) ++ es ++ cur.toList.drop (m * 32 + 32)).toArray E (0, 0)) → St N w0 B ρ (.sn S' :: R) a' w' → wpList P ops Q rest a' w') : wpList P ops Q (o :: rest) a w := by
  have hb : B g ∨ w0.heap.size ≤ g := by
    rcases hu.2 g _ hS with h2 | h2
    · rw [h0] at h2; cases h2
    · exact h2
  have hth := h.m.thaw (i := 0) rfl hS hb (fun j z hj hz k hk => by
    obtain _ | j := j
    · exact absurd rfl hj
    · exact noRo_own hro j z (by simpa using hz) k hk)
  have hL : Mem w0 B (.box g E cur.toList :: .sn (S.less g) :: R) w := by
    have : (Ch.box g E cur.toList) = .obj g (.cells cur E (0, 0)) := by simp
    rw [this]; exact hth
  have hst : St N w0 B ρ (.box g E cur.toList :: .sn (S.less g) :: R) a w := ⟨h.k, hL⟩
  refine s_stA hst hg ho hd ht hx hy hn h1 0 rfl (by rw [Array.length_toList]; omega) (fun a' w' h => ?_)
  obtain ⟨S', k1, k2, k3, k4, k5⟩ := h.m.freeze (x := .box g E _) (S := S.less g) (R := R) (fun _ hk => hk)
  have hw' : w'.heap[g]? = some (.cells (cur.toList.take (0 + m * 32) ++ es ++ cur.toList.drop (0 + m * 32 + 32)).toArray E (0, 0)) := h.m.ok 0 _ rfl
  have hle0 : S0.le S' := fun j o' hj => k1 j o' (by
    unfold Snap.less
    rw [if_neg (fun e => by rw [e, h0] at hj; cases hj)]
    exact hu.1 j o' hj)
  refine k a' w' S' hle0 ⟨hle0, fun j o' hj => ?_⟩ (fun j hj o' ho' => k1 j o' (by unfold Snap.less; rw [if_neg hj]; exact ho')) (by rw [k4 g rfl, hw', Nat.zero_add]) ⟨h.k, k5⟩
  rcases k2 j o' hj with h2 | h2
  · unfold Snap.less at h2
    split at h2
    · cases h2
    · exact hu.2 j o' h2
  · exact .inr h2
end
end
section
/-- the other of two -/
def sib (i : Nat) : Nat := if i % 2 = 0 then i + 1 else i - 1
set_option maxRecDepth 100000 in
theorem xor_one (i : Nat) (h : i < 4096) : bits .xor .i64 (i : Int) 1 = ((sib i : Nat) : Int) := by
  have key : ∀ n : Fin 4096, bits .xor .i64 ((n : Nat) : Int) 1 = ((sib n : Nat) : Int) := by decide +kernel
  exact key ⟨i, h⟩
theorem sib_lt (i e : Nat) (h : i < 2 ^ (e + 1)) : sib i < 2 ^ (e + 1) := by rw [Nat.pow_succ] at h ⊢; unfold sib; split <;> omega
section
variable {P : Program} {ops : Array Oper} {Q : Exit → Act → World → Prop} {rest : List Oper} {o : Oper} {N d : Nat} {w0 w w' : World} {B : Nat → Prop} {ρ : Slots} {L L' : List Ch} {a : Act} {v : Value}
theorem s_bslice0 (h : St N w0 B ρ L a w) (hg : o.guard = none) {t : TypeId} (ho : o.op = .buildSlice t 0 #[]) (hd : o.dst = some d) (hN : d < N) {e : TypeId} (ht : P.underlying t = some (.slice e)) {sz : Nat} (hs : (P.info? e).map (·.size) = some sz)
    (k : ∀ a' w' g, St N w0 B ((d, .slice (some ⟨g, 0, none⟩) 0 0) :: ρ) (.row (.slice (some ⟨g, 0, none⟩) 0 0) e sz 0 [] :: L) a' w' → wpList P ops Q rest a' w') : wpList P ops Q (o :: rest) a w := by
  refine s_of h hg hd hN (v := .slice (some ⟨w.heap.size, 0, none⟩) 0 0) (w' := w.alloc (.cells #[] e)) ?_ (fun a' hk => k a' _ _ ⟨hk, (h.m.alloc (.cells #[] e)).asRow (i := 0) (g := w.heap.size) (E := e) (cs := []) rfl 0 sz (by simp) (by simp [maxLen])⟩)
  simp [execOp, ho, Instr.buildSlice, run_underlying ht, run_size hs, Instr.fill, newRow, newObj, Sem.run]
  have : ((Array.range 0).map (fun (_ : Nat) => (default : Value))) = #[] := by simp [Array.range]
  rw [this]
theorem fill1 {z : Value} {x : List UInt8} (hx : x.length = 32) : Instr.fill (fun i => some (i * 32, 32)) ((Array.range (1 * 32)).map (z.cells[· % z.cells.size]!)) [(0, .agg (by8 x).toArray)] = some (by8 x).toArray := by
  have h := fill_mid (place := fun i => some (i * 32, 32)) (i := 0) (v := .agg (by8 x).toArray) (rest := []) (off := 0) (n := 32) (X := []) (Y := ((Array.range (1 * 32)).map (z.cells[· % z.cells.size]!)).toList) (Z := []) rfl rfl (by simp) (by simp [Value.cells, by8_length, hx])
  simp only [List.nil_append, List.append_nil, Array.toArray_toList] at h
  rw [h]
  simp [Instr.fill, Value.cells]
theorem s_bsliceS (h : St N w0 B ρ L a w) (hg : o.guard = none) {t : TypeId} {y : Operand} (ho : o.op = .buildSlice t 1 #[(0, y)]) (hd : o.dst = some d) (hN : d < N) {e : TypeId} (ht : P.underlying t = some (.slice e)) {z : Value} (hz : (P.info? e).map (fun i => (i.zero, i.size)) = some (some z, 32))
    {x : List UInt8} (hy : ev ρ y = some (.agg (by8 x).toArray)) (hx : x.length = 32)
    (k : ∀ a' w' g, St N w0 B ((d, .slice (some ⟨g, 0, none⟩) 1 1) :: ρ) (.box g e (by8 x) :: L) a' w' → wpList P ops Q rest a' w') : wpList P ops Q (o :: rest) a w :=
  s_bslice h hg ho hd hN ht hz [(0, .agg (by8 x).toArray)] (by simp [hy]) (by decide) (by decide) (by8 x) (fill1 hx) k
/-- store: a value of many cells, into row i -/
theorem s_stRA (h : St N w0 B ρ L a w) (hg : o.guard = none) {x y : Operand} {t : TypeId} (ho : o.op = .store t x y) (hd : o.dst = none) {n : Nat} (ht : Agg P t n)
    {g off : Nat} (hx : ev ρ x = some (.pointer (some ⟨g, off, none⟩))) {es : List Value} (hy : ev ρ y = some (.agg es.toArray)) (hn : es.length = n) (h1 : ∀ v ∈ es, v.oneCell' = true) (i : Nat) {T : TypeId} {sz m : Nat} {cs : List Value} (hi : L[i]? = some (.row (.slice (some ⟨g, 0, none⟩) m m) T sz m cs)) (hc : off + n ≤ cs.length)
    (k : ∀ a' w', St N w0 B ρ ((L.set i (.box g T cs)).set i (.box g T (cs.take off ++ es ++ cs.drop (off + n)))) a' w' → wpList P ops Q rest a' w') : wpList P ops Q (o :: rest) a w :=
  s_stA (h.mem (h.m.asBox hi)) hg ho hd ht hx hy hn h1 i (by rw [List.getElem?_set_self (List.getElem?_eq_some_iff.1 hi).1]) hc k
end
end
section

/-- a place's way, up from 2^e sums -/
def wayE : Nat → List (List UInt8) → Nat → List (List UInt8)
  | 0, _, _ => []
  | e + 1, l, i => l.getD (sib i) z32 :: wayE e (upL l) (i / 2)
theorem wayE_length : ∀ (e : Nat) (l : List (List UInt8)) (i : Nat), (wayE e l i).length = e
  | 0, _, _ => rfl
  | e + 1, l, i => by rw [wayE, List.length_cons, wayE_length]
theorem getD_32 {l : List (List UInt8)} (h : S32 l) (k : Nat) : (l.getD k z32).length = 32 := by
  rw [List.getD_eq_getElem?_getD]
  rcases Nat.lt_or_ge k l.length with h1 | h1
  · rw [List.getElem?_eq_getElem h1]; exact h.at h1
  · rw [List.getElem?_eq_none h1]; exact z32_length
theorem wayE_s32 : ∀ (e : Nat) (l : List (List UInt8)) (i : Nat), S32 l → S32 (wayE e l i)
  | 0, _, _, _ => S32.nil
  | e + 1, l, i, h => S32.cons (getD_32 h _) (wayE_s32 e _ _ (upL_s32 l))
def wayS (l : List (List UInt8)) (i : Nat) : List (List UInt8) := wayE (lg l.length) (wideL l) i
def inOk (n : Nat) (i : Int) : Prop := okN n ∧ 0 ≤ i ∧ i < n
instance (n : Nat) (i : Int) : Decidable (inOk n i) := by unfold inOk; infer_instance
def wayV (l : List (List UInt8)) (i : Int) : List (List UInt8) := if inOk l.length i then wayS l i.toNat else []
theorem wayV_s32 {l : List (List UInt8)} (h : S32 l) (i : Int) : S32 (wayV l i) := by unfold wayV; split; exact wayE_s32 _ _ _ (wideL_s32 h); exact S32.nil
theorem lg_le (n : Nat) (h : 0 < n) (h2 : n ≤ 4096) : lg n ≤ 12 := by
  rcases Nat.lt_or_ge 12 (lg n) with h1 | h1
  · have := lt_lg n h h1; simp at this; omega
  · exact h1
set_option maxRecDepth 100000 in
theorem way_ok (w0 : World) (A : Option Addr) (l : List (List UInt8)) (c : Nat) (hl : S32 l) (hr : Rd w0 A (by8 l.flatten)) (i : Int) (hi : -9223372036854775808 ≤ i ∧ i ≤ 9223372036854775807) :
    Calls Try.prog 33 #[.slice A l.length c, .int .i64 i] w0 fun e w' => ∃ v, e = .returned (.tuple #[v, .int .i64 (errV (inOk l.length i))]) ∧ NewS w0 w' 40 32 v (wayV l i).length (by8 (wayV l i).flatten) := by
  refine c_enter Try.func33 rfl 39 rfl (by simp) (fun _ => False) _ rfl (fun a h => ?_)
  have h := h.mem (h.m.arg (rdP A (by8 l.flatten)) hr (fun _ _ hh => hh))
  refine c_rs ?_ -- region 0
  refine s_assign h rfl _ rfl rfl (by decide) rfl (fun a h => ?_)
  refine s_assign h rfl _ rfl rfl (by decide) rfl (fun a h => ?_)
  refine l_end ?_
  refine wp_seq ?_
  refine c_rs ?_ -- region 1
  refine s_move h rfl _ rfl rfl (by decide) rfl (fun a h => ?_)
  refine s_callB h rfl rfl rfl (by decide) Try.func68 rfl rfl rfl (may_ok _ A l.length c) (fun a w hb h => ?_)
  refine s_boolop h rfl rfl rfl (by decide) rfl (fun a h => ?_)
  refine s_move h rfl _ rfl rfl (by decide) rfl (fun a h => ?_)
  apply s_or (t := 11) (d := 14) h 3 rfl
  · intro hB
    refine g_no h rfl rfl rfl rfl hB rfl (by decide) (fun a h => ?_)
    refine g_no h rfl rfl rfl rfl hB rfl (by decide) (fun a h => ?_)
    refine s_pick h rfl rfl rfl (by decide) rfl (fun _ => rfl) (fun hh => absurd (hB.symm.trans hh) (by decide)) (fun a h => ?_)
    exact h.has (by repeat (first | exact trivial | refine ⟨rfl, ?_⟩))
  · intro hB
    refine g_yes h rfl rfl rfl rfl hB ?_
    refine s_move h rfl _ rfl rfl (by decide) rfl (fun a h => ?_)
    refine g_yes h rfl rfl rfl rfl hB ?_
    refine s_bin h rfl rfl rfl (by decide) rfl rfl (ib_lss) (fun a h => ?_)
    refine s_pick h rfl rfl rfl (by decide) rfl (fun hh => absurd (hB.symm.trans hh) (by decide)) (fun _ => rfl) (fun a h => ?_)
    exact h.has (by repeat (first | exact trivial | refine ⟨rfl, ?_⟩))
  intro a w h
  refine s_move h rfl _ rfl rfl (by decide) rfl (fun a h => ?_)
  apply s_or (t := 15) (d := 20) h 5 rfl
  · intro hB
    refine g_no h rfl rfl rfl rfl hB rfl (by decide) (fun a h => ?_)
    refine g_no h rfl rfl rfl rfl hB rfl (by decide) (fun a h => ?_)
    refine g_no h rfl rfl rfl rfl hB rfl (by decide) (fun a h => ?_)
    refine g_no h rfl rfl rfl rfl hB rfl (by decide) (fun a h => ?_)
    refine s_pick h rfl rfl rfl (by decide) rfl (fun _ => rfl) (fun hh => absurd (hB.symm.trans hh) (by decide)) (fun a h => ?_)
    exact h.has (by repeat (first | exact trivial | refine ⟨rfl, ?_⟩))
  · intro hB
    refine g_yes h rfl rfl rfl rfl hB ?_
    refine s_move h rfl _ rfl rfl (by decide) rfl (fun a h => ?_)
    refine g_yes h rfl rfl rfl rfl hB ?_
    refine s_move h rfl _ rfl rfl (by decide) rfl (fun a h => ?_)
    refine g_yes h rfl rfl rfl rfl hB ?_
    refine s_len h rfl rfl rfl (by decide) Try.underlying39 rfl (fun a h => ?_)
    refine g_yes h rfl rfl rfl rfl hB ?_
    refine s_bin h rfl rfl rfl (by decide) rfl rfl (ib_geq) (fun a h => ?_)
    refine s_pick h rfl rfl rfl (by decide) rfl (fun hh => absurd (hB.symm.trans hh) (by decide)) (fun _ => rfl) (fun a h => ?_)
    exact h.has (by repeat (first | exact trivial | refine ⟨rfl, ?_⟩))
  intro a w h
  refine l_end ?_
  refine c_cond h rfl (fun hb => ?_) (fun hb => ?_)
  · have hno : ¬ inOk l.length i := by
      intro ⟨h1, h2, h3⟩
      have h4 : decide (1 ≤ l.length ∧ l.length ≤ 4096) = true := decide_eq_true h1
      rw [h4] at hb
      simp only [Bool.not_true, Bool.false_or, Bool.or_eq_true, decide_eq_true_eq] at hb
      omega
    refine c_rs ?_ -- region 2
    refine s_assign h rfl _ rfl rfl (by decide) rfl (fun a h => ?_)
    refine s_assign h rfl _ rfl rfl (by decide) rfl (fun a h => ?_)
    refine l_end ?_
    refine wp_ret ?_
    refine e_thenR ?_
    have h := h.mem (h.m.nilrow 40 32)
    refine r_ret2 h rfl (rv_tmp h rfl) (rv_tmp h rfl) ⟨.slice none 0 0, ?_, ?_⟩
    · unfold errV; rw [if_neg hno]
    · unfold wayV; rw [if_neg hno]; exact h.m.newRowS (i := 0) rfl
  · have hok : inOk l.length i := by
      simp only [Bool.or_eq_false_iff, decide_eq_false_iff_not, Bool.not_eq_false', decide_eq_true_eq] at hb
      obtain ⟨⟨h1, h2⟩, h3⟩ := hb
      exact ⟨h1, by omega, by omega⟩
    have hok' := hok
    obtain ⟨⟨h1, h2⟩, h3, h4⟩ := hok'
    obtain ⟨i0, rfl⟩ : ∃ n : Nat, i = (n : Int) := ⟨i.toNat, by omega⟩
    have hlg := lg_le l.length (by omega) h2
    refine wp_skip ?_
    refine e_thenN ?_
    refine c_rs ?_ -- region 3
    refine s_assign h rfl _ rfl rfl (by decide) rfl (fun a h => ?_)
    refine l_end ?_
    refine wp_seq ?_
    refine c_rs ?_ -- region 4
    refine s_move h rfl _ rfl rfl (by decide) rfl (fun a h => ?_)
    refine s_callNS h rfl rfl rfl (by decide) Try.func69 rfl rfl rfl (wide_ok w A l c hl (h.m.ok 0 _ rfl) h1 h2) (fun a w v22 hb h => ?_)
    refine s_assign h rfl _ rfl rfl (by decide) rfl (fun a h => ?_)
    obtain ⟨g22, c22, J, rfl, hc1, hc2, hmb⟩ := h.m.rowBox (i := 0) rfl (Nat.pow_pos (by decide))
    have h := h.mem hmb
    have h := h.mem (h.m.nilrow 40 32)
    have hle := le_lg l.length (by omega)
    refine l_end ?_
    refine wp_block ?_
    refine c_loop (fun m a w => ∃ (l' : List (List UInt8)) (J : List Value) (c i' : Nat) (out : List (List UInt8)) (A' : Option Addr) (c' : Nat), m ≤ 12 ∧ out.length + m = lg l.length ∧ S32 out ∧ l'.length = 2 ^ m ∧ l'.length ≤ c ∧ c ≤ 9223372036854775807 ∧ S32 l' ∧ i' < 2 ^ m ∧ out ++ wayE m l' i' = wayS l i0 ∧ St 39 w0 (fun _ => False) [(1, .int .i64 (i' : Int)), (6, .slice A' out.length c'), (7, .slice (some ⟨g22, 0, none⟩) l'.length c), (5, .int .i64 0)] [.row (.slice A' out.length c') 40 32 out.length (by8 out.flatten), .box g22 40 (by8 l'.flatten ++ J)] a w) (lg l.length) ⟨wideL l, J, c22, i0, [], none, 0, hlg, by simp, S32.nil, wideL_length l (by omega), by rw [wideL_length l (by omega)]; exact hc1, by unfold maxLen at hc2; omega, wideL_s32 hl, by omega, rfl, by rw [wideL_length l (by omega)]; exact (h.pick [0, 1] (by decide) rfl).has (by exact ⟨rfl, rfl, rfl, rfl, trivial⟩)⟩ (fun m a w hI => ?_)
    obtain ⟨l', J, c', i', out, A', co, hm12, hom, hso, hl2, hc1', hc2', hs', hi', hway, h⟩ := hI
    refine wp_seq ?_
    refine c_rs ?_ -- region 5
    refine s_move h rfl _ rfl rfl (by decide) rfl (fun a h => ?_)
    refine s_len h rfl rfl rfl (by decide) Try.underlying39 rfl (fun a h => ?_)
    refine s_bin h rfl rfl rfl (by decide) rfl rfl (ib_gtr) (fun a h => ?_)
    refine l_end ?_
    refine c_cond h rfl (fun hb => ?_) (fun hb => ?_)
    · have hgt : 1 < l'.length := by have := of_decide_eq_true hb; omega
      obtain ⟨m', rfl⟩ : ∃ m', m = m' + 1 := ⟨m - 1, by
        rcases m with _ | m
        · simp at hl2; omega
        · omega⟩
      have hsib := sib_lt i' m' hi'
      have hp12 : 2 ^ (m' + 1) ≤ 2 ^ 12 := Nat.pow_le_pow_right (by decide) hm12
      have e12 : (2 : Nat) ^ 12 = 4096 := by decide
      obtain ⟨x, hx⟩ : ∃ x, x = l'[sib i']'(by omega) := ⟨_, rfl⟩
      have hx32 : x.length = 32 := by rw [hx]; exact hs'.at _
      have ex := junk_at hs' J (k := sib i') (by omega)
      rw [← hx] at ex
      have hg : l'.getD (sib i') z32 = x := by rw [List.getD_eq_getElem?_getD, List.getElem?_eq_getElem (by omega), hx]; rfl
      rw [wayE, hg] at hway
      have hfl := flat_len hs'
      refine wp_skip ?_
      refine e_thenN ?_
      refine wp_seq ?_
      refine wp_block ?_
      refine c_rs ?_ -- region 7
      refine s_move h rfl _ rfl rfl (by decide) rfl (fun a h => ?_)
      refine s_move h rfl _ rfl rfl (by decide) rfl (fun a h => ?_)
      refine s_move h rfl _ rfl rfl (by decide) rfl (fun a h => ?_)
      refine s_bin h rfl rfl rfl (by decide) rfl rfl (ib_xor (xor_one _ (by omega))) (fun a h => ?_)
      refine s_iaddr h rfl rfl rfl (by decide) Try.underlying39 sz_A32_uint8 rfl rfl (m := sib i') (by omega) (by omega) (r := sib i' * 32) (by omega) (fun a h => ?_)
      refine s_ldA h rfl rfl rfl (by decide) ag_A32_uint8 rfl 1 rfl (by rw [List.length_append, by8_length]; omega) ex (fun a h => ?_)
      refine s_bsliceS h rfl rfl rfl (by decide) Try.underlying39 zi_A32_uint8 rfl hx32 (fun a w g34 h => ?_)
      refine s_append h rfl rfl rfl (by decide) Try.underlying39 zb_A32_uint8 rfl (by decide) rfl 1 rfl rfl (by8 x) (by rw [by8_length, hx32]) (by have := h.m.rdBox (i := 0) rfl 0; rwa [List.drop_zero] at this) (by8_one _) (by omega) (by unfold maxLen; omega) (fun a w v35 h => ?_)
      obtain ⟨A35, c35, rfl, _, _, _⟩ := h.m.rdRow (i := 1) rfl
      have h := h.pick [2, 1] (by decide) rfl
      refine s_assign h rfl _ rfl rfl (by decide) rfl (fun a h => ?_)
      refine l_end ?_
      refine c_r ?_ -- region 8
      refine s_move h rfl _ rfl rfl (by decide) rfl (fun a h => ?_)
      refine s_bin h rfl rfl rfl (by decide) rfl rfl (ib_quo (by omega)) (fun a h => ?_)
      refine s_assign h rfl _ rfl rfl (by decide) rfl (fun a h => ?_)
      refine l_nil ?_
      refine e_blkN ?_
      refine e_thenN ?_
      refine c_r ?_ -- region 6
      refine s_move h rfl _ rfl rfl (by decide) rfl (fun a h => ?_)
      refine s_call h rfl rfl rfl (by decide) Try.func70 rfl rfl rfl (up_ok w _ g22 _ l' J c' hs' (Mem.sub (Ls := [_]) h.m) hc1' hc2') (fun e w' hp => ?_)
      obtain ⟨J', rfl, _, hm'⟩ := hp
      refine ⟨_, rfl, fun a hk => ?_⟩
      have h : St 39 w0 _ _ _ a w' := ⟨hk, h.m.frame hm' rfl⟩
      refine s_assign h rfl _ rfl rfl (by decide) rfl (fun a h => ?_)
      refine l_nil ?_
      have h := h.pick [1, 0] (by decide) rfl
      refine e_thenN ⟨m', by omega, upL l', J', _, i' / 2, out ++ [x], A35, c35, by omega, by simp; omega, hso.append (S32.cons hx32 S32.nil), by rw [upL_length, hl2, pow_half], Nat.le_refl _, by rw [upL_length]; omega, upL_s32 _, by rw [Nat.pow_succ] at hi'; omega, by rw [← hway]; simp, ?_⟩
      have efl : by8 (out ++ [x]).flatten = by8 out.flatten ++ by8 x := by rw [List.flatten_append, by8_append]; simp
      rw [efl, List.length_append]
      exact h.has (by exact ⟨rfl, rfl, rfl, rfl, trivial⟩)
    · have hle' : ¬ 1 < l'.length := by have := of_decide_eq_false hb; omega
      have hm0 : m = 0 := by
        rcases m with _ | m
        · rfl
        · have : 0 < 2 ^ m := Nat.pow_pos (by decide)
          rw [Nat.pow_succ] at hl2; omega
      subst hm0
      rw [wayE, List.append_nil] at hway
      refine wp_exit ?_
      refine e_thenX ?_
      refine e_thenX ?_
      refine e_blkX ?_
      refine e_thenN ?_
      refine c_rs ?_ -- region 9
      refine s_move h rfl _ rfl rfl (by decide) rfl (fun a h => ?_)
      refine s_assign h rfl _ rfl rfl (by decide) rfl (fun a h => ?_)
      refine s_assign h rfl _ rfl rfl (by decide) rfl (fun a h => ?_)
      refine l_end ?_
      refine wp_ret ?_
      refine r_ret2 h rfl (rv_tmp h rfl) (rv_tmp h rfl) ⟨.slice A' out.length co, ?_, ?_⟩
      · unfold errV; rw [if_pos hok]
      · unfold wayV; rw [if_pos hok, Int.toNat_natCast, ← hway]; exact h.m.newRowS (i := 0) rfl
set_option maxRecDepth 100000 in
theorem cloneS_nil (w0 : World) : Calls Try.prog 76 #[.slice none 0 0] w0 fun e w' => ∃ v, e = .returned v ∧ NewS w0 w' 40 32 v 0 [] := by
  refine c_enter Try.func76 rfl 8 rfl (by simp) (fun _ => False) _ rfl (fun a h => ?_)
  refine c_rs ?_ -- region 0
  refine s_assign h rfl _ rfl rfl (by decide) rfl (fun a h => ?_)
  refine l_end ?_
  refine wp_seq ?_
  refine c_rs ?_ -- region 1
  refine s_move h rfl _ rfl rfl (by decide) rfl (fun a h => ?_)
  refine s_run h rfl rfl (by decide) rfl rfl rfl (fun a h => ?_)
  refine l_end ?_
  refine c_cond h rfl (fun hb => ?_) (fun hb => ?_)
  · refine c_rs ?_ -- region 2
    refine s_assign h rfl _ rfl rfl (by decide) rfl (fun a h => ?_)
    refine l_end ?_
    refine wp_ret ?_
    refine e_thenR ?_
    have h := h.mem (h.m.nilrow 40 32)
    exact r_ret1 h rfl (rv_tmp h rfl) ⟨_, rfl, h.m.newRowS (i := 0) rfl⟩
  · cases hb
set_option maxRecDepth 100000 in
theorem cloneS_some (w0 : World) (b off : Nat) (l : List (List UInt8)) (c : Nat) (hl : S32 l) (hr : Rd w0 (some ⟨b, off, none⟩) (by8 l.flatten)) (h2 : l.length ≤ 4096) :
    Calls Try.prog 76 #[.slice (some ⟨b, off, none⟩) l.length c] w0 fun e w' => ∃ v, e = .returned v ∧ NewS w0 w' 40 32 v l.length (by8 l.flatten) := by
  refine c_enter Try.func76 rfl 8 rfl (by simp) (fun _ => False) _ rfl (fun a h => ?_)
  have h := h.mem (h.m.arg (rdP (some ⟨b, off, none⟩) (by8 l.flatten)) hr (fun _ _ hh => hh))
  refine c_rs ?_ -- region 0
  refine s_assign h rfl _ rfl rfl (by decide) rfl (fun a h => ?_)
  refine l_end ?_
  refine wp_seq ?_
  refine c_rs ?_ -- region 1
  refine s_move h rfl _ rfl rfl (by decide) rfl (fun a h => ?_)
  refine s_run h rfl rfl (by decide) rfl rfl rfl (fun a h => ?_)
  refine l_end ?_
  refine c_cond h rfl (fun hb => ?_) (fun hb => ?_)
  · cases hb
  · refine wp_skip ?_
    refine e_thenN ?_
    refine c_rs ?_ -- region 3
    refine s_bslice0 h rfl rfl rfl (by decide) Try.underlying39 sz_A32_uint8 (fun a w g5 h => ?_)
    refine s_move h rfl _ rfl rfl (by decide) rfl (fun a h => ?_)
    refine s_append h rfl rfl rfl (by decide) Try.underlying39 zb_A32_uint8 rfl (by decide) rfl 0 rfl rfl (by8 l.flatten) (by rw [by8_length, flat_len hl]) (h.m.ok 1 _ rfl) (by8_one _) (by omega) (by unfold maxLen; omega) (fun a w v7 h => ?_)
    refine s_assign h rfl _ rfl rfl (by decide) rfl (fun a h => ?_)
    refine l_end ?_
    refine wp_ret ?_
    refine r_ret1 h rfl (rv_tmp h rfl) ⟨v7, rfl, ?_⟩
    have := h.m.newRowS (i := 0) rfl
    rw [List.nil_append, Nat.zero_add] at this
    exact this
end
section
theorem reps_sums (S : Snap) : ∀ (xs : List (List UInt8)), S32 xs → reps (tyA 32 ty8) S (by8 xs.flatten) xs
  | [], _ => rfl
  | x :: xs, h => by
    refine ⟨by8 x, by8 xs.flatten, ?_, ⟨rep8 _ _, h x (List.mem_cons_self ..)⟩, reps_sums S xs fun y hy => h y (List.mem_cons_of_mem _ hy)⟩
    rw [List.flatten_cons]; unfold by8; rw [List.map_append]
def merkle_Way (Fu : Nat) (a0 : List (List UInt8)) (a1 : Int) : Option (List (List UInt8) × Int) := some (wayV a0 a1, errV (inOk a0.length a1))
theorem merkle_Way_ok (Fu : Nat) {S0 : Snap} (Aa0 : Option Addr) (ca0 : Nat) (a0 : List (List UInt8)) (hsa0 : slS (tyA 32 ty8) S0 Aa0 ca0 a0) (a1 : Int) (hra1 : r64 a1) (r : List (List UInt8) × Int) (hf : merkle_Way Fu a0 a1 = some r) (w0 : World) (hm : Mem w0 (ownL ([] ++ [.sn S0])) ([] ++ [.sn S0]) w0) :
    Calls Try.prog 33 #[.slice Aa0 a0.length ca0, .int .i64 a1] w0 (Ret w0 S0 [] (fun v L1 S1 => ∃ (A : Option Addr), ∃ (c : Nat), ∃ (cs : List Value), v = .tuple #[.slice A r.1.length c, .int .i64 r.2] ∧ L1 = [.row (.slice A r.1.length c) 40 32 r.1.length cs] ∧ reps (tyA 32 ty8) S1 cs r.1 ∧ r64 r.2 ∧ True)) := by
  have hw := hm.snOK (i := 0) rfl
  cases hf
  obtain ⟨h1, h2⟩ := slS_sums hsa0 hw
  refine (way_ok w0 Aa0 a0 ca0 h1 h2 a1 hra1).mono fun e w' ⟨v, he, hn⟩ => ?_
  have hM := hm.addNewS hn
  obtain ⟨A, c, rfl, _, _, _⟩ := hM.rdRow (i := 0) rfl
  exact ⟨_, [_], S0, he, ⟨A, c, _, rfl, rfl, reps_sums _ _ (wayV_s32 h1 a1), by unfold errV r64; split <;> omega, trivial⟩, rfl, Up.refl _ _ _, hM⟩
end
section
def forest_Prove_1 (Fu : Nat) (a0 : Int × Int × Int × (List UInt8) × (List (Int × Int)) × (List (List UInt8)) × (List (List UInt8))) (a1 : Int) : Option Bool :=
  some (decide (a0.1 = a1))
set_option maxRecDepth 100000 in
set_option maxHeartbeats 2000000 in
theorem forest_Prove_1_ok (Fu : Nat) {S0 : Snap} (csa0 : List Value) (a0 : Int × Int × Int × (List UInt8) × (List (Int × Int)) × (List (List UInt8)) × (List (List UInt8))) (hsa0 : (tyP tyI (tyP tyI (tyP tyI (tyP (tyL ty8) (tyP (tyL (tyP tyI tyI)) (tyP (tyL (tyL ty8)) (tyL (tyA 32 ty8)))))))).rep S0 csa0 a0) (ga1 : Nat) (a1 : Int) (hpa1 : ptS tyI S0 ga1 a1) (r : Bool) (hf : forest_Prove_1 Fu a0 a1 = some r) (w0 : World) (hm : Mem w0 (ownL ([] ++ [.sn S0])) ([] ++ [.sn S0]) w0) :
    Calls Try.prog 82 #[.agg csa0.toArray, .pointer (some ⟨ga1, 0, none⟩)] w0 (Ret w0 S0 [] (fun v L1 S1 => v = .bool r ∧ L1 = [] ∧ True)) := by
  unfold forest_Prove_1 at hf
  obtain ⟨k1, k2, rfl, ⟨rfl, hr3⟩, ⟨k4, k5, rfl, ⟨rfl, hr6⟩, ⟨k7, k8, rfl, ⟨rfl, hr9⟩, ⟨k10, k11, rfl, ⟨A12, c13, rfl, hs14⟩, ⟨k15, k16, rfl, ⟨A17, c18, rfl, hs19⟩, ⟨k20, k21, rfl, ⟨A22, c23, rfl, hs24⟩, ⟨A25, c26, rfl, hs27⟩⟩⟩⟩⟩⟩⟩ := hsa0
  refine c_enterM Try.func82 rfl 8 rfl (by simp) _ hm _ rfl (fun a h => ?_)
  refine c_rs ?_ -- region 0
  refine s_box h rfl rfl rfl (by decide) rfl (cs := [.int .i64 a0.1, .int .i64 a0.2.1, .int .i64 a0.2.2.1, .slice A12 a0.2.2.2.1.length c13, .slice A17 a0.2.2.2.2.1.length c18, .slice A22 a0.2.2.2.2.2.1.length c23, .slice A25 a0.2.2.2.2.2.2.length c26]) (by rfl) (fun a w g28 h => ?_)
  refine s_assign h rfl _ rfl rfl (by decide) rfl (fun a h => ?_)
  refine l_end ?_
  refine c_rs ?_ -- region 1
  refine s_x h rfl rfl (by decide) (x_faddr h.k rfl Try.underlying66 rfl sz_int rfl) (fun a h => ?_)
  refine s_x h rfl rfl (by decide) (x_ld h.k rfl Try.underlying3 rfl rfl ((h.m.cell (i := 0) rfl 0).trans rfl)) (fun a h => ?_)
  obtain ⟨k29, hc30, ⟨rfl, hr31⟩⟩ := id hpa1
  refine s_x h rfl rfl (by decide) (x_ld h.k rfl Try.underlying3 rfl rfl (hc30 _ (h.m.snOK (i := 1) rfl) 0 _ rfl)) (fun a h => ?_)
  refine s_x h rfl rfl (by decide) (x_bin h.k rfl rfl rfl ib_eql) (fun a h => ?_)
  refine s_assign h rfl _ rfl rfl (by decide) rfl (fun a h => ?_)
  refine l_end ?_
  refine wp_ret ?_
  obtain rfl := Option.some.inj hf
  exact r_ret1 h rfl (rv_tmp h rfl) ⟨_, [], _, rfl, ⟨rfl, rfl, trivial⟩, rfl, (Up.refl _ _ _), (h.m.pick [1] _ (by decide) rfl)⟩
def slices_IndexFunc___api_Space_api_Space_clo1_82_0_1_l0 (Fu : Nat) (a0 : List (Int × Int × Int × (List UInt8) × (List (Int × Int)) × (List (List UInt8)) × (List (List UInt8)))) (a1b0 : Int) : Nat → Int → Option (Sum Int Unit)
  | 0, _ => none
  | k + 1, x3 => if x3 < (a0.length : Int) then ((idx a0 x3).bind fun x7 => (forest_Prove_1 Fu x7 a1b0).bind fun x46 => if x46 = true then (some (.inl x3)) else (slices_IndexFunc___api_Space_api_Space_clo1_82_0_1_l0 Fu a0 a1b0 k (w64 (x3 + 1)))) else (some (.inr ()))
def slices_IndexFunc___api_Space_api_Space_clo1_82_0_1 (Fu : Nat) (a0 : List (Int × Int × Int × (List UInt8) × (List (Int × Int)) × (List (List UInt8)) × (List (List UInt8)))) (a1b0 : Int) : Option Int :=
  (slices_IndexFunc___api_Space_api_Space_clo1_82_0_1_l0 Fu a0 a1b0 Fu 0).bind fun o => match o with | .inl r49 => some r49 | .inr _ => some (-1)
set_option maxRecDepth 100000 in
set_option maxHeartbeats 2000000 in
theorem slices_IndexFunc___api_Space_api_Space_clo1_82_0_1_ok (Fu : Nat) {S0 : Snap} (Aa0 : Option Addr) (ca0 : Nat) (a0 : List (Int × Int × Int × (List UInt8) × (List (Int × Int)) × (List (List UInt8)) × (List (List UInt8)))) (hsa0 : slS (tyP tyI (tyP tyI (tyP tyI (tyP (tyL ty8) (tyP (tyL (tyP tyI tyI)) (tyP (tyL (tyL ty8)) (tyL (tyA 32 ty8)))))))) S0 Aa0 ca0 a0) (ga1b0 : Nat) (a1b0 : Int) (hpa1b0 : ptS tyI S0 ga1b0 a1b0) (r : Int) (hf : slices_IndexFunc___api_Space_api_Space_clo1_82_0_1 Fu a0 a1b0 = some r) (w0 : World) (hm : Mem w0 (ownL ([] ++ [.sn S0])) ([] ++ [.sn S0]) w0) :
    Calls Try.prog 81 #[.slice Aa0 a0.length ca0, .func (.func 82) [].toArray [.pointer (some ⟨ga1b0, 0, none⟩)].toArray] w0 (Ret w0 S0 [] (fun v L1 S1 => v = .int .i64 r ∧ L1 = [] ∧ r64 r ∧ True)) := by
  unfold slices_IndexFunc___api_Space_api_Space_clo1_82_0_1 at hf
  refine c_enterM Try.func81 rfl 19 rfl (by simp) _ hm _ rfl (fun a h => ?_)
  refine c_rs ?_ -- region 0
  refine s_assign h rfl _ rfl rfl (by decide) rfl (fun a h => ?_)
  refine l_end ?_
  refine wp_seq ?_
  refine c_rs ?_ -- region 1
  refine s_move h rfl _ rfl rfl (by decide) rfl (fun a h => ?_)
  refine s_x h rfl rfl (by decide) (x_len h.k rfl Try.underlying61 rfl) (fun a h => ?_)
  refine s_move h rfl _ rfl rfl (by decide) rfl (fun a h => ?_)
  refine l_end ?_
  obtain ⟨o1, hl2, hf⟩ := bsome hf
  refine c_fin (fun a w => (.inr ()) = o1 ∧ St 19 w0 (ownL ([] ++ [.sn S0])) [] [.sn S0] a w) ?_ ?_
  · refine wp_block ?_
    refine c_loop (fun m6 a w => ∃ (x3 : Int), slices_IndexFunc___api_Space_api_Space_clo1_82_0_1_l0 Fu a0 a1b0 m6 x3 = some o1 ∧ r64 x3 ∧ St 19 w0 (ownL ([] ++ [.sn S0])) [(0, .slice Aa0 a0.length ca0), (1, .func (.func 82) [].toArray [.pointer (some ⟨ga1b0, 0, none⟩)].toArray), (7, .int .i64 (a0.length : Int)), (8, .int .i64 x3)] [.sn S0] a w) Fu ⟨0, hl2, (show r64 0 from ⟨by decide, by decide⟩), h.has (by exact ⟨rfl, rfl, rfl, rfl, trivial⟩)⟩ (fun m6 a w hI => ?_)
    obtain ⟨x3, hl5, hr4, h⟩ := hI
    obtain _ | m6 := m6
    · rw [slices_IndexFunc___api_Space_api_Space_clo1_82_0_1_l0] at hl5; cases hl5
    rw [slices_IndexFunc___api_Space_api_Space_clo1_82_0_1_l0] at hl5
    refine c_rs ?_ -- region 2
    refine s_x h rfl rfl (by decide) (x_bin h.k rfl rfl rfl ib_lss) (fun a h => ?_)
    refine l_end ?_
    refine c_cs h rfl (fun hb => ?_) (fun hb => ?_)
    · rw [if_pos (of_decide_eq_true hb)] at hl5
      refine wp_skip ?_
      refine e_thenN ?_
      refine wp_seq ?_
      refine wp_block ?_
      refine c_rs ?_ -- region 3
      refine s_move h rfl _ rfl rfl (by decide) rfl (fun a h => ?_)
      refine s_assign h rfl _ rfl rfl (by decide) rfl (fun a h => ?_)
      refine l_end ?_
      refine c_rs ?_ -- region 4
      refine s_move h rfl _ rfl rfl (by decide) rfl (fun a h => ?_)
      refine s_move h rfl _ rfl rfl (by decide) rfl (fun a h => ?_)
      refine s_move h rfl _ rfl rfl (by decide) rfl (fun a h => ?_)
      obtain ⟨x7, h11, hl5⟩ := bsome hl5
      obtain ⟨m8, hi12, hm13, hx14⟩ := idx_some h11
      obtain ⟨b9, off10, k15, hA16, hu17, hc18⟩ := (hsa0).at (by decide) hx14 (h.m.snOK (i := 0) rfl)
      obtain ⟨k19, k20, rfl, ⟨rfl, hr21⟩, ⟨k22, k23, rfl, ⟨rfl, hr24⟩, ⟨k25, k26, rfl, ⟨rfl, hr27⟩, ⟨k28, k29, rfl, ⟨A30, c31, rfl, hs32⟩, ⟨k33, k34, rfl, ⟨A35, c36, rfl, hs37⟩, ⟨k38, k39, rfl, ⟨A40, c41, rfl, hs42⟩, ⟨A43, c44, rfl, hs45⟩⟩⟩⟩⟩⟩⟩ := hu17
      refine s_x h rfl rfl (by decide) (x_iaddrE h.k rfl Try.underlying61 sz_api_Space hA16 rfl rfl hi12 hm13) (fun a h => ?_)
      refine s_x h rfl rfl (by decide) (x_ldR h.k rfl ag_api_Space rfl ([.int .i64 x7.1, .int .i64 x7.2.1, .int .i64 x7.2.2.1, .slice A30 x7.2.2.2.1.length c31, .slice A35 x7.2.2.2.2.1.length c36, .slice A40 x7.2.2.2.2.2.1.length c41, .slice A43 x7.2.2.2.2.2.2.length c44]) rfl (hc18 _ (h.m.snOK (i := 0) rfl))) (fun a h => ?_)
      obtain ⟨x46, h47, hl5⟩ := bsome hl5
      have hX := forest_Prove_1_ok Fu (S0 := snapAll _) ([.int .i64 x7.1, .int .i64 x7.2.1, .int .i64 x7.2.2.1, .slice A30 x7.2.2.2.1.length c31, .slice A35 x7.2.2.2.2.1.length c36, .slice A40 x7.2.2.2.2.2.1.length c41, .slice A43 x7.2.2.2.2.2.2.length c44]) x7 ((tyP tyI (tyP tyI (tyP tyI (tyP (tyL ty8) (tyP (tyL (tyP tyI tyI)) (tyP (tyL (tyL ty8)) (tyL (tyA 32 ty8)))))))).mono (h.m.leAll (i := 0) rfl) (show (tyP tyI (tyP tyI (tyP tyI (tyP (tyL ty8) (tyP (tyL (tyP tyI tyI)) (tyP (tyL (tyL ty8)) (tyL (tyA 32 ty8)))))))).rep S0 ([.int .i64 x7.1, .int .i64 x7.2.1, .int .i64 x7.2.2.1, .slice A30 x7.2.2.2.1.length c31, .slice A35 x7.2.2.2.2.1.length c36, .slice A40 x7.2.2.2.2.2.1.length c41, .slice A43 x7.2.2.2.2.2.2.length c44]) x7 from ⟨[.int .i64 x7.1], [.int .i64 x7.2.1, .int .i64 x7.2.2.1, .slice A30 x7.2.2.2.1.length c31, .slice A35 x7.2.2.2.2.1.length c36, .slice A40 x7.2.2.2.2.2.1.length c41, .slice A43 x7.2.2.2.2.2.2.length c44], rfl, ⟨rfl, hr21⟩, ⟨[.int .i64 x7.2.1], [.int .i64 x7.2.2.1, .slice A30 x7.2.2.2.1.length c31, .slice A35 x7.2.2.2.2.1.length c36, .slice A40 x7.2.2.2.2.2.1.length c41, .slice A43 x7.2.2.2.2.2.2.length c44], rfl, ⟨rfl, hr24⟩, ⟨[.int .i64 x7.2.2.1], [.slice A30 x7.2.2.2.1.length c31, .slice A35 x7.2.2.2.2.1.length c36, .slice A40 x7.2.2.2.2.2.1.length c41, .slice A43 x7.2.2.2.2.2.2.length c44], rfl, ⟨rfl, hr27⟩, ⟨[.slice A30 x7.2.2.2.1.length c31], [.slice A35 x7.2.2.2.2.1.length c36, .slice A40 x7.2.2.2.2.2.1.length c41, .slice A43 x7.2.2.2.2.2.2.length c44], rfl, ⟨_, _, rfl, hs32⟩, ⟨[.slice A35 x7.2.2.2.2.1.length c36], [.slice A40 x7.2.2.2.2.2.1.length c41, .slice A43 x7.2.2.2.2.2.2.length c44], rfl, ⟨_, _, rfl, hs37⟩, ⟨[.slice A40 x7.2.2.2.2.2.1.length c41], [.slice A43 x7.2.2.2.2.2.2.length c44], rfl, ⟨_, _, rfl, hs42⟩, ⟨_, _, rfl, hs45⟩⟩⟩⟩⟩⟩⟩)) ga1b0 a1b0 (hpa1b0.mono (h.m.leAll (i := 0) rfl)) _ h47 _ h.startAll
      refine q_callXV hX h rfl rfl rfl (by decide) rfl Try.func82 rfl rfl [.agg ([.int .i64 x7.1, .int .i64 x7.2.1, .int .i64 x7.2.2.1, .slice A30 x7.2.2.2.1.length c31, .slice A35 x7.2.2.2.2.1.length c36, .slice A40 x7.2.2.2.2.2.1.length c41, .slice A43 x7.2.2.2.2.2.2.length c44]).toArray] rfl rfl (fun a w v L1 S1 hR hb1 h => ?_)
      obtain ⟨rfl, rfl, _⟩ := hR
      refine l_end ?_
      refine c_cond h rfl (fun hb => ?_) (fun hb => ?_)
      · rw [if_pos hb] at hl5
        refine c_rs ?_ -- region 5
        refine s_move h rfl _ rfl rfl (by decide) rfl (fun a h => ?_)
        refine s_assign h rfl _ rfl rfl (by decide) rfl (fun a h => ?_)
        refine l_end ?_
        refine wp_ret ?_
        refine e_blkR ?_
        refine e_thenR ?_
        refine e_thenR ?_
        refine e_blkR ?_
        refine e_thenR ?_
        cases hl5
        try dsimp only at hf
        refine e_thenR ?_
        rw [← Option.some.inj hf]
        exact r_ret1 h rfl (rv_tmp h rfl) ⟨_, [], _, rfl, ⟨rfl, rfl, hr4, trivial⟩, rfl, (Up.refl _ _ _), h.m⟩
      · rw [if_neg (by rw [hb]; decide)] at hl5
        refine wp_skip ?_
        refine e_blkN ?_
        refine e_thenN ?_
        refine c_r ?_ -- region 6
        refine s_x h rfl rfl (by decide) (x_bin h.k rfl rfl rfl (ib_add rfl)) (fun a h => ?_)
        refine s_move h rfl _ rfl rfl (by decide) rfl (fun a h => ?_)
        refine l_nil ?_
        exact e_thenN ⟨m6, Nat.lt_succ_self _, w64 (x3 + 1), hl5, (w64_r _), h.has (by exact ⟨rfl, rfl, rfl, rfl, trivial⟩)⟩
    · rw [if_neg (of_decide_eq_false hb)] at hl5
      refine wp_exit ?_
      refine e_thenX ?_
      refine e_thenX ?_
      refine e_blkX ?_
      refine e_thenN ?_
      exact ⟨(Option.some.inj hl5), h.has trivial⟩
  · rintro a w ⟨rfl, h⟩
    try dsimp only at hf
    refine e_thenN ?_
    refine c_rs ?_ -- region 7
    refine s_assign h rfl _ rfl rfl (by decide) rfl (fun a h => ?_)
    refine l_end ?_
    refine wp_ret ?_
    obtain rfl := Option.some.inj hf
    exact r_ret1 h rfl (rv_tmp h rfl) ⟨_, [], _, rfl, ⟨rfl, rfl, (show r64 (-1) from ⟨by decide, by decide⟩), trivial⟩, rfl, (Up.refl _ _ _), h.m⟩
def forest_Prove (Fu : Nat) (a0 : List (Int × Int × Int × (List UInt8) × (List (Int × Int)) × (List (List UInt8)) × (List (List UInt8)))) (a1 : Int) (a2 : Int) : Option (((List UInt8) × (List (List UInt8)) × (List (List UInt8)) × Int × Int × Int × Int) × Int) :=
  (forest_Right Fu a0).bind fun x3 => if (!x3) = true then (some (((List.replicate 32 ((0 : UInt8) : UInt8)), [], [], 0, 0, 0, 0), 2)) else ((slices_IndexFunc___api_Space_api_Space_clo1_82_0_1 Fu a0 a1).bind fun x11 => if x11 < 0 then (some (((List.replicate 32 ((0 : UInt8) : UInt8)), [], [], 0, 0, 0, 0), 31)) else ((idx a0 x11).bind fun x15 => if ((decide (a2 < 0)) || (decide (x15.2.2.1 ≤ a2))) = true then (some (((List.replicate 32 ((0 : UInt8) : UInt8)), [], [], 0, 0, 0, 0), 32)) else ((merkle_Way Fu x15.2.2.2.2.2.2 a2).bind fun x57 => (forest_collected Fu a0).bind fun x66 => (merkle_Way Fu x66 x11).bind fun x74 => (idx x15.2.2.2.2.2.2 a2).bind fun x83 => some ((x83, x57.1, x74.1, x11, x15.1, x15.2.1, x15.2.2.1), 0))))
set_option maxRecDepth 100000 in
set_option maxHeartbeats 2000000 in
theorem forest_Prove_ok (Fu : Nat) {S0 : Snap} (Aa0 : Option Addr) (ca0 : Nat) (a0 : List (Int × Int × Int × (List UInt8) × (List (Int × Int)) × (List (List UInt8)) × (List (List UInt8)))) (hsa0 : slS (tyP tyI (tyP tyI (tyP tyI (tyP (tyL ty8) (tyP (tyL (tyP tyI tyI)) (tyP (tyL (tyL ty8)) (tyL (tyA 32 ty8)))))))) S0 Aa0 ca0 a0) (a1 : Int) (hra1 : r64 a1) (a2 : Int) (hra2 : r64 a2) (r : ((List UInt8) × (List (List UInt8)) × (List (List UInt8)) × Int × Int × Int × Int) × Int) (hf : forest_Prove Fu a0 a1 a2 = some r) (w0 : World) (hm : Mem w0 (ownL ([] ++ [.sn S0])) ([] ++ [.sn S0]) w0) :
    Calls Try.prog 47 #[.slice Aa0 a0.length ca0, .int .i64 a1, .int .i64 a2] w0 (Ret w0 S0 [] (fun v L1 S1 => ∃ (k105 : List Value), v = .tuple #[.agg k105.toArray, .int .i64 r.2] ∧ L1 = [] ∧ (tyP (tyA 32 ty8) (tyP (tyL (tyA 32 ty8)) (tyP (tyL (tyA 32 ty8)) (tyP tyI (tyP tyI (tyP tyI tyI)))))).rep S1 k105 r.1 ∧ r64 r.2 ∧ True)) := by
  unfold forest_Prove at hf
  refine c_enterM Try.func47 rfl 66 rfl (by simp) _ hm _ rfl (fun a h => ?_)
  refine c_rs ?_ -- region 0
  refine s_box h rfl rfl rfl (by decide) rfl (cs := [.int .i64 a1]) (by rfl) (fun a w g1 h => ?_)
  refine s_alloc h rfl rfl rfl (by decide) zi_api_Proof rfl (fun a w g2 h => ?_)
  refine s_assign h rfl _ rfl rfl (by decide) rfl (fun a h => ?_)
  refine l_end ?_
  refine wp_seq ?_
  refine c_rs ?_ -- region 1
  refine s_move h rfl _ rfl rfl (by decide) rfl (fun a h => ?_)
  obtain ⟨x3, h4, hf⟩ := bsome hf
  have hX := forest_Right_ok Fu (S0 := snapAll _) Aa0 ca0 a0 (hsa0.mono (h.m.leAll (i := 2) rfl)) _ h4 _ h.startAll
  refine q_callX hX h rfl rfl rfl (by decide) Try.func41 rfl rfl rfl (fun a w v L1 S1 hR hb1 h => ?_)
  obtain ⟨rfl, rfl, _⟩ := hR
  refine s_x h rfl rfl (by decide) (x_not h.k rfl rfl) (fun a h => ?_)
  refine l_end ?_
  refine c_cond h rfl (fun hb => ?_) (fun hb => ?_)
  · rw [if_pos hb] at hf
    refine c_rs ?_ -- region 2
    refine s_x h rfl rfl (by decide) (x_build h.k rfl [] rfl ((List.replicate 32 (.int .u8 0 : Value)) ++ ([.slice none 0 0, .slice none 0 0, .int .i64 0, .int .i64 0, .int .i64 0, .int .i64 0])) (by kernel_rfl)) (fun a h => ?_)
    refine s_stW h rfl rfl rfl ag_api_Proof rfl (es := (List.replicate 32 (.int .u8 0 : Value)) ++ ([.slice none 0 0, .slice none 0 0, .int .i64 0, .int .i64 0, .int .i64 0, .int .i64 0])) rfl (show ((List.replicate 32 (.int .u8 0 : Value)) ++ ([.slice none 0 0, .slice none 0 0, .int .i64 0, .int .i64 0, .int .i64 0, .int .i64 0]) : List Value).length = 38 from by simp only [List.length_append, List.length_cons, List.length_nil, (show ((List.replicate 32 (.int .u8 0 : Value)) : List Value).length = 32 from (by first | rfl | simp_all))]) ((tyP (tyA 32 ty8) (tyP (tyL (tyA 32 ty8)) (tyP (tyL (tyA 32 ty8)) (tyP tyI (tyP tyI (tyP tyI tyI)))))).one (show (tyP (tyA 32 ty8) (tyP (tyL (tyA 32 ty8)) (tyP (tyL (tyA 32 ty8)) (tyP tyI (tyP tyI (tyP tyI tyI)))))).rep S0 ((List.replicate 32 (.int .u8 0 : Value)) ++ ([.slice none 0 0, .slice none 0 0, .int .i64 0, .int .i64 0, .int .i64 0, .int .i64 0])) ((List.replicate 32 ((0 : UInt8) : UInt8)), [], [], 0, 0, 0, 0) from ⟨(List.replicate 32 (.int .u8 0 : Value)), [.slice none 0 0, .slice none 0 0, .int .i64 0, .int .i64 0, .int .i64 0, .int .i64 0], rfl, ⟨(show reps ty8 S0 (List.replicate 32 (.int .u8 0 : Value)) (List.replicate 32 ((0 : UInt8) : UInt8)) from repsRep1 (x := ((0 : UInt8) : UInt8)) rfl), (show (List.replicate 32 ((0 : UInt8) : UInt8)).length = 32 from List.length_replicate)⟩, ⟨[.slice none 0 0], [.slice none 0 0, .int .i64 0, .int .i64 0, .int .i64 0, .int .i64 0], rfl, ⟨_, _, rfl, (slS.nil (tyA 32 ty8) _)⟩, ⟨[.slice none 0 0], [.int .i64 0, .int .i64 0, .int .i64 0, .int .i64 0], rfl, ⟨_, _, rfl, (slS.nil (tyA 32 ty8) _)⟩, ⟨[.int .i64 0], [.int .i64 0, .int .i64 0, .int .i64 0], rfl, ⟨rfl, (show r64 0 from ⟨by decide, by decide⟩)⟩, ⟨[.int .i64 0], [.int .i64 0, .int .i64 0], rfl, ⟨rfl, (show r64 0 from ⟨by decide, by decide⟩)⟩, ⟨[.int .i64 0], [.int .i64 0], rfl, ⟨rfl, (show r64 0 from ⟨by decide, by decide⟩)⟩, ⟨rfl, (show r64 0 from ⟨by decide, by decide⟩)⟩⟩⟩⟩⟩⟩⟩)) 0 rfl (show ((List.replicate 32 (.int .u8 0 : Value)) ++ ([.slice none 0 0, .slice none 0 0, .int .i64 0, .int .i64 0, .int .i64 0, .int .i64 0]) : List Value).length = 38 from by simp only [List.length_append, List.length_cons, List.length_nil, (show ((List.replicate 32 (.int .u8 0 : Value)) : List Value).length = 32 from (by first | rfl | simp_all))]) (fun a w h => ?_)
    refine s_assign h rfl _ rfl rfl (by decide) rfl (fun a h => ?_)
    refine l_end ?_
    refine wp_ret ?_
    refine e_thenR ?_
    obtain rfl := Option.some.inj hf
    exact r_ret2 h rfl (rv_cellA h rfl 0 rfl ag_api_Proof (show ((List.replicate 32 (.int .u8 0 : Value)) ++ ([.slice none 0 0, .slice none 0 0, .int .i64 0, .int .i64 0, .int .i64 0, .int .i64 0]) : List Value).length = 38 from by simp only [List.length_append, List.length_cons, List.length_nil, (show ((List.replicate 32 (.int .u8 0 : Value)) : List Value).length = 32 from (by first | rfl | simp_all))])) (rv_tmp h rfl) ⟨_, [], _, rfl, ⟨(List.replicate 32 (.int .u8 0 : Value)) ++ ([.slice none 0 0, .slice none 0 0, .int .i64 0, .int .i64 0, .int .i64 0, .int .i64 0]), rfl, rfl, ⟨(List.replicate 32 (.int .u8 0 : Value)), [.slice none 0 0, .slice none 0 0, .int .i64 0, .int .i64 0, .int .i64 0, .int .i64 0], rfl, ⟨(show reps ty8 S0 (List.replicate 32 (.int .u8 0 : Value)) (List.replicate 32 ((0 : UInt8) : UInt8)) from repsRep1 (x := ((0 : UInt8) : UInt8)) rfl), (show (List.replicate 32 ((0 : UInt8) : UInt8)).length = 32 from List.length_replicate)⟩, ⟨[.slice none 0 0], [.slice none 0 0, .int .i64 0, .int .i64 0, .int .i64 0, .int .i64 0], rfl, ⟨_, _, rfl, (slS.nil (tyA 32 ty8) _)⟩, ⟨[.slice none 0 0], [.int .i64 0, .int .i64 0, .int .i64 0, .int .i64 0], rfl, ⟨_, _, rfl, (slS.nil (tyA 32 ty8) _)⟩, ⟨[.int .i64 0], [.int .i64 0, .int .i64 0, .int .i64 0], rfl, ⟨rfl, (show r64 0 from ⟨by decide, by decide⟩)⟩, ⟨[.int .i64 0], [.int .i64 0, .int .i64 0], rfl, ⟨rfl, (show r64 0 from ⟨by decide, by decide⟩)⟩, ⟨[.int .i64 0], [.int .i64 0], rfl, ⟨rfl, (show r64 0 from ⟨by decide, by decide⟩)⟩, ⟨rfl, (show r64 0 from ⟨by decide, by decide⟩)⟩⟩⟩⟩⟩⟩⟩, (show r64 2 from ⟨by decide, by decide⟩), trivial⟩, rfl, (Up.refl _ _ _), (h.m.pick [2] _ (by decide) rfl)⟩
  · rw [if_neg (by rw [hb]; decide)] at hf
    refine wp_skip ?_
    refine e_thenN ?_
    refine c_rs ?_ -- region 3
    refine s_move h rfl _ rfl rfl (by decide) rfl (fun a h => ?_)
    have h := h.pick [1, 2, 0] (by decide) rfl
    obtain ⟨S6, le7, up8, hc9, h⟩ := q_freezeBox h (Up.refl _ _ _)
    have hp10 : ptS tyI S6 g1 a1 := ⟨[.int .i64 a1], hc9, ⟨rfl, hra1⟩⟩
    refine s_makeFunc h rfl rfl rfl (by decide) (us := []) (vs := [.pointer (some ⟨g1, 0, none⟩)]) rfl rfl (fun a h => ?_)
    obtain ⟨x11, h12, hf⟩ := bsome hf
    have hX := slices_IndexFunc___api_Space_api_Space_clo1_82_0_1_ok Fu (S0 := snapAll _) Aa0 ca0 a0 ((hsa0.mono le7).mono (h.m.leAll (i := 0) rfl)) g1 a1 (hp10.mono (h.m.leAll (i := 0) rfl)) _ h12 _ h.startAll
    refine q_callX hX h rfl rfl rfl (by decide) Try.func81 rfl rfl rfl (fun a w v L1 S1 hR hb1 h => ?_)
    obtain ⟨rfl, rfl, hr14, _⟩ := hR
    refine s_assign h rfl _ rfl rfl (by decide) rfl (fun a h => ?_)
    refine l_end ?_
    refine wp_seq ?_
    refine c_rs ?_ -- region 4
    refine s_move h rfl _ rfl rfl (by decide) rfl (fun a h => ?_)
    refine s_x h rfl rfl (by decide) (x_bin h.k rfl rfl rfl ib_lss) (fun a h => ?_)
    refine l_end ?_
    refine c_cond h rfl (fun hb => ?_) (fun hb => ?_)
    · rw [if_pos (of_decide_eq_true hb)] at hf
      refine c_rs ?_ -- region 5
      refine s_x h rfl rfl (by decide) (x_build h.k rfl [] rfl ((List.replicate 32 (.int .u8 0 : Value)) ++ ([.slice none 0 0, .slice none 0 0, .int .i64 0, .int .i64 0, .int .i64 0, .int .i64 0])) (by kernel_rfl)) (fun a h => ?_)
      refine s_stW h rfl rfl rfl ag_api_Proof rfl (es := (List.replicate 32 (.int .u8 0 : Value)) ++ ([.slice none 0 0, .slice none 0 0, .int .i64 0, .int .i64 0, .int .i64 0, .int .i64 0])) rfl (show ((List.replicate 32 (.int .u8 0 : Value)) ++ ([.slice none 0 0, .slice none 0 0, .int .i64 0, .int .i64 0, .int .i64 0, .int .i64 0]) : List Value).length = 38 from by simp only [List.length_append, List.length_cons, List.length_nil, (show ((List.replicate 32 (.int .u8 0 : Value)) : List Value).length = 32 from (by first | rfl | simp_all))]) ((tyP (tyA 32 ty8) (tyP (tyL (tyA 32 ty8)) (tyP (tyL (tyA 32 ty8)) (tyP tyI (tyP tyI (tyP tyI tyI)))))).one (show (tyP (tyA 32 ty8) (tyP (tyL (tyA 32 ty8)) (tyP (tyL (tyA 32 ty8)) (tyP tyI (tyP tyI (tyP tyI tyI)))))).rep S6 ((List.replicate 32 (.int .u8 0 : Value)) ++ ([.slice none 0 0, .slice none 0 0, .int .i64 0, .int .i64 0, .int .i64 0, .int .i64 0])) ((List.replicate 32 ((0 : UInt8) : UInt8)), [], [], 0, 0, 0, 0) from ⟨(List.replicate 32 (.int .u8 0 : Value)), [.slice none 0 0, .slice none 0 0, .int .i64 0, .int .i64 0, .int .i64 0, .int .i64 0], rfl, ⟨(show reps ty8 S6 (List.replicate 32 (.int .u8 0 : Value)) (List.replicate 32 ((0 : UInt8) : UInt8)) from repsRep1 (x := ((0 : UInt8) : UInt8)) rfl), (show (List.replicate 32 ((0 : UInt8) : UInt8)).length = 32 from List.length_replicate)⟩, ⟨[.slice none 0 0], [.slice none 0 0, .int .i64 0, .int .i64 0, .int .i64 0, .int .i64 0], rfl, ⟨_, _, rfl, (slS.nil (tyA 32 ty8) _)⟩, ⟨[.slice none 0 0], [.int .i64 0, .int .i64 0, .int .i64 0, .int .i64 0], rfl, ⟨_, _, rfl, (slS.nil (tyA 32 ty8) _)⟩, ⟨[.int .i64 0], [.int .i64 0, .int .i64 0, .int .i64 0], rfl, ⟨rfl, (show r64 0 from ⟨by decide, by decide⟩)⟩, ⟨[.int .i64 0], [.int .i64 0, .int .i64 0], rfl, ⟨rfl, (show r64 0 from ⟨by decide, by decide⟩)⟩, ⟨[.int .i64 0], [.int .i64 0], rfl, ⟨rfl, (show r64 0 from ⟨by decide, by decide⟩)⟩, ⟨rfl, (show r64 0 from ⟨by decide, by decide⟩)⟩⟩⟩⟩⟩⟩⟩)) 1 rfl (show ((List.replicate 32 (.int .u8 0 : Value)) ++ ([.slice none 0 0, .slice none 0 0, .int .i64 0, .int .i64 0, .int .i64 0, .int .i64 0]) : List Value).length = 38 from by simp only [List.length_append, List.length_cons, List.length_nil, (show ((List.replicate 32 (.int .u8 0 : Value)) : List Value).length = 32 from (by first | rfl | simp_all))]) (fun a w h => ?_)
      refine s_assign h rfl _ rfl rfl (by decide) rfl (fun a h => ?_)
      refine l_end ?_
      refine wp_ret ?_
      refine e_thenR ?_
      obtain rfl := Option.some.inj hf
      exact r_ret2 h rfl (rv_cellA h rfl 1 rfl ag_api_Proof (show ((List.replicate 32 (.int .u8 0 : Value)) ++ ([.slice none 0 0, .slice none 0 0, .int .i64 0, .int .i64 0, .int .i64 0, .int .i64 0]) : List Value).length = 38 from by simp only [List.length_append, List.length_cons, List.length_nil, (show ((List.replicate 32 (.int .u8 0 : Value)) : List Value).length = 32 from (by first | rfl | simp_all))])) (rv_tmp h rfl) ⟨_, [], _, rfl, ⟨(List.replicate 32 (.int .u8 0 : Value)) ++ ([.slice none 0 0, .slice none 0 0, .int .i64 0, .int .i64 0, .int .i64 0, .int .i64 0]), rfl, rfl, ⟨(List.replicate 32 (.int .u8 0 : Value)), [.slice none 0 0, .slice none 0 0, .int .i64 0, .int .i64 0, .int .i64 0, .int .i64 0], rfl, ⟨(show reps ty8 S6 (List.replicate 32 (.int .u8 0 : Value)) (List.replicate 32 ((0 : UInt8) : UInt8)) from repsRep1 (x := ((0 : UInt8) : UInt8)) rfl), (show (List.replicate 32 ((0 : UInt8) : UInt8)).length = 32 from List.length_replicate)⟩, ⟨[.slice none 0 0], [.slice none 0 0, .int .i64 0, .int .i64 0, .int .i64 0, .int .i64 0], rfl, ⟨_, _, rfl, (slS.nil (tyA 32 ty8) _)⟩, ⟨[.slice none 0 0], [.int .i64 0, .int .i64 0, .int .i64 0, .int .i64 0], rfl, ⟨_, _, rfl, (slS.nil (tyA 32 ty8) _)⟩, ⟨[.int .i64 0], [.int .i64 0, .int .i64 0, .int .i64 0], rfl, ⟨rfl, (show r64 0 from ⟨by decide, by decide⟩)⟩, ⟨[.int .i64 0], [.int .i64 0, .int .i64 0], rfl, ⟨rfl, (show r64 0 from ⟨by decide, by decide⟩)⟩, ⟨[.int .i64 0], [.int .i64 0], rfl, ⟨rfl, (show r64 0 from ⟨by decide, by decide⟩)⟩, ⟨rfl, (show r64 0 from ⟨by decide, by decide⟩)⟩⟩⟩⟩⟩⟩⟩, (show r64 31 from ⟨by decide, by decide⟩), trivial⟩, rfl, up8, (h.m.pick [0] _ (by decide) rfl)⟩
    · rw [if_neg (of_decide_eq_false hb)] at hf
      refine wp_skip ?_
      refine e_thenN ?_
      refine c_rs ?_ -- region 6
      refine s_move h rfl _ rfl rfl (by decide) rfl (fun a h => ?_)
      refine s_move h rfl _ rfl rfl (by decide) rfl (fun a h => ?_)
      obtain ⟨x15, h19, hf⟩ := bsome hf
      obtain ⟨m16, hi20, hm21, hx22⟩ := idx_some h19
      obtain ⟨b17, off18, k23, hA24, hu25, hc26⟩ := ((hsa0.mono le7)).at (by decide) hx22 (h.m.snOK (i := 0) rfl)
      obtain ⟨k27, k28, rfl, ⟨rfl, hr29⟩, ⟨k30, k31, rfl, ⟨rfl, hr32⟩, ⟨k33, k34, rfl, ⟨rfl, hr35⟩, ⟨k36, k37, rfl, ⟨A38, c39, rfl, hs40⟩, ⟨k41, k42, rfl, ⟨A43, c44, rfl, hs45⟩, ⟨k46, k47, rfl, ⟨A48, c49, rfl, hs50⟩, ⟨A51, c52, rfl, hs53⟩⟩⟩⟩⟩⟩⟩ := hu25
      refine s_x h rfl rfl (by decide) (x_iaddrE h.k rfl Try.underlying61 sz_api_Space hA24 rfl rfl hi20 hm21) (fun a h => ?_)
      refine s_x h rfl rfl (by decide) (x_ldR h.k rfl ag_api_Space rfl ([.int .i64 x15.1, .int .i64 x15.2.1, .int .i64 x15.2.2.1, .slice A38 x15.2.2.2.1.length c39, .slice A43 x15.2.2.2.2.1.length c44, .slice A48 x15.2.2.2.2.2.1.length c49, .slice A51 x15.2.2.2.2.2.2.length c52]) rfl (hc26 _ (h.m.snOK (i := 0) rfl))) (fun a h => ?_)
      refine s_alloc h rfl rfl rfl (by decide) zi_api_Space rfl (fun a w g54 h => ?_)
      refine s_stW h rfl rfl rfl ag_api_Space rfl (es := [.int .i64 x15.1, .int .i64 x15.2.1, .int .i64 x15.2.2.1, .slice A38 x15.2.2.2.1.length c39, .slice A43 x15.2.2.2.2.1.length c44, .slice A48 x15.2.2.2.2.2.1.length c49, .slice A51 x15.2.2.2.2.2.2.length c52]) rfl rfl (by simp [Value.oneCell']) 0 rfl rfl (fun a w h => ?_)
      refine l_end ?_
      refine wp_seq ?_
      refine c_rs ?_ -- region 7
      refine s_move h rfl _ rfl rfl (by decide) rfl (fun a h => ?_)
      refine s_x h rfl rfl (by decide) (x_bin h.k rfl rfl rfl ib_lss) (fun a h => ?_)
      refine s_move h rfl _ rfl rfl (by decide) rfl (fun a h => ?_)
      refine q_grp h 5 (t := 30) 35 ((decide (a2 < 0)) || (decide (x15.2.2.1 ≤ a2))) rfl (fun hB2 => ?_) (fun hB2 => ?_) (fun a w h => ?_)
      · refine g_no h rfl rfl rfl rfl hB2 rfl (by decide) (fun a h => ?_)
        refine g_no h rfl rfl rfl rfl hB2 rfl (by decide) (fun a h => ?_)
        refine g_no h rfl rfl rfl rfl hB2 rfl (by decide) (fun a h => ?_)
        refine g_no h rfl rfl rfl rfl hB2 rfl (by decide) (fun a h => ?_)
        refine s_x h rfl rfl (by decide) (x_pick (u' := undef) h.k rfl rfl (fun _ => rfl) (fun hh => absurd (hB2.symm.trans hh) (by decide))) (fun a h => ?_)
        exact (h.mid 4 rfl).val (by first | rfl | (rw [hB2]; first | rfl | simp))
      · refine g_yes h rfl rfl rfl rfl hB2 ?_
        refine s_move h rfl _ rfl rfl (by decide) rfl (fun a h => ?_)
        refine g_yes h rfl rfl rfl rfl hB2 ?_
        refine s_x h rfl rfl (by decide) (x_faddr h.k rfl Try.underlying66 rfl sz_int rfl) (fun a h => ?_)
        refine g_yes h rfl rfl rfl rfl hB2 ?_
        refine s_x h rfl rfl (by decide) (x_ld h.k rfl Try.underlying3 rfl rfl ((h.m.cell (i := 0) rfl 2).trans rfl)) (fun a h => ?_)
        refine g_yes h rfl rfl rfl rfl hB2 ?_
        refine s_x h rfl rfl (by decide) (x_bin h.k rfl rfl rfl ib_geq) (fun a h => ?_)
        refine s_x h rfl rfl (by decide) (x_pick (u' := undef) h.k rfl rfl (fun hh => absurd (hB2.symm.trans hh) (by decide)) (fun _ => rfl)) (fun a h => ?_)
        exact (h.mid 4 rfl).val (by first | rfl | (rw [hB2]; first | rfl | simp))
      refine l_end ?_
      refine c_cond h rfl (fun hb => ?_) (fun hb => ?_)
      · rw [if_pos hb] at hf
        refine c_rs ?_ -- region 8
        refine s_x h rfl rfl (by decide) (x_build h.k rfl [] rfl ((List.replicate 32 (.int .u8 0 : Value)) ++ ([.slice none 0 0, .slice none 0 0, .int .i64 0, .int .i64 0, .int .i64 0, .int .i64 0])) (by kernel_rfl)) (fun a h => ?_)
        refine s_stW h rfl rfl rfl ag_api_Proof rfl (es := (List.replicate 32 (.int .u8 0 : Value)) ++ ([.slice none 0 0, .slice none 0 0, .int .i64 0, .int .i64 0, .int .i64 0, .int .i64 0])) rfl (show ((List.replicate 32 (.int .u8 0 : Value)) ++ ([.slice none 0 0, .slice none 0 0, .int .i64 0, .int .i64 0, .int .i64 0, .int .i64 0]) : List Value).length = 38 from by simp only [List.length_append, List.length_cons, List.length_nil, (show ((List.replicate 32 (.int .u8 0 : Value)) : List Value).length = 32 from (by first | rfl | simp_all))]) ((tyP (tyA 32 ty8) (tyP (tyL (tyA 32 ty8)) (tyP (tyL (tyA 32 ty8)) (tyP tyI (tyP tyI (tyP tyI tyI)))))).one (show (tyP (tyA 32 ty8) (tyP (tyL (tyA 32 ty8)) (tyP (tyL (tyA 32 ty8)) (tyP tyI (tyP tyI (tyP tyI tyI)))))).rep S6 ((List.replicate 32 (.int .u8 0 : Value)) ++ ([.slice none 0 0, .slice none 0 0, .int .i64 0, .int .i64 0, .int .i64 0, .int .i64 0])) ((List.replicate 32 ((0 : UInt8) : UInt8)), [], [], 0, 0, 0, 0) from ⟨(List.replicate 32 (.int .u8 0 : Value)), [.slice none 0 0, .slice none 0 0, .int .i64 0, .int .i64 0, .int .i64 0, .int .i64 0], rfl, ⟨(show reps ty8 S6 (List.replicate 32 (.int .u8 0 : Value)) (List.replicate 32 ((0 : UInt8) : UInt8)) from repsRep1 (x := ((0 : UInt8) : UInt8)) rfl), (show (List.replicate 32 ((0 : UInt8) : UInt8)).length = 32 from List.length_replicate)⟩, ⟨[.slice none 0 0], [.slice none 0 0, .int .i64 0, .int .i64 0, .int .i64 0, .int .i64 0], rfl, ⟨_, _, rfl, (slS.nil (tyA 32 ty8) _)⟩, ⟨[.slice none 0 0], [.int .i64 0, .int .i64 0, .int .i64 0, .int .i64 0], rfl, ⟨_, _, rfl, (slS.nil (tyA 32 ty8) _)⟩, ⟨[.int .i64 0], [.int .i64 0, .int .i64 0, .int .i64 0], rfl, ⟨rfl, (show r64 0 from ⟨by decide, by decide⟩)⟩, ⟨[.int .i64 0], [.int .i64 0, .int .i64 0], rfl, ⟨rfl, (show r64 0 from ⟨by decide, by decide⟩)⟩, ⟨[.int .i64 0], [.int .i64 0], rfl, ⟨rfl, (show r64 0 from ⟨by decide, by decide⟩)⟩, ⟨rfl, (show r64 0 from ⟨by decide, by decide⟩)⟩⟩⟩⟩⟩⟩⟩)) 2 rfl (show ((List.replicate 32 (.int .u8 0 : Value)) ++ ([.slice none 0 0, .slice none 0 0, .int .i64 0, .int .i64 0, .int .i64 0, .int .i64 0]) : List Value).length = 38 from by simp only [List.length_append, List.length_cons, List.length_nil, (show ((List.replicate 32 (.int .u8 0 : Value)) : List Value).length = 32 from (by first | rfl | simp_all))]) (fun a w h => ?_)
        refine s_assign h rfl _ rfl rfl (by decide) rfl (fun a h => ?_)
        refine l_end ?_
        refine wp_ret ?_
        refine e_thenR ?_
        obtain rfl := Option.some.inj hf
        exact r_ret2 h rfl (rv_cellA h rfl 2 rfl ag_api_Proof (show ((List.replicate 32 (.int .u8 0 : Value)) ++ ([.slice none 0 0, .slice none 0 0, .int .i64 0, .int .i64 0, .int .i64 0, .int .i64 0]) : List Value).length = 38 from by simp only [List.length_append, List.length_cons, List.length_nil, (show ((List.replicate 32 (.int .u8 0 : Value)) : List Value).length = 32 from (by first | rfl | simp_all))])) (rv_tmp h rfl) ⟨_, [], _, rfl, ⟨(List.replicate 32 (.int .u8 0 : Value)) ++ ([.slice none 0 0, .slice none 0 0, .int .i64 0, .int .i64 0, .int .i64 0, .int .i64 0]), rfl, rfl, ⟨(List.replicate 32 (.int .u8 0 : Value)), [.slice none 0 0, .slice none 0 0, .int .i64 0, .int .i64 0, .int .i64 0, .int .i64 0], rfl, ⟨(show reps ty8 S6 (List.replicate 32 (.int .u8 0 : Value)) (List.replicate 32 ((0 : UInt8) : UInt8)) from repsRep1 (x := ((0 : UInt8) : UInt8)) rfl), (show (List.replicate 32 ((0 : UInt8) : UInt8)).length = 32 from List.length_replicate)⟩, ⟨[.slice none 0 0], [.slice none 0 0, .int .i64 0, .int .i64 0, .int .i64 0, .int .i64 0], rfl, ⟨_, _, rfl, (slS.nil (tyA 32 ty8) _)⟩, ⟨[.slice none 0 0], [.int .i64 0, .int .i64 0, .int .i64 0, .int .i64 0], rfl, ⟨_, _, rfl, (slS.nil (tyA 32 ty8) _)⟩, ⟨[.int .i64 0], [.int .i64 0, .int .i64 0, .int .i64 0], rfl, ⟨rfl, (show r64 0 from ⟨by decide, by decide⟩)⟩, ⟨[.int .i64 0], [.int .i64 0, .int .i64 0], rfl, ⟨rfl, (show r64 0 from ⟨by decide, by decide⟩)⟩, ⟨[.int .i64 0], [.int .i64 0], rfl, ⟨rfl, (show r64 0 from ⟨by decide, by decide⟩)⟩, ⟨rfl, (show r64 0 from ⟨by decide, by decide⟩)⟩⟩⟩⟩⟩⟩⟩, (show r64 32 from ⟨by decide, by decide⟩), trivial⟩, rfl, up8, (h.m.pick [1] _ (by decide) rfl)⟩
      · rw [if_neg (by rw [hb]; decide)] at hf
        refine wp_skip ?_
        refine e_thenN ?_
        refine c_rs ?_ -- region 9
        refine s_x h rfl rfl (by decide) (x_faddr h.k rfl Try.underlying66 rfl sz_SA32_uint8 rfl) (fun a h => ?_)
        refine s_x h rfl rfl (by decide) (x_ld h.k rfl Try.underlying39 rfl rfl ((h.m.cell (i := 0) rfl 6).trans rfl)) (fun a h => ?_)
        refine s_move h rfl _ rfl rfl (by decide) rfl (fun a h => ?_)
        obtain ⟨x57, h58, hf⟩ := bsome hf
        have hX := merkle_Way_ok Fu (S0 := snapAll _) A51 c52 x15.2.2.2.2.2.2 (hs53.mono (h.m.leAll (i := 1) rfl)) a2 hra2 _ h58 _ h.startAll
        refine q_callX hX h rfl rfl rfl (by decide) Try.func33 rfl rfl rfl (fun a w v L1 S1 hR hb1 h => ?_)
        obtain ⟨A60, c61, cs62, rfl, rfl, hq63, hr64, _⟩ := hR
        have hq65 := hq63.fl (S' := S6) (fl_A fl_8)
        refine s_move h rfl _ rfl rfl (by decide) rfl (fun a h => ?_)
        refine s_x h rfl rfl (by decide) (x_ext h.k rfl rfl rfl) (fun a h => ?_)
        refine s_x h rfl rfl (by decide) (x_ext h.k rfl rfl rfl) (fun a h => ?_)
        refine s_assign h rfl _ rfl rfl (by decide) rfl (fun a h => ?_)
        refine s_assign h rfl _ rfl rfl (by decide) rfl (fun a h => ?_)
        refine l_end ?_
        refine c_rs ?_ -- region 10
        refine s_move h rfl _ rfl rfl (by decide) rfl (fun a h => ?_)
        obtain ⟨x66, h67, hf⟩ := bsome hf
        have hX := forest_collected_ok Fu (S0 := snapAll _) Aa0 ca0 a0 ((hsa0.mono le7).mono (h.m.leAll (i := 2) rfl)) _ h67 _ h.startAll
        refine q_callX hX h rfl rfl rfl (by decide) Try.func80 rfl rfl rfl (fun a w v L1 S1 hR hb1 h => ?_)
        obtain ⟨A69, c70, cs71, rfl, rfl, hq72, _⟩ := hR
        have hq73 := hq72.fl (S' := S6) (fl_A fl_8)
        refine s_move h rfl _ rfl rfl (by decide) rfl (fun a h => ?_)
        obtain ⟨x74, h75, hf⟩ := bsome hf
        have hX := merkle_Way_ok Fu (S0 := snapAll _) A69 c70 x66 (h.m.rowAll (i := 0) rfl (j := 3) rfl hq73) x11 hr14 _ h75 _ h.startAll
        refine q_callX hX h rfl rfl rfl (by decide) Try.func33 rfl rfl rfl (fun a w v L1 S1 hR hb1 h => ?_)
        obtain ⟨A77, c78, cs79, rfl, rfl, hq80, hr81, _⟩ := hR
        have hq82 := hq80.fl (S' := S6) (fl_A fl_8)
        refine s_move h rfl _ rfl rfl (by decide) rfl (fun a h => ?_)
        refine s_x h rfl rfl (by decide) (x_ext h.k rfl rfl rfl) (fun a h => ?_)
        refine s_x h rfl rfl (by decide) (x_ext h.k rfl rfl rfl) (fun a h => ?_)
        refine s_assign h rfl _ rfl rfl (by decide) rfl (fun a h => ?_)
        refine s_assign h rfl _ rfl rfl (by decide) rfl (fun a h => ?_)
        refine l_end ?_
        refine wp_seq ?_
        -- region 11 draws
        obtain ⟨x83, h87, hf⟩ := bsome hf
        refine d_start h (Mem _ _ _) 15 17 rfl (by kernel_rfl) (fun _ _ _ _ _ h => h) (fun _ h => h) (fun Q a w HE HN h HS => ?_)
        refine d_takeP h (fun _ => HS) HN 0 rfl (by kernel_rfl) (by kernel_rfl) (by kernel_rfl) (by decide) rfl rfl (by decide) (fun w' => x_faddr h.k rfl Try.underlying66 rfl sz_SA32_uint8 rfl) (fun a h => ?_)
        refine d_take h HS HN 1 rfl (by kernel_rfl) (by kernel_rfl) (by kernel_rfl) (by kernel_rfl) (by kernel_rfl) rfl rfl (by decide) (fun w' hw => x_ld h.k rfl Try.underlying39 rfl rfl ((hw.cell (i := 3) rfl 6).trans rfl)) (fun a h => ?_)
        refine d_takeP h (fun _ => HS) HN 2 rfl (by kernel_rfl) (by kernel_rfl) (by kernel_rfl) (by decide) rfl rfl (by decide) (fun w' => x_move h.k _ rfl rfl) (fun a h => ?_)
        obtain ⟨m84, hi88, hm89, hx90⟩ := idx_some h87
        obtain ⟨b85, off86, k91, hA92, hu93, hc94⟩ := (hs53).at (by decide) hx90 (h.m.snOK (i := 4) rfl)
        obtain ⟨hs95, hl96⟩ := hu93
        refine d_takeP h (fun _ => HS) HN 3 rfl (by kernel_rfl) (by kernel_rfl) (by kernel_rfl) (by decide) rfl rfl (by decide) (fun w' => x_iaddrE h.k rfl Try.underlying39 sz_A32_uint8 hA92 rfl rfl hi88 hm89) (fun a h => ?_)
        refine d_take h HS HN 4 rfl (by kernel_rfl) (by kernel_rfl) (by kernel_rfl) (by kernel_rfl) (by kernel_rfl) rfl rfl (by decide) (fun w' hw => x_ldR h.k rfl ag_A32_uint8 rfl k91 ((hs95).len.trans (by rw [hl96]; rfl)) (hc94 _ (hw.snOK (i := 4) rfl))) (fun a h => ?_)
        refine d_takeP h (fun _ => HS) HN 5 rfl (by kernel_rfl) (by kernel_rfl) (by kernel_rfl) (by decide) rfl rfl (by decide) (fun w' => x_move h.k _ rfl rfl) (fun a h => ?_)
        refine d_takeP h (fun _ => HS) HN 6 rfl (by kernel_rfl) (by kernel_rfl) (by kernel_rfl) (by decide) rfl rfl (by decide) (fun w' => x_move h.k _ rfl rfl) (fun a h => ?_)
        refine d_takeP h (fun _ => HS) HN 7 rfl (by kernel_rfl) (by kernel_rfl) (by kernel_rfl) (by decide) rfl rfl (by decide) (fun w' => x_move h.k _ rfl rfl) (fun a h => ?_)
        refine d_takeP h (fun _ => HS) HN 8 rfl (by kernel_rfl) (by kernel_rfl) (by kernel_rfl) (by decide) rfl rfl (by decide) (fun w' => x_faddr h.k rfl Try.underlying66 rfl sz_int rfl) (fun a h => ?_)
        refine d_take h HS HN 9 rfl (by kernel_rfl) (by kernel_rfl) (by kernel_rfl) (by kernel_rfl) (by kernel_rfl) rfl rfl (by decide) (fun w' hw => x_ld h.k rfl Try.underlying3 rfl rfl ((hw.cell (i := 3) rfl 0).trans rfl)) (fun a h => ?_)
        refine d_takeP h (fun _ => HS) HN 10 rfl (by kernel_rfl) (by kernel_rfl) (by kernel_rfl) (by decide) rfl rfl (by decide) (fun w' => x_faddr h.k rfl Try.underlying66 rfl sz_int rfl) (fun a h => ?_)
        refine d_take h HS HN 11 rfl (by kernel_rfl) (by kernel_rfl) (by kernel_rfl) (by kernel_rfl) (by kernel_rfl) rfl rfl (by decide) (fun w' hw => x_ld h.k rfl Try.underlying3 rfl rfl ((hw.cell (i := 3) rfl 1).trans rfl)) (fun a h => ?_)
        refine d_takeP h (fun _ => HS) HN 12 rfl (by kernel_rfl) (by kernel_rfl) (by kernel_rfl) (by decide) rfl rfl (by decide) (fun w' => x_faddr h.k rfl Try.underlying66 rfl sz_int rfl) (fun a h => ?_)
        refine d_take h HS HN 13 rfl (by kernel_rfl) (by kernel_rfl) (by kernel_rfl) (by kernel_rfl) (by kernel_rfl) rfl rfl (by decide) (fun w' hw => x_ld h.k rfl Try.underlying3 rfl rfl ((hw.cell (i := 3) rfl 2).trans rfl)) (fun a h => ?_)
        have h := h.pick [2, 4, 0, 1, 3, 5] (by decide) rfl
        obtain ⟨S97, le98, up99, hs100, h⟩ := q_freeze (T := tyA 32 ty8) h up8 hq65
        have h := h.pick [1, 0, 2, 3, 4] (by decide) rfl
        obtain ⟨S101, le102, up103, hs104, h⟩ := q_freeze (T := tyA 32 ty8) h up99 (hq82.mono le98)
        refine d_takeP h (fun _ => HS) HN 14 rfl (by kernel_rfl) (by kernel_rfl) (by kernel_rfl) (by decide) rfl rfl (by decide) (fun w' => x_build h.k rfl [(0, .agg k91.toArray), (1, .slice A60 x57.1.length c61), (2, .slice A77 x74.1.length c78), (3, .int .i64 x11), (4, .int .i64 x15.1), (5, .int .i64 x15.2.1), (6, .int .i64 x15.2.2.1)] rfl (k91 ++ ([.slice A60 x57.1.length c61, .slice A77 x74.1.length c78, .int .i64 x11, .int .i64 x15.1, .int .i64 x15.2.1, .int .i64 x15.2.2.1])) (builtS Try.underlying75 zi_api_Proof (places := [(0, 32), (32, 1), (33, 1), (34, 1), (35, 1), (36, 1), (37, 1)]) (by kernel_rfl) (cs := (List.replicate 32 (.int .u8 0 : Value)) ++ ([.slice none 0 0, .slice none 0 0, .int .i64 0, .int .i64 0, .int .i64 0, .int .i64 0])) (by kernel_rfl) (built_step (X := []) (Y := (List.replicate 32 (.int .u8 0 : Value))) (Z := ([.slice none 0 0] : List Value) ++ (([.slice none 0 0] : List Value) ++ (([.int .i64 0] : List Value) ++ (([.int .i64 0] : List Value) ++ (([.int .i64 0] : List Value) ++ ([.int .i64 0])))))) (V := k91) (off := 0) (n := 32) (by simp only [List.append_assoc, List.cons_append, List.nil_append, List.append_nil]) rfl rfl (by first | rfl | simp_all) rfl (((hs95.mono (le98.trans le102))).len.trans (by rw [hl96]; rfl)) (built_step (X := k91) (Y := [.slice none 0 0]) (Z := ([.slice none 0 0] : List Value) ++ (([.int .i64 0] : List Value) ++ (([.int .i64 0] : List Value) ++ (([.int .i64 0] : List Value) ++ ([.int .i64 0]))))) (V := [.slice A60 x57.1.length c61]) (off := 32) (n := 1) (by simp only [List.append_assoc, List.cons_append, List.nil_append, List.append_nil]) rfl (show (k91 : List Value).length = 32 from by simp only [List.length_append, List.length_cons, List.length_nil, (show (k91 : List Value).length = 32 from (((hs95.mono (le98.trans le102))).len.trans (by rw [hl96]; rfl)))]) rfl rfl rfl (built_step (X := k91 ++ ([.slice A60 x57.1.length c61])) (Y := [.slice none 0 0]) (Z := ([.int .i64 0] : List Value) ++ (([.int .i64 0] : List Value) ++ (([.int .i64 0] : List Value) ++ ([.int .i64 0])))) (V := [.slice A77 x74.1.length c78]) (off := 33) (n := 1) (by simp only [List.append_assoc, List.cons_append, List.nil_append, List.append_nil]) rfl (show (k91 ++ ([.slice A60 x57.1.length c61]) : List Value).length = 33 from by simp only [List.length_append, List.length_cons, List.length_nil, (show (k91 : List Value).length = 32 from (((hs95.mono (le98.trans le102))).len.trans (by rw [hl96]; rfl)))]) rfl rfl rfl (built_step (X := k91 ++ (([.slice A60 x57.1.length c61] : List Value) ++ ([.slice A77 x74.1.length c78]))) (Y := [.int .i64 0]) (Z := ([.int .i64 0] : List Value) ++ (([.int .i64 0] : List Value) ++ ([.int .i64 0]))) (V := [.int .i64 x11]) (off := 34) (n := 1) (by simp only [List.append_assoc, List.cons_append, List.nil_append, List.append_nil]) rfl (show (k91 ++ (([.slice A60 x57.1.length c61] : List Value) ++ ([.slice A77 x74.1.length c78])) : List Value).length = 34 from by simp only [List.length_append, List.length_cons, List.length_nil, (show (k91 : List Value).length = 32 from (((hs95.mono (le98.trans le102))).len.trans (by rw [hl96]; rfl)))]) rfl rfl rfl (built_step (X := k91 ++ (([.slice A60 x57.1.length c61] : List Value) ++ (([.slice A77 x74.1.length c78] : List Value) ++ ([.int .i64 x11])))) (Y := [.int .i64 0]) (Z := ([.int .i64 0] : List Value) ++ ([.int .i64 0])) (V := [.int .i64 x15.1]) (off := 35) (n := 1) (by simp only [List.append_assoc, List.cons_append, List.nil_append, List.append_nil]) rfl (show (k91 ++ (([.slice A60 x57.1.length c61] : List Value) ++ (([.slice A77 x74.1.length c78] : List Value) ++ ([.int .i64 x11]))) : List Value).length = 35 from by simp only [List.length_append, List.length_cons, List.length_nil, (show (k91 : List Value).length = 32 from (((hs95.mono (le98.trans le102))).len.trans (by rw [hl96]; rfl)))]) rfl rfl rfl (built_step (X := k91 ++ (([.slice A60 x57.1.length c61] : List Value) ++ (([.slice A77 x74.1.length c78] : List Value) ++ (([.int .i64 x11] : List Value) ++ ([.int .i64 x15.1]))))) (Y := [.int .i64 0]) (Z := [.int .i64 0]) (V := [.int .i64 x15.2.1]) (off := 36) (n := 1) (by simp only [List.append_assoc, List.cons_append, List.nil_append, List.append_nil]) rfl (show (k91 ++ (([.slice A60 x57.1.length c61] : List Value) ++ (([.slice A77 x74.1.length c78] : List Value) ++ (([.int .i64 x11] : List Value) ++ ([.int .i64 x15.1])))) : List Value).length = 36 from by simp only [List.length_append, List.length_cons, List.length_nil, (show (k91 : List Value).length = 32 from (((hs95.mono (le98.trans le102))).len.trans (by rw [hl96]; rfl)))]) rfl rfl rfl (built_step (X := k91 ++ (([.slice A60 x57.1.length c61] : List Value) ++ (([.slice A77 x74.1.length c78] : List Value) ++ (([.int .i64 x11] : List Value) ++ (([.int .i64 x15.1] : List Value) ++ ([.int .i64 x15.2.1])))))) (Y := [.int .i64 0]) (Z := []) (V := [.int .i64 x15.2.2.1]) (off := 37) (n := 1) (by simp only [List.append_assoc, List.cons_append, List.nil_append, List.append_nil]) rfl (show (k91 ++ (([.slice A60 x57.1.length c61] : List Value) ++ (([.slice A77 x74.1.length c78] : List Value) ++ (([.int .i64 x11] : List Value) ++ (([.int .i64 x15.1] : List Value) ++ ([.int .i64 x15.2.1]))))) : List Value).length = 37 from by simp only [List.length_append, List.length_cons, List.length_nil, (show (k91 : List Value).length = 32 from (((hs95.mono (le98.trans le102))).len.trans (by rw [hl96]; rfl)))]) rfl rfl rfl (built_nil (by simp only [List.append_assoc, List.cons_append, List.nil_append, List.append_nil]))))))))))) (fun a h => ?_)
        refine d_alone 15 rfl (by kernel_rfl) (fun K hK => ?_)
        refine s_stW h rfl rfl rfl ag_api_Proof rfl (es := k91 ++ ([.slice A60 x57.1.length c61, .slice A77 x74.1.length c78, .int .i64 x11, .int .i64 x15.1, .int .i64 x15.2.1, .int .i64 x15.2.2.1])) rfl (show (k91 ++ ([.slice A60 x57.1.length c61, .slice A77 x74.1.length c78, .int .i64 x11, .int .i64 x15.1, .int .i64 x15.2.1, .int .i64 x15.2.2.1]) : List Value).length = 38 from by simp only [List.length_append, List.length_cons, List.length_nil, (show (k91 : List Value).length = 32 from (((hs95.mono (le98.trans le102))).len.trans (by rw [hl96]; rfl)))]) ((tyP (tyA 32 ty8) (tyP (tyL (tyA 32 ty8)) (tyP (tyL (tyA 32 ty8)) (tyP tyI (tyP tyI (tyP tyI tyI)))))).one (show (tyP (tyA 32 ty8) (tyP (tyL (tyA 32 ty8)) (tyP (tyL (tyA 32 ty8)) (tyP tyI (tyP tyI (tyP tyI tyI)))))).rep S101 (k91 ++ ([.slice A60 x57.1.length c61, .slice A77 x74.1.length c78, .int .i64 x11, .int .i64 x15.1, .int .i64 x15.2.1, .int .i64 x15.2.2.1])) (x83, x57.1, x74.1, x11, x15.1, x15.2.1, x15.2.2.1) from ⟨k91, [.slice A60 x57.1.length c61, .slice A77 x74.1.length c78, .int .i64 x11, .int .i64 x15.1, .int .i64 x15.2.1, .int .i64 x15.2.2.1], rfl, ⟨(hs95.mono (le98.trans le102)), hl96⟩, ⟨[.slice A60 x57.1.length c61], [.slice A77 x74.1.length c78, .int .i64 x11, .int .i64 x15.1, .int .i64 x15.2.1, .int .i64 x15.2.2.1], rfl, ⟨_, _, rfl, (hs100.mono le102)⟩, ⟨[.slice A77 x74.1.length c78], [.int .i64 x11, .int .i64 x15.1, .int .i64 x15.2.1, .int .i64 x15.2.2.1], rfl, ⟨_, _, rfl, hs104⟩, ⟨[.int .i64 x11], [.int .i64 x15.1, .int .i64 x15.2.1, .int .i64 x15.2.2.1], rfl, ⟨rfl, hr14⟩, ⟨[.int .i64 x15.1], [.int .i64 x15.2.1, .int .i64 x15.2.2.1], rfl, ⟨rfl, hr29⟩, ⟨[.int .i64 x15.2.1], [.int .i64 x15.2.2.1], rfl, ⟨rfl, hr32⟩, ⟨rfl, hr35⟩⟩⟩⟩⟩⟩⟩)) 3 rfl (show ((List.replicate 32 (.int .u8 0 : Value)) ++ ([.slice none 0 0, .slice none 0 0, .int .i64 0, .int .i64 0, .int .i64 0, .int .i64 0]) : List Value).length = 38 from by simp only [List.length_append, List.length_cons, List.length_nil, (show ((List.replicate 32 (.int .u8 0 : Value)) : List Value).length = 32 from (by first | rfl | simp_all))]) (fun a w h => ?_)
        refine hK _ _ (fun hne _ => absurd rfl hne) ?_
        clear hK
        refine d_takeP h (fun hl => absurd hl (by decide)) HN 16 rfl (by kernel_rfl) (by kernel_rfl) (by kernel_rfl) (by decide) rfl rfl (by decide) (fun w' => x_assign h.k _ rfl rfl) (fun a h => ?_)
        refine d_done (by kernel_rfl) (HE _ _ ?_) _
        refine e_thenN ?_
        refine wp_ret ?_
        obtain rfl := Option.some.inj hf
        exact r_ret2 h rfl (rv_cellA h rfl 3 rfl ag_api_Proof (show (k91 ++ ([.slice A60 x57.1.length c61, .slice A77 x74.1.length c78, .int .i64 x11, .int .i64 x15.1, .int .i64 x15.2.1, .int .i64 x15.2.2.1]) : List Value).length = 38 from by simp only [List.length_append, List.length_cons, List.length_nil, (show (k91 : List Value).length = 32 from (((hs95.mono (le98.trans le102))).len.trans (by rw [hl96]; rfl)))])) (rv_tmp h rfl) ⟨_, [], _, rfl, ⟨k91 ++ ([.slice A60 x57.1.length c61, .slice A77 x74.1.length c78, .int .i64 x11, .int .i64 x15.1, .int .i64 x15.2.1, .int .i64 x15.2.2.1]), rfl, rfl, ⟨k91, [.slice A60 x57.1.length c61, .slice A77 x74.1.length c78, .int .i64 x11, .int .i64 x15.1, .int .i64 x15.2.1, .int .i64 x15.2.2.1], rfl, ⟨(hs95.mono (le98.trans le102)), hl96⟩, ⟨[.slice A60 x57.1.length c61], [.slice A77 x74.1.length c78, .int .i64 x11, .int .i64 x15.1, .int .i64 x15.2.1, .int .i64 x15.2.2.1], rfl, ⟨_, _, rfl, (hs100.mono le102)⟩, ⟨[.slice A77 x74.1.length c78], [.int .i64 x11, .int .i64 x15.1, .int .i64 x15.2.1, .int .i64 x15.2.2.1], rfl, ⟨_, _, rfl, hs104⟩, ⟨[.int .i64 x11], [.int .i64 x15.1, .int .i64 x15.2.1, .int .i64 x15.2.2.1], rfl, ⟨rfl, hr14⟩, ⟨[.int .i64 x15.1], [.int .i64 x15.2.1, .int .i64 x15.2.2.1], rfl, ⟨rfl, hr29⟩, ⟨[.int .i64 x15.2.1], [.int .i64 x15.2.2.1], rfl, ⟨rfl, hr32⟩, ⟨rfl, hr35⟩⟩⟩⟩⟩⟩⟩, (show r64 0 from ⟨by decide, by decide⟩), trivial⟩, rfl, up103, (h.m.pick [0] _ (by decide) rfl)⟩
end
section

theorem getD_at {l : List (List UInt8)} {k : Nat} (h : k < l.length) : l.getD k z32 = l[k] := by rw [List.getD_eq_getElem?_getD, List.getElem?_eq_getElem h]; rfl
/-- along a place's own way lies the root -/
theorem along_root : ∀ (e : Nat) (l : List (List UInt8)) (i : Nat), l.length = 2 ^ e → i < 2 ^ e → alongS (l.getD i z32) i (wayE e l i) = rootE e l
  | 0, l, i, hl, hi => by
    obtain rfl : i = 0 := by simpa using hi
    match l, hl with
    | [x], _ => rfl
  | e + 1, l, i, hl, hi => by
    have hu : (upL l).length = 2 ^ e := by rw [upL_length, hl, pow_half]
    rw [Nat.pow_succ] at hl hi
    rw [wayE, rootE, ← along_root e (upL l) (i / 2) hu (by omega), alongS]
    congr 1
    rw [getD_at (show i / 2 < (upL l).length by omega), upL_at l (i / 2) (by omega) (by omega), getD_at (show i < l.length by omega), getD_at (show sib i < l.length by unfold sib; split <;> omega)]
    unfold sib
    split
    · next h => congr 1 <;> congr 1 <;> omega
    · next h => congr 1 <;> congr 1 <;> omega
theorem upL_set : ∀ (l : List (List UInt8)) (i : Nat) (x : List UInt8), ∃ y, upL (l.set i x) = (upL l).set (i / 2) y
  | [], i, x => ⟨x, by simp [upL]⟩
  | [a], i, x => ⟨x, by cases i <;> simp [upL]⟩
  | a :: b :: l, 0, x => ⟨pairS x b, by simp [upL]⟩
  | a :: b :: l, 1, x => ⟨pairS a x, by simp [upL]⟩
  | a :: b :: l, i + 2, x => by
    obtain ⟨y, hy⟩ := upL_set l i x
    refine ⟨y, ?_⟩
    simp only [List.set_cons_succ, upL, hy, show (i + 2) / 2 = i / 2 + 1 by omega]
theorem getD_set (l : List (List UInt8)) (i j : Nat) (x : List UInt8) (h : i ≠ j) : (l.set i x).getD j z32 = l.getD j z32 := by
  rw [List.getD_eq_getElem?_getD, List.getD_eq_getElem?_getD, List.getElem?_set_ne h]
theorem wayE_set : ∀ (e : Nat) (l : List (List UInt8)) (i : Nat) (x : List UInt8), wayE e (l.set i x) i = wayE e l i
  | 0, _, _, _ => rfl
  | e + 1, l, i, x => by
    obtain ⟨y, hy⟩ := upL_set l i x
    rw [wayE, wayE, hy, wayE_set e (upL l) (i / 2) y, getD_set _ _ _ _ (by unfold sib; split <;> omega)]
theorem wideL_set (l : List (List UInt8)) (i : Nat) (x : List UInt8) (h : i < l.length) : wideL (l.set i x) = (wideL l).set i x := by
  unfold wideL; rw [List.length_set, List.set_append_left _ _ h]
theorem wideL_at (l : List (List UInt8)) (i : Nat) (h : i < l.length) : (wideL l).getD i z32 = l[i] := by
  unfold wideL
  rw [List.getD_eq_getElem?_getD, List.getElem?_append_left h, List.getElem?_eq_getElem h]; rfl
theorem along_own (l : List (List UInt8)) (i : Nat) (h : i < l.length) : alongS l[i] i (wayS l i) = rootS l := by
  have h1 := along_root (lg l.length) (wideL l) i (wideL_length l (by omega)) (Nat.lt_of_lt_of_le h (le_lg _ (by omega)))
  rwa [wideL_at l i h] at h1
theorem along_set (l : List (List UInt8)) (i : Nat) (h : i < l.length) (x : List UInt8) : alongS x i (wayS l i) = rootS (l.set i x) := by
  have h1 := along_own (l.set i x) i (by simpa using h)
  have e : wayS (l.set i x) i = wayS l i := by unfold wayS; rw [List.length_set, wideL_set l i x h, wayE_set]
  rw [e] at h1
  rw [← h1]
  simp
theorem wayS_length (l : List (List UInt8)) (i : Nat) : (wayS l i).length = lg l.length := wayE_length _ _ _
theorem way_in {l : List (List UInt8)} {i : Nat} (h : inOk l.length (i : Int)) : wayOk (i : Int) (wayS l i).length := by
  obtain ⟨⟨h1, h2⟩, h3, h4⟩ := h
  rw [wayS_length]
  have h5 := le_lg l.length (by omega)
  have h6 : ((2 ^ lg l.length : Nat) : Int) = (2 : Int) ^ lg l.length := by simp
  exact ⟨lg_le _ (by omega) h2, h3, by omega⟩
theorem clone_any {w : World} {v : Value} {l : List (List UInt8)} (hl : S32 l) (hown : w.ownsRow 0 40 32 v l.length (by8 l.flatten)) (hr : ∃ A c, v = .slice A l.length c ∧ Rd w A (by8 l.flatten)) (h2 : l.length ≤ 4096) :
    Calls Try.prog 76 #[v] w fun e w' => ∃ v, e = .returned v ∧ NewS w w' 40 32 v l.length (by8 l.flatten) := by
  obtain ⟨A, c, e, hr⟩ := hr
  rcases hown.2 with ⟨h1, h3⟩ | ⟨g, cap, cur, h1, _⟩
  · obtain rfl : l = [] := List.eq_nil_of_length_eq_zero h3
    subst h1
    exact cloneS_nil w
  · rw [e] at h1
    cases h1
    rw [e]
    exact cloneS_some w g 0 l _ hl hr h2
def chgV (l : List (List UInt8)) (i : Int) (x r : List UInt8) : List UInt8 := if inOk l.length i ∧ rootS l = r then rootS (l.set i.toNat x) else z32
def chgE (l : List (List UInt8)) (i : Int) (r : List UInt8) : Int := if inOk l.length i then (if rootS l = r then 0 else 21) else 2
set_option maxRecDepth 100000 in
set_option maxHeartbeats 1000000 in
theorem changed_ok (w0 : World) (A : Option Addr) (l : List (List UInt8)) (c : Nat) (hl : S32 l) (hr : Rd w0 A (by8 l.flatten)) (i : Int) (hi : -9223372036854775808 ≤ i ∧ i ≤ 9223372036854775807) (x r : List UInt8) (hx : x.length = 32) (hr32 : r.length = 32) :
    Calls Try.prog 34 #[.slice A l.length c, .int .i64 i, .agg (by8 x).toArray, .agg (by8 r).toArray] w0 fun e w' => e = .returned (.tuple #[.agg (by8 (chgV l i x r)).toArray, .int .i64 (chgE l i r)]) ∧ Below w0.heap.size w0 w' := by
  refine c_enter Try.func34 rfl 45 rfl (by simp) (fun _ => False) _ rfl (fun a h => ?_)
  have h := h.mem (h.m.arg (rdP A (by8 l.flatten)) hr (fun _ _ hh => hh))
  refine c_rs ?_ -- region 0
  refine s_box h rfl rfl rfl (by decide) rfl rfl (fun a w g6 h => ?_)
  refine s_box h rfl rfl rfl (by decide) rfl rfl (fun a w g7 h => ?_)
  refine s_alloc h rfl rfl rfl (by decide) zi_A32_uint8 rfl (fun a w g8 h => ?_)
  refine s_assign h rfl _ rfl rfl (by decide) rfl (fun a h => ?_)
  refine l_end ?_
  refine c_rs ?_ -- region 1
  refine s_move h rfl _ rfl rfl (by decide) rfl (fun a h => ?_)
  refine s_move h rfl _ rfl rfl (by decide) rfl (fun a h => ?_)
  refine s_call h rfl rfl rfl (by decide) Try.func33 rfl rfl rfl (way_ok w A l c hl (h.m.ok 3 _ rfl) i hi) (fun e w' hp => ?_)
  obtain ⟨vw, rfl, hnew⟩ := hp
  refine ⟨_, rfl, fun a hk => ?_⟩
  have hws := wayV_s32 hl i
  have h : St 45 w0 (fun _ => False) _ (.row vw 40 32 (wayV l i).length (by8 (wayV l i).flatten) :: _) a w' := ⟨hk, h.m.addNewS hnew⟩
  refine s_move h rfl _ rfl rfl (by decide) rfl (fun a h => ?_)
  refine s_ext h rfl rfl rfl (by decide) rfl rfl (fun a h => ?_)
  refine s_ext h rfl rfl rfl (by decide) rfl rfl (fun a h => ?_)
  refine s_assign h rfl _ rfl rfl (by decide) rfl (fun a h => ?_)
  refine s_assign h rfl _ rfl rfl (by decide) rfl (fun a h => ?_)
  refine l_end ?_
  refine wp_seq ?_
  refine c_rs ?_ -- region 2
  refine s_move h rfl _ rfl rfl (by decide) rfl (fun a h => ?_)
  refine s_bin h rfl rfl rfl (by decide) rfl rfl (ib_neq) (fun a h => ?_)
  refine l_end ?_
  refine c_cond h rfl (fun hb => ?_) (fun hb => ?_)
  · have hno : ¬ inOk l.length i := by
      intro hh
      unfold errV at hb
      rw [if_pos hh] at hb
      simp at hb
    refine c_rs ?_ -- region 3
    refine s_build h rfl rfl rfl (by decide) [] rfl (by8 z32) (by kernel_rfl) (fun a h => ?_)
    refine s_move h rfl _ rfl rfl (by decide) rfl (fun a h => ?_)
    refine s_stW h rfl rfl rfl ag_A32_uint8 rfl rfl (by first | assumption | (rw [by8_length]; assumption) | (rw [by8_length]; rfl) | rfl | decide) (by first | exact by8_one _ | simp [Value.oneCell']) 1 rfl (by first | assumption | (rw [by8_length]; assumption) | (rw [by8_length]; rfl) | rfl | decide) (fun a w h => ?_)
    refine s_assign h rfl _ rfl rfl (by decide) rfl (fun a h => ?_)
    refine l_end ?_
    refine wp_ret ?_
    refine e_thenR ?_
    refine r_ret2 h rfl (rv_cellA h rfl 1 rfl ag_A32_uint8 rfl) (rv_tmp h rfl) ⟨?_, h.m.below⟩
    unfold chgV chgE errV
    rw [if_neg (show ¬ (inOk l.length i ∧ rootS l = r) from fun hh => hno hh.1)]
    simp [hno]
  · have hok : inOk l.length i := Classical.byContradiction fun hh => by
      unfold errV at hb
      rw [if_neg hh] at hb
      simp at hb
    have hok' := hok
    obtain ⟨⟨h1, h2⟩, h3, h4⟩ := hok'
    obtain ⟨i0, rfl⟩ : ∃ n : Nat, i = (n : Int) := ⟨i.toNat, by omega⟩
    have hi0 : i0 < l.length := by omega
    have hwv : wayV l (i0 : Int) = wayS l i0 := by unfold wayV; rw [if_pos hok, Int.toNat_natCast]
    rw [hwv] at h hws
    have hwk := way_in hok
    have hwl : (wayS l i0).length ≤ 4096 := by rw [wayS_length]; have := lg_le l.length (by omega) h2; omega
    have ho32 := hl.at hi0
    obtain ⟨b, off, hA⟩ := hr.addr (by rw [by8_length, flat_len hl]; omega)
    subst hA
    obtain ⟨Aw, cw, rfl, _, _, _⟩ := h.m.rdRow (i := 0) rfl
    have hal : alongV l[i0] (i0 : Int) (wayS l i0) = rootS l := by unfold alongV; rw [if_pos hwk, Int.toNat_natCast]; exact along_own l i0 hi0
    have hal2 : alongV x (i0 : Int) (wayS l i0) = rootS (l.set i0 x) := by unfold alongV; rw [if_pos hwk, Int.toNat_natCast]; exact along_set l i0 hi0 x
    have hew : errV (wayOk (i0 : Int) (wayS l i0).length) = 0 := by unfold errV; rw [if_pos hwk]
    have hro := rootS_length hl
    have hro2 := rootS_length (hl.set i0 hx)
    refine wp_skip ?_
    refine e_thenN ?_
    refine wp_seq ?_
    refine wp_seq ?_
    -- region 4 DRAWS
    refine c_fin (fun a w => ∃ g12, St 45 w0 (fun _ => False) [(0, .slice (some ⟨b, off, none⟩) l.length c), (1, .int .i64 (i0 : Int)), (6, .pointer (some ⟨g6, 0, none⟩)), (7, .pointer (some ⟨g7, 0, none⟩)), (8, .pointer (some ⟨g8, 0, none⟩)), (10, .slice Aw (wayS l i0).length cw), (12, .pointer (some ⟨g12, 0, none⟩))] [.box g12 40 (by8 (rootS l)), .row (.slice Aw (wayS l i0).length cw) 40 32 (wayS l i0).length (by8 (wayS l i0).flatten), .box g8 40 (by8 z32), .box g7 40 (by8 r), .box g6 40 (by8 x)] a w) ?_ (fun a w h => ?_)
    · refine d_start h (Mem _ _ _) 12 14 rfl (by kernel_rfl) (fun _ _ _ _ _ h => h) (fun _ h => h) (fun Q a w HE HN h HS => ?_)
      refine d_takeP h (fun _ => HS) HN 0 rfl (by kernel_rfl) (by kernel_rfl) (by kernel_rfl) (by decide) rfl rfl (by decide) (fun w' => x_move h.k _ rfl rfl) (fun a h => ?_)
      refine d_takeP h (fun _ => HS) HN 1 rfl (by kernel_rfl) (by kernel_rfl) (by kernel_rfl) (by decide) rfl rfl (by decide) (fun w' => x_move h.k _ rfl rfl) (fun a h => ?_)
      refine d_takeP h (fun _ => HS) HN 2 rfl (by kernel_rfl) (by kernel_rfl) (by kernel_rfl) (by decide) rfl rfl (by decide) (fun w' => x_iaddr h.k rfl Try.underlying39 sz_A32_uint8 rfl rfl (m := i0) (by omega) (by omega) (r := off + i0 * 32) (by omega)) (fun a h => ?_)
      refine d_take h HS HN 3 rfl (by kernel_rfl) (by kernel_rfl) (by kernel_rfl) (by kernel_rfl) (by kernel_rfl) rfl rfl (by decide) (fun w' hw => x_ldR h.k rfl ag_A32_uint8 rfl (by8 l[i0]) (by rw [by8_length, ho32]) (Rd.sum hl (hw.ok 4 _ rfl) hi0)) (fun a h => ?_)
      refine d_takeP h (fun _ => HS) HN 4 rfl (by kernel_rfl) (by kernel_rfl) (by kernel_rfl) (by decide) rfl rfl (by decide) (fun w' => x_move h.k _ rfl rfl) (fun a h => ?_)
      refine d_takeP h (fun _ => HS) HN 5 rfl (by kernel_rfl) (by kernel_rfl) (by kernel_rfl) (by decide) rfl rfl (by decide) (fun w' => x_move h.k _ rfl rfl) (fun a h => ?_)
      refine d_two 6 11 (by kernel_rfl) (d_one 6 rfl _ (fun K hK => ?_)) (d_one 11 rfl _ (fun K hK => ?_))
      · refine s_callNS h rfl rfl rfl (by decide) Try.func76 rfl rfl rfl (by first | exact clone_any hws (h.m.ok 0 _ rfl) ⟨_, _, rfl, h.m.rdRowA (i := 0) rfl⟩ hwl | exact clone_any hws (h.m.ok 1 _ rfl) ⟨_, _, rfl, h.m.rdRowA (i := 1) rfl⟩ hwl) (fun a w v31 hb h => ?_)
        obtain ⟨A31, c31, rfl, _, _, _⟩ := h.m.rdRow (i := 0) rfl
        refine hK _ _ ⟨fun _ _ => HS.ext hb, ?_⟩
        replace HS := HS.ext hb
        clear hK
        refine d_two 7 11 (by kernel_rfl) (d_one 7 rfl _ (fun K hK => ?_)) (d_one 11 rfl _ (fun K hK => ?_))
        · refine s_callB h rfl rfl rfl (by decide) Try.func29 rfl rfl rfl (along_ok w l[i0] ho32 i0 hi A31 (wayS l i0) c31 hws (by first | exact h.m.rdRowA (i := 0) rfl | exact h.m.rdRowA (i := 1) rfl)) (fun a w hb h => ?_)
          rw [hal] at h
          refine hK _ _ ⟨fun _ _ => HS.ext hb, ?_⟩
          replace HS := HS.ext hb
          clear hK
          refine d_takeP h (fun _ => HS) HN 8 rfl (by kernel_rfl) (by kernel_rfl) (by kernel_rfl) (by decide) rfl rfl (by decide) (fun w' => x_move h.k _ rfl rfl) (fun a h => ?_)
          refine d_takeP h (fun _ => HS) HN 9 rfl (by kernel_rfl) (by kernel_rfl) (by kernel_rfl) (by decide) rfl rfl (by decide) (fun w' => x_ext h.k rfl rfl rfl) (fun a h => ?_)
          refine d_takeP h (fun _ => HS) HN 10 rfl (by kernel_rfl) (by kernel_rfl) (by kernel_rfl) (by decide) rfl rfl (by decide) (fun w' => x_ext h.k rfl rfl rfl) (fun a h => ?_)
          refine d_alone 11 rfl (by kernel_rfl) (fun K hK => ?_)
          refine s_alloc h rfl rfl rfl (by decide) zi_A32_uint8 rfl (fun a w g12 h => ?_)
          replace HS := h.m.tail.tail
          refine hK _ _ (fun _ _ => HS) ?_
          clear hK
          refine d_alone 12 rfl (by kernel_rfl) (fun K hK => ?_)
          first
            | refine s_stW h rfl rfl rfl ag_A32_uint8 rfl rfl (by rw [by8_length, hro]) (by8_one _) 0 rfl (by rfl) (fun a w h => ?_)
            | refine s_stW h rfl rfl rfl ag_A32_uint8 rfl rfl (by rw [by8_length, hro]) (by8_one _) 1 rfl (by rfl) (fun a w h => ?_)
          refine hK _ _ (fun hne _ => absurd rfl hne) ?_
          clear hK
          refine d_takeP h (fun hl => absurd hl (by decide)) HN 13 rfl (by kernel_rfl) (by kernel_rfl) (by kernel_rfl) (by decide) rfl rfl (by decide) (fun w' => x_assign h.k _ rfl rfl) (fun a h => ?_)
          refine d_done (by kernel_rfl) (HE _ _ ?_) _
          first
            | exact ⟨g12, (h.pick [0, 2, 3, 4, 5] (by decide) rfl).has (by exact ⟨rfl, rfl, rfl, rfl, rfl, rfl, rfl, trivial⟩)⟩
            | exact ⟨g12, (h.pick [1, 2, 3, 4, 5] (by decide) rfl).has (by exact ⟨rfl, rfl, rfl, rfl, rfl, rfl, rfl, trivial⟩)⟩
        · refine s_alloc h rfl rfl rfl (by decide) zi_A32_uint8 rfl (fun a w g12 h => ?_)
          replace HS := h.m.tail.tail
          refine hK _ _ ⟨fun _ _ => HS, ?_⟩
          clear hK
          refine d_alone 7 rfl (by kernel_rfl) (fun K hK => ?_)
          refine s_callB h rfl rfl rfl (by decide) Try.func29 rfl rfl rfl (along_ok w l[i0] ho32 i0 hi A31 (wayS l i0) c31 hws (by first | exact h.m.rdRowA (i := 0) rfl | exact h.m.rdRowA (i := 1) rfl)) (fun a w hb h => ?_)
          rw [hal] at h
          refine hK _ _ (fun _ _ => HS.ext hb) ?_
          replace HS := HS.ext hb
          clear hK
          refine d_takeP h (fun _ => HS) HN 8 rfl (by kernel_rfl) (by kernel_rfl) (by kernel_rfl) (by decide) rfl rfl (by decide) (fun w' => x_move h.k _ rfl rfl) (fun a h => ?_)
          refine d_takeP h (fun _ => HS) HN 9 rfl (by kernel_rfl) (by kernel_rfl) (by kernel_rfl) (by decide) rfl rfl (by decide) (fun w' => x_ext h.k rfl rfl rfl) (fun a h => ?_)
          refine d_takeP h (fun _ => HS) HN 10 rfl (by kernel_rfl) (by kernel_rfl) (by kernel_rfl) (by decide) rfl rfl (by decide) (fun w' => x_ext h.k rfl rfl rfl) (fun a h => ?_)
          refine d_alone 12 rfl (by kernel_rfl) (fun K hK => ?_)
          first
            | refine s_stW h rfl rfl rfl ag_A32_uint8 rfl rfl (by rw [by8_length, hro]) (by8_one _) 0 rfl (by rfl) (fun a w h => ?_)
            | refine s_stW h rfl rfl rfl ag_A32_uint8 rfl rfl (by rw [by8_length, hro]) (by8_one _) 1 rfl (by rfl) (fun a w h => ?_)
          refine hK _ _ (fun hne _ => absurd rfl hne) ?_
          clear hK
          refine d_takeP h (fun hl => absurd hl (by decide)) HN 13 rfl (by kernel_rfl) (by kernel_rfl) (by kernel_rfl) (by decide) rfl rfl (by decide) (fun w' => x_assign h.k _ rfl rfl) (fun a h => ?_)
          refine d_done (by kernel_rfl) (HE _ _ ?_) _
          first
            | exact ⟨g12, (h.pick [0, 2, 3, 4, 5] (by decide) rfl).has (by exact ⟨rfl, rfl, rfl, rfl, rfl, rfl, rfl, trivial⟩)⟩
            | exact ⟨g12, (h.pick [1, 2, 3, 4, 5] (by decide) rfl).has (by exact ⟨rfl, rfl, rfl, rfl, rfl, rfl, rfl, trivial⟩)⟩
      · refine s_alloc h rfl rfl rfl (by decide) zi_A32_uint8 rfl (fun a w g12 h => ?_)
        replace HS := h.m.tail
        refine hK _ _ ⟨fun _ _ => HS, ?_⟩
        clear hK
        refine d_alone 6 rfl (by kernel_rfl) (fun K hK => ?_)
        refine s_callNS h rfl rfl rfl (by decide) Try.func76 rfl rfl rfl (by first | exact clone_any hws (h.m.ok 0 _ rfl) ⟨_, _, rfl, h.m.rdRowA (i := 0) rfl⟩ hwl | exact clone_any hws (h.m.ok 1 _ rfl) ⟨_, _, rfl, h.m.rdRowA (i := 1) rfl⟩ hwl) (fun a w v31 hb h => ?_)
        obtain ⟨A31, c31, rfl, _, _, _⟩ := h.m.rdRow (i := 0) rfl
        refine hK _ _ (fun _ _ => HS.ext hb) ?_
        replace HS := HS.ext hb
        clear hK
        refine d_alone 7 rfl (by kernel_rfl) (fun K hK => ?_)
        refine s_callB h rfl rfl rfl (by decide) Try.func29 rfl rfl rfl (along_ok w l[i0] ho32 i0 hi A31 (wayS l i0) c31 hws (by first | exact h.m.rdRowA (i := 0) rfl | exact h.m.rdRowA (i := 1) rfl)) (fun a w hb h => ?_)
        rw [hal] at h
        refine hK _ _ (fun _ _ => HS.ext hb) ?_
        replace HS := HS.ext hb
        clear hK
        refine d_takeP h (fun _ => HS) HN 8 rfl (by kernel_rfl) (by kernel_rfl) (by kernel_rfl) (by decide) rfl rfl (by decide) (fun w' => x_move h.k _ rfl rfl) (fun a h => ?_)
        refine d_takeP h (fun _ => HS) HN 9 rfl (by kernel_rfl) (by kernel_rfl) (by kernel_rfl) (by decide) rfl rfl (by decide) (fun w' => x_ext h.k rfl rfl rfl) (fun a h => ?_)
        refine d_takeP h (fun _ => HS) HN 10 rfl (by kernel_rfl) (by kernel_rfl) (by kernel_rfl) (by decide) rfl rfl (by decide) (fun w' => x_ext h.k rfl rfl rfl) (fun a h => ?_)
        refine d_alone 12 rfl (by kernel_rfl) (fun K hK => ?_)
        first
          | refine s_stW h rfl rfl rfl ag_A32_uint8 rfl rfl (by rw [by8_length, hro]) (by8_one _) 0 rfl (by rfl) (fun a w h => ?_)
          | refine s_stW h rfl rfl rfl ag_A32_uint8 rfl rfl (by rw [by8_length, hro]) (by8_one _) 1 rfl (by rfl) (fun a w h => ?_)
        refine hK _ _ (fun hne _ => absurd rfl hne) ?_
        clear hK
        refine d_takeP h (fun hl => absurd hl (by decide)) HN 13 rfl (by kernel_rfl) (by kernel_rfl) (by kernel_rfl) (by decide) rfl rfl (by decide) (fun w' => x_assign h.k _ rfl rfl) (fun a h => ?_)
        refine d_done (by kernel_rfl) (HE _ _ ?_) _
        first
          | exact ⟨g12, (h.pick [0, 2, 3, 4, 5] (by decide) rfl).has (by exact ⟨rfl, rfl, rfl, rfl, rfl, rfl, rfl, trivial⟩)⟩
          | exact ⟨g12, (h.pick [1, 2, 3, 4, 5] (by decide) rfl).has (by exact ⟨rfl, rfl, rfl, rfl, rfl, rfl, rfl, trivial⟩)⟩
    obtain ⟨g12, h⟩ := h
    refine e_thenN ?_
    refine c_rs ?_ -- region 5
    refine s_ldW h rfl rfl rfl (by decide) ag_A32_uint8 rfl 0 rfl (by first | assumption | (rw [by8_length]; assumption) | (rw [by8_length]; rfl) | rfl | decide) (fun a h => ?_)
    refine s_ldW h rfl rfl rfl (by decide) ag_A32_uint8 rfl 3 rfl (by first | assumption | (rw [by8_length]; assumption) | (rw [by8_length]; rfl) | rfl | decide) (fun a h => ?_)
    refine s_neA h rfl rfl rfl (by decide) Try.underlying40 Try.underlying5 sz_uint8 (by kernel_rfl) rfl rfl hro hr32 (fun a h => ?_)
    refine l_end ?_
    refine c_cond h rfl (fun hb => ?_) (fun hb => ?_)
    · have hne : rootS l ≠ r := by simpa using hb
      refine c_rs ?_ -- region 6
      refine s_build h rfl rfl rfl (by decide) [] rfl (by8 z32) (by kernel_rfl) (fun a h => ?_)
      refine s_stW h rfl rfl rfl ag_A32_uint8 rfl rfl (by first | assumption | (rw [by8_length]; assumption) | (rw [by8_length]; rfl) | rfl | decide) (by first | exact by8_one _ | simp [Value.oneCell']) 2 rfl (by first | assumption | (rw [by8_length]; assumption) | (rw [by8_length]; rfl) | rfl | decide) (fun a w h => ?_)
      refine s_assign h rfl _ rfl rfl (by decide) rfl (fun a h => ?_)
      refine l_end ?_
      refine wp_ret ?_
      refine e_thenR ?_
      refine r_ret2 h rfl (rv_cellA h rfl 2 rfl ag_A32_uint8 rfl) (rv_tmp h rfl) ⟨?_, h.m.below⟩
      unfold chgV chgE
      rw [if_neg (fun hh => hne hh.2), if_pos hok, if_neg hne]
    · have heq : rootS l = r := by simpa using hb
      refine wp_skip ?_
      refine e_thenN ?_
      refine c_rs ?_ -- region 7
      refine s_ldW h rfl rfl rfl (by decide) ag_A32_uint8 rfl 4 rfl (by first | assumption | (rw [by8_length]; assumption) | (rw [by8_length]; rfl) | rfl | decide) (fun a h => ?_)
      refine s_move h rfl _ rfl rfl (by decide) rfl (fun a h => ?_)
      refine s_move h rfl _ rfl rfl (by decide) rfl (fun a h => ?_)
      refine s_callB h rfl rfl rfl (by decide) Try.func29 rfl rfl rfl (along_ok w x hx i0 hi Aw (wayS l i0) cw hws (h.m.rdRowA (i := 1) rfl)) (fun a w hb h => ?_)
      rw [hal2, hew] at h
      refine s_ext h rfl rfl rfl (by decide) rfl rfl (fun a h => ?_)
      refine s_ext h rfl rfl rfl (by decide) rfl rfl (fun a h => ?_)
      refine s_stW h rfl rfl rfl ag_A32_uint8 rfl rfl (by rw [by8_length, hro2]) (by8_one _) 2 rfl (by rfl) (fun a w h => ?_)
      refine s_assign h rfl _ rfl rfl (by decide) rfl (fun a h => ?_)
      refine l_end ?_
      refine wp_ret ?_
      refine r_ret2 h rfl (rv_cellA h rfl 2 rfl ag_A32_uint8 (by rw [by8_length, hro2])) (rv_tmp h rfl) ⟨?_, h.m.below⟩
      unfold chgV chgE
      rw [if_pos ⟨hok, heq⟩, if_pos hok, if_pos heq, Int.toNat_natCast]
      rfl
end
section
abbrev Pf := (List UInt8) × (List (List UInt8)) × (List (List UInt8)) × Int × Int × Int × Int
/-! names rise -/
theorem right_rise {Fu : Nat} (a : List Sp) (ha : a.length ≤ 1000) : ∀ (d k i : Nat), i + d = a.length → forest_Right_l0 Fu a k (i : Int) = some (.inr ()) → ∀ j s t, i ≤ j + 1 → a[j]? = some s → a[j + 1]? = some t → s.1 < t.1 := by
  intro d
  induction d with
  | zero =>
    intro k i hi h j s t hj hs ht
    have := (List.getElem?_eq_some_iff.1 ht).1
    omega
  | succ d ih =>
    intro k i hi h j s t hj hs ht
    obtain _ | k := k
    · rw [forest_Right_l0] at h; cases h
    have hl : i < a.length := by omega
    rw [forest_Right_l0, if_pos (by omega), idx_nat, List.getElem?_eq_getElem hl] at h
    simp only [Option.bind_some, pOne] at h
    by_cases ho : oneB a[i] = true
    · rw [ho, if_neg (by decide)] at h
      by_cases hi0 : 0 < i
      · rw [if_pos (by omega), w64_of (by omega), show (i : Int) - 1 = ((i - 1 : Nat) : Int) by omega, idx_nat, List.getElem?_eq_getElem (show i - 1 < a.length by omega)] at h
        simp only [Option.bind_some] at h
        by_cases hc : a[i].1 ≤ (a[i - 1]'(by omega)).1
        · rw [if_pos (decide_eq_true hc)] at h; cases h
        · rw [if_neg (by simpa using hc), w_up i (by omega)] at h
          by_cases e : j + 1 = i
          · subst e
            rw [List.getElem?_eq_getElem hl] at ht
            cases ht
            rw [List.getElem?_eq_getElem (show j < a.length by omega)] at hs
            cases hs
            exact Int.not_le.1 hc
          · exact ih k (i + 1) (by omega) h j s t (by omega) hs ht
      · rw [if_neg (by omega)] at h
        simp only [Option.bind_some] at h
        rw [if_neg (by decide), w_up i (by omega)] at h
        exact ih k (i + 1) (by omega) h j s t (by omega) hs ht
    · rw [if_pos (by simpa using ho)] at h; cases h
theorem right_step {Fu : Nat} (a : List Sp) (ha : a.length ≤ 1000) (h : forest_Right Fu a = some true) : ∀ j s t, a[j]? = some s → a[j + 1]? = some t → s.1 < t.1 := by
  unfold forest_Right at h
  obtain ⟨o, ho, h⟩ := bsome h
  cases o with
  | inl r =>
    intro j s t hs ht
    exfalso
    have hr : r = true := Option.some.inj h
    subst hr
    revert ho
    have key : ∀ (k : Nat) (x : Int), forest_Right_l0 Fu a k x ≠ some (.inl true) := by
      intro k
      induction k with
      | zero => intro x hx; rw [forest_Right_l0] at hx; cases hx
      | succ k ih =>
        intro x hx
        rw [forest_Right_l0] at hx
        by_cases hxl : x < (a.length : Int)
        · rw [if_pos hxl] at hx
          obtain ⟨_, _, hx⟩ := bsome hx
          obtain ⟨_, _, hx⟩ := bsome hx
          obtain ⟨z, _, hx⟩ := bsome hx
          by_cases hz : z = true
          · rw [if_pos hz] at hx; cases hx
          · rw [if_neg hz] at hx; exact ih _ hx
        · rw [if_neg hxl] at hx; cases hx
    exact key _ _
  | inr u =>
    cases u
    intro j s t hs ht
    exact right_rise a ha a.length Fu 0 (by omega) ho j s t (by omega) hs ht
theorem rise {a : List Sp} (h : ∀ j s t, a[j]? = some s → a[j + 1]? = some t → s.1 < t.1) : ∀ (d j : Nat) (s t : Sp), a[j]? = some s → a[j + d + 1]? = some t → s.1 < t.1 := by
  intro d
  induction d with
  | zero => intro j s t hs ht; exact h j s t hs ht
  | succ d ih =>
    intro j s t hs ht
    have hlt := (List.getElem?_eq_some_iff.1 ht).1
    have hm : a[j + d + 1]? = some (a[j + d + 1]'(by omega)) := List.getElem?_eq_getElem (by omega)
    have h1 := ih j s _ hs hm
    have h2 := h (j + d + 1) _ t hm (by rw [← ht]; congr 1)
    omega
theorem rise_inj {a : List Sp} (h : ∀ j s t, a[j]? = some s → a[j + 1]? = some t → s.1 < t.1) {j k : Nat} {s t : Sp} (hs : a[j]? = some s) (ht : a[k]? = some t) (e : s.1 = t.1) : j = k := by
  rcases Nat.lt_trichotomy j k with h1 | h1 | h1
  · have := rise h (k - j - 1) j s t hs (by rw [← ht]; congr 1; omega)
    omega
  · exact h1
  · have := rise h (j - k - 1) k t s ht (by rw [← hs]; congr 1; omega)
    omega
/-! where a name stands -/
theorem index_l0 {Fu : Nat} (a : List Sp) (ha : a.length ≤ 1000) (id : Int) : ∀ (d k i : Nat), i + d = a.length → d < k →
    ∃ o, slices_IndexFunc___api_Space_api_Space_clo1_82_0_1_l0 Fu a id k (i : Int) = some o ∧ ((o = .inr () ∧ ∀ (j : Nat) (s : Sp), i ≤ j → a[j]? = some s → s.1 ≠ id) ∨ ∃ (j : Nat) (s : Sp), a[j]? = some s ∧ s.1 = id ∧ o = .inl (j : Int)) := by
  intro d
  induction d with
  | zero =>
    intro k i hi hk
    obtain ⟨k, rfl⟩ : ∃ m, k = m + 1 := ⟨k - 1, by omega⟩
    rw [slices_IndexFunc___api_Space_api_Space_clo1_82_0_1_l0, if_neg (by omega)]
    refine ⟨_, rfl, .inl ⟨rfl, fun j s hj hs => ?_⟩⟩
    have := (List.getElem?_eq_some_iff.1 hs).1
    omega
  | succ d ih =>
    intro k i hi hk
    obtain ⟨k, rfl⟩ : ∃ m, k = m + 1 := ⟨k - 1, by omega⟩
    have hl : i < a.length := by omega
    have hs : a[i]? = some a[i] := List.getElem?_eq_getElem hl
    rw [slices_IndexFunc___api_Space_api_Space_clo1_82_0_1_l0, if_pos (by omega), idx_nat, hs]
    simp only [Option.bind_some, forest_Prove_1]
    by_cases he : a[i].1 = id
    · rw [if_pos (decide_eq_true he)]
      exact ⟨_, rfl, .inr ⟨i, _, hs, he, rfl⟩⟩
    · rw [if_neg (by simpa using he), w_up i (by omega)]
      obtain ⟨o, h1, h2⟩ := ih k (i + 1) (by omega) (by omega)
      refine ⟨o, h1, h2.imp (fun ⟨h3, h4⟩ => ⟨h3, fun j s hj hjs => ?_⟩) (fun h => h)⟩
      by_cases e : j = i
      · subst e; cases hs.symm.trans hjs; exact he
      · exact h4 j s (by omega) hjs
theorem pIndex {Fu : Nat} (hF : 300 ≤ Fu) (a : List Sp) (ha : a.length ≤ 6) (id : Int) : (slices_IndexFunc___api_Space_api_Space_clo1_82_0_1 Fu a id = some (-1) ∧ ∀ s ∈ a, s.1 ≠ id) ∨ ∃ (j : Nat) (s : Sp), a[j]? = some s ∧ s.1 = id ∧ slices_IndexFunc___api_Space_api_Space_clo1_82_0_1 Fu a id = some (j : Int) := by
  obtain ⟨o, h1, h2⟩ := index_l0 (Fu := Fu) a (by omega) id a.length Fu 0 (by omega) (by omega)
  unfold slices_IndexFunc___api_Space_api_Space_clo1_82_0_1
  rw [show (0 : Int) = ((0 : Nat) : Int) from rfl, h1]
  rcases h2 with ⟨rfl, h3⟩ | ⟨j, s, h3, h4, rfl⟩
  · refine .inl ⟨rfl, fun s hs => ?_⟩
    obtain ⟨j, hj⟩ := List.mem_iff_getElem?.1 hs
    exact h3 j s (by omega) hj
  · exact .inr ⟨j, s, h3, h4, rfl⟩
/-! a proof, and that it holds -/
def proofS (a : List Sp) (j i : Nat) (s : Sp) : Pf := ((sumsOf s).getD i z0, wayS (sumsOf s) i, wayS (a.map headS) j, (j : Int), s.1, s.2.1, s.2.2.1)
theorem pProve {Fu : Nat} (hF : 300 ≤ Fu) (a : List Sp) (ha : a.length ≤ 6) (hf : ∀ s ∈ a, few s ∧ oneB s = true) (hr : forest_Right Fu a = some true) {j i : Nat} {s : Sp} (hs : a[j]? = some s) (hi : i < (sumsOf s).length) : forest_Prove Fu a s.1 (i : Int) = some (proofS a j i s, 0) := by
  have hsm : s ∈ a := List.mem_iff_getElem?.2 ⟨j, hs⟩
  obtain ⟨hfs, ho⟩ := hf s hsm
  obtain ⟨o1, o2, o3, o4, o5, o6, o7⟩ := oneB_iff.1 ho
  have h12 : s.2.2.2.2.2.2.length ≤ 12 := hfs.1
  have hi' : i < s.2.2.2.2.2.2.length := hi
  have hjl := (List.getElem?_eq_some_iff.1 hs).1
  unfold forest_Prove
  refine (bnd_eqF hr _).trans ?_
  rw [if_neg (by decide)]
  rcases pIndex hF a ha s.1 with ⟨_, h2⟩ | ⟨j', s', h1, h2, h3⟩
  · exact absurd rfl (h2 s hsm)
  · obtain rfl := rise_inj (right_step a (by omega) hr) h1 hs h2
    cases hs.symm.trans h1
    refine (bnd_eqF h3 _).trans ?_
    rw [if_neg (by omega), idx_nat]
    refine (bnd_eqF hs _).trans ?_
    rw [if_neg (by simp only [Bool.or_eq_true, decide_eq_true_eq, not_or]; omega)]
    have k1 : inOk s.2.2.2.2.2.2.length (i : Int) := ⟨⟨by omega, by omega⟩, by omega, by omega⟩
    have k2 : inOk (a.map headS).length (j' : Int) := by rw [List.length_map]; exact ⟨⟨by omega, by omega⟩, by omega, by omega⟩
    refine (bnd_eqF (show merkle_Way Fu s.2.2.2.2.2.2 (i : Int) = some (wayS (sumsOf s) i, 0) by unfold merkle_Way wayV errV; rw [if_pos k1, if_pos k1, Int.toNat_natCast]; rfl) _).trans ?_
    refine (bnd_eqF (pColl hF a ha hf) _).trans ?_
    refine (bnd_eqF (show merkle_Way Fu (a.map headS) (j' : Int) = some (wayS (a.map headS) j', 0) by unfold merkle_Way wayV errV; rw [if_pos k2, if_pos k2, Int.toNat_natCast]) _).trans ?_
    rw [idx_nat]
    refine (bnd_eqF (List.getElem?_eq_getElem hi') _).trans ?_
    unfold proofS
    rw [List.getD_eq_getElem?_getD, List.getElem?_eq_getElem hi]; rfl
theorem pHoldsIt {Fu : Nat} (hF : 300 ≤ Fu) (a : List Sp) (ha : a.length ≤ 6) (hf : ∀ s ∈ a, few s ∧ oneB s = true) {j i : Nat} {s : Sp} (hs : a[j]? = some s) (hi : i < (sumsOf s).length) (root b : List UInt8) (hb : b.length ≤ 1000) : forest_Holds Fu (proofS a j i s) root (i : Int) b = some (decide ((sumsOf s).getD i z0 = leafS s.1 (i : Int) b) && decide (rootF a = root)) := by
  have hsm : s ∈ a := List.mem_iff_getElem?.2 ⟨j, hs⟩
  obtain ⟨hfs, ho⟩ := hf s hsm
  obtain ⟨o1, o2, o3, o4, o5, o6, o7⟩ := oneB_iff.1 ho
  have h12 : (sumsOf s).length ≤ 12 := hfs.1
  have h7 : ((sumsOf s).length : Int) = s.2.2.1 := o7
  have hjl := (List.getElem?_eq_some_iff.1 hs).1
  have hne : a ≠ [] := fun e => by rw [e] at hjl; simp at hjl
  unfold forest_Holds
  refine (bnd_eqF (show merkle_Leaf Fu s.1 (i : Int) b = some (leafS s.1 (i : Int) b) by unfold merkle_Leaf; rw [if_pos (by omega)]) _).trans ?_
  by_cases hL : (sumsOf s).getD i z0 = leafS s.1 (i : Int) b
  · rw [decide_eq_true hL, Bool.true_and, if_neg (by simp only [Bool.not_eq_true', decide_eq_false_iff_not]; exact not_not_intro hL)]
    have g1 : (sumsOf s).getD i z0 = (sumsOf s)[i] := by rw [List.getD_eq_getElem?_getD, List.getElem?_eq_getElem hi]; rfl
    have w1 : wayOk (i : Int) (wayS (sumsOf s) i).length := way_in ⟨⟨by omega, by omega⟩, by omega, by omega⟩
    have w2 : wayOk (j : Int) (wayS (a.map headS) j).length := way_in (by rw [List.length_map]; exact ⟨⟨by omega, by omega⟩, by omega, by omega⟩)
    have e1 : merkle_Along Fu ((sumsOf s).getD i z0) (i : Int) (wayS (sumsOf s) i) = some (rootS (sumsOf s), 0) := by
      unfold merkle_Along alongV errV
      rw [if_pos w1, if_pos w1, Int.toNat_natCast, g1, along_own _ _ hi]
    refine (bnd_eqF e1 _).trans ?_
    rw [if_neg (by simp)]
    have e2 : forest_head Fu s.1 s.2.1 s.2.2.1 (rootS (sumsOf s)) = some (headS s) := pHead hF ⟨by omega, by omega⟩ ⟨by omega, by omega⟩ ⟨by omega, by omega⟩ (rootS_length hfs.2)
    refine (bnd_eqF e2 _).trans ?_
    have hjm : j < (a.map headS).length := by rw [List.length_map]; exact hjl
    have g2 : headS s = (a.map headS)[j] := by
      rw [List.getElem_map]
      obtain ⟨_, h⟩ := List.getElem?_eq_some_iff.1 hs
      rw [h]
    have e3 : merkle_Along Fu (headS s) (j : Int) (wayS (a.map headS) j) = some (rootF a, 0) := by
      unfold merkle_Along alongV errV rootF
      rw [if_pos w2, if_pos w2, Int.toNat_natCast, g2, along_own _ _ hjm, if_neg hne]
    refine (bnd_eqF e3 _).trans ?_
    rfl
  · rw [decide_eq_false hL, Bool.false_and]
    show (if (!(decide ((sumsOf s).getD i z0 = leafS s.1 (i : Int) b))) = true then _ else _) = _
    rw [decide_eq_false hL]; rfl
end
section
def chatelainelaw24_ForestProves_l0 (Fu : Nat) (a0 : List (Int × Int × Int × (List UInt8) × (List (Int × Int)) × (List (List UInt8)) × (List (List UInt8)))) (a1 : List Int) : Nat → Int → (List (Int × Int × Int × (List UInt8) × (List (Int × Int)) × (List (List UInt8)) × (List (List UInt8)))) → Int → Option (Int × (List (Int × Int × Int × (List UInt8) × (List (Int × Int)) × (List (List UInt8)) × (List (List UInt8)))))
  | 0, _, _, _ => none
  | k + 1, x76, x78, x83 => if x83 < (a0.length : Int) then ((idx a0 x83).bind fun x98 => ((ix 2 0).bind fun m144 => (a1[m144]?).bind fun x148 => if x98.1 = x148 then (some x83) else (some x76)).bind fun x142 => (app 32 ([]) x98.2.2.2.2.2.2).bind fun x156 => (ne0 x156).bind fun u165 => (app 120 x78 ([(x98.1, x98.2.1, x98.2.2.1, x98.2.2.2.1, x98.2.2.2.2.1, x98.2.2.2.2.2.1, x156)])).bind fun x183 => chatelainelaw24_ForestProves_l0 Fu a0 a1 k x142 x183 (w64 (x83 + 1))) else (some (x76, x78))
def chatelainelaw24_ForestProves (Fu : Nat) (a0 : List (Int × Int × Int × (List UInt8) × (List (Int × Int)) × (List (List UInt8)) × (List (List UInt8)))) (a1 : List Int) (a2 : List UInt8) : Option Bool :=
  (chatelainelaw24_awake Fu).bind fun x4 => if (!x4) = true then (some false) else ((chatelainelaw24_Few Fu a0).bind fun x7 => if ((!x7) || (decide (200 < (a2.length : Int)))) = true then (some true) else ((chatelaineref24_Right Fu a0).bind fun x12 => if (!x12) = true then ((ix 2 0).bind fun m15 => (a1[m15]?).bind fun x19 => (ix 2 1).bind fun m26 => (a1[m26]?).bind fun x30 => (forest_Prove Fu a0 x19 x30).bind fun x37 => some (decide (x37.2 = 2))) else ((chatelainelaw24_ForestProves_l0 Fu a0 a1 Fu (-1) ([]) 0).bind fun (x88, x90) => if x88 < 0 then ((ix 2 0).bind fun m190 => (a1[m190]?).bind fun x194 => (ix 2 1).bind fun m201 => (a1[m201]?).bind fun x205 => (forest_Prove Fu a0 x194 x205).bind fun x212 => some (decide (x212.2 = 31))) else ((ix 2 1).bind fun m246 => (a1[m246]?).bind fun x250 => (if x250 < 0 then some true else (ix 2 1).bind fun m259 => (a1[m259]?).bind fun x263 => (idx a0 x88).bind fun x270 => some (decide (x270.2.2.1 ≤ x263))).bind fun z257 => if z257 = true then ((ix 2 0).bind fun m311 => (a1[m311]?).bind fun x315 => (ix 2 1).bind fun m322 => (a1[m322]?).bind fun x326 => (forest_Prove Fu a0 x315 x326).bind fun x333 => some (decide (x333.2 = 32))) else ((ix x90.length x88).bind fun m367 => (x90[m367]?).bind fun x373 => (ix 2 1).bind fun m392 => (a1[m392]?).bind fun x396 => (ix 2 0).bind fun m403 => (a1[m403]?).bind fun x407 => (ix 2 1).bind fun m414 => (a1[m414]?).bind fun x418 => (chatelaineref23_Leaf Fu x407 x418 a2).bind fun x425 => (ix (sumsL x373).length x396).bind fun m433 => (ix 2 0).bind fun m444 => (a1[m444]?).bind fun x448 => (ix 2 1).bind fun m455 => (a1[m455]?).bind fun x459 => (forest_Prove Fu (x90.set m367 (setSums x373 ((sumsL x373).set m433 x425))) x448 x459).bind fun x470 => (chatelaineref24_Root Fu (x90.set m367 (setSums x373 ((sumsL x373).set m433 x425)))).bind fun x504 => (ix 32 31).bind fun m514 => (x504[m514]?).bind fun x518 => (ix 32 31).bind fun m523 => (if ((decide (x470.2 ≠ 0)) || (decide (x470.1.2.2.2.1 ≠ x88))) = true then some true else (ix 2 0).bind fun m535 => (a1[m535]?).bind fun x539 => some (decide (x470.1.2.2.2.2.1 ≠ x539))).bind fun z533 => (if z533 = true then some true else (ix 2 1).bind fun m549 => (a1[m549]?).bind fun x553 => (forest_Holds Fu x470.1 x504 x553 a2).bind fun x560 => some (!x560)).bind fun z547 => (if z547 = true then some true else (ix 2 1).bind fun m566 => (a1[m566]?).bind fun x570 => (forest_Holds Fu x470.1 (x504.set m523 (x518 ^^^ (1 : UInt8))) x570 a2).bind fun x577 => some x577).bind fun z564 => if z564 = true then (some false) else ((app 1 ([]) a2).bind fun x581 => (app 1 x581 ([(1 : UInt8)])).bind fun x592 => (ix 2 1).bind fun m598 => (a1[m598]?).bind fun x602 => (forest_Holds Fu x470.1 x504 x602 x592).bind fun x609 => (ix 2 0).bind fun m612 => (a1[m612]?).bind fun x616 => (ix 2 1).bind fun m623 => (a1[m623]?).bind fun x627 => (chatelaineref23_Leaf Fu x616 x627 x592).bind fun x634 => (ix 2 0).bind fun m642 => (a1[m642]?).bind fun x646 => (ix 2 1).bind fun m653 => (a1[m653]?).bind fun x657 => (chatelaineref23_Leaf Fu x646 x657 a2).bind fun x664 => some (x609 == (decide (x634 = x664)))))))))
set_option maxRecDepth 100000 in
set_option maxHeartbeats 2000000 in
theorem chatelainelaw24_ForestProves_ok (Fu : Nat) {S0 : Snap} (Aa0 : Option Addr) (ca0 : Nat) (a0 : List (Int × Int × Int × (List UInt8) × (List (Int × Int)) × (List (List UInt8)) × (List (List UInt8)))) (hsa0 : slS (tyP tyI (tyP tyI (tyP tyI (tyP (tyL ty8) (tyP (tyL (tyP tyI tyI)) (tyP (tyL (tyL ty8)) (tyL (tyA 32 ty8)))))))) S0 Aa0 ca0 a0) (csa1 : List Value) (a1 : List Int) (hsa1 : (tyA 2 tyI).rep S0 csa1 a1) (Aa2 : Option Addr) (ca2 : Nat) (a2 : List UInt8) (hsa2 : slS ty8 S0 Aa2 ca2 a2) (r : Bool) (hf : chatelainelaw24_ForestProves Fu a0 a1 a2 = some r) (w0 : World) (hm : Mem w0 (ownL ([] ++ [.sn S0])) ([] ++ [.sn S0]) w0) :
    Calls Try.prog 12 #[.slice Aa0 a0.length ca0, .agg csa1.toArray, .slice Aa2 a2.length ca2] w0 (Ret w0 S0 [] (fun v L1 S1 => v = .bool r ∧ L1 = [] ∧ True)) := by
  unfold chatelainelaw24_ForestProves at hf
  obtain ⟨hs1, hl2⟩ := hsa1
  refine c_enterM Try.func12 rfl 193 rfl (by simp) _ hm _ rfl (fun a h => ?_)
  refine c_rs ?_ -- region 0
  refine s_box h rfl rfl rfl (by decide) rfl (cs := csa1) (by rfl) (fun a w g3 h => ?_)
  refine s_assign h rfl _ rfl rfl (by decide) rfl (fun a h => ?_)
  refine l_end ?_
  refine wp_seq ?_
  refine c_rs ?_ -- region 1
  obtain ⟨x4, h5, hf⟩ := bsome hf
  have hX := chatelainelaw24_awake_ok Fu (S0 := snapAll _)  _ h5 _ h.startAll
  refine q_callX hX h rfl rfl rfl (by decide) Try.func35 rfl rfl rfl (fun a w v L1 S1 hR hb1 h => ?_)
  obtain ⟨rfl, rfl, _⟩ := hR
  refine s_x h rfl rfl (by decide) (x_not h.k rfl rfl) (fun a h => ?_)
  refine l_end ?_
  refine c_cond h rfl (fun hb => ?_) (fun hb => ?_)
  · rw [if_pos hb] at hf
    refine c_rs ?_ -- region 2
    refine s_assign h rfl _ rfl rfl (by decide) rfl (fun a h => ?_)
    refine l_end ?_
    refine wp_ret ?_
    refine e_thenR ?_
    rw [← Option.some.inj hf]
    exact r_ret1 h rfl (rv_tmp h rfl) ⟨_, [], _, rfl, ⟨rfl, rfl, trivial⟩, rfl, (Up.refl _ _ _), (h.m.pick [1] _ (by decide) rfl)⟩
  · rw [if_neg (by rw [hb]; decide)] at hf
    refine wp_skip ?_
    refine e_thenN ?_
    refine wp_seq ?_
    refine c_rs ?_ -- region 3
    refine s_move h rfl _ rfl rfl (by decide) rfl (fun a h => ?_)
    obtain ⟨x7, h8, hf⟩ := bsome hf
    have hX := chatelainelaw24_Few_ok Fu (S0 := snapAll _) Aa0 ca0 a0 (hsa0.mono (h.m.leAll (i := 1) rfl)) _ h8 _ h.startAll
    refine q_callX hX h rfl rfl rfl (by decide) Try.func36 rfl rfl rfl (fun a w v L1 S1 hR hb1 h => ?_)
    obtain ⟨rfl, rfl, _⟩ := hR
    refine s_x h rfl rfl (by decide) (x_not h.k rfl rfl) (fun a h => ?_)
    refine s_move h rfl _ rfl rfl (by decide) rfl (fun a h => ?_)
    refine q_grp h 4 (t := 27) 31 ((!x7) || (decide (200 < (a2.length : Int)))) rfl (fun hB3 => ?_) (fun hB3 => ?_) (fun a w h => ?_)
    · refine g_no h rfl rfl rfl rfl hB3 rfl (by decide) (fun a h => ?_)
      refine g_no h rfl rfl rfl rfl hB3 rfl (by decide) (fun a h => ?_)
      refine g_no h rfl rfl rfl rfl hB3 rfl (by decide) (fun a h => ?_)
      refine s_x h rfl rfl (by decide) (x_pick (u' := undef) h.k rfl rfl (fun _ => rfl) (fun hh => absurd (hB3.symm.trans hh) (by decide))) (fun a h => ?_)
      exact (h.mid 3 rfl).val (by first | rfl | (rw [hB3]; first | rfl | simp))
    · refine g_yes h rfl rfl rfl rfl hB3 ?_
      refine s_move h rfl _ rfl rfl (by decide) rfl (fun a h => ?_)
      refine g_yes h rfl rfl rfl rfl hB3 ?_
      refine s_x h rfl rfl (by decide) (x_len h.k rfl Try.underlying52 rfl) (fun a h => ?_)
      refine g_yes h rfl rfl rfl rfl hB3 ?_
      refine s_x h rfl rfl (by decide) (x_bin h.k rfl rfl rfl ib_gtr) (fun a h => ?_)
      refine s_x h rfl rfl (by decide) (x_pick (u' := undef) h.k rfl rfl (fun hh => absurd (hB3.symm.trans hh) (by decide)) (fun _ => rfl)) (fun a h => ?_)
      exact (h.mid 3 rfl).val (by first | rfl | (rw [hB3]; first | rfl | simp))
    refine l_end ?_
    refine c_cond h rfl (fun hb => ?_) (fun hb => ?_)
    · rw [if_pos hb] at hf
      refine c_rs ?_ -- region 4
      refine s_assign h rfl _ rfl rfl (by decide) rfl (fun a h => ?_)
      refine l_end ?_
      refine wp_ret ?_
      refine e_thenR ?_
      rw [← Option.some.inj hf]
      exact r_ret1 h rfl (rv_tmp h rfl) ⟨_, [], _, rfl, ⟨rfl, rfl, trivial⟩, rfl, (Up.refl _ _ _), (h.m.pick [1] _ (by decide) rfl)⟩
    · rw [if_neg (by rw [hb]; decide)] at hf
      refine wp_skip ?_
      refine e_thenN ?_
      refine wp_seq ?_
      refine c_rs ?_ -- region 5
      refine s_move h rfl _ rfl rfl (by decide) rfl (fun a h => ?_)
      obtain ⟨x12, h13, hf⟩ := bsome hf
      have hX := chatelaineref24_Right_ok Fu (S0 := snapAll _) Aa0 ca0 a0 (hsa0.mono (h.m.leAll (i := 1) rfl)) _ h13 _ h.startAll
      refine q_callX hX h rfl rfl rfl (by decide) Try.func42 rfl rfl rfl (fun a w v L1 S1 hR hb1 h => ?_)
      obtain ⟨rfl, rfl, _⟩ := hR
      refine s_x h rfl rfl (by decide) (x_not h.k rfl rfl) (fun a h => ?_)
      refine l_end ?_
      refine c_cond h rfl (fun hb => ?_) (fun hb => ?_)
      · rw [if_pos hb] at hf
        refine c_rs ?_ -- region 6
        refine s_move h rfl _ rfl rfl (by decide) rfl (fun a h => ?_)
        obtain ⟨m15, h16, hf⟩ := bsome hf
        obtain ⟨hi17, hm18⟩ := ix_some h16
        refine s_x h rfl rfl (by decide) (x_iaddrA h.k rfl Try.underlying51 sz_int rfl rfl hi17 hm18 rfl) (fun a h => ?_)
        obtain ⟨x19, h20, hf⟩ := bsome hf
        obtain ⟨u21, hv22, hu23⟩ := (hs1).cell rfl h20
        obtain ⟨e25, hr24⟩ := hu23
        cases e25
        refine s_x h rfl rfl (by decide) (x_ld h.k rfl Try.underlying3 rfl rfl ((h.m.cell (i := 0) rfl _).trans (by rw [Nat.zero_add, Nat.mul_one]; exact hv22))) (fun a h => ?_)
        obtain ⟨m26, h27, hf⟩ := bsome hf
        obtain ⟨hi28, hm29⟩ := ix_some h27
        refine s_x h rfl rfl (by decide) (x_iaddrA h.k rfl Try.underlying51 sz_int rfl rfl hi28 hm29 rfl) (fun a h => ?_)
        obtain ⟨x30, h31, hf⟩ := bsome hf
        obtain ⟨u32, hv33, hu34⟩ := (hs1).cell rfl h31
        obtain ⟨e36, hr35⟩ := hu34
        cases e36
        refine s_x h rfl rfl (by decide) (x_ld h.k rfl Try.underlying3 rfl rfl ((h.m.cell (i := 0) rfl _).trans (by rw [Nat.zero_add, Nat.mul_one]; exact hv33))) (fun a h => ?_)
        obtain ⟨x37, h38, hf⟩ := bsome hf
        have h := h.pick [1, 0] (by decide) rfl
        have hX := forest_Prove_ok Fu (S0 := S0) Aa0 ca0 a0 hsa0 x19 hr24 x30 hr35 _ h38 _ (h.sub (Ls := []))
        refine q_callY (Ls := []) hX h (Up.refl _ _ _) rfl rfl rfl (by decide) Try.func47 rfl rfl rfl (fun a w v L1 S40 hR le42 up41 h => ?_)
        obtain ⟨k43, rfl, rfl, hv44, hr69, _⟩ := hR
        obtain ⟨k45, k46, rfl, ⟨hs47, hl48⟩, ⟨k49, k50, rfl, ⟨A51, c52, rfl, hs53⟩, ⟨k54, k55, rfl, ⟨A56, c57, rfl, hs58⟩, ⟨k59, k60, rfl, ⟨rfl, hr61⟩, ⟨k62, k63, rfl, ⟨rfl, hr64⟩, ⟨k65, k66, rfl, ⟨rfl, hr67⟩, ⟨rfl, hr68⟩⟩⟩⟩⟩⟩⟩ := hv44
        refine s_move h rfl _ rfl rfl (by decide) rfl (fun a h => ?_)
        refine s_x h rfl rfl (by decide) (x_ext h.k rfl rfl rfl) (fun a h => ?_)
        refine s_x h rfl rfl (by decide) (x_ext h.k rfl rfl rfl) (fun a h => ?_)
        refine s_alloc h rfl rfl rfl (by decide) zi_api_Proof rfl (fun a w g70 h => ?_)
        refine s_stW h rfl rfl rfl ag_api_Proof rfl (es := k45 ++ ([.slice A51 x37.1.2.1.length c52, .slice A56 x37.1.2.2.1.length c57, .int .i64 x37.1.2.2.2.1, .int .i64 x37.1.2.2.2.2.1, .int .i64 x37.1.2.2.2.2.2.1, .int .i64 x37.1.2.2.2.2.2.2])) rfl (show (k45 ++ ([.slice A51 x37.1.2.1.length c52, .slice A56 x37.1.2.2.1.length c57, .int .i64 x37.1.2.2.2.1, .int .i64 x37.1.2.2.2.2.1, .int .i64 x37.1.2.2.2.2.2.1, .int .i64 x37.1.2.2.2.2.2.2]) : List Value).length = 38 from by simp only [List.length_append, List.length_cons, List.length_nil, (show (k45 : List Value).length = 32 from ((hs47).len.trans (by rw [hl48]; rfl)))]) ((tyP (tyA 32 ty8) (tyP (tyL (tyA 32 ty8)) (tyP (tyL (tyA 32 ty8)) (tyP tyI (tyP tyI (tyP tyI tyI)))))).one (show (tyP (tyA 32 ty8) (tyP (tyL (tyA 32 ty8)) (tyP (tyL (tyA 32 ty8)) (tyP tyI (tyP tyI (tyP tyI tyI)))))).rep S40 (k45 ++ ([.slice A51 x37.1.2.1.length c52, .slice A56 x37.1.2.2.1.length c57, .int .i64 x37.1.2.2.2.1, .int .i64 x37.1.2.2.2.2.1, .int .i64 x37.1.2.2.2.2.2.1, .int .i64 x37.1.2.2.2.2.2.2])) x37.1 from ⟨k45, [.slice A51 x37.1.2.1.length c52, .slice A56 x37.1.2.2.1.length c57, .int .i64 x37.1.2.2.2.1, .int .i64 x37.1.2.2.2.2.1, .int .i64 x37.1.2.2.2.2.2.1, .int .i64 x37.1.2.2.2.2.2.2], rfl, ⟨hs47, hl48⟩, ⟨[.slice A51 x37.1.2.1.length c52], [.slice A56 x37.1.2.2.1.length c57, .int .i64 x37.1.2.2.2.1, .int .i64 x37.1.2.2.2.2.1, .int .i64 x37.1.2.2.2.2.2.1, .int .i64 x37.1.2.2.2.2.2.2], rfl, ⟨_, _, rfl, hs53⟩, ⟨[.slice A56 x37.1.2.2.1.length c57], [.int .i64 x37.1.2.2.2.1, .int .i64 x37.1.2.2.2.2.1, .int .i64 x37.1.2.2.2.2.2.1, .int .i64 x37.1.2.2.2.2.2.2], rfl, ⟨_, _, rfl, hs58⟩, ⟨[.int .i64 x37.1.2.2.2.1], [.int .i64 x37.1.2.2.2.2.1, .int .i64 x37.1.2.2.2.2.2.1, .int .i64 x37.1.2.2.2.2.2.2], rfl, ⟨rfl, hr61⟩, ⟨[.int .i64 x37.1.2.2.2.2.1], [.int .i64 x37.1.2.2.2.2.2.1, .int .i64 x37.1.2.2.2.2.2.2], rfl, ⟨rfl, hr64⟩, ⟨[.int .i64 x37.1.2.2.2.2.2.1], [.int .i64 x37.1.2.2.2.2.2.2], rfl, ⟨rfl, hr67⟩, ⟨rfl, hr68⟩⟩⟩⟩⟩⟩⟩)) 0 rfl (show ((List.replicate 32 (.int .u8 0 : Value)) ++ ([.slice none 0 0, .slice none 0 0, .int .i64 0, .int .i64 0, .int .i64 0, .int .i64 0]) : List Value).length = 38 from by simp only [List.length_append, List.length_cons, List.length_nil, (show ((List.replicate 32 (.int .u8 0 : Value)) : List Value).length = 32 from (by first | rfl | simp_all))]) (fun a w h => ?_)
        refine s_assign h rfl _ rfl rfl (by decide) rfl (fun a h => ?_)
        refine l_end ?_
        refine c_rs ?_ -- region 7
        refine s_move h rfl _ rfl rfl (by decide) rfl (fun a h => ?_)
        refine s_x h rfl rfl (by decide) (x_bin h.k rfl rfl rfl ib_eql) (fun a h => ?_)
        refine s_assign h rfl _ rfl rfl (by decide) rfl (fun a h => ?_)
        refine l_end ?_
        refine wp_ret ?_
        refine e_thenR ?_
        obtain rfl := Option.some.inj hf
        exact r_ret1 h rfl (rv_tmp h rfl) ⟨_, [], _, rfl, ⟨rfl, rfl, trivial⟩, rfl, up41, (h.m.pick [1] _ (by decide) rfl)⟩
      · rw [if_neg (by rw [hb]; decide)] at hf
        refine wp_skip ?_
        refine e_thenN ?_
        refine c_rs ?_ -- region 8
        refine s_assign h rfl _ rfl rfl (by decide) rfl (fun a h => ?_)
        refine l_end ?_
        refine c_rs ?_ -- region 9
        refine s_assign h rfl _ rfl rfl (by decide) rfl (fun a h => ?_)
        refine l_end ?_
        refine wp_seq ?_
        refine c_rs ?_ -- region 10
        refine s_move h rfl _ rfl rfl (by decide) rfl (fun a h => ?_)
        refine s_x h rfl rfl (by decide) (x_len h.k rfl Try.underlying61 rfl) (fun a h => ?_)
        refine s_move h rfl _ rfl rfl (by decide) rfl (fun a h => ?_)
        refine l_end ?_
        obtain ⟨o71, hl72, hf⟩ := bsome hf
        refine c_fin (fun a w => ∃ (S85 : Snap), ∃ (x88 : Int), ∃ (x90 : List (Int × Int × Int × (List UInt8) × (List (Int × Int)) × (List (List UInt8)) × (List (List UInt8)))), ∃ (A91 : Option Addr), ∃ (c92 : Nat), ∃ (cs93 : List Value), (x88, x90) = o71 ∧ Snap.le S0 S85 ∧ Up (ownL ([] ++ [.sn S0])) w0 S0 S85 ∧ r64 x88 ∧ looses 40 S0 S85 cs93 x90 ∧ St 193 w0 (ownL ([] ++ [.sn S0])) [(0, .slice Aa0 a0.length ca0), (2, .slice Aa2 a2.length ca2), (4, .pointer (some ⟨g3, 0, none⟩)), (9, .int .i64 x88), (10, .slice A91 x90.length c92)] [.box g3 51 csa1, .row (.slice A91 x90.length c92) 66 7 x90.length cs93, .sn S85] a w) ?_ ?_
        · refine wp_block ?_
          have h := h.mem (h.m.nilrow 66 7)
          have h := h.pick [1, 0, 2] (by decide) rfl
          refine c_loop (fun m96 a w => ∃ (S73 : Snap), ∃ (x76 : Int), ∃ (x78 : List (Int × Int × Int × (List UInt8) × (List (Int × Int)) × (List (List UInt8)) × (List (List UInt8)))), ∃ (A79 : Option Addr), ∃ (c80 : Nat), ∃ (cs81 : List Value), ∃ (x83 : Int), chatelainelaw24_ForestProves_l0 Fu a0 a1 m96 x76 x78 x83 = some o71 ∧ Snap.le S0 S73 ∧ Up (ownL ([] ++ [.sn S0])) w0 S0 S73 ∧ r64 x76 ∧ looses 40 S0 S73 cs81 x78 ∧ r64 x83 ∧ St 193 w0 (ownL ([] ++ [.sn S0])) [(0, .slice Aa0 a0.length ca0), (2, .slice Aa2 a2.length ca2), (4, .pointer (some ⟨g3, 0, none⟩)), (9, .int .i64 x76), (10, .slice A79 x78.length c80), (46, .slice Aa0 a0.length ca0), (47, .int .i64 (a0.length : Int)), (48, .int .i64 x83)] [.box g3 51 csa1, .row (.slice A79 x78.length c80) 66 7 x78.length cs81, .sn S73] a w) Fu ⟨S0, (-1), [], none, 0, [], 0, hl72, (Snap.le.refl _), (Up.refl _ _ _), (show r64 (-1) from ⟨by decide, by decide⟩), (looses.nil _ _ _), (show r64 0 from ⟨by decide, by decide⟩), h.has (by exact ⟨rfl, rfl, rfl, rfl, rfl, rfl, rfl, rfl, trivial⟩)⟩ (fun m96 a w hI => ?_)
          obtain ⟨S73, x76, x78, A79, c80, cs81, x83, hl95, le74, up75, hr77, hq82, hr84, h⟩ := hI
          obtain _ | m96 := m96
          · rw [chatelainelaw24_ForestProves_l0] at hl95; cases hl95
          rw [chatelainelaw24_ForestProves_l0] at hl95
          refine c_rs ?_ -- region 11
          refine s_x h rfl rfl (by decide) (x_bin h.k rfl rfl rfl ib_lss) (fun a h => ?_)
          refine l_end ?_
          refine c_cs h rfl (fun hb => ?_) (fun hb => ?_)
          · rw [if_pos (of_decide_eq_true hb)] at hl95
            refine wp_skip ?_
            refine e_thenN ?_
            refine wp_seq ?_
            refine wp_block ?_
            refine c_rs ?_ -- region 12
            refine s_move h rfl _ rfl rfl (by decide) rfl (fun a h => ?_)
            obtain ⟨x98, h102, hl95⟩ := bsome hl95
            obtain ⟨m99, hi103, hm104, hx105⟩ := idx_some h102
            obtain ⟨b100, off101, k106, hA107, hu110, hc111⟩ := (hsa0).at (by decide) hx105 (SnapOK.le le74 (h.m.snOK (i := 2) rfl))
            have hu108 := (tyP tyI (tyP tyI (tyP tyI (tyP (tyL ty8) (tyP (tyL (tyP tyI tyI)) (tyP (tyL (tyL ty8)) (tyL (tyA 32 ty8)))))))).mono le74 hu110
            have hc109 : ∀ w, SnapOK S73 w → w.rangeAt b100 (off101 + m99 * 7) k106 := fun w hw => hc111 w (SnapOK.le le74 hw)
            obtain ⟨k112, k113, rfl, ⟨rfl, hr114⟩, ⟨k115, k116, rfl, ⟨rfl, hr117⟩, ⟨k118, k119, rfl, ⟨rfl, hr120⟩, ⟨k121, k122, rfl, ⟨A123, c124, rfl, hs125⟩, ⟨k126, k127, rfl, ⟨A128, c129, rfl, hs130⟩, ⟨k131, k132, rfl, ⟨A133, c134, rfl, hs135⟩, ⟨A136, c137, rfl, hs138⟩⟩⟩⟩⟩⟩⟩ := hu108
            refine s_x h rfl rfl (by decide) (x_iaddrE h.k rfl Try.underlying61 sz_api_Space hA107 rfl rfl hi103 hm104) (fun a h => ?_)
            refine s_x h rfl rfl (by decide) (x_ldR h.k rfl ag_api_Space rfl ([.int .i64 x98.1, .int .i64 x98.2.1, .int .i64 x98.2.2.1, .slice A123 x98.2.2.2.1.length c124, .slice A128 x98.2.2.2.2.1.length c129, .slice A133 x98.2.2.2.2.2.1.length c134, .slice A136 x98.2.2.2.2.2.2.length c137]) rfl (hc109 _ (h.m.snOK (i := 2) rfl))) (fun a h => ?_)
            refine s_alloc h rfl rfl rfl (by decide) zi_api_Space rfl (fun a w g139 h => ?_)
            refine s_assign h rfl _ rfl rfl (by decide) rfl (fun a h => ?_)
            refine s_stW h rfl rfl rfl ag_api_Space rfl (es := [.int .i64 x98.1, .int .i64 x98.2.1, .int .i64 x98.2.2.1, .slice A123 x98.2.2.2.1.length c124, .slice A128 x98.2.2.2.2.1.length c129, .slice A133 x98.2.2.2.2.2.1.length c134, .slice A136 x98.2.2.2.2.2.2.length c137]) rfl rfl (by simp [Value.oneCell']) 0 rfl rfl (fun a w h => ?_)
            refine l_end ?_
            obtain ⟨o140, hc141, hl95⟩ := bsome hl95
            refine c_cut (fun a w => ∃ (x142 : Int), x142 = o140 ∧ r64 x142 ∧ St 193 w0 (ownL ([] ++ [.sn S0])) [(0, .slice Aa0 a0.length ca0), (2, .slice Aa2 a2.length ca2), (4, .pointer (some ⟨g3, 0, none⟩)), (9, .int .i64 x142), (10, .slice A79 x78.length c80), (12, .pointer (some ⟨g139, 0, none⟩)), (46, .slice Aa0 a0.length ca0), (47, .int .i64 (a0.length : Int)), (48, .int .i64 x83)] [.box g3 51 csa1, .row (.slice A79 x78.length c80) 66 7 x78.length cs81, .box g139 66 ([.int .i64 x98.1, .int .i64 x98.2.1, .int .i64 x98.2.2.1, .slice A123 x98.2.2.2.1.length c124, .slice A128 x98.2.2.2.2.1.length c129, .slice A133 x98.2.2.2.2.2.1.length c134, .slice A136 x98.2.2.2.2.2.2.length c137]), .sn S73] a w) ?_ ?_
            · refine c_rs ?_ -- region 13
              refine s_x h rfl rfl (by decide) (x_faddr h.k rfl Try.underlying66 rfl sz_int rfl) (fun a h => ?_)
              refine s_x h rfl rfl (by decide) (x_ld h.k rfl Try.underlying3 rfl rfl ((h.m.cell (i := 0) rfl 0).trans rfl)) (fun a h => ?_)
              obtain ⟨m144, h145, hc141⟩ := bsome hc141
              obtain ⟨hi146, hm147⟩ := ix_some h145
              refine s_x h rfl rfl (by decide) (x_iaddrA h.k rfl Try.underlying51 sz_int rfl rfl hi146 hm147 rfl) (fun a h => ?_)
              obtain ⟨x148, h149, hc141⟩ := bsome hc141
              obtain ⟨u150, hv151, hu152⟩ := ((hs1.mono le74)).cell rfl h149
              obtain ⟨e154, hr153⟩ := hu152
              cases e154
              refine s_x h rfl rfl (by decide) (x_ld h.k rfl Try.underlying3 rfl rfl ((h.m.cell (i := 1) rfl _).trans (by rw [Nat.zero_add, Nat.mul_one]; exact hv151))) (fun a h => ?_)
              refine s_x h rfl rfl (by decide) (x_bin h.k rfl rfl rfl ib_eql) (fun a h => ?_)
              refine l_end ?_
              refine c_cond h rfl (fun hb => ?_) (fun hb => ?_)
              · rw [if_pos (of_decide_eq_true hb)] at hc141
                refine c_r ?_ -- region 14
                refine s_move h rfl _ rfl rfl (by decide) rfl (fun a h => ?_)
                refine s_assign h rfl _ rfl rfl (by decide) rfl (fun a h => ?_)
                refine l_nil ?_
                refine e_thenN ?_
                have h := h.pick [1, 2, 0, 3] (by decide) rfl
                exact ⟨x83, (Option.some.inj hc141), hr84, h.has (by exact ⟨rfl, rfl, rfl, rfl, rfl, rfl, rfl, rfl, rfl, trivial⟩)⟩
              · rw [if_neg (of_decide_eq_false hb)] at hc141
                refine wp_skip ?_
                refine e_thenN ?_
                have h := h.pick [1, 2, 0, 3] (by decide) rfl
                exact ⟨x76, (Option.some.inj hc141), hr77, h.has (by exact ⟨rfl, rfl, rfl, rfl, rfl, rfl, rfl, rfl, rfl, trivial⟩)⟩
            · rintro a w ⟨x142, rfl, hr143, h⟩
              refine c_rs ?_ -- region 15
              refine q_bslice0 h rfl rfl rfl (by decide) Try.underlying39 sz_A32_uint8 (fun a w A155 h => ?_)
              refine s_x h rfl rfl (by decide) (x_faddr h.k rfl Try.underlying66 rfl sz_SA32_uint8 rfl) (fun a h => ?_)
              refine s_x h rfl rfl (by decide) (x_ld h.k rfl Try.underlying39 rfl rfl ((h.m.cell (i := 3) rfl 6).trans rfl)) (fun a h => ?_)
              obtain ⟨x156, h157, hl95⟩ := bsome hl95
              obtain ⟨_, _, vs158, hrd159, hrp160⟩ := id hs138
              refine q_append (T := tyA 32 ty8) (S := S73) h rfl rfl rfl (by decide) Try.underlying39 zb_A32_uint8 rfl (by decide) rfl 0 rfl (show reps (tyA 32 ty8) S73 [] [] from rfl) rfl hrp160 (hrd159 _ (h.m.snOK (i := 4) rfl)) h157 (fun a w A161 c162 cs163 hq164 h => ?_)
              refine s_x h rfl rfl (by decide) (x_faddr h.k rfl Try.underlying66 rfl sz_SA32_uint8 rfl) (fun a h => ?_)
              obtain ⟨u165, h166, hl95⟩ := bsome hl95
              have h := h.pick [0, 4, 1, 2, 3] (by decide) rfl
              obtain ⟨S167, g168, cur169, hA170, le171, up172, hg173, hg174, hg175, hz176, hn177, hn178, hq179, hs180, h⟩ := q_freezeL (T := tyA 32 ty8) h up75 hq164 (ne0_some h166)
              refine s_stb h rfl rfl rfl sz_SA32_uint8 rfl rfl rfl 3 rfl (by first | decide | simp) (fun a w h => ?_)
              refine l_end ?_
              refine c_r ?_ -- region 16
              refine s_move h rfl _ rfl rfl (by decide) rfl (fun a h => ?_)
              refine s_x h rfl rfl (by decide) (x_ldR h.k rfl ag_api_Space rfl ([.int .i64 x98.1, .int .i64 x98.2.1, .int .i64 x98.2.2.1, .slice A123 x98.2.2.2.1.length c124, .slice A128 x98.2.2.2.2.1.length c129, .slice A133 x98.2.2.2.2.2.1.length c134, .slice A161 x156.length c162]) rfl (h.m.range0 (i := 3) rfl)) (fun a h => ?_)
              refine q_bslice (T := tyP tyI (tyP tyI (tyP tyI (tyP (tyL ty8) (tyP (tyL (tyP tyI tyI)) (tyP (tyL (tyL ty8)) (tyL (tyA 32 ty8)))))))) (S := S167) h rfl rfl rfl (by decide) Try.underlying61 zi_api_Space (by decide) (by decide) (by decide) (by decide) [.agg ([.int .i64 x98.1, .int .i64 x98.2.1, .int .i64 x98.2.2.1, .slice A123 x98.2.2.2.1.length c124, .slice A128 x98.2.2.2.2.1.length c129, .slice A133 x98.2.2.2.2.2.1.length c134, .slice A161 x156.length c162]).toArray] rfl rfl (C := [[.int .i64 x98.1, .int .i64 x98.2.1, .int .i64 x98.2.2.1, .slice A123 x98.2.2.2.1.length c124, .slice A128 x98.2.2.2.2.1.length c129, .slice A133 x98.2.2.2.2.2.1.length c134, .slice A161 x156.length c162]]) rfl (xs := [(x98.1, x98.2.1, x98.2.2.1, x98.2.2.2.1, x98.2.2.2.2.1, x98.2.2.2.2.2.1, x156)]) ⟨[.int .i64 x98.1, .int .i64 x98.2.1, .int .i64 x98.2.2.1, .slice A123 x98.2.2.2.1.length c124, .slice A128 x98.2.2.2.2.1.length c129, .slice A133 x98.2.2.2.2.2.1.length c134, .slice A161 x156.length c162], _, rfl, ⟨[.int .i64 x98.1], [.int .i64 x98.2.1, .int .i64 x98.2.2.1, .slice A123 x98.2.2.2.1.length c124, .slice A128 x98.2.2.2.2.1.length c129, .slice A133 x98.2.2.2.2.2.1.length c134, .slice A161 x156.length c162], rfl, ⟨rfl, hr114⟩, ⟨[.int .i64 x98.2.1], [.int .i64 x98.2.2.1, .slice A123 x98.2.2.2.1.length c124, .slice A128 x98.2.2.2.2.1.length c129, .slice A133 x98.2.2.2.2.2.1.length c134, .slice A161 x156.length c162], rfl, ⟨rfl, hr117⟩, ⟨[.int .i64 x98.2.2.1], [.slice A123 x98.2.2.2.1.length c124, .slice A128 x98.2.2.2.2.1.length c129, .slice A133 x98.2.2.2.2.2.1.length c134, .slice A161 x156.length c162], rfl, ⟨rfl, hr120⟩, ⟨[.slice A123 x98.2.2.2.1.length c124], [.slice A128 x98.2.2.2.2.1.length c129, .slice A133 x98.2.2.2.2.2.1.length c134, .slice A161 x156.length c162], rfl, ⟨_, _, rfl, (hs125.mono le171)⟩, ⟨[.slice A128 x98.2.2.2.2.1.length c129], [.slice A133 x98.2.2.2.2.2.1.length c134, .slice A161 x156.length c162], rfl, ⟨_, _, rfl, (hs130.mono le171)⟩, ⟨[.slice A133 x98.2.2.2.2.2.1.length c134], [.slice A161 x156.length c162], rfl, ⟨_, _, rfl, (hs135.mono le171)⟩, ⟨_, _, rfl, hs180⟩⟩⟩⟩⟩⟩⟩, rfl⟩ (by intro c hc; simp only [List.mem_cons, List.not_mem_nil, or_false] at hc; subst hc; rfl) (fun a w A181 h => ?_)
              have hb182 : reps (tyP tyI (tyP tyI (tyP tyI (tyP (tyL ty8) (tyP (tyL (tyP tyI tyI)) (tyP (tyL (tyL ty8)) (tyL (tyA 32 ty8)))))))) S167 ([[.int .i64 x98.1, .int .i64 x98.2.1, .int .i64 x98.2.2.1, .slice A123 x98.2.2.2.1.length c124, .slice A128 x98.2.2.2.2.1.length c129, .slice A133 x98.2.2.2.2.2.1.length c134, .slice A161 x156.length c162]] : List (List Value)).flatten [(x98.1, x98.2.1, x98.2.2.1, x98.2.2.2.1, x98.2.2.2.2.1, x98.2.2.2.2.2.1, x156)] := ⟨[.int .i64 x98.1, .int .i64 x98.2.1, .int .i64 x98.2.2.1, .slice A123 x98.2.2.2.1.length c124, .slice A128 x98.2.2.2.2.1.length c129, .slice A133 x98.2.2.2.2.2.1.length c134, .slice A161 x156.length c162], _, rfl, ⟨[.int .i64 x98.1], [.int .i64 x98.2.1, .int .i64 x98.2.2.1, .slice A123 x98.2.2.2.1.length c124, .slice A128 x98.2.2.2.2.1.length c129, .slice A133 x98.2.2.2.2.2.1.length c134, .slice A161 x156.length c162], rfl, ⟨rfl, hr114⟩, ⟨[.int .i64 x98.2.1], [.int .i64 x98.2.2.1, .slice A123 x98.2.2.2.1.length c124, .slice A128 x98.2.2.2.2.1.length c129, .slice A133 x98.2.2.2.2.2.1.length c134, .slice A161 x156.length c162], rfl, ⟨rfl, hr117⟩, ⟨[.int .i64 x98.2.2.1], [.slice A123 x98.2.2.2.1.length c124, .slice A128 x98.2.2.2.2.1.length c129, .slice A133 x98.2.2.2.2.2.1.length c134, .slice A161 x156.length c162], rfl, ⟨rfl, hr120⟩, ⟨[.slice A123 x98.2.2.2.1.length c124], [.slice A128 x98.2.2.2.2.1.length c129, .slice A133 x98.2.2.2.2.2.1.length c134, .slice A161 x156.length c162], rfl, ⟨_, _, rfl, (hs125.mono le171)⟩, ⟨[.slice A128 x98.2.2.2.2.1.length c129], [.slice A133 x98.2.2.2.2.2.1.length c134, .slice A161 x156.length c162], rfl, ⟨_, _, rfl, (hs130.mono le171)⟩, ⟨[.slice A133 x98.2.2.2.2.2.1.length c134], [.slice A161 x156.length c162], rfl, ⟨_, _, rfl, (hs135.mono le171)⟩, ⟨_, _, rfl, hs180⟩⟩⟩⟩⟩⟩⟩, rfl⟩
              obtain ⟨x183, h184, hl95⟩ := bsome hl95
              refine q_appendC (news := ([[.int .i64 x98.1, .int .i64 x98.2.1, .int .i64 x98.2.2.1, .slice A123 x98.2.2.2.1.length c124, .slice A128 x98.2.2.2.2.1.length c129, .slice A133 x98.2.2.2.2.2.1.length c134, .slice A161 x156.length c162]] : List (List Value)).flatten) h rfl rfl rfl (by decide) Try.underlying61 zb_api_Space rfl (by decide) rfl 3 rfl rfl (hb182).len (hb182).one (h.m.rdRowA (i := 0) rfl) h184 (fun a w A185 c186 hr187 h => ?_)
              have hq188 : looses 40 S0 S167 (cs81 ++ ([[.int .i64 x98.1, .int .i64 x98.2.1, .int .i64 x98.2.2.1, .slice A123 x98.2.2.2.1.length c124, .slice A128 x98.2.2.2.2.1.length c129, .slice A133 x98.2.2.2.2.2.1.length c134, .slice A161 x156.length c162]] : List (List Value)).flatten) x183 := by rw [hr187]; exact looses.snoc hq82 le171 hg173 (looseE.mk (kk := [.int .i64 x98.1, .int .i64 x98.2.1, .int .i64 x98.2.2.1, .slice A123 x98.2.2.2.1.length c124, .slice A128 x98.2.2.2.2.1.length c129, .slice A133 x98.2.2.2.2.2.1.length c134]) (u := .slice A136 x98.2.2.2.2.2.2.length c137) hu110 rfl hA170 hg174 hg175 hn177 hn178 hz176 hq179)
              refine s_assign h rfl _ rfl rfl (by decide) rfl (fun a h => ?_)
              refine l_nil ?_
              refine e_blkN ?_
              refine e_thenN ?_
              refine c_r ?_ -- region 17
              refine s_x h rfl rfl (by decide) (x_bin h.k rfl rfl rfl (ib_add rfl)) (fun a h => ?_)
              refine s_move h rfl _ rfl rfl (by decide) rfl (fun a h => ?_)
              refine l_nil ?_
              have h := h.pick [2, 3, 1] (by decide) rfl
              exact e_thenN ⟨m96, Nat.lt_succ_self _, S167, x142, x183, A185, c186, (cs81 ++ ([[.int .i64 x98.1, .int .i64 x98.2.1, .int .i64 x98.2.2.1, .slice A123 x98.2.2.2.1.length c124, .slice A128 x98.2.2.2.2.1.length c129, .slice A133 x98.2.2.2.2.2.1.length c134, .slice A161 x156.length c162]] : List (List Value)).flatten), w64 (x83 + 1), hl95, (le74.trans le171), up172, hr143, hq188, (w64_r _), h.has (by exact ⟨rfl, rfl, rfl, rfl, rfl, rfl, rfl, rfl, trivial⟩)⟩
          · rw [if_neg (of_decide_eq_false hb)] at hl95
            refine wp_exit ?_
            refine e_thenX ?_
            refine e_thenX ?_
            refine e_blkX ?_
            refine e_thenN ?_
            exact ⟨S73, x76, x78, A79, c80, cs81, (Option.some.inj hl95), le74, up75, hr77, hq82, h.has (by exact ⟨rfl, rfl, rfl, rfl, rfl, trivial⟩)⟩
        · rintro a w ⟨S85, x88, x90, A91, c92, cs93, rfl, le86, up87, hr89, hq94, h⟩
          try dsimp only at hf
          refine e_thenN ?_
          refine wp_seq ?_
          refine c_rs ?_ -- region 18
          refine s_move h rfl _ rfl rfl (by decide) rfl (fun a h => ?_)
          refine s_x h rfl rfl (by decide) (x_bin h.k rfl rfl rfl ib_lss) (fun a h => ?_)
          refine l_end ?_
          refine c_cond h rfl (fun hb => ?_) (fun hb => ?_)
          · rw [if_pos (of_decide_eq_true hb)] at hf
            refine c_rs ?_ -- region 19
            refine s_move h rfl _ rfl rfl (by decide) rfl (fun a h => ?_)
            obtain ⟨m190, h191, hf⟩ := bsome hf
            obtain ⟨hi192, hm193⟩ := ix_some h191
            refine s_x h rfl rfl (by decide) (x_iaddrA h.k rfl Try.underlying51 sz_int rfl rfl hi192 hm193 rfl) (fun a h => ?_)
            obtain ⟨x194, h195, hf⟩ := bsome hf
            obtain ⟨u196, hv197, hu198⟩ := ((hs1.mono le86)).cell rfl h195
            obtain ⟨e200, hr199⟩ := hu198
            cases e200
            refine s_x h rfl rfl (by decide) (x_ld h.k rfl Try.underlying3 rfl rfl ((h.m.cell (i := 0) rfl _).trans (by rw [Nat.zero_add, Nat.mul_one]; exact hv197))) (fun a h => ?_)
            obtain ⟨m201, h202, hf⟩ := bsome hf
            obtain ⟨hi203, hm204⟩ := ix_some h202
            refine s_x h rfl rfl (by decide) (x_iaddrA h.k rfl Try.underlying51 sz_int rfl rfl hi203 hm204 rfl) (fun a h => ?_)
            obtain ⟨x205, h206, hf⟩ := bsome hf
            obtain ⟨u207, hv208, hu209⟩ := ((hs1.mono le86)).cell rfl h206
            obtain ⟨e211, hr210⟩ := hu209
            cases e211
            refine s_x h rfl rfl (by decide) (x_ld h.k rfl Try.underlying3 rfl rfl ((h.m.cell (i := 0) rfl _).trans (by rw [Nat.zero_add, Nat.mul_one]; exact hv208))) (fun a h => ?_)
            obtain ⟨x212, h213, hf⟩ := bsome hf
            have h := h.pick [2, 0, 1] (by decide) rfl
            have hX := forest_Prove_ok Fu (S0 := S85) Aa0 ca0 a0 (hsa0.mono le86) x194 hr199 x205 hr210 _ h213 _ (h.sub (Ls := []))
            refine q_callY (Ls := []) hX h up87 rfl rfl rfl (by decide) Try.func47 rfl rfl rfl (fun a w v L1 S215 hR le217 up216 h => ?_)
            obtain ⟨k218, rfl, rfl, hv219, hr244, _⟩ := hR
            obtain ⟨k220, k221, rfl, ⟨hs222, hl223⟩, ⟨k224, k225, rfl, ⟨A226, c227, rfl, hs228⟩, ⟨k229, k230, rfl, ⟨A231, c232, rfl, hs233⟩, ⟨k234, k235, rfl, ⟨rfl, hr236⟩, ⟨k237, k238, rfl, ⟨rfl, hr239⟩, ⟨k240, k241, rfl, ⟨rfl, hr242⟩, ⟨rfl, hr243⟩⟩⟩⟩⟩⟩⟩ := hv219
            refine s_move h rfl _ rfl rfl (by decide) rfl (fun a h => ?_)
            refine s_x h rfl rfl (by decide) (x_ext h.k rfl rfl rfl) (fun a h => ?_)
            refine s_x h rfl rfl (by decide) (x_ext h.k rfl rfl rfl) (fun a h => ?_)
            refine s_alloc h rfl rfl rfl (by decide) zi_api_Proof rfl (fun a w g245 h => ?_)
            refine s_stW h rfl rfl rfl ag_api_Proof rfl (es := k220 ++ ([.slice A226 x212.1.2.1.length c227, .slice A231 x212.1.2.2.1.length c232, .int .i64 x212.1.2.2.2.1, .int .i64 x212.1.2.2.2.2.1, .int .i64 x212.1.2.2.2.2.2.1, .int .i64 x212.1.2.2.2.2.2.2])) rfl (show (k220 ++ ([.slice A226 x212.1.2.1.length c227, .slice A231 x212.1.2.2.1.length c232, .int .i64 x212.1.2.2.2.1, .int .i64 x212.1.2.2.2.2.1, .int .i64 x212.1.2.2.2.2.2.1, .int .i64 x212.1.2.2.2.2.2.2]) : List Value).length = 38 from by simp only [List.length_append, List.length_cons, List.length_nil, (show (k220 : List Value).length = 32 from ((hs222).len.trans (by rw [hl223]; rfl)))]) ((tyP (tyA 32 ty8) (tyP (tyL (tyA 32 ty8)) (tyP (tyL (tyA 32 ty8)) (tyP tyI (tyP tyI (tyP tyI tyI)))))).one (show (tyP (tyA 32 ty8) (tyP (tyL (tyA 32 ty8)) (tyP (tyL (tyA 32 ty8)) (tyP tyI (tyP tyI (tyP tyI tyI)))))).rep S215 (k220 ++ ([.slice A226 x212.1.2.1.length c227, .slice A231 x212.1.2.2.1.length c232, .int .i64 x212.1.2.2.2.1, .int .i64 x212.1.2.2.2.2.1, .int .i64 x212.1.2.2.2.2.2.1, .int .i64 x212.1.2.2.2.2.2.2])) x212.1 from ⟨k220, [.slice A226 x212.1.2.1.length c227, .slice A231 x212.1.2.2.1.length c232, .int .i64 x212.1.2.2.2.1, .int .i64 x212.1.2.2.2.2.1, .int .i64 x212.1.2.2.2.2.2.1, .int .i64 x212.1.2.2.2.2.2.2], rfl, ⟨hs222, hl223⟩, ⟨[.slice A226 x212.1.2.1.length c227], [.slice A231 x212.1.2.2.1.length c232, .int .i64 x212.1.2.2.2.1, .int .i64 x212.1.2.2.2.2.1, .int .i64 x212.1.2.2.2.2.2.1, .int .i64 x212.1.2.2.2.2.2.2], rfl, ⟨_, _, rfl, hs228⟩, ⟨[.slice A231 x212.1.2.2.1.length c232], [.int .i64 x212.1.2.2.2.1, .int .i64 x212.1.2.2.2.2.1, .int .i64 x212.1.2.2.2.2.2.1, .int .i64 x212.1.2.2.2.2.2.2], rfl, ⟨_, _, rfl, hs233⟩, ⟨[.int .i64 x212.1.2.2.2.1], [.int .i64 x212.1.2.2.2.2.1, .int .i64 x212.1.2.2.2.2.2.1, .int .i64 x212.1.2.2.2.2.2.2], rfl, ⟨rfl, hr236⟩, ⟨[.int .i64 x212.1.2.2.2.2.1], [.int .i64 x212.1.2.2.2.2.2.1, .int .i64 x212.1.2.2.2.2.2.2], rfl, ⟨rfl, hr239⟩, ⟨[.int .i64 x212.1.2.2.2.2.2.1], [.int .i64 x212.1.2.2.2.2.2.2], rfl, ⟨rfl, hr242⟩, ⟨rfl, hr243⟩⟩⟩⟩⟩⟩⟩)) 0 rfl (show ((List.replicate 32 (.int .u8 0 : Value)) ++ ([.slice none 0 0, .slice none 0 0, .int .i64 0, .int .i64 0, .int .i64 0, .int .i64 0]) : List Value).length = 38 from by simp only [List.length_append, List.length_cons, List.length_nil, (show ((List.replicate 32 (.int .u8 0 : Value)) : List Value).length = 32 from (by first | rfl | simp_all))]) (fun a w h => ?_)
            refine s_assign h rfl _ rfl rfl (by decide) rfl (fun a h => ?_)
            refine l_end ?_
            refine c_rs ?_ -- region 20
            refine s_move h rfl _ rfl rfl (by decide) rfl (fun a h => ?_)
            refine s_x h rfl rfl (by decide) (x_bin h.k rfl rfl rfl ib_eql) (fun a h => ?_)
            refine s_assign h rfl _ rfl rfl (by decide) rfl (fun a h => ?_)
            refine l_end ?_
            refine wp_ret ?_
            refine e_thenR ?_
            obtain rfl := Option.some.inj hf
            exact r_ret1 h rfl (rv_tmp h rfl) ⟨_, [], _, rfl, ⟨rfl, rfl, trivial⟩, rfl, up216, (h.m.pick [1] _ (by decide) rfl)⟩
          · rw [if_neg (of_decide_eq_false hb)] at hf
            refine wp_skip ?_
            refine e_thenN ?_
            refine wp_seq ?_
            refine wp_seq ?_
            -- region 21 draws
            obtain ⟨m246, h247, hf⟩ := bsome hf
            obtain ⟨x250, h251, hf⟩ := bsome hf
            obtain ⟨z257, hz258, hf⟩ := bsome hf
            refine c_fin (fun a w => St 193 w0 (ownL ([] ++ [.sn S0])) [(0, .slice Aa0 a0.length ca0), (2, .slice Aa2 a2.length ca2), (4, .pointer (some ⟨g3, 0, none⟩)), (9, .int .i64 x88), (10, .slice A91 x90.length c92), (94, .bool z257)] [.box g3 51 csa1, .row (.slice A91 x90.length c92) 66 7 x90.length cs93, .sn S85] a w) ?_ (fun a w h => ?_)
            · refine d_start h (Mem _ _ _) 13 13 rfl (by kernel_rfl) (fun _ _ _ _ _ h => h) (fun _ h => h) (fun Q a w HE HN h HS => ?_)
              obtain ⟨hi248, hm249⟩ := ix_some h247
              refine d_takeP h (fun _ => HS) HN 0 rfl (by kernel_rfl) (by kernel_rfl) (by kernel_rfl) (by decide) rfl rfl (by decide) (fun w' => x_iaddrA h.k rfl Try.underlying51 sz_int rfl rfl hi248 hm249 rfl) (fun a h => ?_)
              obtain ⟨u252, hv253, hu254⟩ := ((hs1.mono le86)).cell rfl h251
              obtain ⟨e256, hr255⟩ := hu254
              cases e256
              refine d_take h HS HN 1 rfl (by kernel_rfl) (by kernel_rfl) (by kernel_rfl) (by kernel_rfl) (by kernel_rfl) rfl rfl (by decide) (fun w' hw => x_ld h.k rfl Try.underlying3 rfl rfl ((hw.cell (i := 0) rfl _).trans (by rw [Nat.zero_add, Nat.mul_one]; exact hv253))) (fun a h => ?_)
              refine d_takeP h (fun _ => HS) HN 2 rfl (by kernel_rfl) (by kernel_rfl) (by kernel_rfl) (by decide) rfl rfl (by decide) (fun w' => x_bin h.k rfl rfl rfl ib_lss) (fun a h => ?_)
              refine d_takeP h (fun _ => HS) HN 3 rfl (by kernel_rfl) (by kernel_rfl) (by kernel_rfl) (by decide) rfl rfl (by decide) (fun w' => x_move h.k _ rfl rfl) (fun a h => ?_)
              refine d_split (t := 85) h rfl (fun hB3 => ?_) (fun hB3 => ?_)
              · rw [if_pos (of_decide_eq_true hB3)] at hz258
                refine d_takeNP h (fun _ => HS) HN 4 rfl (by kernel_rfl) (by kernel_rfl) (by kernel_rfl) (by decide) (by rw [g_want h rfl rfl rfl rfl hB3]; rfl) rfl (by decide) (fun a h => ?_)
                refine d_takeNP h (fun _ => HS) HN 5 rfl (by kernel_rfl) (by kernel_rfl) (by kernel_rfl) (by decide) (by rw [g_want h rfl rfl rfl rfl hB3]; rfl) rfl (by decide) (fun a h => ?_)
                refine d_takeNP h (fun _ => HS) HN 6 rfl (by kernel_rfl) (by kernel_rfl) (by kernel_rfl) (by decide) (by rw [g_want h rfl rfl rfl rfl hB3]; rfl) rfl (by decide) (fun a h => ?_)
                refine d_takeNP h (fun _ => HS) HN 7 rfl (by kernel_rfl) (by kernel_rfl) (by kernel_rfl) (by decide) (by rw [g_want h rfl rfl rfl rfl hB3]; rfl) rfl (by decide) (fun a h => ?_)
                refine d_takeNP h (fun _ => HS) HN 8 rfl (by kernel_rfl) (by kernel_rfl) (by kernel_rfl) (by decide) (by rw [g_want h rfl rfl rfl rfl hB3]; rfl) rfl (by decide) (fun a h => ?_)
                refine d_takeNP h (fun _ => HS) HN 9 rfl (by kernel_rfl) (by kernel_rfl) (by kernel_rfl) (by decide) (by rw [g_want h rfl rfl rfl rfl hB3]; rfl) rfl (by decide) (fun a h => ?_)
                refine d_takeNP h (fun _ => HS) HN 10 rfl (by kernel_rfl) (by kernel_rfl) (by kernel_rfl) (by decide) (by rw [g_want h rfl rfl rfl rfl hB3]; rfl) rfl (by decide) (fun a h => ?_)
                refine d_takeNP h (fun _ => HS) HN 11 rfl (by kernel_rfl) (by kernel_rfl) (by kernel_rfl) (by decide) (by rw [g_want h rfl rfl rfl rfl hB3]; rfl) rfl (by decide) (fun a h => ?_)
                refine d_takeP h (fun _ => HS) HN 12 rfl (by kernel_rfl) (by kernel_rfl) (by kernel_rfl) (by decide) rfl rfl (by decide) (fun w' => x_pick (v := .bool z257) (u' := undef) h.k rfl rfl (fun _ => by rw [← Option.some.inj hz258]; rfl) (fun hh => absurd (hB3.symm.trans hh) (by decide))) (fun a h => ?_)
                refine d_done (by kernel_rfl) (HE _ _ ?_) _
                refine e_thenN ?_
                exact h.has (by exact ⟨rfl, rfl, rfl, rfl, rfl, rfl, trivial⟩)
              · rw [if_neg (of_decide_eq_false hB3)] at hz258
                obtain ⟨m259, h260, hz258⟩ := bsome hz258
                obtain ⟨x263, h264, hz258⟩ := bsome hz258
                obtain ⟨x270, h274, hz258⟩ := bsome hz258
                obtain ⟨hi261, hm262⟩ := ix_some h260
                refine d_takeP h (fun _ => HS) HN 4 rfl (by kernel_rfl) (by kernel_rfl) (by kernel_rfl) (by decide) (by rw [g_want h rfl rfl rfl rfl hB3]; rfl) rfl (by decide) (fun w' => x_iaddrA h.k rfl Try.underlying51 sz_int rfl rfl hi261 hm262 rfl) (fun a h => ?_)
                obtain ⟨u265, hv266, hu267⟩ := ((hs1.mono le86)).cell rfl h264
                obtain ⟨e269, hr268⟩ := hu267
                cases e269
                refine d_takeY h HS HN 5 rfl (by kernel_rfl) (by kernel_rfl) (by kernel_rfl) (by kernel_rfl) (by kernel_rfl) (by rw [g_want h rfl rfl rfl rfl hB3]; rfl) rfl (by decide) (fun w' hw => x_ld h.k rfl Try.underlying3 rfl rfl ((hw.cell (i := 0) rfl _).trans (by rw [Nat.zero_add, Nat.mul_one]; exact hv266))) (fun a h => ?_)
                refine d_takeP h (fun _ => HS) HN 6 rfl (by kernel_rfl) (by kernel_rfl) (by kernel_rfl) (by decide) (by rw [g_want h rfl rfl rfl rfl hB3]; rfl) rfl (by decide) (fun w' => x_move h.k _ rfl rfl) (fun a h => ?_)
                refine d_takeP h (fun _ => HS) HN 7 rfl (by kernel_rfl) (by kernel_rfl) (by kernel_rfl) (by decide) (by rw [g_want h rfl rfl rfl rfl hB3]; rfl) rfl (by decide) (fun w' => x_move h.k _ rfl rfl) (fun a h => ?_)
                obtain ⟨m271, hi275, hm276, hx277⟩ := idx_some h274
                obtain ⟨b272, off273, k278, hA279, hu282, hc283⟩ := (hsa0).at (by decide) hx277 (SnapOK.le le86 (h.m.snOK (i := 2) rfl))
                have hu280 := (tyP tyI (tyP tyI (tyP tyI (tyP (tyL ty8) (tyP (tyL (tyP tyI tyI)) (tyP (tyL (tyL ty8)) (tyL (tyA 32 ty8)))))))).mono le86 hu282
                have hc281 : ∀ w, SnapOK S85 w → w.rangeAt b272 (off273 + m271 * 7) k278 := fun w hw => hc283 w (SnapOK.le le86 hw)
                obtain ⟨k284, k285, rfl, ⟨rfl, hr286⟩, ⟨k287, k288, rfl, ⟨rfl, hr289⟩, ⟨k290, k291, rfl, ⟨rfl, hr292⟩, ⟨k293, k294, rfl, ⟨A295, c296, rfl, hs297⟩, ⟨k298, k299, rfl, ⟨A300, c301, rfl, hs302⟩, ⟨k303, k304, rfl, ⟨A305, c306, rfl, hs307⟩, ⟨A308, c309, rfl, hs310⟩⟩⟩⟩⟩⟩⟩ := hu280
                refine d_takeP h (fun _ => HS) HN 8 rfl (by kernel_rfl) (by kernel_rfl) (by kernel_rfl) (by decide) (by rw [g_want h rfl rfl rfl rfl hB3]; rfl) rfl (by decide) (fun w' => x_iaddrE h.k rfl Try.underlying61 sz_api_Space hA279 rfl rfl hi275 hm276) (fun a h => ?_)
                refine d_takeP h (fun _ => HS) HN 9 rfl (by kernel_rfl) (by kernel_rfl) (by kernel_rfl) (by decide) (by rw [g_want h rfl rfl rfl rfl hB3]; rfl) rfl (by decide) (fun w' => x_faddr h.k rfl Try.underlying66 rfl sz_int rfl) (fun a h => ?_)
                refine d_takeY h HS HN 10 rfl (by kernel_rfl) (by kernel_rfl) (by kernel_rfl) (by kernel_rfl) (by kernel_rfl) (by rw [g_want h rfl rfl rfl rfl hB3]; rfl) rfl (by decide) (fun w' hw => x_ld h.k rfl Try.underlying3 rfl rfl (hc281 _ (hw.snOK (i := 2) rfl) 2 _ rfl)) (fun a h => ?_)
                refine d_takeP h (fun _ => HS) HN 11 rfl (by kernel_rfl) (by kernel_rfl) (by kernel_rfl) (by decide) (by rw [g_want h rfl rfl rfl rfl hB3]; rfl) rfl (by decide) (fun w' => x_bin h.k rfl rfl rfl ib_geq) (fun a h => ?_)
                refine d_takeP h (fun _ => HS) HN 12 rfl (by kernel_rfl) (by kernel_rfl) (by kernel_rfl) (by decide) rfl rfl (by decide) (fun w' => x_pick (v := .bool z257) (u' := undef) h.k rfl rfl (fun hh => absurd (hB3.symm.trans hh) (by decide)) (fun _ => by rw [← Option.some.inj hz258]; rfl)) (fun a h => ?_)
                refine d_done (by kernel_rfl) (HE _ _ ?_) _
                refine e_thenN ?_
                exact h.has (by exact ⟨rfl, rfl, rfl, rfl, rfl, rfl, trivial⟩)
            refine e_thenN ?_
            refine c_cond h rfl (fun hb => ?_) (fun hb => ?_)
            · rw [if_pos hb] at hf
              refine c_rs ?_ -- region 22
              refine s_move h rfl _ rfl rfl (by decide) rfl (fun a h => ?_)
              obtain ⟨m311, h312, hf⟩ := bsome hf
              obtain ⟨hi313, hm314⟩ := ix_some h312
              refine s_x h rfl rfl (by decide) (x_iaddrA h.k rfl Try.underlying51 sz_int rfl rfl hi313 hm314 rfl) (fun a h => ?_)
              obtain ⟨x315, h316, hf⟩ := bsome hf
              obtain ⟨u317, hv318, hu319⟩ := ((hs1.mono le86)).cell rfl h316
              obtain ⟨e321, hr320⟩ := hu319
              cases e321
              refine s_x h rfl rfl (by decide) (x_ld h.k rfl Try.underlying3 rfl rfl ((h.m.cell (i := 0) rfl _).trans (by rw [Nat.zero_add, Nat.mul_one]; exact hv318))) (fun a h => ?_)
              obtain ⟨m322, h323, hf⟩ := bsome hf
              obtain ⟨hi324, hm325⟩ := ix_some h323
              refine s_x h rfl rfl (by decide) (x_iaddrA h.k rfl Try.underlying51 sz_int rfl rfl hi324 hm325 rfl) (fun a h => ?_)
              obtain ⟨x326, h327, hf⟩ := bsome hf
              obtain ⟨u328, hv329, hu330⟩ := ((hs1.mono le86)).cell rfl h327
              obtain ⟨e332, hr331⟩ := hu330
              cases e332
              refine s_x h rfl rfl (by decide) (x_ld h.k rfl Try.underlying3 rfl rfl ((h.m.cell (i := 0) rfl _).trans (by rw [Nat.zero_add, Nat.mul_one]; exact hv329))) (fun a h => ?_)
              obtain ⟨x333, h334, hf⟩ := bsome hf
              have h := h.pick [2, 0, 1] (by decide) rfl
              have hX := forest_Prove_ok Fu (S0 := S85) Aa0 ca0 a0 (hsa0.mono le86) x315 hr320 x326 hr331 _ h334 _ (h.sub (Ls := []))
              refine q_callY (Ls := []) hX h up87 rfl rfl rfl (by decide) Try.func47 rfl rfl rfl (fun a w v L1 S336 hR le338 up337 h => ?_)
              obtain ⟨k339, rfl, rfl, hv340, hr365, _⟩ := hR
              obtain ⟨k341, k342, rfl, ⟨hs343, hl344⟩, ⟨k345, k346, rfl, ⟨A347, c348, rfl, hs349⟩, ⟨k350, k351, rfl, ⟨A352, c353, rfl, hs354⟩, ⟨k355, k356, rfl, ⟨rfl, hr357⟩, ⟨k358, k359, rfl, ⟨rfl, hr360⟩, ⟨k361, k362, rfl, ⟨rfl, hr363⟩, ⟨rfl, hr364⟩⟩⟩⟩⟩⟩⟩ := hv340
              refine s_move h rfl _ rfl rfl (by decide) rfl (fun a h => ?_)
              refine s_x h rfl rfl (by decide) (x_ext h.k rfl rfl rfl) (fun a h => ?_)
              refine s_x h rfl rfl (by decide) (x_ext h.k rfl rfl rfl) (fun a h => ?_)
              refine s_alloc h rfl rfl rfl (by decide) zi_api_Proof rfl (fun a w g366 h => ?_)
              refine s_stW h rfl rfl rfl ag_api_Proof rfl (es := k341 ++ ([.slice A347 x333.1.2.1.length c348, .slice A352 x333.1.2.2.1.length c353, .int .i64 x333.1.2.2.2.1, .int .i64 x333.1.2.2.2.2.1, .int .i64 x333.1.2.2.2.2.2.1, .int .i64 x333.1.2.2.2.2.2.2])) rfl (show (k341 ++ ([.slice A347 x333.1.2.1.length c348, .slice A352 x333.1.2.2.1.length c353, .int .i64 x333.1.2.2.2.1, .int .i64 x333.1.2.2.2.2.1, .int .i64 x333.1.2.2.2.2.2.1, .int .i64 x333.1.2.2.2.2.2.2]) : List Value).length = 38 from by simp only [List.length_append, List.length_cons, List.length_nil, (show (k341 : List Value).length = 32 from ((hs343).len.trans (by rw [hl344]; rfl)))]) ((tyP (tyA 32 ty8) (tyP (tyL (tyA 32 ty8)) (tyP (tyL (tyA 32 ty8)) (tyP tyI (tyP tyI (tyP tyI tyI)))))).one (show (tyP (tyA 32 ty8) (tyP (tyL (tyA 32 ty8)) (tyP (tyL (tyA 32 ty8)) (tyP tyI (tyP tyI (tyP tyI tyI)))))).rep S336 (k341 ++ ([.slice A347 x333.1.2.1.length c348, .slice A352 x333.1.2.2.1.length c353, .int .i64 x333.1.2.2.2.1, .int .i64 x333.1.2.2.2.2.1, .int .i64 x333.1.2.2.2.2.2.1, .int .i64 x333.1.2.2.2.2.2.2])) x333.1 from ⟨k341, [.slice A347 x333.1.2.1.length c348, .slice A352 x333.1.2.2.1.length c353, .int .i64 x333.1.2.2.2.1, .int .i64 x333.1.2.2.2.2.1, .int .i64 x333.1.2.2.2.2.2.1, .int .i64 x333.1.2.2.2.2.2.2], rfl, ⟨hs343, hl344⟩, ⟨[.slice A347 x333.1.2.1.length c348], [.slice A352 x333.1.2.2.1.length c353, .int .i64 x333.1.2.2.2.1, .int .i64 x333.1.2.2.2.2.1, .int .i64 x333.1.2.2.2.2.2.1, .int .i64 x333.1.2.2.2.2.2.2], rfl, ⟨_, _, rfl, hs349⟩, ⟨[.slice A352 x333.1.2.2.1.length c353], [.int .i64 x333.1.2.2.2.1, .int .i64 x333.1.2.2.2.2.1, .int .i64 x333.1.2.2.2.2.2.1, .int .i64 x333.1.2.2.2.2.2.2], rfl, ⟨_, _, rfl, hs354⟩, ⟨[.int .i64 x333.1.2.2.2.1], [.int .i64 x333.1.2.2.2.2.1, .int .i64 x333.1.2.2.2.2.2.1, .int .i64 x333.1.2.2.2.2.2.2], rfl, ⟨rfl, hr357⟩, ⟨[.int .i64 x333.1.2.2.2.2.1], [.int .i64 x333.1.2.2.2.2.2.1, .int .i64 x333.1.2.2.2.2.2.2], rfl, ⟨rfl, hr360⟩, ⟨[.int .i64 x333.1.2.2.2.2.2.1], [.int .i64 x333.1.2.2.2.2.2.2], rfl, ⟨rfl, hr363⟩, ⟨rfl, hr364⟩⟩⟩⟩⟩⟩⟩)) 0 rfl (show ((List.replicate 32 (.int .u8 0 : Value)) ++ ([.slice none 0 0, .slice none 0 0, .int .i64 0, .int .i64 0, .int .i64 0, .int .i64 0]) : List Value).length = 38 from by simp only [List.length_append, List.length_cons, List.length_nil, (show ((List.replicate 32 (.int .u8 0 : Value)) : List Value).length = 32 from (by first | rfl | simp_all))]) (fun a w h => ?_)
              refine s_assign h rfl _ rfl rfl (by decide) rfl (fun a h => ?_)
              refine l_end ?_
              refine c_rs ?_ -- region 23
              refine s_move h rfl _ rfl rfl (by decide) rfl (fun a h => ?_)
              refine s_x h rfl rfl (by decide) (x_bin h.k rfl rfl rfl ib_eql) (fun a h => ?_)
              refine s_assign h rfl _ rfl rfl (by decide) rfl (fun a h => ?_)
              refine l_end ?_
              refine wp_ret ?_
              refine e_thenR ?_
              obtain rfl := Option.some.inj hf
              exact r_ret1 h rfl (rv_tmp h rfl) ⟨_, [], _, rfl, ⟨rfl, rfl, trivial⟩, rfl, up337, (h.m.pick [1] _ (by decide) rfl)⟩
            · rw [if_neg (by rw [hb]; decide)] at hf
              refine wp_skip ?_
              refine e_thenN ?_
              refine wp_seq ?_
              -- region 24 draws
              obtain ⟨m367, h368, hf⟩ := bsome hf
              obtain ⟨x373, h374, hf⟩ := bsome hf
              obtain ⟨m392, h393, hf⟩ := bsome hf
              obtain ⟨x396, h397, hf⟩ := bsome hf
              obtain ⟨m403, h404, hf⟩ := bsome hf
              obtain ⟨x407, h408, hf⟩ := bsome hf
              obtain ⟨m414, h415, hf⟩ := bsome hf
              obtain ⟨x418, h419, hf⟩ := bsome hf
              obtain ⟨x425, h426, hf⟩ := bsome hf
              obtain ⟨m433, h436, hf⟩ := bsome hf
              refine d_start h (Mem _ _ _) 14 15 rfl (by kernel_rfl) (fun _ _ _ _ _ h => h) (fun _ h => h) (fun Q a w HE HN h HS => ?_)
              refine d_takeP h (fun _ => HS) HN 0 rfl (by kernel_rfl) (by kernel_rfl) (by kernel_rfl) (by decide) rfl rfl (by decide) (fun w' => x_move h.k _ rfl rfl) (fun a h => ?_)
              refine d_takeP h (fun _ => HS) HN 1 rfl (by kernel_rfl) (by kernel_rfl) (by kernel_rfl) (by decide) rfl rfl (by decide) (fun w' => x_move h.k _ rfl rfl) (fun a h => ?_)
              obtain ⟨hi369, hm370⟩ := ix_some h368
              obtain ⟨g372, hA371⟩ := h.m.rowHead (i := 1) rfl (Nat.lt_of_le_of_lt (Nat.zero_le _) hm370)
              refine d_takeP h (fun _ => HS) HN 2 rfl (by kernel_rfl) (by kernel_rfl) (by kernel_rfl) (by decide) rfl rfl (by decide) (fun w' => x_iaddrE h.k rfl Try.underlying61 sz_api_Space hA371 rfl rfl hi369 hm370) (fun a h => ?_)
              refine d_takeP h (fun _ => HS) HN 3 rfl (by kernel_rfl) (by kernel_rfl) (by kernel_rfl) (by decide) rfl rfl (by decide) (fun w' => x_faddr h.k rfl Try.underlying66 rfl sz_SA32_uint8 rfl) (fun a h => ?_)
              obtain ⟨g375, k376, hk377, hE378, hW379⟩ := looses.at hq94 h374
              obtain ⟨k380, c381, cur382, e383, e384, e385, e386, e387, e388, e389, e390, e391⟩ := id hE378
              refine d_take h HS HN 4 rfl (by kernel_rfl) (by kernel_rfl) (by kernel_rfl) (by kernel_rfl) (by kernel_rfl) rfl rfl (by decide) (fun w' hw => x_ld h.k rfl Try.underlying39 rfl rfl ((show World.rangeAt _ _ (0 + m367 * 7) k376 from (by have hz := hw.rangeRowE (i := 1) rfl hA371 (m367 * 7) 7; rw [← hk377] at hz; exact hz)) 6 _ (by rw [e383, List.getElem?_append_right (by rw [e384]; exact Nat.le_refl _), e384]; rfl))) (fun a h => ?_)
              obtain ⟨hi394, hm395⟩ := ix_some h393
              refine d_takeP h (fun _ => HS) HN 5 rfl (by kernel_rfl) (by kernel_rfl) (by kernel_rfl) (by decide) rfl rfl (by decide) (fun w' => x_iaddrA h.k rfl Try.underlying51 sz_int rfl rfl hi394 hm395 rfl) (fun a h => ?_)
              obtain ⟨u398, hv399, hu400⟩ := ((hs1.mono le86)).cell rfl h397
              obtain ⟨e402, hr401⟩ := hu400
              cases e402
              refine d_take h HS HN 6 rfl (by kernel_rfl) (by kernel_rfl) (by kernel_rfl) (by kernel_rfl) (by kernel_rfl) rfl rfl (by decide) (fun w' hw => x_ld h.k rfl Try.underlying3 rfl rfl ((hw.cell (i := 0) rfl _).trans (by rw [Nat.zero_add, Nat.mul_one]; exact hv399))) (fun a h => ?_)
              obtain ⟨hi405, hm406⟩ := ix_some h404
              refine d_takeP h (fun _ => HS) HN 7 rfl (by kernel_rfl) (by kernel_rfl) (by kernel_rfl) (by decide) rfl rfl (by decide) (fun w' => x_iaddrA h.k rfl Try.underlying51 sz_int rfl rfl hi405 hm406 rfl) (fun a h => ?_)
              obtain ⟨u409, hv410, hu411⟩ := ((hs1.mono le86)).cell rfl h408
              obtain ⟨e413, hr412⟩ := hu411
              cases e413
              refine d_take h HS HN 8 rfl (by kernel_rfl) (by kernel_rfl) (by kernel_rfl) (by kernel_rfl) (by kernel_rfl) rfl rfl (by decide) (fun w' hw => x_ld h.k rfl Try.underlying3 rfl rfl ((hw.cell (i := 0) rfl _).trans (by rw [Nat.zero_add, Nat.mul_one]; exact hv410))) (fun a h => ?_)
              obtain ⟨hi416, hm417⟩ := ix_some h415
              refine d_takeP h (fun _ => HS) HN 9 rfl (by kernel_rfl) (by kernel_rfl) (by kernel_rfl) (by decide) rfl rfl (by decide) (fun w' => x_iaddrA h.k rfl Try.underlying51 sz_int rfl rfl hi416 hm417 rfl) (fun a h => ?_)
              obtain ⟨u420, hv421, hu422⟩ := ((hs1.mono le86)).cell rfl h419
              obtain ⟨e424, hr423⟩ := hu422
              cases e424
              refine d_take h HS HN 10 rfl (by kernel_rfl) (by kernel_rfl) (by kernel_rfl) (by kernel_rfl) (by kernel_rfl) rfl rfl (by decide) (fun w' hw => x_ld h.k rfl Try.underlying3 rfl rfl ((hw.cell (i := 0) rfl _).trans (by rw [Nat.zero_add, Nat.mul_one]; exact hv421))) (fun a h => ?_)
              refine d_takeP h (fun _ => HS) HN 11 rfl (by kernel_rfl) (by kernel_rfl) (by kernel_rfl) (by decide) rfl rfl (by decide) (fun w' => x_move h.k _ rfl rfl) (fun a h => ?_)
              refine d_alone 12 rfl (by kernel_rfl) (fun K hK => ?_)
              have hX := chatelaineref23_Leaf_ok Fu (S0 := snapAll _) x407 hr412 x418 hr423 Aa2 ca2 a2 ((hsa2.mono le86).mono (h.m.leAll (i := 2) rfl)) _ h426 _ h.startAll
              refine q_callX hX h rfl rfl rfl (by decide) Try.func45 rfl rfl rfl (fun a w v L1 S1 hR hb1 h => ?_)
              obtain ⟨k428, rfl, rfl, hv429, _⟩ := hR
              obtain ⟨hs430, hl431⟩ := hv429
              have hq432 := hs430.fl (S' := S85) fl_8
              refine hK _ _ (fun _ _ => HS.ext hb1) ?_
              replace HS := HS.ext hb1
              clear hK
              obtain ⟨hi434, hm435⟩ := ix_some h436
              refine d_takeP h (fun _ => HS) HN 13 rfl (by kernel_rfl) (by kernel_rfl) (by kernel_rfl) (by decide) rfl rfl (by decide) (fun w' => x_iaddrE h.k rfl Try.underlying39 sz_A32_uint8 rfl rfl rfl hi434 hm435) (fun a h => ?_)
              refine d_alone 14 rfl (by kernel_rfl) (fun K hK => ?_)
              have h := h.pick [2, 0, 1] (by decide) rfl
              refine q_storeFz (es := k428) h up87 rfl rfl rfl ag_A32_uint8 rfl rfl ((hq432).len.trans (by rw [hl431]; rfl)) (hq432).one rfl e386 e387 (by have := hm435; have := e388; have := e390; omega) (fun a w S437 le438 up439 ag440 hg441 h => ?_)
              have hq442 := hW379 S437 _ le438 ag440 (looseE.write e383 e385 e388 e389 e390 e391 le438 hm435 hg441 (show (tyA 32 ty8).rep S85 k428 x425 from ⟨hq432, hl431⟩))
              have hl443 : x90.length = (x90.set m367 (setSums x373 ((sumsL x373).set m433 x425))).length := by simp only [List.length_set]
              rw [hl443] at h
              refine hK _ _ (fun hne _ => absurd rfl hne) ?_
              clear hK
              refine d_done (by kernel_rfl) (HE _ _ ?_) _
              refine e_thenN ?_
              refine c_rs ?_ -- region 25
              refine s_move h rfl _ rfl rfl (by decide) rfl (fun a h => ?_)
              obtain ⟨m444, h445, hf⟩ := bsome hf
              obtain ⟨hi446, hm447⟩ := ix_some h445
              refine s_x h rfl rfl (by decide) (x_iaddrA h.k rfl Try.underlying51 sz_int rfl rfl hi446 hm447 rfl) (fun a h => ?_)
              obtain ⟨x448, h449, hf⟩ := bsome hf
              obtain ⟨u450, hv451, hu452⟩ := ((hs1.mono le438)).cell rfl h449
              obtain ⟨e454, hr453⟩ := hu452
              cases e454
              refine s_x h rfl rfl (by decide) (x_ld h.k rfl Try.underlying3 rfl rfl ((h.m.cell (i := 1) rfl _).trans (by rw [Nat.zero_add, Nat.mul_one]; exact hv451))) (fun a h => ?_)
              obtain ⟨m455, h456, hf⟩ := bsome hf
              obtain ⟨hi457, hm458⟩ := ix_some h456
              refine s_x h rfl rfl (by decide) (x_iaddrA h.k rfl Try.underlying51 sz_int rfl rfl hi457 hm458 rfl) (fun a h => ?_)
              obtain ⟨x459, h460, hf⟩ := bsome hf
              obtain ⟨u461, hv462, hu463⟩ := ((hs1.mono le438)).cell rfl h460
              obtain ⟨e465, hr464⟩ := hu463
              cases e465
              refine s_x h rfl rfl (by decide) (x_ld h.k rfl Try.underlying3 rfl rfl ((h.m.cell (i := 1) rfl _).trans (by rw [Nat.zero_add, Nat.mul_one]; exact hv462))) (fun a h => ?_)
              have h := h.pick [2, 0, 1] (by decide) rfl
              obtain ⟨S466, le467, up468, hs469, h⟩ := q_freeze (T := tyP tyI (tyP tyI (tyP tyI (tyP (tyL ty8) (tyP (tyL (tyP tyI tyI)) (tyP (tyL (tyL ty8)) (tyL (tyA 32 ty8)))))))) h up439 hq442
              obtain ⟨x470, h471, hf⟩ := bsome hf
              have hX := forest_Prove_ok Fu (S0 := S466) A91 c92 (x90.set m367 (setSums x373 ((sumsL x373).set m433 x425))) hs469 x448 hr453 x459 hr464 _ h471 _ (h.sub (Ls := []))
              refine q_callY (Ls := []) hX h up468 rfl rfl rfl (by decide) Try.func47 rfl rfl rfl (fun a w v L1 S473 hR le475 up474 h => ?_)
              obtain ⟨k476, rfl, rfl, hv477, hr502, _⟩ := hR
              obtain ⟨k478, k479, rfl, ⟨hs480, hl481⟩, ⟨k482, k483, rfl, ⟨A484, c485, rfl, hs486⟩, ⟨k487, k488, rfl, ⟨A489, c490, rfl, hs491⟩, ⟨k492, k493, rfl, ⟨rfl, hr494⟩, ⟨k495, k496, rfl, ⟨rfl, hr497⟩, ⟨k498, k499, rfl, ⟨rfl, hr500⟩, ⟨rfl, hr501⟩⟩⟩⟩⟩⟩⟩ := hv477
              refine s_move h rfl _ rfl rfl (by decide) rfl (fun a h => ?_)
              refine s_x h rfl rfl (by decide) (x_ext h.k rfl rfl rfl) (fun a h => ?_)
              refine s_x h rfl rfl (by decide) (x_ext h.k rfl rfl rfl) (fun a h => ?_)
              refine s_alloc h rfl rfl rfl (by decide) zi_api_Proof rfl (fun a w g503 h => ?_)
              refine s_stW h rfl rfl rfl ag_api_Proof rfl (es := k478 ++ ([.slice A484 x470.1.2.1.length c485, .slice A489 x470.1.2.2.1.length c490, .int .i64 x470.1.2.2.2.1, .int .i64 x470.1.2.2.2.2.1, .int .i64 x470.1.2.2.2.2.2.1, .int .i64 x470.1.2.2.2.2.2.2])) rfl (show (k478 ++ ([.slice A484 x470.1.2.1.length c485, .slice A489 x470.1.2.2.1.length c490, .int .i64 x470.1.2.2.2.1, .int .i64 x470.1.2.2.2.2.1, .int .i64 x470.1.2.2.2.2.2.1, .int .i64 x470.1.2.2.2.2.2.2]) : List Value).length = 38 from by simp only [List.length_append, List.length_cons, List.length_nil, (show (k478 : List Value).length = 32 from ((hs480).len.trans (by rw [hl481]; rfl)))]) ((tyP (tyA 32 ty8) (tyP (tyL (tyA 32 ty8)) (tyP (tyL (tyA 32 ty8)) (tyP tyI (tyP tyI (tyP tyI tyI)))))).one (show (tyP (tyA 32 ty8) (tyP (tyL (tyA 32 ty8)) (tyP (tyL (tyA 32 ty8)) (tyP tyI (tyP tyI (tyP tyI tyI)))))).rep S473 (k478 ++ ([.slice A484 x470.1.2.1.length c485, .slice A489 x470.1.2.2.1.length c490, .int .i64 x470.1.2.2.2.1, .int .i64 x470.1.2.2.2.2.1, .int .i64 x470.1.2.2.2.2.2.1, .int .i64 x470.1.2.2.2.2.2.2])) x470.1 from ⟨k478, [.slice A484 x470.1.2.1.length c485, .slice A489 x470.1.2.2.1.length c490, .int .i64 x470.1.2.2.2.1, .int .i64 x470.1.2.2.2.2.1, .int .i64 x470.1.2.2.2.2.2.1, .int .i64 x470.1.2.2.2.2.2.2], rfl, ⟨hs480, hl481⟩, ⟨[.slice A484 x470.1.2.1.length c485], [.slice A489 x470.1.2.2.1.length c490, .int .i64 x470.1.2.2.2.1, .int .i64 x470.1.2.2.2.2.1, .int .i64 x470.1.2.2.2.2.2.1, .int .i64 x470.1.2.2.2.2.2.2], rfl, ⟨_, _, rfl, hs486⟩, ⟨[.slice A489 x470.1.2.2.1.length c490], [.int .i64 x470.1.2.2.2.1, .int .i64 x470.1.2.2.2.2.1, .int .i64 x470.1.2.2.2.2.2.1, .int .i64 x470.1.2.2.2.2.2.2], rfl, ⟨_, _, rfl, hs491⟩, ⟨[.int .i64 x470.1.2.2.2.1], [.int .i64 x470.1.2.2.2.2.1, .int .i64 x470.1.2.2.2.2.2.1, .int .i64 x470.1.2.2.2.2.2.2], rfl, ⟨rfl, hr494⟩, ⟨[.int .i64 x470.1.2.2.2.2.1], [.int .i64 x470.1.2.2.2.2.2.1, .int .i64 x470.1.2.2.2.2.2.2], rfl, ⟨rfl, hr497⟩, ⟨[.int .i64 x470.1.2.2.2.2.2.1], [.int .i64 x470.1.2.2.2.2.2.2], rfl, ⟨rfl, hr500⟩, ⟨rfl, hr501⟩⟩⟩⟩⟩⟩⟩)) 0 rfl (show ((List.replicate 32 (.int .u8 0 : Value)) ++ ([.slice none 0 0, .slice none 0 0, .int .i64 0, .int .i64 0, .int .i64 0, .int .i64 0]) : List Value).length = 38 from by simp only [List.length_append, List.length_cons, List.length_nil, (show ((List.replicate 32 (.int .u8 0 : Value)) : List Value).length = 32 from (by first | rfl | simp_all))]) (fun a w h => ?_)
              refine s_assign h rfl _ rfl rfl (by decide) rfl (fun a h => ?_)
              refine l_end ?_
              refine c_rs ?_ -- region 26
              refine s_move h rfl _ rfl rfl (by decide) rfl (fun a h => ?_)
              obtain ⟨x504, h505, hf⟩ := bsome hf
              have hX := chatelaineref24_Root_ok Fu (S0 := snapAll _) A91 c92 (x90.set m367 (setSums x373 ((sumsL x373).set m433 x425))) ((hs469.mono le475).mono (h.m.leAll (i := 1) rfl)) _ h505 _ h.startAll
              refine q_callX hX h rfl rfl rfl (by decide) Try.func43 rfl rfl rfl (fun a w v L1 S1 hR hb1 h => ?_)
              obtain ⟨k507, rfl, rfl, hv508, _⟩ := hR
              obtain ⟨hs509, hl510⟩ := hv508
              have hq511 := hs509.fl (S' := S473) fl_8
              refine s_alloc h rfl rfl rfl (by decide) zi_A32_uint8 rfl (fun a w g512 h => ?_)
              refine s_stW h rfl rfl rfl ag_A32_uint8 rfl (es := k507) rfl ((hq511).len.trans (by rw [hl510]; rfl)) (hq511).one 0 rfl (by first | rfl | simp_all) (fun a w h => ?_)
              refine l_end ?_
              refine c_rs ?_ -- region 27
              refine s_x h rfl rfl (by decide) (x_ldR h.k rfl ag_A32_uint8 rfl k507 ((hq511).len.trans (by rw [hl510]; rfl)) (h.m.range0 (i := 0) rfl)) (fun a h => ?_)
              refine s_alloc h rfl rfl rfl (by decide) zi_A32_uint8 rfl (fun a w g513 h => ?_)
              refine s_stW h rfl rfl rfl ag_A32_uint8 rfl (es := k507) rfl ((hq511).len.trans (by rw [hl510]; rfl)) (hq511).one 0 rfl (by first | rfl | simp_all) (fun a w h => ?_)
              refine l_end ?_
              refine c_rs ?_ -- region 28
              obtain ⟨m514, h515, hf⟩ := bsome hf
              obtain ⟨hi516, hm517⟩ := ix_some h515
              refine s_x h rfl rfl (by decide) (x_iaddrA h.k rfl Try.underlying40 sz_uint8 rfl rfl hi516 hm517 rfl) (fun a h => ?_)
              obtain ⟨x518, h519, hf⟩ := bsome hf
              obtain ⟨u520, hv521, hu522⟩ := (hq511).cell rfl h519
              cases hu522
              refine s_x h rfl rfl (by decide) (x_ld h.k rfl Try.underlying5 rfl rfl ((h.m.cell (i := 0) rfl _).trans (by rw [Nat.zero_add, Nat.mul_one]; exact hv521))) (fun a h => ?_)
              refine s_x h rfl rfl (by decide) (x_bin h.k rfl rfl rfl (ib_xor (u8_xor_ x518 (1 : UInt8)))) (fun a h => ?_)
              obtain ⟨m523, h524, hf⟩ := bsome hf
              obtain ⟨hi525, hm526⟩ := ix_some h524
              refine s_x h rfl rfl (by decide) (x_iaddrA h.k rfl Try.underlying40 sz_uint8 rfl rfl hi525 hm526 rfl) (fun a h => ?_)
              refine q_setBox (T := ty8) (q := (x518 ^^^ (1 : UInt8))) h rfl rfl rfl sz_uint8 rfl rfl 0 rfl rfl hq511 rfl (by first | omega | (simp_all; done)) (fun a w cs527 hq528 h => ?_)
              have hl529 : (x504.set m523 (x518 ^^^ (1 : UInt8))).length = 32 := by rw [List.length_set]; exact hl510
              refine l_end ?_
              refine wp_seq ?_
              refine c_rs ?_ -- region 29
              refine s_move h rfl _ rfl rfl (by decide) rfl (fun a h => ?_)
              refine s_x h rfl rfl (by decide) (x_bin h.k rfl rfl rfl ib_neq) (fun a h => ?_)
              refine s_move h rfl _ rfl rfl (by decide) rfl (fun a h => ?_)
              refine q_grp h 5 (t := 138) 143 ((decide (x470.2 ≠ 0)) || (decide (x470.1.2.2.2.1 ≠ x88))) rfl (fun hB2 => ?_) (fun hB2 => ?_) (fun a w h => ?_)
              · refine g_no h rfl rfl rfl rfl hB2 rfl (by decide) (fun a h => ?_)
                refine g_no h rfl rfl rfl rfl hB2 rfl (by decide) (fun a h => ?_)
                refine g_no h rfl rfl rfl rfl hB2 rfl (by decide) (fun a h => ?_)
                refine g_no h rfl rfl rfl rfl hB2 rfl (by decide) (fun a h => ?_)
                refine s_x h rfl rfl (by decide) (x_pick (u' := undef) h.k rfl rfl (fun _ => rfl) (fun hh => absurd (hB2.symm.trans hh) (by decide))) (fun a h => ?_)
                exact (h.mid 4 rfl).val (by first | rfl | (rw [hB2]; first | rfl | simp))
              · refine g_yes h rfl rfl rfl rfl hB2 ?_
                refine s_x h rfl rfl (by decide) (x_faddr h.k rfl Try.underlying75 rfl sz_int rfl) (fun a h => ?_)
                refine g_yes h rfl rfl rfl rfl hB2 ?_
                refine s_x h rfl rfl (by decide) (x_ld h.k rfl Try.underlying3 rfl rfl ((h.m.cell (i := 2) rfl 34).trans (cell_oneE (X := k478 ++ (([.slice A484 x470.1.2.1.length c485] : List Value) ++ ([.slice A489 x470.1.2.2.1.length c490]))) (Z := ([.int .i64 x470.1.2.2.2.2.1] : List Value) ++ (([.int .i64 x470.1.2.2.2.2.2.1] : List Value) ++ ([.int .i64 x470.1.2.2.2.2.2.2]))) (off := 34) (u := .int .i64 x470.1.2.2.2.1) (by simp only [List.append_assoc, List.cons_append, List.nil_append, List.append_nil]) (show (k478 ++ (([.slice A484 x470.1.2.1.length c485] : List Value) ++ ([.slice A489 x470.1.2.2.1.length c490])) : List Value).length = 34 from by simp only [List.length_append, List.length_cons, List.length_nil, (show (k478 : List Value).length = 32 from ((hs480).len.trans (by rw [hl481]; rfl)))])))) (fun a h => ?_)
                refine g_yes h rfl rfl rfl rfl hB2 ?_
                refine s_move h rfl _ rfl rfl (by decide) rfl (fun a h => ?_)
                refine g_yes h rfl rfl rfl rfl hB2 ?_
                refine s_x h rfl rfl (by decide) (x_bin h.k rfl rfl rfl ib_neq) (fun a h => ?_)
                refine s_x h rfl rfl (by decide) (x_pick (u' := undef) h.k rfl rfl (fun hh => absurd (hB2.symm.trans hh) (by decide)) (fun _ => rfl)) (fun a h => ?_)
                exact (h.mid 4 rfl).val (by first | rfl | (rw [hB2]; first | rfl | simp))
              refine s_move h rfl _ rfl rfl (by decide) rfl (fun a h => ?_)
              obtain ⟨z533, hz532, hf⟩ := bsome hf
              refine q_grp h 6 (t := 144) 150 z533 rfl (fun hB8 => ?_) (fun hB8 => ?_) (fun a w h => ?_)
              · refine g_no h rfl rfl rfl rfl hB8 rfl (by decide) (fun a h => ?_)
                refine g_no h rfl rfl rfl rfl hB8 rfl (by decide) (fun a h => ?_)
                refine g_no h rfl rfl rfl rfl hB8 rfl (by decide) (fun a h => ?_)
                refine g_no h rfl rfl rfl rfl hB8 rfl (by decide) (fun a h => ?_)
                refine g_no h rfl rfl rfl rfl hB8 rfl (by decide) (fun a h => ?_)
                rw [if_pos hB8] at hz532
                refine s_x h rfl rfl (by decide) (x_pick (u' := undef) h.k rfl rfl (fun _ => rfl) (fun hh => absurd (hB8.symm.trans hh) (by decide))) (fun a h => ?_)
                exact (h.mid 5 rfl).val (by rw [Option.some.inj hz532])
              · rw [if_neg (by rw [hB8]; decide)] at hz532
                refine g_yes h rfl rfl rfl rfl hB8 ?_
                refine s_x h rfl rfl (by decide) (x_faddr h.k rfl Try.underlying75 rfl sz_int rfl) (fun a h => ?_)
                refine g_yes h rfl rfl rfl rfl hB8 ?_
                refine s_x h rfl rfl (by decide) (x_ld h.k rfl Try.underlying3 rfl rfl ((h.m.cell (i := 2) rfl 35).trans (cell_oneE (X := k478 ++ (([.slice A484 x470.1.2.1.length c485] : List Value) ++ (([.slice A489 x470.1.2.2.1.length c490] : List Value) ++ ([.int .i64 x470.1.2.2.2.1])))) (Z := ([.int .i64 x470.1.2.2.2.2.2.1] : List Value) ++ ([.int .i64 x470.1.2.2.2.2.2.2])) (off := 35) (u := .int .i64 x470.1.2.2.2.2.1) (by simp only [List.append_assoc, List.cons_append, List.nil_append, List.append_nil]) (show (k478 ++ (([.slice A484 x470.1.2.1.length c485] : List Value) ++ (([.slice A489 x470.1.2.2.1.length c490] : List Value) ++ ([.int .i64 x470.1.2.2.2.1]))) : List Value).length = 35 from by simp only [List.length_append, List.length_cons, List.length_nil, (show (k478 : List Value).length = 32 from ((hs480).len.trans (by rw [hl481]; rfl)))])))) (fun a h => ?_)
                refine g_yes h rfl rfl rfl rfl hB8 ?_
                obtain ⟨m535, h536, hz532⟩ := bsome hz532
                obtain ⟨hi537, hm538⟩ := ix_some h536
                refine s_x h rfl rfl (by decide) (x_iaddrA h.k rfl Try.underlying51 sz_int rfl rfl hi537 hm538 rfl) (fun a h => ?_)
                refine g_yes h rfl rfl rfl rfl hB8 ?_
                obtain ⟨x539, h540, hz532⟩ := bsome hz532
                obtain ⟨u541, hv542, hu543⟩ := ((hs1.mono ((le438.trans le467).trans le475))).cell rfl h540
                obtain ⟨e545, hr544⟩ := hu543
                cases e545
                refine s_x h rfl rfl (by decide) (x_ld h.k rfl Try.underlying3 rfl rfl ((h.m.cell (i := 4) rfl _).trans (by rw [Nat.zero_add, Nat.mul_one]; exact hv542))) (fun a h => ?_)
                refine g_yes h rfl rfl rfl rfl hB8 ?_
                refine s_x h rfl rfl (by decide) (x_bin h.k rfl rfl rfl ib_neq) (fun a h => ?_)
                refine s_x h rfl rfl (by decide) (x_pick (u' := undef) h.k rfl rfl (fun hh => absurd (hB8.symm.trans hh) (by decide)) (fun _ => rfl)) (fun a h => ?_)
                exact (h.mid 5 rfl).val (by rw [Option.some.inj hz532])
              refine s_move h rfl _ rfl rfl (by decide) rfl (fun a h => ?_)
              obtain ⟨z547, hz546, hf⟩ := bsome hf
              refine q_grp h 8 (t := 151) 159 z547 rfl (fun hB15 => ?_) (fun hB15 => ?_) (fun a w h => ?_)
              · refine g_no h rfl rfl rfl rfl hB15 rfl (by decide) (fun a h => ?_)
                refine g_no h rfl rfl rfl rfl hB15 rfl (by decide) (fun a h => ?_)
                refine g_no h rfl rfl rfl rfl hB15 rfl (by decide) (fun a h => ?_)
                refine g_no h rfl rfl rfl rfl hB15 rfl (by decide) (fun a h => ?_)
                refine g_no h rfl rfl rfl rfl hB15 rfl (by decide) (fun a h => ?_)
                refine g_no h rfl rfl rfl rfl hB15 rfl (by decide) (fun a h => ?_)
                refine g_no h rfl rfl rfl rfl hB15 rfl (by decide) (fun a h => ?_)
                rw [if_pos hB15] at hz546
                refine s_x h rfl rfl (by decide) (x_pick (u' := undef) h.k rfl rfl (fun _ => rfl) (fun hh => absurd (hB15.symm.trans hh) (by decide))) (fun a h => ?_)
                exact (h.mid 7 rfl).val (by rw [Option.some.inj hz546])
              · rw [if_neg (by rw [hB15]; decide)] at hz546
                refine g_yes h rfl rfl rfl rfl hB15 ?_
                refine s_x h rfl rfl (by decide) (x_ldR h.k rfl ag_api_Proof rfl (k478 ++ ([.slice A484 x470.1.2.1.length c485, .slice A489 x470.1.2.2.1.length c490, .int .i64 x470.1.2.2.2.1, .int .i64 x470.1.2.2.2.2.1, .int .i64 x470.1.2.2.2.2.2.1, .int .i64 x470.1.2.2.2.2.2.2])) (show (k478 ++ ([.slice A484 x470.1.2.1.length c485, .slice A489 x470.1.2.2.1.length c490, .int .i64 x470.1.2.2.2.1, .int .i64 x470.1.2.2.2.2.1, .int .i64 x470.1.2.2.2.2.2.1, .int .i64 x470.1.2.2.2.2.2.2]) : List Value).length = 38 from by simp only [List.length_append, List.length_cons, List.length_nil, (show (k478 : List Value).length = 32 from ((hs480).len.trans (by rw [hl481]; rfl)))]) (h.m.range0 (i := 2) rfl)) (fun a h => ?_)
                refine g_yes h rfl rfl rfl rfl hB15 ?_
                refine s_x h rfl rfl (by decide) (x_ldR h.k rfl ag_A32_uint8 rfl k507 ((hq511).len.trans (by rw [hl510]; rfl)) (h.m.range0 (i := 1) rfl)) (fun a h => ?_)
                refine g_yes h rfl rfl rfl rfl hB15 ?_
                obtain ⟨m549, h550, hz546⟩ := bsome hz546
                obtain ⟨hi551, hm552⟩ := ix_some h550
                refine s_x h rfl rfl (by decide) (x_iaddrA h.k rfl Try.underlying51 sz_int rfl rfl hi551 hm552 rfl) (fun a h => ?_)
                refine g_yes h rfl rfl rfl rfl hB15 ?_
                obtain ⟨x553, h554, hz546⟩ := bsome hz546
                obtain ⟨u555, hv556, hu557⟩ := ((hs1.mono ((le438.trans le467).trans le475))).cell rfl h554
                obtain ⟨e559, hr558⟩ := hu557
                cases e559
                refine s_x h rfl rfl (by decide) (x_ld h.k rfl Try.underlying3 rfl rfl ((h.m.cell (i := 4) rfl _).trans (by rw [Nat.zero_add, Nat.mul_one]; exact hv556))) (fun a h => ?_)
                refine g_yes h rfl rfl rfl rfl hB15 ?_
                refine s_move h rfl _ rfl rfl (by decide) rfl (fun a h => ?_)
                refine g_yes h rfl rfl rfl rfl hB15 ?_
                obtain ⟨x560, h561, hz546⟩ := bsome hz546
                have hX := forest_Holds_ok Fu (S0 := snapAll _) (k478 ++ ([.slice A484 x470.1.2.1.length c485, .slice A489 x470.1.2.2.1.length c490, .int .i64 x470.1.2.2.2.1, .int .i64 x470.1.2.2.2.2.1, .int .i64 x470.1.2.2.2.2.2.1, .int .i64 x470.1.2.2.2.2.2.2])) x470.1 ((tyP (tyA 32 ty8) (tyP (tyL (tyA 32 ty8)) (tyP (tyL (tyA 32 ty8)) (tyP tyI (tyP tyI (tyP tyI tyI)))))).mono (h.m.leAll (i := 3) rfl) (show (tyP (tyA 32 ty8) (tyP (tyL (tyA 32 ty8)) (tyP (tyL (tyA 32 ty8)) (tyP tyI (tyP tyI (tyP tyI tyI)))))).rep S473 (k478 ++ ([.slice A484 x470.1.2.1.length c485, .slice A489 x470.1.2.2.1.length c490, .int .i64 x470.1.2.2.2.1, .int .i64 x470.1.2.2.2.2.1, .int .i64 x470.1.2.2.2.2.2.1, .int .i64 x470.1.2.2.2.2.2.2])) x470.1 from ⟨k478, [.slice A484 x470.1.2.1.length c485, .slice A489 x470.1.2.2.1.length c490, .int .i64 x470.1.2.2.2.1, .int .i64 x470.1.2.2.2.2.1, .int .i64 x470.1.2.2.2.2.2.1, .int .i64 x470.1.2.2.2.2.2.2], rfl, ⟨hs480, hl481⟩, ⟨[.slice A484 x470.1.2.1.length c485], [.slice A489 x470.1.2.2.1.length c490, .int .i64 x470.1.2.2.2.1, .int .i64 x470.1.2.2.2.2.1, .int .i64 x470.1.2.2.2.2.2.1, .int .i64 x470.1.2.2.2.2.2.2], rfl, ⟨_, _, rfl, hs486⟩, ⟨[.slice A489 x470.1.2.2.1.length c490], [.int .i64 x470.1.2.2.2.1, .int .i64 x470.1.2.2.2.2.1, .int .i64 x470.1.2.2.2.2.2.1, .int .i64 x470.1.2.2.2.2.2.2], rfl, ⟨_, _, rfl, hs491⟩, ⟨[.int .i64 x470.1.2.2.2.1], [.int .i64 x470.1.2.2.2.2.1, .int .i64 x470.1.2.2.2.2.2.1, .int .i64 x470.1.2.2.2.2.2.2], rfl, ⟨rfl, hr494⟩, ⟨[.int .i64 x470.1.2.2.2.2.1], [.int .i64 x470.1.2.2.2.2.2.1, .int .i64 x470.1.2.2.2.2.2.2], rfl, ⟨rfl, hr497⟩, ⟨[.int .i64 x470.1.2.2.2.2.2.1], [.int .i64 x470.1.2.2.2.2.2.2], rfl, ⟨rfl, hr500⟩, ⟨rfl, hr501⟩⟩⟩⟩⟩⟩⟩)) k507 x504 ((tyA 32 ty8).mono (h.m.leAll (i := 3) rfl) (show (tyA 32 ty8).rep S473 k507 x504 from ⟨hq511, hl510⟩)) x553 hr558 Aa2 ca2 a2 ((hsa2.mono ((le438.trans le467).trans le475)).mono (h.m.leAll (i := 3) rfl)) _ h561 _ h.startAll
                refine q_callX hX h rfl rfl rfl (by decide) Try.func46 rfl rfl rfl (fun a w v L1 S1 hR hb1 h => ?_)
                obtain ⟨rfl, rfl, _⟩ := hR
                refine g_yes h rfl rfl rfl rfl hB15 ?_
                refine s_x h rfl rfl (by decide) (x_not h.k rfl rfl) (fun a h => ?_)
                refine s_x h rfl rfl (by decide) (x_pick (u' := undef) h.k rfl rfl (fun hh => absurd (hB15.symm.trans hh) (by decide)) (fun _ => rfl)) (fun a h => ?_)
                exact (h.mid 7 rfl).val (by rw [Option.some.inj hz546])
              refine s_move h rfl _ rfl rfl (by decide) rfl (fun a h => ?_)
              obtain ⟨z564, hz563, hf⟩ := bsome hf
              refine q_grp h 7 (t := 160) 167 z564 rfl (fun hB24 => ?_) (fun hB24 => ?_) (fun a w h => ?_)
              · refine g_no h rfl rfl rfl rfl hB24 rfl (by decide) (fun a h => ?_)
                refine g_no h rfl rfl rfl rfl hB24 rfl (by decide) (fun a h => ?_)
                refine g_no h rfl rfl rfl rfl hB24 rfl (by decide) (fun a h => ?_)
                refine g_no h rfl rfl rfl rfl hB24 rfl (by decide) (fun a h => ?_)
                refine g_no h rfl rfl rfl rfl hB24 rfl (by decide) (fun a h => ?_)
                refine g_no h rfl rfl rfl rfl hB24 rfl (by decide) (fun a h => ?_)
                rw [if_pos hB24] at hz563
                refine s_x h rfl rfl (by decide) (x_pick (u' := undef) h.k rfl rfl (fun _ => rfl) (fun hh => absurd (hB24.symm.trans hh) (by decide))) (fun a h => ?_)
                exact (h.mid 6 rfl).val (by rw [Option.some.inj hz563])
              · rw [if_neg (by rw [hB24]; decide)] at hz563
                refine g_yes h rfl rfl rfl rfl hB24 ?_
                refine s_x h rfl rfl (by decide) (x_ldR h.k rfl ag_api_Proof rfl (k478 ++ ([.slice A484 x470.1.2.1.length c485, .slice A489 x470.1.2.2.1.length c490, .int .i64 x470.1.2.2.2.1, .int .i64 x470.1.2.2.2.2.1, .int .i64 x470.1.2.2.2.2.2.1, .int .i64 x470.1.2.2.2.2.2.2])) (show (k478 ++ ([.slice A484 x470.1.2.1.length c485, .slice A489 x470.1.2.2.1.length c490, .int .i64 x470.1.2.2.2.1, .int .i64 x470.1.2.2.2.2.1, .int .i64 x470.1.2.2.2.2.2.1, .int .i64 x470.1.2.2.2.2.2.2]) : List Value).length = 38 from by simp only [List.length_append, List.length_cons, List.length_nil, (show (k478 : List Value).length = 32 from ((hs480).len.trans (by rw [hl481]; rfl)))]) (h.m.range0 (i := 2) rfl)) (fun a h => ?_)
                refine g_yes h rfl rfl rfl rfl hB24 ?_
                refine s_x h rfl rfl (by decide) (x_ldR h.k rfl ag_A32_uint8 rfl cs527 ((hq528).len.trans (by rw [hl529]; rfl)) (h.m.range0 (i := 0) rfl)) (fun a h => ?_)
                refine g_yes h rfl rfl rfl rfl hB24 ?_
                obtain ⟨m566, h567, hz563⟩ := bsome hz563
                obtain ⟨hi568, hm569⟩ := ix_some h567
                refine s_x h rfl rfl (by decide) (x_iaddrA h.k rfl Try.underlying51 sz_int rfl rfl hi568 hm569 rfl) (fun a h => ?_)
                refine g_yes h rfl rfl rfl rfl hB24 ?_
                obtain ⟨x570, h571, hz563⟩ := bsome hz563
                obtain ⟨u572, hv573, hu574⟩ := ((hs1.mono ((le438.trans le467).trans le475))).cell rfl h571
                obtain ⟨e576, hr575⟩ := hu574
                cases e576
                refine s_x h rfl rfl (by decide) (x_ld h.k rfl Try.underlying3 rfl rfl ((h.m.cell (i := 4) rfl _).trans (by rw [Nat.zero_add, Nat.mul_one]; exact hv573))) (fun a h => ?_)
                refine g_yes h rfl rfl rfl rfl hB24 ?_
                refine s_move h rfl _ rfl rfl (by decide) rfl (fun a h => ?_)
                refine g_yes h rfl rfl rfl rfl hB24 ?_
                obtain ⟨x577, h578, hz563⟩ := bsome hz563
                have hX := forest_Holds_ok Fu (S0 := snapAll _) (k478 ++ ([.slice A484 x470.1.2.1.length c485, .slice A489 x470.1.2.2.1.length c490, .int .i64 x470.1.2.2.2.1, .int .i64 x470.1.2.2.2.2.1, .int .i64 x470.1.2.2.2.2.2.1, .int .i64 x470.1.2.2.2.2.2.2])) x470.1 ((tyP (tyA 32 ty8) (tyP (tyL (tyA 32 ty8)) (tyP (tyL (tyA 32 ty8)) (tyP tyI (tyP tyI (tyP tyI tyI)))))).mono (h.m.leAll (i := 3) rfl) (show (tyP (tyA 32 ty8) (tyP (tyL (tyA 32 ty8)) (tyP (tyL (tyA 32 ty8)) (tyP tyI (tyP tyI (tyP tyI tyI)))))).rep S473 (k478 ++ ([.slice A484 x470.1.2.1.length c485, .slice A489 x470.1.2.2.1.length c490, .int .i64 x470.1.2.2.2.1, .int .i64 x470.1.2.2.2.2.1, .int .i64 x470.1.2.2.2.2.2.1, .int .i64 x470.1.2.2.2.2.2.2])) x470.1 from ⟨k478, [.slice A484 x470.1.2.1.length c485, .slice A489 x470.1.2.2.1.length c490, .int .i64 x470.1.2.2.2.1, .int .i64 x470.1.2.2.2.2.1, .int .i64 x470.1.2.2.2.2.2.1, .int .i64 x470.1.2.2.2.2.2.2], rfl, ⟨hs480, hl481⟩, ⟨[.slice A484 x470.1.2.1.length c485], [.slice A489 x470.1.2.2.1.length c490, .int .i64 x470.1.2.2.2.1, .int .i64 x470.1.2.2.2.2.1, .int .i64 x470.1.2.2.2.2.2.1, .int .i64 x470.1.2.2.2.2.2.2], rfl, ⟨_, _, rfl, hs486⟩, ⟨[.slice A489 x470.1.2.2.1.length c490], [.int .i64 x470.1.2.2.2.1, .int .i64 x470.1.2.2.2.2.1, .int .i64 x470.1.2.2.2.2.2.1, .int .i64 x470.1.2.2.2.2.2.2], rfl, ⟨_, _, rfl, hs491⟩, ⟨[.int .i64 x470.1.2.2.2.1], [.int .i64 x470.1.2.2.2.2.1, .int .i64 x470.1.2.2.2.2.2.1, .int .i64 x470.1.2.2.2.2.2.2], rfl, ⟨rfl, hr494⟩, ⟨[.int .i64 x470.1.2.2.2.2.1], [.int .i64 x470.1.2.2.2.2.2.1, .int .i64 x470.1.2.2.2.2.2.2], rfl, ⟨rfl, hr497⟩, ⟨[.int .i64 x470.1.2.2.2.2.2.1], [.int .i64 x470.1.2.2.2.2.2.2], rfl, ⟨rfl, hr500⟩, ⟨rfl, hr501⟩⟩⟩⟩⟩⟩⟩)) cs527 (x504.set m523 (x518 ^^^ (1 : UInt8))) ((tyA 32 ty8).mono (h.m.leAll (i := 3) rfl) (show (tyA 32 ty8).rep S473 cs527 (x504.set m523 (x518 ^^^ (1 : UInt8))) from ⟨hq528, hl529⟩)) x570 hr575 Aa2 ca2 a2 ((hsa2.mono ((le438.trans le467).trans le475)).mono (h.m.leAll (i := 3) rfl)) _ h578 _ h.startAll
                refine q_callX hX h rfl rfl rfl (by decide) Try.func46 rfl rfl rfl (fun a w v L1 S1 hR hb1 h => ?_)
                obtain ⟨rfl, rfl, _⟩ := hR
                refine s_x h rfl rfl (by decide) (x_pick (u' := undef) h.k rfl rfl (fun hh => absurd (hB24.symm.trans hh) (by decide)) (fun _ => rfl)) (fun a h => ?_)
                exact (h.mid 6 rfl).val (by rw [Option.some.inj hz563])
              refine l_end ?_
              refine c_cond h rfl (fun hb => ?_) (fun hb => ?_)
              · rw [if_pos hb] at hf
                refine c_rs ?_ -- region 30
                refine s_assign h rfl _ rfl rfl (by decide) rfl (fun a h => ?_)
                refine l_end ?_
                refine wp_ret ?_
                refine e_thenR ?_
                rw [← Option.some.inj hf]
                exact r_ret1 h rfl (rv_tmp h rfl) ⟨_, [], _, rfl, ⟨rfl, rfl, trivial⟩, rfl, up474, (h.m.pick [3] _ (by decide) rfl)⟩
              · rw [if_neg (by rw [hb]; decide)] at hf
                refine wp_skip ?_
                refine e_thenN ?_
                refine c_rs ?_ -- region 31
                refine q_bslice0 h rfl rfl rfl (by decide) Try.underlying52 sz_uint8 (fun a w A580 h => ?_)
                refine s_move h rfl _ rfl rfl (by decide) rfl (fun a h => ?_)
                obtain ⟨x581, h582, hf⟩ := bsome hf
                obtain ⟨_, _, vs583, hrd584, hrp585⟩ := id (hsa2.mono ((le438.trans le467).trans le475))
                refine q_append (T := ty8) (S := S473) h rfl rfl rfl (by decide) Try.underlying52 zb_uint8 rfl (by decide) rfl 0 rfl (show reps ty8 S473 [] [] from rfl) rfl hrp585 (hrd584 _ (h.m.snOK (i := 4) rfl)) h582 (fun a w A586 c587 cs588 hq589 h => ?_)
                refine q_bslice (T := ty8) (S := S473) h rfl rfl rfl (by decide) Try.underlying52 zi_uint8 (by decide) (by decide) (by decide) (by decide) [.int .u8 1] rfl rfl (C := [[.int .u8 1]]) rfl (xs := [(1 : UInt8)]) ⟨[.int .u8 1], _, rfl, rfl, rfl⟩ (by intro c hc; simp only [List.mem_cons, List.not_mem_nil, or_false] at hc; subst hc; rfl) (fun a w A590 h => ?_)
                have hb591 : reps ty8 S473 ([[.int .u8 1]] : List (List Value)).flatten [(1 : UInt8)] := ⟨[.int .u8 1], _, rfl, rfl, rfl⟩
                obtain ⟨x592, h593, hf⟩ := bsome hf
                refine q_append (T := ty8) (S := S473) h rfl rfl rfl (by decide) Try.underlying52 zb_uint8 rfl (by decide) rfl 1 rfl hq589 rfl hb591 (h.m.rdRowA (i := 0) rfl) h593 (fun a w A594 c595 cs596 hq597 h => ?_)
                refine s_assign h rfl _ rfl rfl (by decide) rfl (fun a h => ?_)
                refine l_end ?_
                refine wp_seq ?_
                -- region 32 draws
                obtain ⟨m598, h599, hf⟩ := bsome hf
                obtain ⟨x602, h603, hf⟩ := bsome hf
                obtain ⟨x609, h610, hf⟩ := bsome hf
                obtain ⟨m612, h613, hf⟩ := bsome hf
                obtain ⟨x616, h617, hf⟩ := bsome hf
                obtain ⟨m623, h624, hf⟩ := bsome hf
                obtain ⟨x627, h628, hf⟩ := bsome hf
                obtain ⟨x634, h635, hf⟩ := bsome hf
                obtain ⟨m642, h643, hf⟩ := bsome hf
                obtain ⟨x646, h647, hf⟩ := bsome hf
                obtain ⟨m653, h654, hf⟩ := bsome hf
                obtain ⟨x657, h658, hf⟩ := bsome hf
                obtain ⟨x664, h665, hf⟩ := bsome hf
                refine d_start h (Mem _ _ _) 21 21 rfl (by kernel_rfl) (fun _ _ _ _ _ h => h) (fun _ h => h) (fun Q a w HE HN h HS => ?_)
                refine d_take h HS HN 0 rfl (by kernel_rfl) (by kernel_rfl) (by kernel_rfl) (by kernel_rfl) (by kernel_rfl) rfl rfl (by decide) (fun w' hw => x_ldR h.k rfl ag_api_Proof rfl (k478 ++ ([.slice A484 x470.1.2.1.length c485, .slice A489 x470.1.2.2.1.length c490, .int .i64 x470.1.2.2.2.1, .int .i64 x470.1.2.2.2.2.1, .int .i64 x470.1.2.2.2.2.2.1, .int .i64 x470.1.2.2.2.2.2.2])) (show (k478 ++ ([.slice A484 x470.1.2.1.length c485, .slice A489 x470.1.2.2.1.length c490, .int .i64 x470.1.2.2.2.1, .int .i64 x470.1.2.2.2.2.1, .int .i64 x470.1.2.2.2.2.2.1, .int .i64 x470.1.2.2.2.2.2.2]) : List Value).length = 38 from by simp only [List.length_append, List.length_cons, List.length_nil, (show (k478 : List Value).length = 32 from ((hs480).len.trans (by rw [hl481]; rfl)))]) (hw.range0 (i := 4) rfl)) (fun a h => ?_)
                refine d_take h HS HN 1 rfl (by kernel_rfl) (by kernel_rfl) (by kernel_rfl) (by kernel_rfl) (by kernel_rfl) rfl rfl (by decide) (fun w' hw => x_ldR h.k rfl ag_A32_uint8 rfl k507 ((hq511).len.trans (by rw [hl510]; rfl)) (hw.range0 (i := 3) rfl)) (fun a h => ?_)
                obtain ⟨hi600, hm601⟩ := ix_some h599
                refine d_takeP h (fun _ => HS) HN 2 rfl (by kernel_rfl) (by kernel_rfl) (by kernel_rfl) (by decide) rfl rfl (by decide) (fun w' => x_iaddrA h.k rfl Try.underlying51 sz_int rfl rfl hi600 hm601 rfl) (fun a h => ?_)
                obtain ⟨u604, hv605, hu606⟩ := ((hs1.mono ((le438.trans le467).trans le475))).cell rfl h603
                obtain ⟨e608, hr607⟩ := hu606
                cases e608
                refine d_take h HS HN 3 rfl (by kernel_rfl) (by kernel_rfl) (by kernel_rfl) (by kernel_rfl) (by kernel_rfl) rfl rfl (by decide) (fun w' hw => x_ld h.k rfl Try.underlying3 rfl rfl ((hw.cell (i := 6) rfl _).trans (by rw [Nat.zero_add, Nat.mul_one]; exact hv605))) (fun a h => ?_)
                refine d_takeP h (fun _ => HS) HN 4 rfl (by kernel_rfl) (by kernel_rfl) (by kernel_rfl) (by decide) rfl rfl (by decide) (fun w' => x_move h.k _ rfl rfl) (fun a h => ?_)
                obtain ⟨hi614, hm615⟩ := ix_some h613
                refine d_takeP h (fun _ => HS) HN 6 rfl (by kernel_rfl) (by kernel_rfl) (by kernel_rfl) (by decide) rfl rfl (by decide) (fun w' => x_iaddrA h.k rfl Try.underlying51 sz_int rfl rfl hi614 hm615 rfl) (fun a h => ?_)
                obtain ⟨u618, hv619, hu620⟩ := ((hs1.mono ((le438.trans le467).trans le475))).cell rfl h617
                obtain ⟨e622, hr621⟩ := hu620
                cases e622
                refine d_take h HS HN 7 rfl (by kernel_rfl) (by kernel_rfl) (by kernel_rfl) (by kernel_rfl) (by kernel_rfl) rfl rfl (by decide) (fun w' hw => x_ld h.k rfl Try.underlying3 rfl rfl ((hw.cell (i := 6) rfl _).trans (by rw [Nat.zero_add, Nat.mul_one]; exact hv619))) (fun a h => ?_)
                obtain ⟨hi625, hm626⟩ := ix_some h624
                refine d_takeP h (fun _ => HS) HN 8 rfl (by kernel_rfl) (by kernel_rfl) (by kernel_rfl) (by decide) rfl rfl (by decide) (fun w' => x_iaddrA h.k rfl Try.underlying51 sz_int rfl rfl hi625 hm626 rfl) (fun a h => ?_)
                obtain ⟨u629, hv630, hu631⟩ := ((hs1.mono ((le438.trans le467).trans le475))).cell rfl h628
                obtain ⟨e633, hr632⟩ := hu631
                cases e633
                refine d_take h HS HN 9 rfl (by kernel_rfl) (by kernel_rfl) (by kernel_rfl) (by kernel_rfl) (by kernel_rfl) rfl rfl (by decide) (fun w' hw => x_ld h.k rfl Try.underlying3 rfl rfl ((hw.cell (i := 6) rfl _).trans (by rw [Nat.zero_add, Nat.mul_one]; exact hv630))) (fun a h => ?_)
                refine d_takeP h (fun _ => HS) HN 10 rfl (by kernel_rfl) (by kernel_rfl) (by kernel_rfl) (by decide) rfl rfl (by decide) (fun w' => x_move h.k _ rfl rfl) (fun a h => ?_)
                obtain ⟨hi644, hm645⟩ := ix_some h643
                refine d_takeP h (fun _ => HS) HN 12 rfl (by kernel_rfl) (by kernel_rfl) (by kernel_rfl) (by decide) rfl rfl (by decide) (fun w' => x_iaddrA h.k rfl Try.underlying51 sz_int rfl rfl hi644 hm645 rfl) (fun a h => ?_)
                obtain ⟨u648, hv649, hu650⟩ := ((hs1.mono ((le438.trans le467).trans le475))).cell rfl h647
                obtain ⟨e652, hr651⟩ := hu650
                cases e652
                refine d_take h HS HN 13 rfl (by kernel_rfl) (by kernel_rfl) (by kernel_rfl) (by kernel_rfl) (by kernel_rfl) rfl rfl (by decide) (fun w' hw => x_ld h.k rfl Try.underlying3 rfl rfl ((hw.cell (i := 6) rfl _).trans (by rw [Nat.zero_add, Nat.mul_one]; exact hv649))) (fun a h => ?_)
                obtain ⟨hi655, hm656⟩ := ix_some h654
                refine d_takeP h (fun _ => HS) HN 14 rfl (by kernel_rfl) (by kernel_rfl) (by kernel_rfl) (by decide) rfl rfl (by decide) (fun w' => x_iaddrA h.k rfl Try.underlying51 sz_int rfl rfl hi655 hm656 rfl) (fun a h => ?_)
                obtain ⟨u659, hv660, hu661⟩ := ((hs1.mono ((le438.trans le467).trans le475))).cell rfl h658
                obtain ⟨e663, hr662⟩ := hu661
                cases e663
                refine d_take h HS HN 15 rfl (by kernel_rfl) (by kernel_rfl) (by kernel_rfl) (by kernel_rfl) (by kernel_rfl) rfl rfl (by decide) (fun w' hw => x_ld h.k rfl Try.underlying3 rfl rfl ((hw.cell (i := 6) rfl _).trans (by rw [Nat.zero_add, Nat.mul_one]; exact hv660))) (fun a h => ?_)
                refine d_takeP h (fun _ => HS) HN 16 rfl (by kernel_rfl) (by kernel_rfl) (by kernel_rfl) (by decide) rfl rfl (by decide) (fun w' => x_move h.k _ rfl rfl) (fun a h => ?_)
                refine d_alone 5 rfl (by kernel_rfl) (fun K hK => ?_)
                have hX := forest_Holds_ok Fu (S0 := snapAll _) (k478 ++ ([.slice A484 x470.1.2.1.length c485, .slice A489 x470.1.2.2.1.length c490, .int .i64 x470.1.2.2.2.1, .int .i64 x470.1.2.2.2.2.1, .int .i64 x470.1.2.2.2.2.2.1, .int .i64 x470.1.2.2.2.2.2.2])) x470.1 ((tyP (tyA 32 ty8) (tyP (tyL (tyA 32 ty8)) (tyP (tyL (tyA 32 ty8)) (tyP tyI (tyP tyI (tyP tyI tyI)))))).mono (h.m.leAll (i := 5) rfl) (show (tyP (tyA 32 ty8) (tyP (tyL (tyA 32 ty8)) (tyP (tyL (tyA 32 ty8)) (tyP tyI (tyP tyI (tyP tyI tyI)))))).rep S473 (k478 ++ ([.slice A484 x470.1.2.1.length c485, .slice A489 x470.1.2.2.1.length c490, .int .i64 x470.1.2.2.2.1, .int .i64 x470.1.2.2.2.2.1, .int .i64 x470.1.2.2.2.2.2.1, .int .i64 x470.1.2.2.2.2.2.2])) x470.1 from ⟨k478, [.slice A484 x470.1.2.1.length c485, .slice A489 x470.1.2.2.1.length c490, .int .i64 x470.1.2.2.2.1, .int .i64 x470.1.2.2.2.2.1, .int .i64 x470.1.2.2.2.2.2.1, .int .i64 x470.1.2.2.2.2.2.2], rfl, ⟨hs480, hl481⟩, ⟨[.slice A484 x470.1.2.1.length c485], [.slice A489 x470.1.2.2.1.length c490, .int .i64 x470.1.2.2.2.1, .int .i64 x470.1.2.2.2.2.1, .int .i64 x470.1.2.2.2.2.2.1, .int .i64 x470.1.2.2.2.2.2.2], rfl, ⟨_, _, rfl, hs486⟩, ⟨[.slice A489 x470.1.2.2.1.length c490], [.int .i64 x470.1.2.2.2.1, .int .i64 x470.1.2.2.2.2.1, .int .i64 x470.1.2.2.2.2.2.1, .int .i64 x470.1.2.2.2.2.2.2], rfl, ⟨_, _, rfl, hs491⟩, ⟨[.int .i64 x470.1.2.2.2.1], [.int .i64 x470.1.2.2.2.2.1, .int .i64 x470.1.2.2.2.2.2.1, .int .i64 x470.1.2.2.2.2.2.2], rfl, ⟨rfl, hr494⟩, ⟨[.int .i64 x470.1.2.2.2.2.1], [.int .i64 x470.1.2.2.2.2.2.1, .int .i64 x470.1.2.2.2.2.2.2], rfl, ⟨rfl, hr497⟩, ⟨[.int .i64 x470.1.2.2.2.2.2.1], [.int .i64 x470.1.2.2.2.2.2.2], rfl, ⟨rfl, hr500⟩, ⟨rfl, hr501⟩⟩⟩⟩⟩⟩⟩)) k507 x504 ((tyA 32 ty8).mono (h.m.leAll (i := 5) rfl) (show (tyA 32 ty8).rep S473 k507 x504 from ⟨hq511, hl510⟩)) x602 hr607 A594 c595 x592 (h.m.rowAll (i := 1) rfl (j := 5) rfl hq597) _ h610 _ h.startAll
                refine q_callX hX h rfl rfl rfl (by decide) Try.func46 rfl rfl rfl (fun a w v L1 S1 hR hb1 h => ?_)
                obtain ⟨rfl, rfl, _⟩ := hR
                refine hK _ _ (fun _ _ => HS.ext hb1) ?_
                replace HS := HS.ext hb1
                clear hK
                refine d_alone 11 rfl (by kernel_rfl) (fun K hK => ?_)
                have hX := chatelaineref23_Leaf_ok Fu (S0 := snapAll _) x616 hr621 x627 hr632 A594 c595 x592 (h.m.rowAll (i := 1) rfl (j := 5) rfl hq597) _ h635 _ h.startAll
                refine q_callX hX h rfl rfl rfl (by decide) Try.func45 rfl rfl rfl (fun a w v L1 S1 hR hb1 h => ?_)
                obtain ⟨k637, rfl, rfl, hv638, _⟩ := hR
                obtain ⟨hs639, hl640⟩ := hv638
                have hq641 := hs639.fl (S' := S473) fl_8
                refine hK _ _ (fun _ _ => HS.ext hb1) ?_
                replace HS := HS.ext hb1
                clear hK
                refine d_alone 17 rfl (by kernel_rfl) (fun K hK => ?_)
                have hX := chatelaineref23_Leaf_ok Fu (S0 := snapAll _) x646 hr651 x657 hr662 Aa2 ca2 a2 ((hsa2.mono ((le438.trans le467).trans le475)).mono (h.m.leAll (i := 5) rfl)) _ h665 _ h.startAll
                refine q_callX hX h rfl rfl rfl (by decide) Try.func45 rfl rfl rfl (fun a w v L1 S1 hR hb1 h => ?_)
                obtain ⟨k667, rfl, rfl, hv668, _⟩ := hR
                obtain ⟨hs669, hl670⟩ := hv668
                have hq671 := hs669.fl (S' := S473) fl_8
                refine hK _ _ (fun _ _ => HS.ext hb1) ?_
                replace HS := HS.ext hb1
                clear hK
                refine d_takeP h (fun _ => HS) HN 18 rfl (by kernel_rfl) (by kernel_rfl) (by kernel_rfl) (by decide) rfl rfl (by decide) (fun w' => x_eqlA8 (X := k637) (Y := k667) h.k rfl Try.underlying40 Try.underlying5 sz_uint8 gda_A32_uint8 rfl rfl hq641 hq671 hl640 hl670) (fun a h => ?_)
                refine d_takeP h (fun _ => HS) HN 19 rfl (by kernel_rfl) (by kernel_rfl) (by kernel_rfl) (by decide) rfl rfl (by decide) (fun w' => x_eqlB h.k rfl Try.underlying4 rfl rfl) (fun a h => ?_)
                refine d_takeP h (fun _ => HS) HN 20 rfl (by kernel_rfl) (by kernel_rfl) (by kernel_rfl) (by decide) rfl rfl (by decide) (fun w' => x_assign h.k _ rfl rfl) (fun a h => ?_)
                refine d_done (by kernel_rfl) (HE _ _ ?_) _
                refine e_thenN ?_
                refine wp_ret ?_
                obtain rfl := Option.some.inj hf
                exact r_ret1 h rfl (rv_tmp h rfl) ⟨_, [], _, rfl, ⟨rfl, rfl, trivial⟩, rfl, up474, (h.m.pick [5] _ (by decide) rfl)⟩
end
section
theorem idx_sim {a b : List Sp} (hl : a.length = b.length) (h : ∀ (n : Nat) (s t : Sp), a[n]? = some s → b[n]? = some t → s.1 = t.1 ∧ oneB s = oneB t) (v : Int) : (idx a v = none ∧ idx b v = none) ∨ ∃ s t, idx a v = some s ∧ idx b v = some t ∧ s.1 = t.1 ∧ oneB s = oneB t := by
  unfold idx
  by_cases hv : 0 ≤ v
  · rw [if_pos hv, if_pos hv]
    by_cases hn : v.toNat < a.length
    · exact .inr ⟨_, _, List.getElem?_eq_getElem hn, List.getElem?_eq_getElem (by omega), h _ _ _ (List.getElem?_eq_getElem hn) (List.getElem?_eq_getElem (by omega))⟩
    · exact .inl ⟨List.getElem?_eq_none (by omega), List.getElem?_eq_none (by omega)⟩
  · rw [if_neg hv, if_neg hv]; exact .inl ⟨rfl, rfl⟩
theorem right_sim {Fu : Nat} {a b : List Sp} (hl : a.length = b.length) (h : ∀ (n : Nat) (s t : Sp), a[n]? = some s → b[n]? = some t → s.1 = t.1 ∧ oneB s = oneB t) : ∀ (k : Nat) (x : Int), forest_Right_l0 Fu a k x = forest_Right_l0 Fu b k x := by
  intro k
  induction k with
  | zero => intro x; rw [forest_Right_l0, forest_Right_l0]
  | succ k ih =>
    intro x
    rw [forest_Right_l0, forest_Right_l0, hl]
    by_cases hx : x < (b.length : Int)
    · rw [if_pos hx, if_pos hx]
      rcases idx_sim hl h x with ⟨e1, e2⟩ | ⟨s, t, e1, e2, e3, e4⟩
      · rw [e1, e2]; rfl
      · rw [e1, e2]
        simp only [Option.bind_some, pOne]
        rw [e3, e4, ih]
        rcases idx_sim hl h (w64 (x - 1)) with ⟨f1, f2⟩ | ⟨s', t', f1, f2, f3, f4⟩
        · rw [f1, f2]
        · rw [f1, f2]
          simp only [Option.bind_some]
          rw [f3]
    · rw [if_neg hx, if_neg hx]
theorem right_simT {Fu : Nat} {a b : List Sp} (hl : a.length = b.length) (h : ∀ (n : Nat) (s t : Sp), a[n]? = some s → b[n]? = some t → s.1 = t.1 ∧ oneB s = oneB t) : forest_Right Fu a = forest_Right Fu b := by
  unfold forest_Right
  rw [right_sim hl h, hl]
/-- the law's loop: where the name stands; each space as it was -/
theorem proves_l0 {Fu : Nat} (a : List Sp) (ha : a.length ≤ 6) (id y : Int) (hne : ∀ s ∈ a, 0 < (sumsOf s).length ∧ (sumsOf s).length ≤ 12) : ∀ (d k i : Nat) (pl : Int) (acc : List Sp), i + d = a.length → d < k → acc.length + d ≤ 1000 →
    ∃ pl', chatelainelaw24_ForestProves_l0 Fu a [id, y] k pl acc (i : Int) = some (pl', acc ++ a.drop i) ∧ ((pl' = pl ∧ ∀ (j : Nat) (s : Sp), i ≤ j → a[j]? = some s → s.1 ≠ id) ∨ ∃ (j : Nat) (s : Sp), a[j]? = some s ∧ s.1 = id ∧ pl' = (j : Int)) := by
  intro d
  induction d with
  | zero =>
    intro k i pl acc hi hk hacc
    obtain ⟨k, rfl⟩ : ∃ m, k = m + 1 := ⟨k - 1, by omega⟩
    refine ⟨pl, by rw [chatelainelaw24_ForestProves_l0, if_neg (by omega), List.drop_of_length_le (by omega), List.append_nil], .inl ⟨rfl, fun j s hj hs => ?_⟩⟩
    have := (List.getElem?_eq_some_iff.1 hs).1
    omega
  | succ d ih =>
    intro k i pl acc hi hk hacc
    obtain ⟨k, rfl⟩ : ∃ m, k = m + 1 := ⟨k - 1, by omega⟩
    have hlt : i < a.length := by omega
    have hs : a[i]? = some a[i] := List.getElem?_eq_getElem hlt
    have hn := hne _ (List.getElem_mem hlt)
    obtain ⟨pl', h1, h2⟩ := ih k (i + 1) (if a[i].1 = id then (i : Int) else pl) (acc ++ [a[i]]) (by omega) (by omega) (by simp; omega)
    refine ⟨pl', ?_, ?_⟩
    · rw [chatelainelaw24_ForestProves_l0, if_pos (by omega), idx_nat, hs]
      refine (bnd_eqF rfl _).trans ?_
      refine (bnd_eqF (x := if a[i].1 = id then (i : Int) else pl) ?_ _).trans ?_
      · refine (bnd_eqF (show ix 2 0 = some 0 from rfl) _).trans ?_
        refine (bnd_eqF (show ([id, y] : List Int)[0]? = some id from rfl) _).trans ?_
        by_cases e : a[i].1 = id
        · rw [if_pos e, if_pos e]
        · rw [if_neg e, if_neg e]
      · refine (bnd_eqF (app_s (by omega) [] _ (by have := hn.2; unfold sumsOf at this; simp; omega)) _).trans ?_
        rw [List.nil_append]
        refine (bnd_eqF (show ne0 a[i].2.2.2.2.2.2 = some () from ?_) _).trans ?_
        · unfold ne0; rw [if_neg (by have := hn.1; unfold sumsOf at this; omega)]
        · refine (bnd_eqF (show app 120 acc [(a[i].1, a[i].2.1, a[i].2.2.1, a[i].2.2.2.1, a[i].2.2.2.2.1, a[i].2.2.2.2.2.1, a[i].2.2.2.2.2.2)] = some (acc ++ [a[i]]) from ?_) _).trans ?_
          · unfold app
            rw [if_pos ⟨by simp; omega, by unfold maxLen; simp; omega⟩]
          · rw [w_up i (by omega), h1, List.append_assoc]
            rw [List.drop_eq_getElem_cons hlt]; rfl
    · rcases h2 with ⟨h3, h4⟩ | h3
      · by_cases e : a[i].1 = id
        · rw [if_pos e] at h3
          exact .inr ⟨i, _, hs, e, h3⟩
        · rw [if_neg e] at h3
          refine .inl ⟨h3, fun j s hj hjs => ?_⟩
          by_cases e2 : j = i
          · subst e2; cases hs.symm.trans hjs; exact e
          · exact h4 j s (by omega) hjs
      · exact .inr h3
theorem few_set {s : Sp} (h : few s) (ho : oneB s = true) (i : Nat) (x : List UInt8) (hx : x.length = 32) : few (setSums s ((sumsOf s).set i x)) ∧ oneB (setSums s ((sumsOf s).set i x)) = true := by
  obtain ⟨h1, h2⟩ := h
  refine ⟨⟨?_, ?_⟩, ?_⟩
  · show ((sumsOf s).set i x).length ≤ 12
    rw [List.length_set]; exact h1
  · intro y hy
    have hy' : y ∈ (sumsOf s).set i x := hy
    rcases List.mem_or_eq_of_mem_set hy' with h3 | h3
    · exact h2 y h3
    · rw [h3]; exact hx
  · rw [oneB_iff] at ho ⊢
    refine ⟨ho.1, ho.2.1, ho.2.2.1, ho.2.2.2.1, ho.2.2.2.2.1, ho.2.2.2.2.2.1, ?_⟩
    show (((sumsOf s).set i x).length : Int) = s.2.2.1
    rw [List.length_set]; exact ho.2.2.2.2.2.2
abbrev tSpD : Ty Sp := (tyP tyI (tyP tyI (tyP tyI (tyP (tyL ty8) (tyP (tyL (tyP tyI tyI)) (tyP (tyL (tyL ty8)) (tyL (tyA 32 ty8))))))))
theorem has_s32D {s : Sp} (h : tSpD.has s) : S32 (sumsOf s) := fun x hx =>
  (has_A ((has_L (has_P (has_P (has_P (has_P (has_P (has_P h).2).2).2).2).2).2).2 x hx)).1
theorem rootF_length {a : List Sp} (h : a ≠ []) (hf : ∀ s ∈ a, few s) : (rootF a).length = 32 := by
  unfold rootF
  rw [if_neg h]
  refine rootS_length ?_
  intro x hx
  obtain ⟨s, _, rfl⟩ := List.mem_map.1 hx
  exact headS_length s
theorem xor_ne (x : UInt8) : x ^^^ 1 ≠ x := by
  have : ∀ y : Fin 256, UInt8.ofNat y.val ^^^ 1 ≠ UInt8.ofNat y.val := by decide +kernel
  have h := this ⟨x.toNat, x.toNat_lt⟩
  simpa using h
theorem leafS_len (a b : Int) (c : List UInt8) : (leafS a b c).length = 32 := leafS_length a b c
theorem chatelainelaw24_ForestProves_true (a : List Sp) (h : ∀ x ∈ a, tSpD.has x) (hl : a.length ≤ maxLen) (at_ : List Int) (hat : (tyA 2 tyI).has at_) (b : List UInt8) (_ : ∀ x ∈ b, ty8.has x) (_ : b.length ≤ maxLen) : ∃ Fu, chatelainelaw24_ForestProves Fu a at_ b = some true := by
  refine ⟨a.length + 300, ?_⟩
  have hF : 300 ≤ a.length + 300 := by omega
  generalize hFu : a.length + 300 = Fu at hF
  obtain ⟨id, y, rfl⟩ : ∃ x y, at_ = [x, y] := by
    have := (has_A hat).1
    rcases at_ with _ | ⟨x, _ | ⟨y, _ | _⟩⟩ <;> simp at this
    exact ⟨x, y, rfl⟩
  have i0 : ix 2 0 = some 0 := rfl
  have i1 : ix 2 1 = some 1 := rfl
  have g0 : ([id, y] : List Int)[0]? = some id := rfl
  have g1 : ([id, y] : List Int)[1]? = some y := rfl
  unfold chatelainelaw24_ForestProves
  refine (bnd_eqF (forest_awake hF) _).trans ?_
  rw [if_neg (by simp)]
  obtain ⟨bf, hbf, hfew⟩ := pFew (Fu := Fu) a hl (by omega)
  refine (bnd_eqF hbf _).trans ?_
  by_cases hc : (!bf || decide (200 < (b.length : Int))) = true
  · rw [if_pos hc]
  rw [if_neg hc]
  simp only [Bool.or_eq_true, Bool.not_eq_true', decide_eq_true_eq, not_or] at hc
  have hbt : bf = true := by cases bf <;> simp_all
  obtain ⟨ha, hs12⟩ := hfew hbt
  have hb200 : b.length ≤ 200 := by have := hc.2; omega
  have hf : ∀ s ∈ a, few s := fun s hs => ⟨hs12 s hs, has_s32D (h s hs)⟩
  obtain ⟨rb, hr, hr1⟩ := pRight hF a ha
  refine (bnd_eqF ((right_eq Fu a).trans hr) _).trans ?_
  cases rb with
  | false =>
    rw [if_pos (by simp)]
    refine (bnd_eqF i0 _).trans ?_
    refine (bnd_eqF g0 _).trans ?_
    refine (bnd_eqF i1 _).trans ?_
    refine (bnd_eqF g1 _).trans ?_
    refine (bnd_eqF (show forest_Prove Fu a id y = some ((z0, [], [], 0, 0, 0, 0), 2) from ?_) _).trans ?_
    · unfold forest_Prove
      refine (bnd_eqF hr _).trans ?_
      rw [if_pos (by simp)]
    · simp
  | true =>
    rw [if_neg (by simp)]
    have ho := hr1 rfl
    have hfo : ∀ s ∈ a, few s ∧ oneB s = true := fun s hs => ⟨hf s hs, ho s hs⟩
    have hne : ∀ s ∈ a, 0 < (sumsOf s).length ∧ (sumsOf s).length ≤ 12 := fun s hs => by
      have := oneB_iff.1 (ho s hs)
      exact ⟨by unfold sumsOf; omega, hs12 s hs⟩
    obtain ⟨pl, hp1, hp2⟩ := proves_l0 (Fu := Fu) a ha id y hne a.length Fu 0 (-1) [] (by omega) (by omega) (by simp; omega)
    refine (bnd_eqF hp1 _).trans ?_
    rw [List.nil_append, List.drop_zero]
    dsimp only
    rcases hp2 with ⟨rfl, hno⟩ | ⟨j, s, hjs, hid, rfl⟩
    · rw [if_pos (by decide)]
      refine (bnd_eqF i0 _).trans ?_
      refine (bnd_eqF g0 _).trans ?_
      refine (bnd_eqF i1 _).trans ?_
      refine (bnd_eqF g1 _).trans ?_
      refine (bnd_eqF (show forest_Prove Fu a id y = some ((z0, [], [], 0, 0, 0, 0), 31) from ?_) _).trans ?_
      · unfold forest_Prove
        refine (bnd_eqF hr _).trans ?_
        rw [if_neg (by simp)]
        rcases pIndex hF a ha id with ⟨e1, _⟩ | ⟨j', s', e1, e2, e3⟩
        · refine (bnd_eqF e1 _).trans ?_
          rw [if_pos (by decide)]
        · exact absurd e2 (hno j' s' (by omega) e1)
      · simp
    · rw [if_neg (by omega)]
      subst hid
      have hsm : s ∈ a := List.mem_iff_getElem?.2 ⟨j, hjs⟩
      obtain ⟨o1, o2, o3, o4, o5, o6, o7⟩ := oneB_iff.1 (ho s hsm)
      have hjl := (List.getElem?_eq_some_iff.1 hjs).1
      have hidx : slices_IndexFunc___api_Space_api_Space_clo1_82_0_1 Fu a s.1 = some (j : Int) := by
        rcases pIndex hF a ha s.1 with ⟨_, e2⟩ | ⟨j', s', e1, e2, e3⟩
        · exact absurd rfl (e2 s hsm)
        · obtain rfl := rise_inj (right_step a (by omega) hr) e1 hjs e2
          exact e3
      refine (bnd_eqF i1 _).trans ?_
      refine (bnd_eqF g1 _).trans ?_
      by_cases hy : y < 0 ∨ s.2.2.1 ≤ y
      · refine (bnd_eqF (x := true) ?_ _).trans ?_
        · by_cases hy0 : y < 0
          · rw [if_pos hy0]
          · rw [if_neg hy0]
            refine (bnd_eqF i1 _).trans ?_
            refine (bnd_eqF g1 _).trans ?_
            rw [idx_nat]
            refine (bnd_eqF hjs _).trans ?_
            rw [decide_eq_true (by omega : s.2.2.1 ≤ y)]
        · rw [if_pos rfl]
          refine (bnd_eqF i0 _).trans ?_
          refine (bnd_eqF g0 _).trans ?_
          refine (bnd_eqF i1 _).trans ?_
          refine (bnd_eqF g1 _).trans ?_
          refine (bnd_eqF (show forest_Prove Fu a s.1 y = some ((z0, [], [], 0, 0, 0, 0), 32) from ?_) _).trans ?_
          · unfold forest_Prove
            refine (bnd_eqF hr _).trans ?_
            rw [if_neg (by simp)]
            refine (bnd_eqF hidx _).trans ?_
            rw [if_neg (by omega), idx_nat]
            refine (bnd_eqF hjs _).trans ?_
            rw [if_pos (by simp only [Bool.or_eq_true, decide_eq_true_eq]; exact hy)]
          · simp
      · have hy0 : ¬ y < 0 := fun e => hy (.inl e)
        have hy1 : ¬ s.2.2.1 ≤ y := fun e => hy (.inr e)
        refine (bnd_eqF (x := false) ?_ _).trans ?_
        · rw [if_neg hy0]
          refine (bnd_eqF i1 _).trans ?_
          refine (bnd_eqF g1 _).trans ?_
          rw [idx_nat]
          refine (bnd_eqF hjs _).trans ?_
          rw [decide_eq_false hy1]
        · rw [if_neg (by simp)]
          obtain ⟨i, rfl⟩ : ∃ i : Nat, y = (i : Int) := ⟨y.toNat, by omega⟩
          have hil : i < (sumsOf s).length := by unfold sumsOf; omega
          have leaf : ∀ c : List UInt8, c.length ≤ 1000 → chatelaineref23_Leaf Fu s.1 (i : Int) c = some (leafS s.1 (i : Int) c) := fun c hcl => by
            unfold chatelaineref23_Leaf; rw [if_pos (by omega)]
          refine (bnd_eqF (ix_nat hjl) _).trans ?_
          refine (bnd_eqF hjs _).trans ?_
          refine (bnd_eqF i1 _).trans ?_
          refine (bnd_eqF g1 _).trans ?_
          refine (bnd_eqF i0 _).trans ?_
          refine (bnd_eqF g0 _).trans ?_
          refine (bnd_eqF i1 _).trans ?_
          refine (bnd_eqF g1 _).trans ?_
          refine (bnd_eqF (leaf b (by omega)) _).trans ?_
          refine (bnd_eqF (show ix (sumsL s).length (i : Int) = some i from ix_nat hil) _).trans ?_
          refine (bnd_eqF i0 _).trans ?_
          refine (bnd_eqF g0 _).trans ?_
          refine (bnd_eqF i1 _).trans ?_
          refine (bnd_eqF g1 _).trans ?_
          -- the spaces with the new sum
          obtain ⟨t, ht⟩ : ∃ t : Sp, t = setSums s ((sumsL s).set i (leafS s.1 (i : Int) b)) := ⟨_, rfl⟩
          rw [← ht]
          have hts : sumsOf t = (sumsOf s).set i (leafS s.1 (i : Int) b) := by rw [ht]; rfl
          have ht1 : t.1 = s.1 := by rw [ht]; rfl
          have hto : few t ∧ oneB t = true := by
            rw [ht]; exact few_set (hf s hsm) (ho s hsm) i _ (leafS_len _ _ _)
          obtain ⟨A, hA⟩ : ∃ A : List Sp, A = a.set j t := ⟨_, rfl⟩
          rw [← hA]
          have hAl : A.length = a.length := by rw [hA, List.length_set]
          have hAt : A[j]? = some t := by rw [hA, List.getElem?_set_self hjl]
          have hAm : ∀ z ∈ A, few z ∧ oneB z = true := fun z hz => by
            rw [hA] at hz
            rcases List.mem_or_eq_of_mem_set hz with e | e
            · exact hfo z e
            · rw [e]; exact hto
          have hAr : forest_Right Fu A = some true := by
            rw [← hr]
            refine right_simT hAl (fun n p q hp hq => ?_)
            by_cases e : n = j
            · subst e
              cases hAt.symm.trans hp
              cases hjs.symm.trans hq
              exact ⟨ht1, by rw [hto.2, ho s hsm]⟩
            · rw [hA, List.getElem?_set_ne (fun z => e z.symm)] at hp
              cases hp.symm.trans hq
              exact ⟨rfl, rfl⟩
          have hAn : A ≠ [] := fun e => by rw [e] at hAl; simp at hAl; omega
          have hit : i < (sumsOf t).length := by rw [hts, List.length_set]; exact hil
          have hpr := pProve hF A (by omega) hAm hAr hAt hit
          rw [ht1] at hpr
          refine (bnd_eqF hpr _).trans ?_
          refine (bnd_eqF (rRoot hF A (by omega) hAm) _).trans ?_
          have hrl := rootF_length hAn (fun z hz => (hAm z hz).1)
          obtain ⟨u, hu⟩ : ∃ u, (rootF A)[31]? = some u := ⟨_, List.getElem?_eq_getElem (by omega)⟩
          refine (bnd_eqF (show ix 32 31 = some 31 from rfl) _).trans ?_
          refine (bnd_eqF hu _).trans ?_
          refine (bnd_eqF (show ix 32 31 = some 31 from rfl) _).trans ?_
          have hgd : (sumsOf t).getD i z0 = leafS s.1 (i : Int) b := by
            rw [List.getD_eq_getElem?_getD, hts, List.getElem?_set_self hil]; rfl
          have hold : ∀ (r c : List UInt8), c.length ≤ 1000 → forest_Holds Fu (proofS A j i t) r (i : Int) c = some (decide (leafS s.1 (i : Int) b = leafS s.1 (i : Int) c) && decide (rootF A = r)) := fun r c hcl => by
            rw [pHoldsIt hF A (by omega) hAm hAt hit r c hcl, hgd, ht1]
          refine (bnd_eqF (x := false) ?_ _).trans ?_
          · rw [if_neg (by simp [proofS])]
            refine (bnd_eqF i0 _).trans ?_
            refine (bnd_eqF g0 _).trans ?_
            simp [proofS, ht1]
          refine (bnd_eqF (x := false) ?_ _).trans ?_
          · rw [if_neg (by simp)]
            refine (bnd_eqF i1 _).trans ?_
            refine (bnd_eqF g1 _).trans ?_
            refine (bnd_eqF (hold (rootF A) b (by omega)) _).trans ?_
            simp
          refine (bnd_eqF (x := false) ?_ _).trans ?_
          · rw [if_neg (by simp)]
            refine (bnd_eqF i1 _).trans ?_
            refine (bnd_eqF g1 _).trans ?_
            refine (bnd_eqF (hold _ b (by omega)) _).trans ?_
            have hw : rootF A ≠ (rootF A).set 31 (u ^^^ 1) := fun e => by
              have h2 := hu
              rw [e, List.getElem?_set_self (by omega)] at h2
              exact xor_ne u (Option.some.inj h2)
            rw [decide_eq_false hw, Bool.and_false]
          rw [if_neg (by simp)]
          refine (bnd_eqF (app_s (by omega) [] b (by simp; omega)) _).trans ?_
          rw [List.nil_append]
          refine (bnd_eqF (app_s (by omega) b [(1 : UInt8)] (by simp; omega)) _).trans ?_
          refine (bnd_eqF i1 _).trans ?_
          refine (bnd_eqF g1 _).trans ?_
          refine (bnd_eqF (hold (rootF A) (b ++ [1]) (by simp; omega)) _).trans ?_
          refine (bnd_eqF i0 _).trans ?_
          refine (bnd_eqF g0 _).trans ?_
          refine (bnd_eqF i1 _).trans ?_
          refine (bnd_eqF g1 _).trans ?_
          refine (bnd_eqF (leaf (b ++ [1]) (by simp; omega)) _).trans ?_
          refine (bnd_eqF i0 _).trans ?_
          refine (bnd_eqF g0 _).trans ?_
          refine (bnd_eqF i1 _).trans ?_
          refine (bnd_eqF g1 _).trans ?_
          refine (bnd_eqF (leaf b (by omega)) _).trans ?_
          rw [decide_eq_true (rfl : rootF A = rootF A), Bool.and_true]
          by_cases e : leafS s.1 (i : Int) b = leafS s.1 (i : Int) (b ++ [1])
          · rw [decide_eq_true e, decide_eq_true e.symm]; rfl
          · rw [decide_eq_false e, decide_eq_false (fun z => e z.symm)]; rfl
end
end Go.Proofs.Ytlgcfnbhnpnkiaa
