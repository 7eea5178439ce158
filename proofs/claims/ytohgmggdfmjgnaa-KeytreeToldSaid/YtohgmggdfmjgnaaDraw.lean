/- A region that draws its order, walked in the order of its text: what only reads is taken first; a condition on the world has to hold until the first operation that writes ('wr') has come up. -/
import Derived.Test.YtohgmggdfmjgnaaStep
import Derived.Deep.RegionHeld3
set_option linter.unusedVariables false
set_option linter.unusedSimpArgs false
namespace Go.Proofs.Ytohgmggdfmjgnaa
open Go.RowKit
section
variable {P : Program} {ops : Array Oper} {Q : Exit → Act → World → Prop} {S : World → Prop} {wr : Nat} {listed : Array Bool} {fuel : Nat} {N d : Nat} {w0 w w' : World} {B : Nat → Prop} {ρ : Slots} {L L' : List Ch} {a : Act} {v : Value}
/-- whatever order is picked; S holds till wr has come up -/
def AnyW (P : Program) (ops : Array Oper) (Q : Exit → Act → World → Prop) (S : World → Prop) (wr : Nat) : Nat → Array Bool → Act → World → Prop
  | 0, listed, a, w => Region.ready .any ops listed = [] ∧ Q .normal a w
  | fuel + 1, listed, a, w => (Region.ready .any ops listed = [] → Q .normal a w) ∧
    ∀ i ∈ Region.ready .any ops listed, wpOp P ops Q i (fun a' w' => (i ≠ wr → listed.getD wr false = false → S w') ∧ AnyW P ops Q S wr fuel (listed.setIfInBounds i true) a' w') a w
theorem AnyW.any : ∀ (fuel : Nat) (listed : Array Bool) (a : Act) (w : World), AnyW P ops Q S wr fuel listed a w → wpAny P .any ops Q fuel listed a w
  | 0, _, _, _, h => h
  | fuel + 1, _, _, _, h => ⟨h.1, fun i hi => wpOp_mono (fun _ _ h' => AnyW.any fuel _ _ _ h'.2) (h.2 i hi)⟩
/-- is i to come ahead of wr? (or there is no wr) -/
def aheadB (ops : Array Oper) (wr i : Nat) : Bool := wr == ops.size || (match ops[wr]? with | some o => o.after.any (fun e => Region.binds .any e && e.on == i) | none => false)
theorem ahead_not {i : Nat} (h : aheadB ops wr i = true) (hl : listed.getD i true = false) : wr ∉ Region.ready .any ops listed := by
  intro hm
  obtain ⟨_, o, ho, hall⟩ := mem_ready.1 hm
  have hlt := (Array.getElem?_eq_some_iff.1 ho).1
  unfold aheadB at h
  rw [ho] at h
  simp only [Bool.or_eq_true, beq_iff_eq] at h
  rcases h with h | h
  · omega
  · obtain ⟨e, he, hb⟩ := Array.any_eq_true'.1 h
    simp only [Bool.and_eq_true, beq_iff_eq] at hb
    have h1 := hall e he hb.1
    rw [hb.2] at h1
    rcases Nat.lt_or_ge i listed.size with h' | h'
    · simp [h'] at hl h1; rw [hl] at h1; cases h1
    · simp [Array.getElem?_eq_none h'] at h1
theorem AnyW.first {i : Nat} {oi : Oper} (hi : ops[i]? = some oi) (hsel : ∀ (j : Nat) (o : Oper) cs b, ops[j]? = some o → o.op ≠ .select cs b) (hw : aheadB ops wr i = true)
    (hQ : ∀ c a w, Q (.panic c) (a.put oi.dst v) w → Q (.panic c) a w) :
    ∀ (fuel : Nat) (listed : Array Bool) (a : Act) (w : World), (∀ j oj, ops[j]? = some oj → j ≠ i → listed.getD j true = false → (∀ e ∈ oj.after, Region.binds .any e = true → e.on ≠ i) → oi.apart ops oj = true) →
      i ∈ Region.ready .any ops listed → YieldsIf P ops S oi v a → S w → listed.getD wr false = false →
      AnyW P ops Q S wr fuel (listed.setIfInBounds i true) (a.put oi.dst v) w → AnyW P ops Q S wr (fuel + 1) listed a w := by
  intro fuel
  induction fuel with
  | zero =>
    intro listed a w hfree hr hy hS hl H
    refine ⟨fun h => (by rw [h] at hr; cases hr), fun j hj => ?_⟩
    by_cases hji : j = i
    · subst hji; exact hy.wpOp hi hS ⟨fun _ _ => hS, H⟩
    · have := ready_mono hj hji
      rw [H.1] at this
      cases this
  | succ fuel ih =>
    intro listed a w hfree hr hy hS hl H
    refine ⟨fun h => (by rw [h] at hr; cases hr), fun j hj => ?_⟩
    by_cases hji : j = i
    · subst hji; exact hy.wpOp hi hS ⟨fun _ _ => hS, H⟩
    · have hun := (mem_ready.1 hr).1
      have hjw : j ≠ wr := fun e => ahead_not hw hun (e ▸ hj)
      have h1 := H.2 j (ready_mono hj hji)
      obtain ⟨hjun, oj, hoj, hall⟩ := mem_ready.1 hj
      have hnot : ∀ e ∈ oj.after, Region.binds .any e = true → e.on ≠ i := fun e he hb heq => by
        have h1 := hall e he hb
        rw [heq] at h1
        rcases Nat.lt_or_ge i listed.size with h' | h'
        · simp [h'] at hun h1; rw [hun] at h1; cases h1
        · simp [Array.getElem?_eq_none h'] at h1
      have h2 := wpOp_putIf hoj (hfree j oj hoj hji hjun hnot) (fun cs b => hsel i oi cs b hi) (fun cs b => hsel j oj cs b hoj) hQ hy h1
      have hfree' : ∀ k ok, ops[k]? = some ok → k ≠ i → (listed.setIfInBounds j true).getD k true = false → (∀ e ∈ ok.after, Region.binds .any e = true → e.on ≠ i) → oi.apart ops ok = true := fun k ok hk hki hu hno => by
        refine hfree k ok hk hki ?_ hno
        by_cases hjk : j = k
        · subst hjk; exact hjun
        · rw [getD_set_ne true hjk] at hu; exact hu
      have hl1 : (listed.setIfInBounds i true).getD wr false = false := by
        by_cases e : i = wr
        · subst e; exact absurd hr (ahead_not hw hun)
        · rw [getD_set_ne false e]; exact hl
      have hl2 : (listed.setIfInBounds j true).getD wr false = false := by rw [getD_set_ne false hjw]; exact hl
      refine wpOp_mono (fun a' w' h3 => ⟨fun _ _ => h3.2.1 hjw hl1, ih (listed.setIfInBounds j true) a' w' hfree' (ready_mono hr (Ne.symm hji)) h3.1 (h3.2.1 hjw hl1) hl2 ?_⟩) h2
      rw [Array.setIfInBounds_comm _ _ hji]
      exact h3.2.2
/-- wr comes behind i, by those of D -/
def deepB (ops : Array Oper) (wr i : Nat) (D : List Nat) : Bool := D.contains wr && D.all (fun j => match ops[j]? with | some o => o.after.any (fun e => Region.binds .any e && (e.on == i || D.contains e.on)) | none => false)
def freshB (listed : Array Bool) (D : List Nat) : Bool := D.all (fun j => listed.getD j true == false)
theorem deep_not {i : Nat} {D : List Nat} (h : deepB ops wr i D = true) (hl : listed.getD i true = false) (hD : freshB listed D = true) : wr ∈ D ∧ ∀ j ∈ D, j ∉ Region.ready .any ops listed := by
  simp only [deepB, Bool.and_eq_true, List.all_eq_true, List.contains_iff_mem] at h
  simp only [freshB, List.all_eq_true, beq_iff_eq] at hD
  refine ⟨h.1, fun j hj hm => ?_⟩
  obtain ⟨_, o, ho, hall⟩ := mem_ready.1 hm
  have h2 := h.2 j hj
  rw [ho] at h2
  obtain ⟨e, he, hb⟩ := Array.any_eq_true'.1 h2
  simp only [Bool.and_eq_true, Bool.or_eq_true, beq_iff_eq, List.contains_iff_mem] at hb
  have h3 := hall e he hb.1
  have h4 : listed.getD e.on true = false := by
    rcases hb.2 with h5 | h5
    · rw [h5]; exact hl
    · exact hD _ h5
  rcases Nat.lt_or_ge e.on listed.size with h' | h'
  · simp [h'] at h4 h3; rw [h4] at h3; cases h3
  · simp [Array.getElem?_eq_none h'] at h4
theorem fresh_set {D : List Nat} {j : Nat} (hj : j ∉ D) (hD : freshB listed D = true) : freshB (listed.setIfInBounds j true) D = true := by
  simp only [freshB, List.all_eq_true, beq_iff_eq] at hD ⊢
  intro k hk
  rw [getD_set_ne true (by rintro rfl; exact hj hk)]
  exact hD k hk
theorem AnyW.firstD {i : Nat} {D : List Nat} {oi : Oper} (hi : ops[i]? = some oi) (hsel : ∀ (j : Nat) (o : Oper) cs b, ops[j]? = some o → o.op ≠ .select cs b) (hw : deepB ops wr i D = true)
    (hQ : ∀ c a w, Q (.panic c) (a.put oi.dst v) w → Q (.panic c) a w) :
    ∀ (fuel : Nat) (listed : Array Bool) (a : Act) (w : World), (∀ j oj, ops[j]? = some oj → j ≠ i → listed.getD j true = false → (∀ e ∈ oj.after, Region.binds .any e = true → e.on ≠ i) → oi.apart ops oj = true) →
      i ∈ Region.ready .any ops listed → freshB listed D = true → YieldsIf P ops S oi v a → S w → listed.getD wr false = false →
      AnyW P ops Q S wr fuel (listed.setIfInBounds i true) (a.put oi.dst v) w → AnyW P ops Q S wr (fuel + 1) listed a w := by
  intro fuel
  induction fuel with
  | zero =>
    intro listed a w hfree hr hD hy hS hl H
    refine ⟨fun h => (by rw [h] at hr; cases hr), fun j hj => ?_⟩
    by_cases hji : j = i
    · subst hji; exact hy.wpOp hi hS ⟨fun _ _ => hS, H⟩
    · have := ready_mono hj hji
      rw [H.1] at this
      cases this
  | succ fuel ih =>
    intro listed a w hfree hr hD hy hS hl H
    refine ⟨fun h => (by rw [h] at hr; cases hr), fun j hj => ?_⟩
    by_cases hji : j = i
    · subst hji; exact hy.wpOp hi hS ⟨fun _ _ => hS, H⟩
    · have hun := (mem_ready.1 hr).1
      obtain ⟨hwD, hnD⟩ := deep_not hw hun hD
      have hjD : j ∉ D := fun h => hnD j h hj
      have hjw : j ≠ wr := fun e => hjD (e ▸ hwD)
      have h1 := H.2 j (ready_mono hj hji)
      obtain ⟨hjun, oj, hoj, hall⟩ := mem_ready.1 hj
      have hnot : ∀ e ∈ oj.after, Region.binds .any e = true → e.on ≠ i := fun e he hb heq => by
        have h1 := hall e he hb
        rw [heq] at h1
        rcases Nat.lt_or_ge i listed.size with h' | h'
        · simp [h'] at hun h1; rw [hun] at h1; cases h1
        · simp [Array.getElem?_eq_none h'] at h1
      have h2 := wpOp_putIf hoj (hfree j oj hoj hji hjun hnot) (fun cs b => hsel i oi cs b hi) (fun cs b => hsel j oj cs b hoj) hQ hy h1
      have hfree' : ∀ k ok, ops[k]? = some ok → k ≠ i → (listed.setIfInBounds j true).getD k true = false → (∀ e ∈ ok.after, Region.binds .any e = true → e.on ≠ i) → oi.apart ops ok = true := fun k ok hk hki hu hno => by
        refine hfree k ok hk hki ?_ hno
        by_cases hjk : j = k
        · subst hjk; exact hjun
        · rw [getD_set_ne true hjk] at hu; exact hu
      have hl1 : (listed.setIfInBounds i true).getD wr false = false := by
        by_cases e : i = wr
        · subst e; exact absurd hr (hnD i hwD)
        · rw [getD_set_ne false e]; exact hl
      have hl2 : (listed.setIfInBounds j true).getD wr false = false := by rw [getD_set_ne false hjw]; exact hl
      refine wpOp_mono (fun a' w' h3 => ⟨fun _ _ => h3.2.1 hjw hl1, ih (listed.setIfInBounds j true) a' w' hfree' (ready_mono hr (Ne.symm hji)) (fresh_set hjD hD) h3.1 (h3.2.1 hjw hl1) hl2 ?_⟩) h2
      rw [Array.setIfInBounds_comm _ _ hji]
      exact h3.2.2
theorem unlisted_lt {listed : Array Bool} {j : Nat} (h : listed.getD j true = false) : j < listed.size := by
  rcases Nat.lt_or_ge j listed.size with h' | h'
  · exact h'
  · simp [Array.getElem?_eq_none h'] at h
/-- what yields its value in whatever world -/
theorem AnyW.firstP {i : Nat} {oi : Oper} (hi : ops[i]? = some oi) (hiw : i ≠ wr) (hsel : ∀ (j : Nat) (o : Oper) cs b, ops[j]? = some o → o.op ≠ .select cs b)
    (hQ : ∀ c a w, Q (.panic c) (a.put oi.dst v) w → Q (.panic c) a w) :
    ∀ (fuel : Nat) (listed : Array Bool) (a : Act) (w : World), (∀ j oj, ops[j]? = some oj → j ≠ i → listed.getD j true = false → (∀ e ∈ oj.after, Region.binds .any e = true → e.on ≠ i) → oi.apart ops oj = true) →
      i ∈ Region.ready .any ops listed → YieldsIf P ops (fun _ => True) oi v a → (listed.getD wr false = false → S w) →
      AnyW P ops Q S wr fuel (listed.setIfInBounds i true) (a.put oi.dst v) w → AnyW P ops Q S wr (fuel + 1) listed a w := by
  intro fuel
  induction fuel with
  | zero =>
    intro listed a w hfree hr hy hS H
    refine ⟨fun h => (by rw [h] at hr; cases hr), fun j hj => ?_⟩
    by_cases hji : j = i
    · subst hji; exact hy.wpOp hi trivial ⟨fun _ hl => hS hl, H⟩
    · have := ready_mono hj hji
      rw [H.1] at this
      cases this
  | succ fuel ih =>
    intro listed a w hfree hr hy hS H
    refine ⟨fun h => (by rw [h] at hr; cases hr), fun j hj => ?_⟩
    by_cases hji : j = i
    · subst hji; exact hy.wpOp hi trivial ⟨fun _ hl => hS hl, H⟩
    · have hun := (mem_ready.1 hr).1
      have h1 := H.2 j (ready_mono hj hji)
      obtain ⟨hjun, oj, hoj, hall⟩ := mem_ready.1 hj
      have hnot : ∀ e ∈ oj.after, Region.binds .any e = true → e.on ≠ i := fun e he hb heq => by
        have h1 := hall e he hb
        rw [heq] at h1
        rcases Nat.lt_or_ge i listed.size with h' | h'
        · simp [h'] at hun h1; rw [hun] at h1; cases h1
        · simp [Array.getElem?_eq_none h'] at h1
      have h2 := wpOp_putIf hoj (hfree j oj hoj hji hjun hnot) (fun cs b => hsel i oi cs b hi) (fun cs b => hsel j oj cs b hoj) hQ hy h1
      have hfree' : ∀ k ok, ops[k]? = some ok → k ≠ i → (listed.setIfInBounds j true).getD k true = false → (∀ e ∈ ok.after, Region.binds .any e = true → e.on ≠ i) → oi.apart ops ok = true := fun k ok hk hki hu hno => by
        refine hfree k ok hk hki ?_ hno
        by_cases hjk : j = k
        · subst hjk; exact hjun
        · rw [getD_set_ne true hjk] at hu; exact hu
      refine wpOp_mono (fun a' w' h3 => ?_) h2
      have hS1 : j ≠ wr → listed.getD wr false = false → S w' := fun hjw hl => h3.2.1 hjw (by rw [getD_set_ne false hiw]; exact hl)
      have hS2 : (listed.setIfInBounds j true).getD wr false = false → S w' := fun hl => by
        by_cases e : j = wr
        · subst e
          have := unlisted_lt hjun
          simp [this] at hl
        · exact hS1 e (by rwa [getD_set_ne false e] at hl)
      exact ⟨hS1, ih (listed.setIfInBounds j true) a' w' hfree' (ready_mono hr (Ne.symm hji)) h3.1 hS2 (by rw [Array.setIfInBounds_comm _ _ hji]; exact h3.2.2)⟩
/-- the post at a panic doesn't look at slots -/
def NoLook (Q : Exit → Act → World → Prop) : Prop := ∀ c (a : Act) (d : Nat) v w, Q (.panic c) (a.put (some d) v) w → Q (.panic c) a w
def Ends (Q Q' : Exit → Act → World → Prop) : Prop := ∀ a w, Q .normal a w → Q' .normal a w
/-- the begin -/
theorem d_start {id : Nat} (h : St N w0 B ρ L a w) (S : World → Prop) (wr n : Nat) (hn : ops.size = n) (hm : P.follows .mixedOrders = true) (hQ : NoLook Q) (hS : ∀ w, Mem w0 B L w → S w)
    (k : ∀ Q' a w, Ends Q Q' → NoLook Q' → St N w0 B ρ L a w → S w → AnyW P ops Q' S wr n (Array.replicate n false) a w) : (Code.region id ops true).wp P Q a w := by
  subst hn
  exact wp_region_any hm (AnyW.any _ _ _ _ (k Q a w.drew (fun _ _ h => h) hQ ⟨h.k, h.m.drew⟩ (hS _ h.m.drew)))
/-- what only reads is taken first -/
theorem d_take (h : St N w0 B ρ L a w) (hS : S w) (hQ : NoLook Q) (i : Nat) {oi : Oper} (hi : ops[i]? = some oi) (hs : Region.noSelect ops = true) (hf : Region.free .any ops listed i = true) (hr : (Region.ready .any ops listed).contains i = true) (hw : aheadB ops wr i = true) (hl : listed.getD wr false = false)
    (hg : oi.guard = none) (hd : oi.dst = some d) (hN : d < N) (hy : ∀ w', S w' → (execOp a.eval oi).run P w' = .ok (.value v) w') (k : ∀ a, St N w0 B ((d, v) :: ρ) L a w → AnyW P ops Q S wr fuel (listed.setIfInBounds i true) a w) : AnyW P ops Q S wr (fuel + 1) listed a w :=
  AnyW.first hi (Region.noSelect_spec hs) hw (fun c a w q => by rw [hd] at q; exact hQ c a d v w q) fuel listed a w (Region.free_spec hi hf) (by simpa using hr) (.inl ⟨by simp [Region.wanted, hg], hy⟩) hS hl (k _ (s_put h hd hN))
/-- the same; wr comes behind by way of others -/
theorem d_takeD (h : St N w0 B ρ L a w) (hS : S w) (hQ : NoLook Q) (i : Nat) (D : List Nat) {oi : Oper} (hi : ops[i]? = some oi) (hs : Region.noSelect ops = true) (hf : Region.free .any ops listed i = true) (hr : (Region.ready .any ops listed).contains i = true) (hw : deepB ops wr i D = true) (hfr : freshB listed D = true) (hl : listed.getD wr false = false)
    (hg : oi.guard = none) (hd : oi.dst = some d) (hN : d < N) (hy : ∀ w', S w' → (execOp a.eval oi).run P w' = .ok (.value v) w') (k : ∀ a, St N w0 B ((d, v) :: ρ) L a w → AnyW P ops Q S wr fuel (listed.setIfInBounds i true) a w) : AnyW P ops Q S wr (fuel + 1) listed a w :=
  AnyW.firstD hi (Region.noSelect_spec hs) hw (fun c a w q => by rw [hd] at q; exact hQ c a d v w q) fuel listed a w (Region.free_spec hi hf) (by simpa using hr) hfr (.inl ⟨by simp [Region.wanted, hg], hy⟩) hS hl (k _ (s_put h hd hN))
theorem d_takeP (h : St N w0 B ρ L a w) (hS : listed.getD wr false = false → S w) (hQ : NoLook Q) (i : Nat) {oi : Oper} (hi : ops[i]? = some oi) (hs : Region.noSelect ops = true) (hf : Region.free .any ops listed i = true) (hr : (Region.ready .any ops listed).contains i = true) (hiw : i ≠ wr)
    (hg : Region.wanted oi (yielded ops a.tmps) = true) (hd : oi.dst = some d) (hN : d < N) (hy : ∀ w', (execOp a.eval oi).run P w' = .ok (.value v) w') (k : ∀ a, St N w0 B ((d, v) :: ρ) L a w → AnyW P ops Q S wr fuel (listed.setIfInBounds i true) a w) : AnyW P ops Q S wr (fuel + 1) listed a w :=
  AnyW.firstP hi hiw (Region.noSelect_spec hs) (fun c a w q => by rw [hd] at q; exact hQ c a d v w q) fuel listed a w (Region.free_spec hi hf) (by simpa using hr) (.inl ⟨hg, fun w _ => hy w⟩) hS (k _ (s_put h hd hN))
theorem d_takeNP (h : St N w0 B ρ L a w) (hS : listed.getD wr false = false → S w) (hQ : NoLook Q) (i : Nat) {oi : Oper} (hi : ops[i]? = some oi) (hs : Region.noSelect ops = true) (hf : Region.free .any ops listed i = true) (hr : (Region.ready .any ops listed).contains i = true) (hiw : i ≠ wr)
    (hg : Region.wanted oi (yielded ops a.tmps) = false) (hd : oi.dst = some d) (hN : d < N) (k : ∀ a, St N w0 B ((d, undef) :: ρ) L a w → AnyW P ops Q S wr fuel (listed.setIfInBounds i true) a w) : AnyW P ops Q S wr (fuel + 1) listed a w :=
  AnyW.firstP hi hiw (Region.noSelect_spec hs) (fun c a w q => by rw [hd] at q; exact hQ c a d undef w q) fuel listed a w (Region.free_spec hi hf) (by simpa using hr) (.inr ⟨hg, rfl⟩) hS (k _ (s_put h hd hN))
/-- the same under a guard: it says yes -/
theorem d_takeY (h : St N w0 B ρ L a w) (hS : S w) (hQ : NoLook Q) (i : Nat) {oi : Oper} (hi : ops[i]? = some oi) (hs : Region.noSelect ops = true) (hf : Region.free .any ops listed i = true) (hr : (Region.ready .any ops listed).contains i = true) (hw : aheadB ops wr i = true) (hl : listed.getD wr false = false)
    (hg : Region.wanted oi (yielded ops a.tmps) = true) (hd : oi.dst = some d) (hN : d < N) (hy : ∀ w', S w' → (execOp a.eval oi).run P w' = .ok (.value v) w') (k : ∀ a, St N w0 B ((d, v) :: ρ) L a w → AnyW P ops Q S wr fuel (listed.setIfInBounds i true) a w) : AnyW P ops Q S wr (fuel + 1) listed a w :=
  AnyW.first hi (Region.noSelect_spec hs) hw (fun c a w q => by rw [hd] at q; exact hQ c a d v w q) fuel listed a w (Region.free_spec hi hf) (by simpa using hr) (.inl ⟨hg, hy⟩) hS hl (k _ (s_put h hd hN))
/-- one of those that may come up: it is walked as in a region of its own -/
theorem d_one (i : Nat) {o : Oper} (ho : ops[i]? = some o) (R : Act → World → Prop) (h : ∀ K : Act → World → Prop, (∀ a' w', R a' w' → K a' w') → wpList P ops (Exit.then K Q) [o] a w) : wpOp P ops Q i R a w := by
  have := h R (fun _ _ h => h)
  unfold wpOp
  simp only [ho]
  unfold wpList at this
  split
  · rename_i hw
    rw [if_pos hw] at this
    rcases this with h1 | ⟨h1, h2⟩
    · refine .inl ?_
      unfold Oper.wp at h1 ⊢
      generalize (execOp a.eval o).run P w = r at h1 ⊢
      cases r with
      | ok n w' =>
        cases n <;> simp only [Oper.upon] at h1 ⊢ <;> first
          | exact h1
          | exact Calls.mono h1 (fun e w'' he => by cases e <;> exact he)
          | exact Rows.mono h1 (fun _ _ he => he)
      | halt x w' => cases x <;> simp only [Oper.upon] at h1 ⊢ <;> exact h1
    · exact .inr ⟨h1, h2⟩
  · rename_i hw
    rw [if_neg hw] at this
    exact this
/-- it comes up alone -/
theorem d_alone (i : Nat) {o : Oper} (ho : ops[i]? = some o) (hr : Region.ready .any ops listed = [i])
    (h : ∀ K : Act → World → Prop, (∀ a' w', (i ≠ wr → listed.getD wr false = false → S w') → AnyW P ops Q S wr fuel (listed.setIfInBounds i true) a' w' → K a' w') → wpList P ops (Exit.then K Q) [o] a w) : AnyW P ops Q S wr (fuel + 1) listed a w :=
  ⟨fun h0 => (by rw [hr] at h0; cases h0), fun j hj => by
    rw [hr] at hj
    obtain rfl : j = i := by simpa using hj
    exact d_one j ho _ (fun K hK => h K (fun a' w' h1 h2 => hK a' w' ⟨h1, h2⟩))⟩
/-- two may come up -/
theorem d_two (i j : Nat) (hr : Region.ready .any ops listed = [i, j]) (h1 : wpOp P ops Q i (fun a' w' => (i ≠ wr → listed.getD wr false = false → S w') ∧ AnyW P ops Q S wr fuel (listed.setIfInBounds i true) a' w') a w)
    (h2 : wpOp P ops Q j (fun a' w' => (j ≠ wr → listed.getD wr false = false → S w') ∧ AnyW P ops Q S wr fuel (listed.setIfInBounds j true) a' w') a w) : AnyW P ops Q S wr (fuel + 1) listed a w :=
  ⟨fun h0 => (by rw [hr] at h0; cases h0), fun l hl => by
    rw [hr] at hl
    simp at hl
    rcases hl with rfl | rfl
    · exact h1
    · exact h2⟩
/-- all have come up -/
theorem d_done (hr : Region.ready .any ops listed = []) (h : Q .normal a w) : ∀ fuel, AnyW P ops Q S wr fuel listed a w
  | 0 => ⟨hr, h⟩
  | _ + 1 => ⟨fun _ => h, by rw [hr]; simp⟩
end
end Go.Proofs.Ytohgmggdfmjgnaa
