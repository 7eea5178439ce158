/- Rounds of a range over a function, and what follows such a loop: the code is walked in a round's frame, or beside a mark among the deferred calls, by the same steps as anywhere. -/
import Derived.Test.YtohgmggdfmjgnaaPm
import Derived.RangeFuncRecord
import Derived.RangeFuncCalls
set_option linter.unusedVariables false
set_option linter.unusedSimpArgs false
namespace Go.Proofs.Ytohgmggdfmjgnaa
open Go.RowKit
section
variable {P : Program} {ops : Array Oper} {Q Q' : Exit → Act → World → Prop} {a : Act} {w : World} {o : Oper}
def NoOut (Q : Exit → Act → World → Prop) : Prop := ∀ a w, ¬ Q .outgrown a w
theorem NoOut.out (h : NoOut Q) : ¬ LetsOut Q := fun ⟨a, w, q⟩ => h a w q
def plusD (a : Act) (D : List Deferred) : Act := { a with defers := a.defers ++ D }
theorem plusD_eval (a : Act) (D : List Deferred) : (plusD a D).eval = a.eval := by funext x; cases x <;> rfl
theorem plusD_put (a : Act) (D : List Deferred) (d : Option Tmp) (v : Value) : (plusD a D).put d v = plusD (a.put d v) D := by cases d <;> rfl
/-- no defer statement -/
def nd (o : Oper) : Bool := match o.op with
  | .defer _ => false
  | _ => true
theorem nd_ne (h : nd o = true) : ∀ c, o.op ≠ .defer c := fun c e => by unfold nd at h; rw [e] at h; cases h
theorem op_plus {next next' : Act → World → Prop} (D : List Deferred) (h : o.wp P a w next Q) (hn : ∀ a w, next a w → next' (plusD a D) w) (hq : ∀ c a w, Q (.panic c) a w → Q' (.panic c) (plusD a D) w) (hQ : NoOut Q) : o.wp P (plusD a D) w next' Q' := by
  unfold Oper.wp at h ⊢
  rw [plusD_eval]
  generalize (execOp a.eval o).run P w = r at h ⊢
  cases r with
  | ok n w' =>
    cases n <;> simp only [Oper.upon] at h ⊢ <;> first
      | (rw [plusD_put]; exact hn _ _ h)
      | exact h.elim
      | skip
    · refine Calls.mono h (fun e w'' he => ?_)
      cases e with
      | returned v => simp only at he ⊢; rw [plusD_put]; exact hn _ _ he
      | panicked c => exact hq _ _ _ he
      | outgrown => exact absurd he hQ.out
    · have := hn _ _ h
      rw [← plusD_put] at this
      exact this
    · refine Rows.mono h (fun v w'' he => ?_)
      rw [plusD_put]; exact hn _ _ he
  | halt x w' =>
    cases x <;> simp only [Oper.upon] at h ⊢ <;> exact hq _ _ _ h
theorem op_round {next next' : Act → World → Prop} (l n : Nat) (hd : nd o = true) (h : o.wp P a w next Q) (hn : ∀ a w, next a w → next' a w) (hq : ∀ c a w, Q (.panic c) a w → Q' (.panic c) a w) (hQ : NoOut Q) : o.wpIn (Fence.wide.inRound l) n P a w next' Q' := by
  refine ⟨fun _ _ => trivial, ?_⟩
  unfold Oper.wp at h
  rw [Fence.inRound_round, Oper.semAt_some l _ _ (nd_ne hd)]
  generalize (execOp a.eval o).run P w = r at h ⊢
  cases r with
  | ok m w' =>
    cases m <;> simp only [Oper.upon, Oper.uponIn] at h ⊢ <;> first
      | exact hn _ _ h
      | exact h.elim
      | skip
    · refine ⟨fun e => (by cases e), CallsIn.inRound l (callsIn_wide.2 (Calls.mono h (fun e w'' he => ?_)))⟩
      cases e with
      | returned v => exact hn _ _ he
      | panicked c => exact hq _ _ _ he
      | outgrown => exact absurd he hQ.out
    · refine ⟨fun e => (by cases e), fun c cs hr => ?_⟩
      obtain ⟨v, w'', hR, hs⟩ := h c cs
      exact ⟨v, w'', hn _ _ hR, stepsIn_wide.2 hs⟩
  | halt x w' =>
    cases x <;> simp only [Oper.upon, Oper.uponIn] at h ⊢ <;> exact hq _ _ _ h
theorem ops_plus (D : List Deferred) (hQ : NoOut Q) (hn : ∀ a w, Q .normal a w → Q' .normal (plusD a D) w) (hq : ∀ c a w, Q (.panic c) a w → Q' (.panic c) (plusD a D) w) : ∀ (l : List Nat) (a : Act) (w : World), wpOps P ops Q l a w → wpOps P ops Q' l (plusD a D) w := by
  intro l
  induction l with
  | nil => intro a w h; exact hn _ _ h
  | cons i l ih =>
    intro a w h
    unfold wpOps at h ⊢
    cases ho : ops[i]? with
    | none => rw [ho] at h; exact ih _ _ h
    | some o =>
      rw [ho] at h
      simp only at h ⊢
      by_cases hw : Region.wanted o (yielded ops a.tmps) = true
      · rw [if_pos hw] at h
        rw [if_pos (show Region.wanted o (yielded ops (plusD a D).tmps) = true from hw)]
        rcases h with h | ⟨_, h⟩
        · exact .inl (op_plus D h ih hq hQ)
        · exact absurd h hQ.out
      · rw [if_neg hw] at h
        rw [if_neg (show ¬ Region.wanted o (yielded ops (plusD a D).tmps) = true from hw), plusD_put]
        exact ih _ _ h
theorem ops_round (l n : Nat) (hd : ops.all nd = true) (hQ : NoOut Q) : ∀ (is : List Nat) (a : Act) (w : World), wpOps P ops Q is a w → wpOpsIn (Fence.wide.inRound l) n P ops Q is a w := by
  intro is
  induction is with
  | nil => intro a w h; exact h
  | cons i is ih =>
    intro a w h
    unfold wpOps at h
    unfold wpOpsIn
    cases ho : ops[i]? with
    | none => rw [ho] at h; exact ih _ _ h
    | some o =>
      rw [ho] at h
      simp only at h ⊢
      have hdo : nd o = true := by
        obtain ⟨hi, e⟩ := Array.getElem?_eq_some_iff.1 ho
        rw [← e]; exact Array.all_eq_true.1 hd i hi
      by_cases hw : Region.wanted o (yielded ops a.tmps) = true
      · rw [if_pos hw] at h ⊢
        rcases h with h | ⟨_, h⟩
        · exact op_round l n hdo h ih (fun _ _ _ h => h) hQ
        · exact absurd h hQ.out
      · rw [if_neg hw] at h ⊢
        exact ⟨fun _ _ => trivial, ih _ _ h⟩
/-- where code stands: in a round; behind a loop over a function -/
inductive Md where
  | round (l n : Nat)
  | tail (D : List Deferred)
def Md.go (P : Program) : Md → Code → (Exit → Act → World → Prop) → Act → World → Prop
  | .round l n, c, Q, a, w => NoOut Q → c.wpIn (Fence.wide.inRound l) n P Q a w
  | .tail D, c, Q, a, w => NoOut Q → c.wp P (fun e a' w' => ∃ a0, a' = plusD a0 D ∧ Q e a0 w') (plusD a D) w
theorem noOut_then {K : Act → World → Prop} (h : NoOut Q) : NoOut (Exit.then K Q) := h
theorem noOut_block {id : Nat} (h : NoOut Q) : NoOut (Exit.inBlock id Q) := h
theorem Md.wops {id : Nat} {M : Md} (hd : ops.all nd = true) (h : wpOps P ops Q (List.range ops.size) a w) : M.go P (.region id ops false) Q a w := by
  cases M with
  | round l n => exact fun hQ => wpIn_region (ops_round l n hd hQ _ _ _ h)
  | tail D => exact fun hQ => wp_region (ops_plus D hQ (fun a w h => ⟨a, rfl, h⟩) (fun c a w h => ⟨a, rfl, h⟩) _ _ _ h)
theorem Md.wdraw {id : Nat} {M : Md} (hd : ops.all nd = true) (h : ∀ t, wpOps P ops Q (Region.schedule (P.follows .mixedOrders) ops t) a { w with drawn := w.drawn + 1 }) : M.go P (.region id ops true) Q a w := by
  cases M with
  | round l n => exact fun hQ => wpIn_region_draw (fun t => ops_round l n hd hQ _ _ _ (h t))
  | tail D => exact fun hQ => wp_region_draw (fun t => ops_plus D hQ (fun a w h => ⟨a, rfl, h⟩) (fun c a w h => ⟨a, rfl, h⟩) _ _ _ (h t))
theorem Md.mono {M : Md} {c : Code} (h : M.go P c Q a w) (hq : ∀ e a w, Q e a w → Q' e a w) (ho : NoOut Q' → NoOut Q) : M.go P c Q' a w := by
  cases M with
  | round l n => exact fun hQ => wpIn_mono (h (ho hQ)) hq
  | tail D => exact fun hQ => wp_mono (h (ho hQ)) (fun e a' w' ⟨a0, e0, h0⟩ => ⟨a0, e0, hq _ _ _ h0⟩)
variable {M : Md}
theorem m_seq {x y : Code} (h : M.go P x (Exit.then (M.go P y Q) Q) a w) : M.go P (.seq x y) Q a w := by
  cases M with
  | round l n =>
    refine fun hQ => wpIn_seq (wpIn_mono (h (noOut_then hQ)) (fun e a w he => ?_))
    cases e <;> first | exact he hQ | exact he
  | tail D =>
    refine fun hQ => wp_seq (wp_mono (h (noOut_then hQ)) ?_)
    rintro e a' w' ⟨a0, rfl, he⟩
    cases e with
    | normal => exact he hQ
    | _ => exact ⟨a0, rfl, he⟩
theorem ndA {l : List Oper} (h : l.all nd = true) : l.toArray.all nd = true := by simpa using h
theorem m_r {id : Nat} {l : List Oper} (hd : l.all nd = true) (h : wpList P l.toArray Q l a w) : M.go P (.region id l.toArray false) Q a w :=
  Md.wops (ndA hd) (by rw [List.range_eq_range', ← Array.length_toList, wpOps_eq_wpList l.toArray.toList 0 (by simp)]; simpa using h)
theorem m_rs {id : Nat} {l : List Oper} {y : Code} (hd : l.all nd = true) (h : wpList P l.toArray (Exit.then (M.go P y Q) Q) l a w) : M.go P (.seq (.region id l.toArray false) y) Q a w := m_seq (m_r hd h)
theorem m_ret (h : Q .ret a w) : M.go P .ret Q a w := by
  cases M with
  | round l n => exact fun _ => wpIn_ret h
  | tail D => exact fun _ => wp_ret ⟨a, rfl, h⟩
theorem m_skip (h : Q .normal a w) : M.go P .skip Q a w := by
  cases M with
  | round l n => exact fun _ => wpIn_skip h
  | tail D => exact fun _ => wp_skip ⟨a, rfl, h⟩
theorem m_block {id : Nat} {c : Code} (h : M.go P c (Exit.inBlock id Q) a w) : M.go P (.block id c) Q a w := by
  cases M with
  | round l n => exact fun hQ => wpIn_block (h (noOut_block hQ))
  | tail D =>
    refine fun hQ => wp_block (wp_mono (h (noOut_block hQ)) ?_)
    rintro e a' w' ⟨a0, rfl, he⟩
    cases e with
    | exit i =>
      simp only [Exit.inBlock] at he ⊢
      split at he
      · rename_i e; rw [if_pos e]; exact ⟨a0, rfl, he⟩
      · rename_i e; rw [if_neg e]; exact ⟨a0, rfl, he⟩
    | _ => exact ⟨a0, rfl, he⟩
section
variable {N : Nat} {w0 : World} {B : Nat → Prop} {ρ : Slots} {L : List Ch}
theorem m_cond (h : St N w0 B ρ L a w) {x : Operand} {c1 c2 : Code} {b : Bool} (hx : ev ρ x = some (.bool b)) (ht : b = true → M.go P c1 Q a w) (hf : b = false → M.go P c2 Q a w) : M.go P (.cond x c1 c2) Q a w := by
  have he := h.k.eval hx
  cases M with
  | round l n => exact fun hQ => wpIn_cond he (by cases b; exact hf rfl hQ; exact ht rfl hQ)
  | tail D => exact fun hQ => wp_cond (t := b) (by rw [plusD_eval]; exact he) (by cases b; exact hf rfl hQ; exact ht rfl hQ)
theorem m_fin {c : Code} (R : Act → World → Prop) (h1 : M.go P c (Exit.then R Q) a w) (h2 : ∀ a w, R a w → Q .normal a w) : M.go P c Q a w :=
  Md.mono h1 (fun e a w h => by cases e <;> first | exact h2 _ _ h | exact h) (fun h => h)
theorem m_start {id : Nat} (h : St N w0 B ρ L a w) (S : World → Prop) (wr n : Nat) (hn : ops.size = n) (hm : P.follows .mixedOrders = true) (hQ : NoLook Q) (hd : ops.toList.all nd = true) (hS : ∀ w, Mem w0 B L w → S w)
    (k : ∀ Q' a w, Ends Q Q' → NoLook Q' → St N w0 B ρ L a w → S w → AnyW P ops Q' S wr n (Array.replicate n false) a w) : M.go P (.region id ops true) Q a w := by
  subst hn
  refine Md.wdraw (ndA hd) (fun t => ?_)
  simp only [Region.schedule, hm, Bool.true_or, if_true]
  exact wpAny_sound ops.size t _ a _ (AnyW.any _ _ _ _ (k Q a w.drew (fun _ _ h => h) hQ ⟨h.k, h.m.drew⟩ (hS _ h.m.drew)))
/-! ### a loop over a function -/
/-- an iterator's value: handed a loop's yield it hands it these, one by one, till there are no more or it is told so; of memory it reads what stays -/
def IterV {α : Type} (P : Program) (encs : α → Array Value) (v : Value) (xs : List α) (S : Snap) : Prop :=
  ∃ (g : FuncId) (lb : Array Value), v = .func (.func g) #[] lb ∧ (∀ args w, (callFunc g args).run P w = .ok (.enter g args) w) ∧
    ∀ (l : Nat) (J : List α → World → Prop) (Jx : World → Prop) (W : World),
      (∀ k W, J k W → SnapOK S W) → (∀ k W W', J k W → Below W.heap.size W W' → J k W') → (∀ W W', Jx W → Below W.heap.size W W' → Jx W') →
      (∀ pre x rest W1, xs = pre ++ x :: rest → J pre W1 → YieldAt Fence.wide 0 P l (encs x) W1 fun e W' => (e = .returned (.bool true) ∧ J (pre ++ [x]) W') ∨ (e = .returned (.bool false) ∧ Jx W')) →
      J [] W → Calls P g (#[.func (.yield l) #[] #[]] ++ lb) W fun e W' => (∃ v, e = .returned v) ∧ (J xs W' ∨ Jx W')
theorem IterV.mono {α : Type} {encs : α → Array Value} {v : Value} {xs : List α} {S S' : Snap} (h : IterV P encs v xs S) (hS : S.le S') : IterV P encs v xs S' := by
  obtain ⟨g, lb, e, hc, hh⟩ := h
  exact ⟨g, lb, e, hc, fun l J Jx W h1 h2 h3 h4 h5 => hh l J Jx W (fun k W hk b o hb => h1 k W hk b o (hS b o hb)) h2 h3 h4 h5⟩
theorem mem_put {g : Nat} {o o' : Obj} (h : Mem w0 B (.obj g o :: L) w) : Mem w0 B (.obj g o' :: L) (w.putObj g o') := by
  have h0 : w.heap[g]? = some o := h.ok 0 _ rfl
  have hlt := (Array.getElem?_eq_some_iff.1 h0).1
  refine h.write (i := 0) (x' := .obj g o') rfl ⟨rfl, rfl, rfl, by simp, fun k hk hn => World.putObj_heap_other (fun e => hn e)⟩ (World.putObj_heap_same hlt) (fun k hk => .inl hk)
theorem mem_tail {x : Ch} (h : Mem w0 B (x :: L) w) : Mem w0 B L w :=
  ⟨h.chg, fun i z hi => h.ok (i + 1) z hi, fun i j z u hij hi hj => h.apart (i + 1) (j + 1) z u (by omega) hi hj, fun i z hi => h.base (i + 1) z hi⟩
def pset (l : List (Tmp × Value)) (ρ : Slots) : Slots := l.foldl (fun ρ p => (p.1, p.2) :: ρ) ρ
theorem knows_set : ∀ (l : List (Tmp × Value)) (ρ : Slots) (t : Array Value), (∀ p ∈ l, p.1 < N) → Knows N ρ { tmps := t, defers := [] } → Knows N (pset l ρ) { tmps := l.foldl (fun t (p : Tmp × Value) => t.setIfInBounds p.1 p.2) t, defers := [] }
  | [], _, _, _, h => h
  | p :: l, ρ, t, hl, h => by
    have := Knows.put (v := p.2) h (hl p (List.mem_cons_self ..))
    exact knows_set l ((p.1, p.2) :: ρ) (t.setIfInBounds p.1 p.2) (fun q hq => hl q (List.mem_cons_of_mem _ hq)) this
/-- how a round may be left -/
def RPost (w0 : World) (B : Nat → Prop) (l D : Nat) (o o' : Obj) (I Ix : List Ch → Prop) : Exit → Act → World → Prop
  | .normal, _, w => ∃ L, I L ∧ Mem w0 B (.obj l o :: .obj D o' :: L) w
  | .ret, _, w => ∃ L, Ix L ∧ Mem w0 B (.obj l o :: .obj D o' :: L) w
  | _, _, _ => False
def markD (D : Nat) : List Deferred := [{ target := .collected D, args := #[] }]
theorem c_range {α : Type} {encs : α → Array Value} {v : Value} {xs : List α} {S : Snap} {g : Operand} {ps : Array Tmp} {assign body : Code}
    (h : St N w0 B ρ L a w) (hg : ev ρ g = some v) (hi : IterV P encs v xs S) (hps : ∀ x, (encs x).size = ps.size) (hpN : ∀ p ∈ ps.toList, p < N)
    (I : List α → List Ch → Prop) (Ix : List Ch → Prop) (hS : ∀ pre L', I pre L' → .sn S ∈ L') (h0 : I [] L) (ρ1 : α → Slots)
    (hassign : ∀ (l D : Nat) (o o' : Obj) (x : α) (L' : List Ch) (a : Act) (w : World), St N w0 B (pset (ps.toList.zip (encs x).toList) ρ) (.obj l o :: .obj D o' :: L') a w →
      (Md.round l 0).go P assign (Exit.then (fun a w => St N w0 B (ρ1 x) (.obj l o :: .obj D o' :: L') a w) (fun _ _ _ => False)) a w)
    (hbody : ∀ (l D : Nat) (o o' : Obj) (pre : List α) (x : α) (rest : List α) (L' : List Ch) (a : Act) (w : World), xs = pre ++ x :: rest → I pre L' → St N w0 B (ρ1 x) (.obj l o :: .obj D o' :: L') a w →
      (Md.round l 0).go P body (RPost w0 B l D o o' (I (pre ++ [x])) Ix) a w)
    (hdone : ∀ (D : Nat) (L' : List Ch) (w : World), I xs L' → St N w0 B ρ (.obj D (.deferred (some [])) :: L') a w → Q .normal (plusD a (markD D)) w)
    (hstop : ∀ (D : Nat) (L' : List Ch) (w : World), Ix L' → St N w0 B ρ (.obj D (.deferred (some [])) :: L') a w → Q .ret (plusD a (markD D)) w) :
    (Code.rangeFunc g ps assign body).wp P Q a w := by
  refine (wpIn_wide (n := 0)).1 (wpIn_rangeFunc ?_)
  intro fn hfn
  obtain ⟨gf, lb, rfl, eg, hit⟩ := hi
  have hge := h.k.eval hg
  have hde := h.k.defers
  let rec' : LoopState → Option Code → Loop := fun st pe => { state := st, pending := pe, fn, tmps := a.tmps, params := ps, assign, body, defers := w.heap.size }
  obtain ⟨rec, hrec⟩ : ∃ rec : LoopState → Option Code → Loop, rec = rec' := ⟨_, rfl⟩
  obtain ⟨W1, hW1⟩ : ∃ W1, (w.alloc (.deferred (some []))).alloc (.loop (rec .ready none)) = W1 := ⟨_, rfl⟩
  obtain ⟨l, hl⟩ : ∃ l, w.heap.size + 1 = l := ⟨_, rfl⟩
  obtain ⟨D, hD⟩ : ∃ D, w.heap.size = D := ⟨_, rfl⟩
  have hM1 : Mem w0 B (.obj l (.loop (rec .ready none)) :: .obj D (.deferred (some [])) :: L) W1 := by
    rw [← hW1, ← hl, ← hD]
    have := (h.m.alloc (.deferred (some []))).alloc (.loop (rec .ready none))
    rwa [World.size_alloc] at this
  have hQ' : plusD a (markD D) = { a with defers := markD D ++ a.defers } := by unfold plusD; rw [hde]; rfl
  refine ⟨l, markD D, W1, { target := .fn (.func gf) lb, args := #[.func (.yield l) #[] #[]] }, W1, gf, #[.func (.yield l) #[] #[]] ++ lb, W1, ?_, ?_, fun _ _ => trivial, ?_, fun e => (by cases e), ?_⟩
  · rw [← hW1, hrec, ← hl, ← hD]; exact run_enterLoop_outer _ _ _ _ _
  · simp only [resolve, hge]
    simp [go_sem]
  · simp [invoke, go_sem, eg]
  · rw [← hQ']
    refine callsIn_wide.2 ((hit l (fun pre W => ∃ L', I pre L' ∧ Mem w0 B (.obj l (.loop (rec .ready none)) :: .obj D (.deferred (some [])) :: L') W)
      (fun W => ∃ L', Ix L' ∧ Mem w0 B (.obj l (.loop (rec .done (some .ret))) :: .obj D (.deferred (some [])) :: L') W) W1 ?_ ?_ ?_ ?_ ⟨L, h0, hM1⟩).mono ?_)
    · rintro k W ⟨L', hI, hM⟩
      obtain ⟨i, hi⟩ := List.mem_iff_getElem?.1 (hS _ _ hI)
      exact hM.snOK (i := i + 2) hi
    · rintro k W W' ⟨L', hI, hM⟩ hb; exact ⟨L', hI, hM.ext hb⟩
    · rintro W W' ⟨L', hI, hM⟩ hb; exact ⟨L', hI, hM.ext hb⟩
    · rintro pre x rest W hx ⟨L', hI, hM⟩
      have hl0 : W.heap[l]? = some (.loop (rec .ready none)) := hM.ok 0 _ rfl
      have hy := run_yield (P := P) (args := encs x) hl0 (by rw [hrec]; exact hps x)
      rw [hrec] at hy
      refine ⟨fn, _, assign, body, hy, roundIn_of_wpIn trivial ?_⟩
      have hk : Knows N (pset (ps.toList.zip (encs x).toList) ρ) { tmps := (ps.zip (encs x)).foldl (fun t (p : Tmp × Value) => t.setIfInBounds p.1 p.2) a.tmps, defers := [] } := by
        rw [← Array.foldl_toList, Array.toList_zip]
        refine knows_set _ _ _ (fun p hp => hpN p.1 ?_) ?_
        · exact (List.of_mem_zip hp).1
        · have := h.k; rw [show a = { tmps := a.tmps, defers := [] } by rw [← hde]] at this; exact this
      refine wpIn_mono (hassign l D _ _ x L' _ W ⟨hk, hM⟩ (fun _ _ h => h)) ?_
      rintro e a1 w1 he
      cases e with
      | normal =>
        have he : St N w0 B (ρ1 x) _ a1 w1 := he
        have hl1 : w1.heap[l]? = some (.loop (rec .ready none)) := he.m.ok 0 _ rfl
        refine ⟨_, run_beginRound hl1 (by rw [hrec]), ?_⟩
        refine wpIn_mono (hbody l D _ _ pre x rest L' a1 _ hx hI ⟨he.k, mem_put he.m⟩ (fun _ _ h => h)) ?_
        rintro e a2 w2 hp
        cases e with
        | normal =>
          obtain ⟨L2, hI2, hM2⟩ := hp
          have hl2 := hM2.ok 0 _ rfl
          refine ⟨_, _, run_endRound none hl2, .inl ⟨rfl, L2, hI2, ?_⟩⟩
          have := mem_put (o' := .loop (rec .ready none)) hM2
          rw [hrec] at this ⊢
          exact this
        | ret =>
          obtain ⟨L2, hI2, hM2⟩ := hp
          have hl2 := hM2.ok 0 _ rfl
          refine ⟨_, _, run_endRound (some .ret) hl2, .inr ⟨rfl, L2, hI2, ?_⟩⟩
          have := mem_put (o' := .loop (rec .done (some .ret))) hM2
          rw [hrec] at this ⊢
          exact this
        | _ => exact hp.elim
      | _ => exact he.elim
    · rintro e W ⟨⟨u, rfl⟩, (⟨L', hI, hM⟩ | ⟨L', hI, hM⟩)⟩
      · have hl0 := hM.ok 0 _ rfl
        refine ⟨none, _, by have := run_endLoop (P := P) hl0 (by rw [hrec]; simp [rec']); rw [hrec] at this; exact this, hdone D L' _ hI ⟨h.k, mem_tail (mem_put hM)⟩⟩
      · have hl0 := hM.ok 0 _ rfl
        refine ⟨some .ret, _, by have := run_endLoop (P := P) hl0 (by rw [hrec]; simp [rec']); rw [hrec] at this; exact this, wpIn_ret (hstop D L' _ hI ⟨h.k, mem_tail (mem_put hM)⟩)⟩
theorem Mem.pickL {x y z : Ch} (h : Mem w0 B (x :: y :: z :: L) w) : Mem w0 B (y :: z :: x :: L) w := by
  refine h.pick ([1, 2, 0] ++ List.range' 3 L.length) _ ?_ ?_
  · rw [List.nodup_append]
    refine ⟨by decide, List.nodup_range', fun a ha b hb => ?_⟩
    rw [List.mem_range'_1] at hb
    simp only [List.mem_cons, List.not_mem_nil, or_false] at ha
    omega
  · rw [List.map_append]
    refine congrArg (fun l : List (Option Ch) => some y :: some z :: some x :: l) (List.ext_getElem? fun i => ?_)
    show (List.map (fun i => (x :: y :: z :: L)[i]?) (List.range' 3 L.length))[i]? = _
    rw [List.getElem?_map, List.getElem?_map]
    by_cases hi : i < L.length
    · rw [List.getElem?_range' hi, List.getElem?_eq_getElem hi]
      show some ((x :: y :: z :: L)[3 + 1 * i]?) = some (some L[i])
      rw [show 3 + 1 * i = i + 1 + 1 + 1 by omega, List.getElem?_cons_succ, List.getElem?_cons_succ, List.getElem?_cons_succ, List.getElem?_eq_getElem hi]
    · rw [List.getElem?_eq_none (by rw [List.length_range']; omega), List.getElem?_eq_none (by omega)]; rfl
theorem St.pickL {x y z : Ch} (h : St N w0 B ρ (x :: y :: z :: L) a w) : St N w0 B ρ (y :: z :: x :: L) a w := ⟨h.k, h.m.pickL⟩
/-! ### a function that holds such a loop -/
def postN (P : Program) (fn : Func) (R : Ending → World → Prop) : Exit → Act → World → Prop
  | .panic _, _, _ => False
  | .outgrown, _, _ => False
  | e, a, w => bodyPostM Fence.wide 0 P fn R e a w
theorem postN_M {fn : Func} {R : Ending → World → Prop} (e : Exit) (a : Act) (w : World) (h : postN P fn R e a w) : bodyPostM Fence.wide 0 P fn R e a w := by cases e <;> first | exact h | exact h.elim
def PostT (P : Program) (fn : Func) (R : Ending → World → Prop) (D : Nat) (e : Exit) (a : Act) (w : World) : Prop :=
  (e = .ret ∨ e = .normal) ∧ ∃ w', (Instr.takeDeferred D).run P w = .ok [] w' ∧ bodyPost P fn R .ret a w'
theorem c_enterR {f : FuncId} {fn : Func} {c : Code} {args : Array Value} {R : Ending → World → Prop} (hf : P.funcs[f]? = some fn) (hb : fn.body = some c) (N : Nat) (hN : fn.ntmps = N) (hs : args.size ≤ N) (B : Nat → Prop) {L : List Ch} (hm : Mem w B L w) (ρ : Slots) (hρ : ((List.range args.size).zip args.toList) = ρ)
    (h : ∀ a, St N w B ρ L a w → c.wp P (postN P fn R) a w) : Calls P f args w R := by
  refine (callsIn_wide (n := 0)).1 (callsIn_of_wp_marks hf hb trivial (wpIn_wide.2 (wp_mono (h _ ⟨⟨rfl, by simp; omega, fun t v hv => ?_⟩, hm⟩) postN_M)))
  subst hρ
  have key : ∀ (l : List Value) (k : Nat), (((List.range' k l.length).zip l).lookup t = some v) → k ≤ t ∧ l[t - k]? = some v := by
    intro l
    induction l with
    | nil => intro k h; simp at h
    | cons x l ih =>
      intro k h
      simp only [List.length_cons, List.range'_succ, List.zip_cons_cons, List.lookup_cons] at h
      by_cases e : t = k
      · subst e; simp at h; simp [h]
      · have e' : (t == k) = false := by simpa using e
        rw [e'] at h
        obtain ⟨h1, h2⟩ := ih (k + 1) h
        refine ⟨by omega, ?_⟩
        rw [show t - k = (t - (k + 1)) + 1 by omega]; simpa using h2
  have := key args.toList 0 (by rw [← List.range_eq_range']; simpa using hv)
  have h2 : args[t]? = some v := by simpa using this.2
  have hlt : t < args.size := (Array.getElem?_eq_some_iff.1 h2).1
  rw [Array.getElem?_append_left hlt]; exact h2
theorem post_M {fn : Func} {R : Ending → World → Prop} (h : bodyPost P fn R .ret a w) : postN P fn R .ret a w := by
  show LeavesInM Fence.wide 0 P fn a.tmps R a.defers .returning w
  rw [h.1]
  exact h.2
theorem post_T {fn : Func} {R : Ending → World → Prop} {D : Nat} (h : PostT P fn R D .ret a w) (hd : a.defers = []) : postN P fn R .ret (plusD a (markD D)) w := by
  obtain ⟨_, w', h1, h2⟩ := h
  show LeavesInM Fence.wide 0 P fn a.tmps R (a.defers ++ markD D) .returning w
  rw [hd]
  exact ⟨by simp, .inl ⟨D, w', rfl, h1, h2.2⟩⟩
theorem tail_M {fn : Func} {R : Ending → World → Prop} {D : Nat} {y : Code} (h : (Md.tail (markD D)).go P y (PostT P fn R D) a w) : y.wp P (postN P fn R) (plusD a (markD D)) w := by
  refine wp_mono (h (fun a w h => by rcases h.1 with e | e <;> cases e)) ?_
  rintro e a' w' ⟨a0, rfl, hp⟩
  have hd : a0.defers = [] := by obtain ⟨_, _, _, h2⟩ := hp; exact h2.1
  obtain ⟨he, w2, h1, h2⟩ := hp
  rcases he with rfl | rfl
  · exact post_T ⟨.inl rfl, w2, h1, h2⟩ hd
  · exact post_T ⟨.inl rfl, w2, h1, h2⟩ hd
theorem r_retT {fn : Func} {R : Ending → World → Prop} {D : Nat} (h : St N w0 B ρ (.obj D (.deferred (some [])) :: L) a w) (k : ∀ w', St N w0 B ρ L a w' → bodyPost P fn R .ret a w') : PostT P fn R D .ret a w :=
  ⟨.inl rfl, w.putObj D (.deferred none), run_takeDeferred (h.m.ok 0 _ rfl), k _ ⟨h.k, mem_tail (mem_put h.m)⟩⟩
/-! ### an iterator -/
theorem op_wide {next next' : Act → World → Prop} (h : o.wp P a w next Q) (hn : ∀ a w, next a w → next' a w) (hq : ∀ c a w, Q (.panic c) a w → Q' (.panic c) a w) (hQ : NoOut Q) : o.wpIn Fence.wide 0 P a w next' Q' := by
  refine ⟨fun _ _ => trivial, ?_⟩
  unfold Oper.wp at h
  rw [Fence.wide_round, Oper.semAt_none]
  generalize (execOp a.eval o).run P w = r at h ⊢
  cases r with
  | ok m w' =>
    cases m <;> simp only [Oper.upon, Oper.uponIn] at h ⊢ <;> first
      | exact hn _ _ h
      | exact h.elim
      | skip
    · refine ⟨fun e => (by cases e), callsIn_wide.2 (Calls.mono h (fun e w'' he => ?_))⟩
      cases e with
      | returned v => exact hn _ _ he
      | panicked c => exact hq _ _ _ he
      | outgrown => exact absurd he hQ.out
    · refine ⟨fun e => (by cases e), fun c cs hr => ?_⟩
      obtain ⟨v, w'', hR, hs⟩ := h c cs
      exact ⟨v, w'', hn _ _ hR, stepsIn_wide.2 hs⟩
  | halt x w' =>
    cases x <;> simp only [Oper.upon, Oper.uponIn] at h ⊢ <;> exact hq _ _ _ h
theorem list_in (l2 : List Oper) : ∀ (l1 : List Oper) (a : Act) (w : World), wpList P ops (fun e a w => e = .normal ∧ wpListIn Fence.wide 0 P ops Q l2 a w) l1 a w → wpListIn Fence.wide 0 P ops Q (l1 ++ l2) a w := by
  intro l1
  induction l1 with
  | nil => intro a w h; exact h.2
  | cons o l1 ih =>
    intro a w h
    unfold wpList at h
    show wpListIn Fence.wide 0 P ops Q (o :: (l1 ++ l2)) a w
    unfold wpListIn
    by_cases hw : Region.wanted o (yielded ops a.tmps) = true
    · rw [if_pos hw] at h ⊢
      rcases h with h | ⟨_, a0, w0, h0⟩
      · exact op_wide h ih (fun c a w h => by cases h.1) (fun a w h => by cases h.1)
      · cases h0.1
    · rw [if_neg hw] at h ⊢
      exact ⟨fun _ _ => trivial, ih _ _ h⟩
theorem s_yield {rest : List Oper} {d : Nat} {R : Ending → World → Prop} (h : Knows N ρ a) (hg : o.guard = none) {x : Operand} {xs : Array Operand} {ats : Array TypeId} (ho : o.op = .call { callee := .value x, args := xs, argTypes := ats }) (hd : o.dst = some d) (hN : d < N) {l : Nat} (hx : ev ρ x = some (.func (.yield l) #[] #[])) {vs : List Value} (hxs : xs.toList.map (ev ρ) = vs.map some)
    (hy : YieldAt Fence.wide 0 P l vs.toArray w R) (k : ∀ e w', R e w' → ∃ b, e = .returned (.bool b) ∧ ∀ a', Knows N ((d, .bool b) :: ρ) a' → wpListIn Fence.wide 0 P ops Q rest a' w') : wpListIn Fence.wide 0 P ops Q (o :: rest) a w := by
  have key : ∀ (l : List Operand) (m : List Value), l.map (ev ρ) = m.map some → l.map a.eval = m := by
    intro l
    induction l with
    | nil => intro m hm; cases m <;> simp_all
    | cons p l ih =>
      intro m hm
      cases m with
      | nil => simp at hm
      | cons q m =>
        simp only [List.map_cons, List.cons.injEq] at hm ⊢
        exact ⟨h.eval hm.1, ih m hm.2⟩
  have hxs' : xs.map a.eval = vs.toArray := by apply Array.ext'; rw [Array.toList_map]; exact key _ _ hxs
  obtain ⟨fn, tmps, assign, body, hy, hR⟩ := hy
  refine wpListIn_plain hg fun K hK => ⟨fun _ _ => trivial, ?_⟩
  rw [Fence.wide_round, Oper.semAt_none]
  have hr : (execOp a.eval o).run P w = .ok (.round l fn tmps assign body) w := by
    rw [← hy]
    simp [execOp, ho, resolve, invoke, hxs', Deferred.ofValue, h.eval hx, callFunc]
  rw [hr]
  refine ⟨fun e => (by cases e), hR.mono fun e w' he => ?_⟩
  obtain ⟨b, rfl, h2⟩ := k e w' he
  exact hK _ _ (h2 _ (by rw [hd]; exact h.put hN))
theorem St.fresh {S : Snap} (h : Knows N ρ a) (hS : SnapOK S w) : St N w (ownL [.sn S]) ρ [.sn S] a w := ⟨h, Mem.startS hS⟩
theorem below_of {S : Snap} {w' : World} (h : Mem w (ownL [.sn S]) L w') : Below w.heap.size w w' :=
  ⟨h.chg.os, h.chg.tape, h.chg.output, h.chg.size, fun k hk => h.chg.block k hk (fun ⟨x, hx, hxk⟩ => by rw [List.mem_singleton.1 hx] at hxk; exact hxk.elim)⟩
theorem enters_c {f : FuncId} {fn : Func} (hf : P.funcs[f]? = some fn) (hb : fn.body.isNone = false) (hn : (fn.name == "runtime.NumGoroutine") = false) : ∀ args w, (callFunc f args).run P w = .ok (.enter f args) w := by
  intro args w
  have hb' : fn.body ≠ none := by intro e; rw [e] at hb; cases hb
  have hn' : fn.name ≠ "runtime.NumGoroutine" := by intro e; rw [e] at hn; simp at hn
  simp [callFunc, hf, hn', hb']
theorem list_take (k : Nat) {l : List Oper} (h : wpList P ops (fun e a w => e = .normal ∧ wpListIn Fence.wide 0 P ops Q (l.drop k) a w) (l.take k) a w) : wpListIn Fence.wide 0 P ops Q l a w := by
  have := list_in (l.drop k) (l.take k) a w h
  rwa [List.take_append_drop] at this
theorem r_norm {fn : Func} {R : Ending → World → Prop} (h : bodyPost P fn R .ret a w) : bodyPost P fn R .normal a w := h
theorem RPost.n {l D : Nat} {o o' : Obj} {I Ix : List Ch → Prop} (L : List Ch) (h : I L) (m : Mem w0 B (.obj l o :: .obj D o' :: L) w) : RPost w0 B l D o o' I Ix .normal a w := ⟨L, h, m⟩
theorem RPost.r {l D : Nat} {o o' : Obj} {I Ix : List Ch → Prop} (L : List Ch) (h : Ix L) (m : Mem w0 B (.obj l o :: .obj D o' :: L) w) : RPost w0 B l D o o' I Ix .ret a w := ⟨L, h, m⟩
end
end
end Go.Proofs.Ytohgmggdfmjgnaa
