/- Texts put together. -/
import Derived.Test.YtnmeelkfpmodgaaDoorInt
import Derived.Lib.AppendZerosOnto
import Derived.Lib.AppendZeros
set_option linter.unusedVariables false
set_option linter.unusedSimpArgs false
namespace Go.Proofs.YtnmeelkfpmodgaaDoor
open Go.RowKit
section
section
variable {P : Program} {ops : Array Oper} {rest : List Oper} {o : Oper} {Q : Exit → Act → World → Prop} {N : Nat} {w0 w w' : World} {B : Nat → Prop} {ρ ρ' : Slots} {L L' : List Ch} {a a' : Act} {d : Nat} {u v : Value}
end
end
section
section
variable {P : Program} {ops : Array Oper} {rest : List Oper} {o : Oper} {Q : Exit → Act → World → Prop} {N : Nat} {w0 w w' : World} {B : Nat → Prop} {ρ ρ' : Slots} {L L' Ls R : List Ch} {a a' : Act} {d : Nat} {u v : Value}
/-- parts that are no mere readings -/
def noRo : List Ch → Bool
  | [] => true
  | .ro _ :: _ => false
  | _ :: r => noRo r
theorem noRo_use : ∀ {L : List Ch}, noRo L = true → ∀ x ∈ L, ∀ k, x.use k → x.own k := by
  intro L
  induction L with
  | nil => intro _ x hx; simp at hx
  | cons y L ih =>
    intro h x hx k hk
    cases y with
    | ro r => simp [noRo] at h
    | obj g o =>
      rcases List.mem_cons.1 hx with rfl | hx
      · exact hk
      · exact ih (by simpa [noRo] using h) x hx k hk
    | row v E sz n cs =>
      rcases List.mem_cons.1 hx with rfl | hx
      · exact hk
      · exact ih (by simpa [noRo] using h) x hx k hk
    | gen r =>
      rcases List.mem_cons.1 hx with rfl | hx
      · exact hk
      · exact ih (by simpa [noRo] using h) x hx k hk
def ownL (L : List Ch) (k : Nat) : Prop := ∃ x ∈ L, x.own k
/-- the first parts, as a callee sees them -/
theorem Mem.sub (h : Mem w0 B (Ls ++ R) w) : Mem w (ownL Ls) Ls w := by
  refine ⟨Chg.refl w _, fun i x hx => h.ok i x ?_, fun i j x y hne hx hy => h.apart i j x y hne ?_ ?_, fun i x hx k hk => .inl ⟨x, List.mem_of_getElem? hx, hk⟩⟩
  all_goals
    rw [List.getElem?_append_left (List.getElem?_eq_some_iff.1 (by assumption)).1]; assumption
/-- what a call has made of the first parts; the others stay -/
theorem Mem.frame (h : Mem w0 B (Ls ++ R) w) (hc : Mem w (ownL Ls) L' w') (hn : noRo L' = true) : Mem w0 B (L' ++ R) w' := by
  have at_ : ∀ (i : Nat) (x : Ch), (L' ++ R)[i]? = some x → (i < L'.length ∧ L'[i]? = some x) ∨ (L'.length ≤ i ∧ R[i - L'.length]? = some x) := by
    intro i x hx
    rcases Nat.lt_or_ge i L'.length with hi | hi
    · exact .inl ⟨hi, by rwa [List.getElem?_append_left hi] at hx⟩
    · exact .inr ⟨hi, by rwa [List.getElem?_append_right hi] at hx⟩
  have inR : ∀ (i : Nat) (x : Ch), R[i]? = some x → (Ls ++ R)[Ls.length + i]? = some x := by
    intro i x hx; rw [List.getElem?_append_right (by omega)]; simpa using hx
  have sepR : ∀ (i : Nat) (y : Ch), R[i]? = some y → ∀ k, y.use k → ¬ ownL Ls k := by
    rintro i y hy k hk ⟨x, hx, hxk⟩
    obtain ⟨j, hj⟩ := List.mem_iff_getElem?.1 hx
    have hjl := (List.getElem?_eq_some_iff.1 hj).1
    exact (h.apart j (Ls.length + i) x y (by omega) (by rw [List.getElem?_append_left hjl]; exact hj) (inR i y hy) k).1 ⟨hxk, hk⟩
  have okR : ∀ (i : Nat) (y : Ch), R[i]? = some y → y.ok w := fun i y hy => h.ok _ _ (inR i y hy)
  have cross : ∀ (i j : Nat) (x y : Ch), L'[i]? = some x → R[j]? = some y → x.apart y := by
    intro i j x y hx hy k
    have hux : x.use k → ownL Ls k ∨ w.heap.size ≤ k := fun hk => hc.base i x hx k (noRo_use hn x (List.mem_of_getElem? hx) k hk)
    refine ⟨fun ⟨h1, h2⟩ => ?_, fun ⟨h1, h2⟩ => ?_⟩
    · rcases hux (Ch.own_use h1) with h3 | h3
      · exact sepR j y hy k h2 h3
      · have := Ch.lt (okR j y hy) h2; omega
    · rcases hux h2 with h3 | h3
      · exact sepR j y hy k (Ch.own_use h1) h3
      · have := Ch.lt (okR j y hy) (Ch.own_use h1); omega
  refine ⟨h.chg.trans hc.chg (fun k ⟨x, hx, hk⟩ => ?_), fun i x hx => ?_, fun i j x y hne hx hy => ?_, fun i x hx k hk => ?_⟩
  · obtain ⟨j, hj⟩ := List.mem_iff_getElem?.1 hx
    exact h.base j x (by rw [List.getElem?_append_left (List.getElem?_eq_some_iff.1 hj).1]; exact hj) k hk
  · rcases at_ i x hx with ⟨hi, h1⟩ | ⟨hi, h1⟩
    · exact hc.ok i x h1
    · exact Ch.keep (okR _ x h1) hc.chg.size (fun k hk hlt => hc.chg.block k hlt (sepR _ x h1 k hk))
  · rcases at_ i x hx with ⟨hi, h1⟩ | ⟨hi, h1⟩
    · rcases at_ j y hy with ⟨hj, h2⟩ | ⟨hj, h2⟩
      · exact hc.apart i j x y hne h1 h2
      · exact cross _ _ x y h1 h2
    · rcases at_ j y hy with ⟨hj, h2⟩ | ⟨hj, h2⟩
      · exact (cross _ _ y x h2 h1).symm
      · exact h.apart _ _ x y (by omega) (inR _ x h1) (inR _ y h2)
  · rcases at_ i x hx with ⟨hi, h1⟩ | ⟨hi, h1⟩
    · rcases hc.base i x h1 k hk with ⟨y, hy, hyk⟩ | h3
      · obtain ⟨j, hj⟩ := List.mem_iff_getElem?.1 hy
        exact h.base j y (by rw [List.getElem?_append_left (List.getElem?_eq_some_iff.1 hj).1]; exact hj) k hyk
      · exact .inr (Nat.le_trans h.size h3)
    · exact h.base _ x (inR _ x h1) k hk
/-- a new row, seen from ahead of the call -/
theorem Mem.newRow (h : Mem w0 (fun _ => False) L w) {i : Nat} {v : Value} {E : TypeId} {n : Nat} {cs : List Value} (hi : L[i]? = some (.row v E 1 n cs)) : New w0 w E v n cs := by
  have hown : w.ownsRow 0 E 1 v n cs := h.ok i _ hi
  refine ⟨⟨h.chg.os, h.chg.tape, h.chg.output, h.chg.size, fun k hk => h.chg.block k hk (fun h => h)⟩, hown.1, ?_⟩
  rcases hown.2 with h2 | ⟨g, cap, cur, hv, hb, r⟩
  · exact .inl h2
  · refine .inr ⟨g, cap, cur, hv, ?_, r⟩
    rcases h.base i _ hi g (by rw [hv]; rfl) with h3 | h3
    · exact h3.elim
    · exact h3
/-- a function's own begin, where parts of the caller's come in -/
theorem c_enterM {f : FuncId} {fn : Func} {c : Code} {args : Array Value} {R : Ending → World → Prop} (hf : P.funcs[f]? = some fn) (hb : fn.body = some c) (N : Nat) (hN : fn.ntmps = N) (hs : args.size ≤ N) (B : Nat → Prop) {L : List Ch} (hm : Mem w B L w) (ρ : Slots) (hρ : ((List.range args.size).zip args.toList) = ρ)
    (h : ∀ a, St N w B ρ L a w → c.wp P (bodyPost P fn R) a w) : Calls P f args w R :=
  c_enter hf hb N hN hs B ρ hρ (fun a h' => h a (h'.mem hm))
theorem Rd.at {b o : Nat} {cs : List Value} (h : Rd w (some ⟨b, o, none⟩) cs) (j : Nat) {v : Value} (hv : cs[j]? = some v) : w.cell? ⟨b, o + j, none⟩ = some v := by
  obtain ⟨ad, e, h1⟩ := h j v hv
  cases e
  rwa [Addr.add_mid] at h1
/-! ### a window: a slice of one's own that needn't begin at its block's head (cells of one) -/
/-- parts in another order, reckoned -/
def pickL (L : List Ch) : List Nat → Option (List Ch)
  | [] => some []
  | i :: r => match L[i]?, pickL L r with
    | some x, some l => some (x :: l)
    | _, _ => none
theorem St.pick (h : St N w0 B ρ L a w) (is : List Nat) (hn : is.Nodup) (hL : pickL L is = some L') : St N w0 B ρ L' a w := by
  refine h.mem (h.m.pick is L' hn ?_)
  clear hn
  induction is generalizing L' with
  | nil => simp [pickL] at hL; simp [hL]
  | cons i r ih =>
    simp only [pickL] at hL
    split at hL
    · rename_i x l hx hl
      cases hL
      rw [List.map_cons, List.map_cons, hx, ih hl]
    · cases hL
/-- a slice of bytes that can be read -/
def Rb (w : World) (v : Value) (l : List UInt8) : Prop := ∃ A c, v = .slice A l.length c ∧ l.length ≤ c ∧ c ≤ 9223372036854775807 ∧ Rd w A (by8 l)
theorem Rb.below {l : List UInt8} (h : Rb w v l) (hb : Below w.heap.size w w') : Rb w' v l := by
  obtain ⟨A, c, h1, h2, h3, h4⟩ := h; exact ⟨A, c, h1, h2, h3, h4.below hb⟩
/-- a slice of such -/
def RbL (w : World) (A : Option Addr) (ls : List (List UInt8)) : Prop := ∃ vs : List Value, vs.length = ls.length ∧ Rd w A vs ∧ ∀ (i : Nat) (v : Value) (l : List UInt8), vs[i]? = some v → ls[i]? = some l → Rb w v l
theorem RbL.below {A : Option Addr} {ls : List (List UInt8)} (h : RbL w A ls) (hb : Below w.heap.size w w') : RbL w' A ls := by
  obtain ⟨vs, h1, h2, h3⟩ := h; exact ⟨vs, h1, h2.below hb, fun i v l hv hl => (h3 i v l hv hl).below hb⟩
theorem RbL.at {A : Option Addr} {ls : List (List UInt8)} (h : RbL w A ls) (k : Nat) (hk : k < ls.length) : ∃ b off v, A = some ⟨b, off, none⟩ ∧ w.cell? ⟨b, off + k * 1, none⟩ = some v ∧ Rb w v ls[k] := by
  obtain ⟨vs, h1, h2, h3⟩ := h
  have hv : vs[k]? = some (vs[k]'(by omega)) := List.getElem?_eq_getElem _
  obtain ⟨ad, rfl, hc⟩ := h2 0 (vs[0]'(by omega)) (List.getElem?_eq_getElem _)
  have hsp : ad.spot = none := by
    have := addr_cell_spot hc
    simpa [Addr.add] using this
  obtain ⟨b, off, sp⟩ := ad
  simp at hsp; subst hsp
  refine ⟨b, off, vs[k]'(by omega), rfl, ?_, h3 k _ _ hv (List.getElem?_eq_getElem hk)⟩
  rw [Nat.mul_one]; exact h2.at k hv
theorem Mem.rdRowA (h : Mem w0 B L w) {i : Nat} {A : Option Addr} {n c : Nat} {E : TypeId} {sz : Nat} {cs : List Value} (hi : L[i]? = some (.row (.slice A n c) E sz n cs)) : Rd w A cs := by
  obtain ⟨A', c', e, _, _, hr⟩ := h.rdRow hi
  cases e; exact hr
end
end
end Go.Proofs.YtnmeelkfpmodgaaDoor
