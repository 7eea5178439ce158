/- Texts put together. -/
import Derived.Test.YtnjmlihmnkbgdaaPj
import Derived.Shelf.Sort.Plain
set_option linter.unusedVariables false
set_option linter.unusedSimpArgs false
namespace Go.Proofs.Ytnjmlihmnkbgdaa
open Go.RowKit
section
section
variable {α : Type} {T : Ty α} {S S' : Snap}
theorem reps.cut {xs : List α} {cs : List Value} (h1 : T.sz = 1) (hr : reps T S cs xs) (l g : Nat) : reps T S ((cs.take g).drop l) ((xs.take g).drop l) := by
  have := (hr.take g).drop l
  rwa [h1, Nat.mul_one, Nat.mul_one] at this
end
section
variable {P : Program} {ops : Array Oper} {rest : List Oper} {o : Oper} {Q : Exit → Act → World → Prop} {N : Nat} {w0 w w' : World} {B : Nat → Prop} {ρ ρ' : Slots} {L L' Ls R : List Ch} {a a' : Act} {d : Nat} {u v : Value} {S S0 S' : Snap} {α : Type} {T : Ty α}
theorem Rd.sA {A : Option Addr} {c l g sz : Nat} {cs : List Value} (h : Rd w A cs) (h1 : sz = 1) (hg : g ≤ c) : Rd w (sA A c l sz) ((cs.take g).drop l) := by
  have k := (h.take g).tail l c (by rw [List.length_take]; omega)
  subst h1
  unfold Go.Proofs.Ytnjmlihmnkbgdaa.sA
  rw [Nat.mul_one]
  exact k
end
end
section
theorem take_put (cur : Array Value) (ts : List Int) (h : ts.length ≤ cur.size) : (Go.Sort.putCells (Value.int .i64) 0 ts.toArray cur).toList.take ts.length = ts.map (Value.int .i64) := by
  apply List.ext_getElem?
  intro j
  by_cases hj : j < ts.length
  · rw [List.getElem?_take_of_lt hj, Array.getElem?_toList]
    simp [Go.Sort.putCells, hj, show j < cur.size by omega]
  · rw [List.getElem?_take_eq_none (by omega), List.getElem?_eq_none (by simp; omega)]
theorem heap_put {w : World} {g n : Nat} {os : Array Obj} {cur : Array Value} {e : TypeId} {fr : Nat × Nat} (d : Array Int) (hb : w.heap[g]? = some (.cells cur e fr)) :
    (Go.Sort.grow (Go.Sort.putRow (Value.int .i64) (Go.Sort.ahead w n) g 0 d) os).heap[g]? = some (.cells (Go.Sort.putCells (Value.int .i64) 0 d cur) e fr) := by
  have hg : g < w.heap.size := (Array.getElem?_eq_some_iff.1 hb).1
  rw [Go.Sort.heap_grow_old _ _ (by simpa using hg)]
  simp [Go.Sort.putRow, Go.Sort.mapBlock, Go.Sort.ahead, Array.getElem?_modify, hb, Go.Sort.onCells]
theorem chg_put {w : World} {g n : Nat} {os : Array Obj} (d : Array Int) : Chg w (Go.Sort.grow (Go.Sort.putRow (Value.int .i64) (Go.Sort.ahead w n) g 0 d) os) (fun k => k = g) := by
  refine ⟨rfl, rfl, rfl, by simp, fun k hk hne => ?_⟩
  rw [Go.Sort.heap_grow_old _ _ (by simpa using hk)]
  have : g ≠ k := fun e => hne e.symm
  simp [Go.Sort.putRow, Go.Sort.mapBlock, Go.Sort.ahead, Array.getElem?_modify, this]
theorem sort_row {w0 w : World} {B : Nat → Prop} {L : List Ch} (h : Mem w0 B L w) {i blk cap : Nat} {E : TypeId} {zs ts : List Int} (hi : L[i]? = some (.row (.slice (some ⟨blk, 0, none⟩) zs.length cap) E 1 zs.length (zs.map (Value.int .i64)))) (hl : ts.length = zs.length) (n : Nat) (os : Array Obj) :
    Mem w0 B (L.set i (.row (.slice (some ⟨blk, 0, none⟩) zs.length cap) E 1 zs.length (ts.map (Value.int .i64)))) (Go.Sort.grow (Go.Sort.putRow (Value.int .i64) (Go.Sort.ahead w n) blk 0 ts.toArray) os) := by
  have hk := h.ok i _ hi
  obtain ⟨_, hr⟩ := hk
  rcases hr with ⟨hv, _⟩ | ⟨g, cp, cur, hv, hg, hb, h1, h2, h3, h4⟩
  · cases hv
  · injection hv with ha hn hc
    injection ha with ha
    injection ha with ha
    subst ha hc
    refine h.write hi (Chg.mono (chg_put _) (fun k _ hk => by subst hk; rfl)) ⟨by simp [hl], .inr ⟨blk, cap, _, rfl, hg, heap_put _ hb, h1, h2, by simp [Go.Sort.putCells, h3], ?_⟩⟩ (fun k hk => .inl hk)
    rw [Nat.mul_one, ← hl]
    exact take_put cur ts (by omega)
theorem holds_row {w0 w : World} {B : Nat → Prop} {L : List Ch} (h : Mem w0 B L w) {i blk cap : Nat} {E : TypeId} {zs : List Int} (hi : L[i]? = some (.row (.slice (some ⟨blk, 0, none⟩) zs.length cap) E 1 zs.length (zs.map (Value.int .i64)))) :
    Go.Sort.Holds (Value.int .i64) w blk 0 zs.toArray ∧ blk < w.heap.size := by
  obtain ⟨_, hr⟩ := h.ok i _ hi
  rcases hr with ⟨hv, _⟩ | ⟨g, cp, cur, hv, hg, hb, h1, h2, h3, h4⟩
  · cases hv
  · injection hv with ha hn hc
    injection ha with ha
    injection ha with ha
    subst ha hc
    refine ⟨fun j hj => ?_, (Array.getElem?_eq_some_iff.1 hb).1⟩
    have hj' : j < zs.length := by simpa using hj
    refine ⟨?_, by simp [World.frozen?, hb]⟩
    have h5 : (cur.toList.take (zs.length * 1))[j]? = (zs.map (Value.int .i64))[j]? := by rw [h4]
    rw [List.getElem?_take_of_lt (by omega)] at h5
    simp only [World.cell?, hb, Nat.zero_add]
    simp only [Option.isSome_none, Bool.false_eq_true, if_false]
    rw [← Array.getElem?_toList, h5]
    simp [hj']
theorem repsI {S : Snap} : ∀ {zs : List Int} {cs : List Value}, reps tyI S cs zs → cs = zs.map (Value.int .i64)
  | [], _, h => h
  | x :: xs, cs, ⟨c1, c2, h1, h2, h3⟩ => by obtain rfl := h2.1; rw [repsI h3] at h1; rw [h1]; rfl
theorem repsI_of {S : Snap} : ∀ {zs : List Int}, (∀ x ∈ zs, r64 x) → reps tyI S (zs.map (Value.int .i64)) zs
  | [], _ => rfl
  | x :: xs, h => ⟨[.int .i64 x], _, rfl, ⟨rfl, h x (List.mem_cons_self ..)⟩, repsI_of (fun y hy => h y (List.mem_cons_of_mem _ hy))⟩
theorem repsI_r {S : Snap} : ∀ {zs : List Int} {cs : List Value}, reps tyI S cs zs → ∀ x ∈ zs, r64 x
  | x :: xs, cs, ⟨c1, c2, h1, h2, h3⟩, y, hy => by
    rcases List.mem_cons.1 hy with rfl | hy
    · exact h2.2
    · exact repsI_r h3 y hy
def sortI (l : List Int) : List Int := l.mergeSort fun x y => decide (x ≤ y)
theorem sortI_len (l : List Int) : (sortI l).length = l.length := List.length_mergeSort _
theorem sortI_mem {l : List Int} {x : Int} : x ∈ sortI l ↔ x ∈ l := List.mem_mergeSort
/-- the sorted list, where there are not too many -/
def srt (l : List Int) : Option (List Int) := if l.length < 1000000 then some (sortI l) else none
theorem srt_some {l r : List Int} (h : srt l = some r) : l.length < 1000000 ∧ r = sortI l := by
  unfold srt at h
  split at h
  · exact ⟨by assumption, (Option.some.inj h).symm⟩
  · cases h
end
end Go.Proofs.Ytnjmlihmnkbgdaa
