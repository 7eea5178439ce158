/- Texts put together. -/
import Derived.Test.YtohgmggdfmjgnaaCall
import Derived.Test.YtohgmggdfmjgnaaMem
import Derived.ProofKit
import Derived.OpenShut
import Derived.Deep.Slices
set_option linter.unusedVariables false
set_option linter.unusedSimpArgs false
namespace Go.Proofs.Ytohgmggdfmjgnaa
open Go.RowKit
section

/-- lists of 32 bytes -/
def S32 (l : List (List UInt8)) : Prop := ∀ x ∈ l, x.length = 32
theorem S32.nil : S32 [] := fun x hx => by cases hx
theorem S32.cons {x : List UInt8} {l : List (List UInt8)} (hx : x.length = 32) (h : S32 l) : S32 (x :: l) := fun y hy => by
  rcases List.mem_cons.1 hy with rfl | h1
  · exact hx
  · exact h y h1
theorem S32.tail {x : List UInt8} {l : List (List UInt8)} (h : S32 (x :: l)) : S32 l := fun y hy => h y (List.mem_cons_of_mem _ hy)
theorem S32.append {l m : List (List UInt8)} (h : S32 l) (h' : S32 m) : S32 (l ++ m) := fun y hy => by
  rcases List.mem_append.1 hy with h1 | h1
  · exact h y h1
  · exact h' y h1
theorem S32.take {l : List (List UInt8)} (h : S32 l) (k : Nat) : S32 (l.take k) := fun y hy => h y (List.mem_of_mem_take hy)
theorem S32.drop {l : List (List UInt8)} (h : S32 l) (k : Nat) : S32 (l.drop k) := fun y hy => h y (List.mem_of_mem_drop hy)
theorem S32.at {l : List (List UInt8)} (h : S32 l) {k : Nat} (hk : k < l.length) : l[k].length = 32 := h _ (List.getElem_mem hk)
theorem S32.set {l : List (List UInt8)} (h : S32 l) (k : Nat) {x : List UInt8} (hx : x.length = 32) : S32 (l.set k x) := fun y hy => by
  rcases List.mem_or_eq_of_mem_set hy with h1 | h1
  · exact h y h1
  · rw [h1]; exact hx
theorem flat_len {l : List (List UInt8)} (h : S32 l) : l.flatten.length = l.length * 32 := by
  induction l with
  | nil => rfl
  | cons x l ih => simp only [List.flatten_cons, List.length_append, List.length_cons, ih h.tail, h x (List.mem_cons_self ..)]; omega
theorem flat_split (l : List (List UInt8)) (k : Nat) : l.flatten = (l.take k).flatten ++ (l.drop k).flatten := by rw [← List.flatten_append, List.take_append_drop]
theorem flat_drop {l : List (List UInt8)} (h : S32 l) (k : Nat) (hk : k ≤ l.length) : l.flatten.drop (k * 32) = (l.drop k).flatten := by
  have hl : (l.take k).flatten.length = k * 32 := by rw [flat_len (h.take k), List.length_take, Nat.min_eq_left hk]
  rw [flat_split l k, List.drop_left' hl]
theorem flat_at {l : List (List UInt8)} (h : S32 l) {k : Nat} (hk : k < l.length) : (l.flatten.drop (k * 32)).take 32 = l[k] := by
  rw [flat_drop h k (by omega), List.drop_eq_getElem_cons hk, List.flatten_cons, List.take_left' (h.at hk)]
section
variable {P : Program} {ops : Array Oper} {Q : Exit → Act → World → Prop} {rest : List Oper} {o : Oper} {N d : Nat} {w0 w w' : World} {B : Nat → Prop} {ρ : Slots} {L L' : List Ch} {a : Act} {v : Value}
theorem Rd.range {b o : Nat} {cs : List Value} (h : Rd w (some ⟨b, o, none⟩) cs) (j n : Nat) : w.rangeAt b (o + j) ((cs.drop j).take n) := fun i v hv => by
  rw [List.getElem?_take] at hv
  split at hv
  · rw [List.getElem?_drop] at hv
    have := h.at (j + i) hv
    rwa [show o + (j + i) = o + j + i by omega] at this
  · cases hv
/-- element k of what can be read -/
theorem Rd.sum {b o : Nat} {l : List (List UInt8)} (hl : S32 l) (h : Rd w (some ⟨b, o, none⟩) (by8 l.flatten)) {k : Nat} (hk : k < l.length) : w.rangeAt b (o + k * 32) (by8 l[k]) := by
  have := h.range (k * 32) 32
  rwa [by8_drop, by8_take, flat_at hl hk] at this
/-- a new row of elements of many cells -/
def NewS (w w' : World) (e : TypeId) (sz : Nat) (v : Value) (n : Nat) (xs : List Value) : Prop := Below w.heap.size w w' ∧ w'.ownsRow w.heap.size e sz v n xs
theorem Mem.addNewS (h : Mem w0 B L w) {E : TypeId} {sz n : Nat} {cs : List Value} (hn : NewS w w' E sz v n cs) : Mem w0 B (.row v E sz n cs :: L) w' :=
  h.new hn.1 (x := .row v E sz n cs) (own_lower hn.2 (Nat.zero_le _)) (fun k hk => own_base hn.2 k hk)
theorem x_build (h : Knows N ρ a) {t : TypeId} {ps : Array (Nat × Operand)} (ho : o.op = .build t ps) (parts : List (Nat × Value)) (hp : ps.toList.map (fun p => (p.1, ev ρ p.2)) = parts.map (fun p => (p.1, some p.2))) (es : List Value) (hb : P.built t parts = some es.toArray) : (execOp a.eval o).run P w = .ok (.value (.agg es.toArray)) w := by
  have key : ∀ (l : List (Nat × Operand)) (m : List (Nat × Value)), l.map (fun p => (p.1, ev ρ p.2)) = m.map (fun p => (p.1, some p.2)) → l.map (fun p => (p.1, a.eval p.2)) = m := by
    intro l
    induction l with
    | nil => intro m hm; cases m <;> simp_all
    | cons p l ih =>
      intro m hm
      cases m with
      | nil => simp at hm
      | cons q m =>
        simp only [List.map_cons, List.cons.injEq, Prod.mk.injEq] at hm ⊢
        refine ⟨?_, ih m hm.2⟩
        rw [hm.1.1, h.eval hm.1.2]
  have hp' : (ps.map fun (i, x) => (i, a.eval x)).toList = parts := by rw [Array.toList_map]; exact key _ _ hp
  unfold execOp
  simp only [ho, Sem.run_bind, run_build w t _ es.toArray (by rw [hp']; exact hb), Result.andThen_ok]
  rfl
theorem Mem.range0 (h : Mem w0 B L w) {i g : Nat} {T : TypeId} {cs : List Value} (hi : L[i]? = some (.box g T cs)) : w.rangeAt g 0 cs := fun j v hv => by
  rw [h.cell hi, Nat.zero_add]; exact hv
end
end
section

/-- a kind of data: how many cells, and what they are -/
structure Kn (α : Type) where
  sz : Nat
  K : World → α → List Value → Prop
  below : ∀ {w w1 : World} {x : α} {cs : List Value}, Below w.heap.size w w1 → K w x cs → K w1 x cs
  len : ∀ {w : World} {x : α} {cs : List Value}, K w x cs → cs.length = sz
namespace Kn
variable {α β : Type}
def int : Kn Int := ⟨1, fun _ n cs => cs = [.int .i64 n] ∧ -9223372036854775808 ≤ n ∧ n ≤ 9223372036854775807, fun _ h => h, fun h => by rw [h.1]; rfl⟩
def u8 : Kn UInt8 := ⟨1, fun _ b cs => cs = [byc b], fun _ h => h, fun h => by rw [h]; rfl⟩
def bool : Kn Bool := ⟨1, fun _ b cs => cs = [.bool b], fun _ h => h, fun h => by rw [h]; rfl⟩
def pair (a : Kn α) (b : Kn β) : Kn (α × β) := ⟨a.sz + b.sz, fun w x cs => ∃ c1 c2, cs = c1 ++ c2 ∧ a.K w x.1 c1 ∧ b.K w x.2 c2,
  fun hb ⟨c1, c2, h, h1, h2⟩ => ⟨c1, c2, h, a.below hb h1, b.below hb h2⟩, fun ⟨c1, c2, h, h1, h2⟩ => by rw [h, List.length_append, a.len h1, b.len h2]⟩
/-- from A on, the elements of l -/
def At (k : Kn α) (w : World) (A : Option Addr) (l : List α) : Prop := ∀ i (h : i < l.length), ∃ b off cs, A = some ⟨b, off, none⟩ ∧ b < w.heap.size ∧ k.K w l[i] cs ∧ ∀ j c, cs[j]? = some c → w.cell? ⟨b, off + (i * k.sz + j), none⟩ = some c
theorem At.below {k : Kn α} {w w1 : World} {A : Option Addr} {l : List α} (h : k.At w A l) (hb : Below w.heap.size w w1) : k.At w1 A l := fun i hi => by
  obtain ⟨b, off, cs, hA, hlt, hk, hc⟩ := h i hi
  exact ⟨b, off, cs, hA, Nat.lt_of_lt_of_le hlt hb.size, k.below hb hk, fun j c hj => (hb.cell (p := ⟨b, _, none⟩) hlt).trans (hc j c hj)⟩
def slice (k : Kn α) : Kn (List α) := ⟨1, fun w l cs => ∃ A c, cs = [.slice A l.length c] ∧ l.length ≤ c ∧ c ≤ maxLen ∧ k.At w A l,
  fun hb ⟨A, c, h, h1, h2, h3⟩ => ⟨A, c, h, h1, h2, h3.below hb⟩, fun ⟨A, c, h, _⟩ => by rw [h]; rfl⟩
/-- n elements, one behind the other -/
def arr (n : Nat) (k : Kn α) : Kn (List α) := ⟨n * k.sz, fun w l cs => l.length = n ∧ cs.length = n * k.sz ∧ ∀ i (h : i < l.length), k.K w l[i] ((cs.drop (i * k.sz)).take k.sz),
  fun hb ⟨h, h1, h2⟩ => ⟨h, h1, fun i hi => k.below hb (h2 i hi)⟩, fun h => h.2.1⟩
def unit : Kn Unit := ⟨0, fun _ _ cs => cs = [], fun _ h => h, fun h => by rw [h]; rfl⟩
end Kn

/-- values of type t read as data of kind k -/
def Opens {α : Type} (P : Program) (t : TypeId) (k : Kn α) : Prop :=
  ∀ {H : Type} {enc : TypeId × Value → H} {w : World} {spare : Nat → Bool} {held : Bool} {fuel : Nat} {cs : List Value} {y : DataW H × List MemPlace}, DataW.trod enc P w 0 spare held fuel t cs = some y → ∃ x, k.K w x cs
theorem Opens.int {P : Program} {t : TypeId} (ht : P.underlying t = some (.int .i64)) : Opens P t Kn.int := by
  intro H enc w spare held fuel cs y h
  obtain ⟨n, rfl, rfl, hw⟩ := DataW.trod_int ht h
  exact ⟨n, rfl, i64_wf hw⟩
theorem Opens.u8 {P : Program} {t : TypeId} (ht : P.underlying t = some (.int .u8)) : Opens P t Kn.u8 := by
  intro H enc w spare held fuel cs y h
  obtain ⟨n, rfl, rfl, hw⟩ := DataW.trod_int ht h
  obtain ⟨x, rfl⟩ := u8_wf' hw
  exact ⟨x, rfl⟩
theorem Opens.bool {P : Program} {t : TypeId} (ht : P.underlying t = some .bool) : Opens P t Kn.bool := by
  intro H enc w spare held fuel cs y h
  obtain ⟨n, rfl, rfl⟩ := DataW.trod_bool ht h
  exact ⟨n, rfl⟩
/-- from 'each index has one' to a list -/
theorem list_of {α : Type} {n : Nat} {p : Nat → α → Prop} (h : ∀ i, i < n → ∃ x, p i x) : ∃ l : List α, l.length = n ∧ ∀ i (hi : i < l.length), p i l[i] := by
  induction n with
  | zero => exact ⟨[], rfl, fun i hi => by simp at hi⟩
  | succ n ih =>
    obtain ⟨l, hl, hp⟩ := ih (fun i hi => h i (by omega))
    obtain ⟨x, hx⟩ := h n (by omega)
    refine ⟨l ++ [x], by simp [hl], fun i hi => ?_⟩
    by_cases hlt : i < l.length
    · rw [List.getElem_append_left hlt]; exact hp i hlt
    · have : i = n := by simp at hi; omega
      subst this
      rw [List.getElem_append_right (by omega)]
      simpa [hl] using hx
theorem Opens.slice {α : Type} {P : Program} {t e : TypeId} {k : Kn α} (ht : P.underlying t = some (.slice e)) (hs : P.cellsOf e = k.sz) (hz : 0 < k.sz) (he : Opens P e k) : Opens P t k.slice := by
  intro H enc w spare held fuel cs y h
  rcases Deep.open_slice ht h with ⟨rfl, _⟩ | ⟨a, len, cap, m, n, D, Pl, rfl, hb, hl, hm, hmm, _, hel⟩
  · exact ⟨[], none, 0, rfl, Nat.le_refl _, Nat.zero_le _, fun i hi => by simp at hi⟩
  · have hlm : len ≤ m := by rw [hmm]; split <;> omega
    have key : ∀ i, i < len → ∃ x, ∃ b off cs, (some a : Option Addr) = some ⟨b, off, none⟩ ∧ b < w.heap.size ∧ k.K w x cs ∧ ∀ j c, cs[j]? = some c → w.cell? ⟨b, off + (i * k.sz + j), none⟩ = some c := by
      intro i hi
      obtain ⟨cs', hc, ht'⟩ := hel i (by omega)
      obtain ⟨x, hx⟩ := he ht'
      obtain ⟨_, hlen, hcell⟩ := World.cells?_some hc
      have hspot : a.spot = none := by
        obtain ⟨cs0, hc0, _⟩ := hel 0 (by omega)
        obtain ⟨_, hlen0, hcell0⟩ := World.cells?_some hc0
        have h0 := hcell0 0 (by rw [hs]; exact hz)
        have : ∃ v, cs0[0]? = some v := ⟨cs0[0]'(by rw [hlen0, hs]; exact hz), List.getElem?_eq_getElem _⟩
        obtain ⟨v, hv⟩ := this
        rw [hv] at h0
        simp [Addr.add] at h0
        exact addr_cell_spot h0
      obtain ⟨ab, ao, asp⟩ := a
      simp only at hspot
      subst hspot
      have hblk : ab < w.heap.size := World.cells?_block hc (by rw [hs]; exact hz) |> fun h => by
        unfold Addr.add at h; split at h <;> exact h
      refine ⟨x, ab, ao, cs', rfl, hblk, hx, fun j c hj => ?_⟩
      have hj' : j < P.cellsOf e := by rw [← hlen]; exact (List.getElem?_eq_some_iff.1 hj).1
      have := hcell j hj'
      rw [hj] at this
      have e1 : ((⟨ab, ao, none⟩ : Addr).add (i * P.cellsOf e)).add j = ⟨ab, ao + (i * k.sz + j), none⟩ := by
        rw [addr_add_add' _ _ _ rfl, hs]
        unfold Addr.add; split
        · rename_i h0; rw [h0]; rfl
        · rfl
      rw [e1] at this; exact this
    obtain ⟨l, hll, hp⟩ := list_of key
    refine ⟨l, some a, cap, by rw [hll], by omega, hm, fun i hi => hp i hi⟩
theorem Opens.arr {α : Type} {P : Program} {t e : TypeId} {n : Nat} {k : Kn α} (ht : P.underlying t = some (.array n e)) (hs : P.cellsOf e = k.sz) (hst : P.cellsOf t = n * k.sz) (he : Opens P e k) : Opens P t (k.arr n) := by
  intro H enc w spare held fuel cs y h
  obtain ⟨xs, m, _, _, hlen, hx, hel⟩ := DataW.trod_array ht h
  have key : ∀ i, i < n → ∃ x, k.K w x ((cs.drop (i * k.sz)).take k.sz) := by
    intro i hi
    have := hel i hi
    rw [List.getElem?_eq_getElem (by omega), hs] at this
    exact he this
  obtain ⟨l, hll, hp⟩ := list_of key
  exact ⟨l, hll, by rw [hlen, hst], hp⟩
/-- fields, one behind the other -/
def OpensF {α : Type} (P : Program) (fs : List (TypeId × Nat)) (k : Kn α) : Prop :=
  ∀ {H : Type} {enc : TypeId × Value → H} {w : World} {spare : Nat → Bool} {held : Bool} {n : Nat} {cs : List Value}, cs.length = k.sz →
    (∀ i t s, fs[i]? = some (t, s) → ∃ y, DataW.trod enc P w 0 spare held n t ((cs.drop ((fs.take i).map (·.2)).sum).take s) = some y) → ∃ x, k.K w x cs
theorem OpensF.nil {P : Program} : OpensF P [] Kn.unit := by
  intro H enc w spare held n cs hl _
  exact ⟨(), List.eq_nil_of_length_eq_zero hl⟩
theorem OpensF.cons {α β : Type} {P : Program} {t s : Nat} {fs : List (TypeId × Nat)} {k1 : Kn α} {k2 : Kn β} (hs : k1.sz = s) (h1 : Opens P t k1) (h2 : OpensF P fs k2) : OpensF P ((t, s) :: fs) (k1.pair k2) := by
  intro H enc w spare held n cs hl h
  subst hs
  have hl' : cs.length = k1.sz + k2.sz := hl
  obtain ⟨y, hy⟩ := h 0 t k1.sz rfl
  simp at hy
  obtain ⟨x1, hx1⟩ := h1 hy
  obtain ⟨x2, hx2⟩ := h2 (cs := cs.drop k1.sz) (w := w) (enc := enc) (spare := spare) (held := held) (n := n) (by rw [List.length_drop, hl']; omega) (by
    intro i t' s' hi
    obtain ⟨y', hy'⟩ := h (i + 1) t' s' (by simpa using hi)
    refine ⟨y', ?_⟩
    rw [List.drop_drop]
    simpa using hy')
  exact ⟨(x1, x2), cs.take k1.sz, cs.drop k1.sz, by simp, hx1, hx2⟩
theorem Opens.struct {α : Type} {P : Program} {t : TypeId} {fs : Array Field} {l : List (TypeId × Nat)} {k : Kn α} (ht : P.underlying t = some (.struct fs)) (hst : P.cellsOf t = k.sz)
    (hfs : fs.toList.map (fun f => (f.type, f.offset, P.cellsOf f.type)) = (l.zipIdx.map fun p => (p.1.1, ((l.take p.2).map (·.2)).sum, p.1.2))) (h : OpensF P l k) : Opens P t k := by
  intro H enc w spare held fuel cs y hy
  obtain ⟨xs, n, _, _, hlen, hx, hel⟩ := DataW.trod_struct ht hy
  refine h (enc := enc) (spare := spare) (held := held) (n := n) (by rw [hlen, hst]) ?_
  intro i t' s' hi
  have h1 : (fs.toList.map (fun f => (f.type, f.offset, P.cellsOf f.type)))[i]? = some (t', ((l.take i).map (·.2)).sum, s') := by
    rw [hfs]; simp [hi]
  rw [List.getElem?_map] at h1
  cases hf : fs[i]? with
  | none => simp [hf] at h1
  | some f =>
    simp [hf] at h1
    obtain ⟨rfl, ho, rfl⟩ := h1
    have := hel i f hf
    have hi2 : i < xs.length := by rw [hx]; exact (Array.getElem?_eq_some_iff.1 hf).1
    rw [List.getElem?_eq_getElem hi2, ho] at this
    exact ⟨_, by rw [List.map_take]; exact this⟩
end
end Go.Proofs.Ytohgmggdfmjgnaa
